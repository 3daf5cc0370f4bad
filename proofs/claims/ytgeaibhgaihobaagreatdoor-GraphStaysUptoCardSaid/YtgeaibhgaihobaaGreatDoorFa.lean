/-
 Own work. An abstract machine for the loaded programs, and that it is sound: many texts, merged by program.
-/
import GoSem.Claims
import Derived.Tactics
import Derived.Laws.AppendOwn
set_option linter.unusedSimpArgs false
set_option linter.unusedVariables false
section
namespace Go.Abs
inductive SK where
 | nil | full | open_
 deriving DecidableEq, Repr, Inhabited
inductive AV where
 | i (k : IntKind) (n : Int)
 | b (b : Bool)
 | str (s : List UInt8)
 | sl (k : SK) (sz : Nat) (es : List (List AV))
 | ms (key ver off len : Nat)
 | pt (key ver el off : Nat)
 | ip (cs : List AV)
 | agg (cs : List AV)
 | tup (cs : List AV)
 | fn (f : Nat) (caps : List AV)
 | nilp
 | nilf
 | mr (key ver : Nat)
 | junk
 | ow (ty sz : Nat) (nl : Bool) (es : List (List AV))
 | bx (cs : List AV)
 | yl
 | yq
 | om (es : List (List AV))
 | od (ty sz : Nat) (nl : Bool) (es : List (List AV))
 deriving Inhabited, Repr
structure Blk where
 ver : Nat
 row : Bool
 nl : Bool
 ty : Nat
 sz : Nat
 es : List (List AV)
 mp : Bool := false
 dp : Bool := false
 deriving Inhabited, Repr
inductive H where
 | none
 | row (ty sz : Nat)
 | rowd (ty sz : Nat)
 | cells (l : List H)
 deriving Inhabited, Repr
inductive PM where
 | borrow
 | inout (h : H)
 | give (h : H)
 deriving Inhabited, Repr
structure FSpec where
 pm : List PM := []
 rm : Option H := none
 it : Bool := false
 nn : Bool := false
 deriving Inhabited, Repr
inductive Opd where
 | tmp (t : Nat)
 | con (v : AV)
 deriving Inhabited, Repr
inductive CK where
 | int (k : IntKind) | id | b2s | s2b
 deriving Inhabited, Repr
inductive MK where
 | int | str | bool
 deriving Inhabited, Repr, DecidableEq
inductive NK where
 | sl | pt | fn
 deriving Inhabited, Repr, DecidableEq
inductive AOp where
 | mov (x : Opd)
 | pick (c a b : Opd)
 | box (x : Opd)
 | boxi (x : Opd)
 | alloc (zero : List AV)
 | build (zero : List AV) (parts : List (Nat × Nat × Opd))
 | bslice (ty : Nat) (zero : List AV) (n : Nat) (parts : List (Nat × Opd))
 | bsliced (ty : Nat) (zero : List AV) (n : Nat) (parts : List (Nat × Opd))
 | load (agg : Bool) (size : Nat) (a : Opd)
 | store (size : Nat) (a v : Opd)
 | nilck (x : Opd)
 | bin (op : BinOp) (x y : Opd)
 | eqnil (k : NK) (neg : Bool) (x : Opd)
 | eqb (neg : Bool) (x y : Opd)
 | un (op : UnOp) (x : Opd)
 | conv (c : CK) (x : Opd)
 | mkfn (f : Nat) (caps : List Opd)
 | slice (sz : Nat) (x : Opd) (lo hi mx : Option Opd)
 | faddr (off : Nat) (x : Opd)
 | fld (agg : Bool) (off size : Nat) (x : Opd)
 | iaddr (sz : Nat) (x i : Opd)
 | idx (x i : Opd)
 | ext (x : Opd) (i : Nat)
 | call (f : Nat) (args : List Opd)
 | callv (x : Opd) (args : List Opd)
 | calld (f : Nat) (args : List Opd)
 | inl (f : Nat) (args : List Opd)
 | len (str : Bool) (x : Opd)
 | app (ty sz : Nat) (x y : Opd)
 | appd (ty sz : Nat) (x y : Opd)
 | appstr (ty : Nat) (x y : Opd)
 | appz (ty : Nat) (zero : List AV) (x n : Opd)
 | copy (sz : Nat) (x y : Opd)
 | mkslice (ty : Nat) (zero : List AV) (n : Opd)
 | mx (l : List Opd)
 | mn (l : List Opd)
 | clear (zero : List AV) (x : Opd)
 | frz (x : Opd)
 | mkmap
 | mget (kk : MK) (zero : AV) (ok : Bool) (x k : Opd)
 | mput (kk : MK) (x k v : Opd)
 | fail
 deriving Inhabited, Repr
structure AIns where
 dst : Option Nat
 op : AOp
 guard : Option (Nat × Bool)
 deriving Inhabited, Repr
inductive ACode where
 | skip
 | reg (l : List AIns)
 | draw (l : List AIns) (pairs : List (Nat × Nat))
 | seq (a b : ACode)
 | cond (c : Opd) (a b : ACode)
 | block (id : Nat) (c : ACode)
 | loop (keep : List (Nat × H)) (c : ACode)
 | rangef (t : Nat) (ps : List Nat) (keep : List (Nat × H)) (a b : ACode)
 | exit (id : Nat)
 | ret
 | fail
 deriving Inhabited, Repr
inductive Ent where
 | live (b : Blk)
 | dead (n : Nat)
 deriving Inhabited, Repr
abbrev Hp := List (Nat × Ent)
abbrev Sl := List (Nat × AV)
def undef : AV := .tup []
def bnd {α β : Type} (x : Option α) (f : α → Option β) : Option β :=
 match x with
 | some a => f a
 | none => none
@[congr] theorem z5w {α β : Type} {x x' : Option α} (f : α → Option β) (h : x = x') : bnd x f = bnd x' f := by rw [h]
@[simp] theorem zai {α β : Type} (a : α) (f : α → Option β) : bnd (some a) f = f a := rfl
@[simp] theorem zmv {α β : Type} (f : α → Option β) : bnd none f = none := rfl
def way {α : Type} (c : Bool) (x y : Option α) : Option α :=
 match c with
 | true => x
 | false => y
@[congr] theorem z43 {α : Type} {c c' : Bool} (x y : Option α) (h : c = c') : way c x y = way c' x y := by rw [h]
@[simp] theorem zbu {α : Type} (x y : Option α) : way true x y = x := rfl
@[simp] theorem zbk {α : Type} (x y : Option α) : way false x y = y := rfl
def ask {α : Type} (c : Prop) [Decidable c] (x : Option α) : Option α := if c then x else none
@[congr] theorem z49 {α : Type} {c c' : Prop} [Decidable c] [Decidable c'] (x : Option α) (h : c = c') : ask c x = ask c' x := by subst h; congr
@[simp] theorem zd3 {α : Type} [Decidable True] (x : Option α) : ask True x = x := by simp [ask]
theorem ze1 {α : Type} {c : Prop} [Decidable c] (x : Option α) (h : c) : ask c x = x := by simp [ask, h]
theorem zac {α : Type} {c : Prop} [Decidable c] {x : Option α} {r : α} : ask c x = some r ↔ c ∧ x = some r := by
 unfold ask; split <;> simp_all
theorem zaa {α β : Type} {x : Option α} {f : α → Option β} {r : β} : bnd x f = some r ↔ ∃ a, x = some a ∧ f a = some r := by
 cases x <;> simp
def get : Sl → Nat → AV
 | [], _ => .junk
 | (k, v) :: r, t => if t = k then v else get r t
def look : Hp → Nat → Option Blk
 | [], _ => none
 | (k, .live b) :: r, t => if t = k then some b else look r t
 | (k, .dead _) :: r, t => if t = k then none else look r t
def zad : Hp → Nat → Nat
 | [], _ => 0
 | (k, .live b) :: r, t => if t = k then b.ver + 1 else zad r t
 | (k, .dead n) :: r, t => if t = k then n else zad r t
abbrev lay (k : Nat) (b : Blk) (hp : Hp) : Hp := (k, .live b) :: hp
def drop (hp : Hp) (k : Nat) : Hp := (k, .dead (zad hp k)) :: hp
def drops : List Nat → Hp → Hp
 | [], hp => hp
 | k :: r, hp => drops r (drop hp k)
structure St where
 sl : Sl
 hp : Hp
 deriving Inhabited, Repr
def ev (s : Sl) : Opd → AV
 | .tmp t => get s t
 | .con v => v
def evs (s : Sl) : List Opd → List AV
 | [] => []
 | x :: r => ev s x :: evs s r
def evo (s : Sl) : Option Opd → Option AV
 | none => none
 | some x => some (ev s x)
mutual
def flat : AV → Bool
 | .ms .. => false
 | .pt .. => false
 | .ow .. => false
 | .bx .. => false
 | .mr .. => false
 | .om _ => false
 | .od .. => false
 | .yl => false
 | .yq => false
 | .agg cs => flats cs
 | .tup cs => flats cs
 | .fn _ caps => flats caps
 | _ => true
def flats : List AV → Bool
 | [] => true
 | x :: r => flat x && flats r
end
def flatEs : List (List AV) → Bool
 | [] => true
 | e :: r => flats e && flatEs r
mutual
def plain : AV → Bool
 | .i .. => true
 | .b _ => true
 | .str _ => true
 | .agg cs => plains cs
 | .tup cs => plains cs
 | .ip cs => cs.isEmpty
 | .nilp => true
 | _ => false
def plains : List AV → Bool
 | [] => true
 | x :: r => plain x && plains r
end
def cells : AV → Option (List AV)
 | .agg cs => some cs
 | .tup _ => none
 | .junk => none
 | v => some [v]
def oneA : AV → Bool
 | .agg _ => false
 | .tup _ => false
 | .junk => false
 | _ => true
def ones : List AV → Bool
 | [] => true
 | v :: r => oneA v && ones r
def za2 : List (List AV) → Bool
 | [] => true
 | e :: r => ones e && za2 r
def LIM : Nat := 274877906944
def keyOf (t : Nat) : Nat := 64 * t
def FUEL : Nat := 6
def skOf (nl : Bool) : SK := if nl then .nil else .open_
def zb2 (hp : Hp) (key ver : Nat) : Option Blk := bnd (look hp key) fun b => ask (b.ver = ver) (some b)
def only : List (List AV) → Option (List AV)
 | [cs] => some cs
 | _ => none
def zbm (f : AV → Option (AV × List Nat)) : List AV → Option (List AV × List Nat)
 | [] => some ([], [])
 | v :: r => bnd (f v) fun x => bnd (zbm f r) fun y => some (x.1 :: y.1, x.2 ++ y.2)
def zb3 (f : AV → Option (AV × List Nat)) : List (List AV) → Option (List (List AV) × List Nat)
 | [] => some ([], [])
 | e :: r => bnd (zbm f e) fun x => bnd (zb3 f r) fun y => some (x.1 :: y.1, x.2 ++ y.2)
def snap (hp : Hp) : Nat → AV → Option (AV × List Nat)
 | 0, _ => none
 | n + 1, v => match v with
   | .ms key ver off len => bnd (zb2 hp key ver) fun b => ask (b.row = true ∧ off + len ≤ b.es.length) (way b.dp
       (bnd (zb3 (snap hp n) ((b.es.drop off).take len)) fun y => some (.sl (skOf b.nl) b.sz y.1, key :: y.2))
       (some (.sl (skOf b.nl) b.sz ((b.es.drop off).take len), [key])))
   | .pt key ver el off => bnd (zb2 hp key ver) fun b => ask (b.row = false ∧ b.mp = false ∧ el = 0) (bnd (only b.es) fun cs => bnd (zbm (snap hp n) (cs.drop off)) fun y => some (.ip y.1, key :: y.2))
   | .agg cs => bnd (zbm (snap hp n) cs) fun y => some (.agg y.1, y.2)
   | .tup cs => bnd (zbm (snap hp n) cs) fun y => some (.tup y.1, y.2)
   | .fn f cs => bnd (zbm (snap hp n) cs) fun y => some (.fn f y.1, y.2)
   | .ow .. => none
   | .bx .. => none
   | .mr .. => none
   | .om _ => none
   | .od .. => none
   | .yl => none
   | .yq => none
   | v => some (v, [])
def H.kids : H → List H
 | .cells l => l
 | _ => []
def zax (f : H → AV → Hp → Option (AV × List Nat × Hp)) : List H → List AV → Hp → Option (List AV × List Nat × Hp)
 | _, [], hp => some ([], [], hp)
 | hs, v :: r, hp => bnd (f (hs.headD .none) v hp) fun x => bnd (zax f hs.tail r x.2.2) fun y => some (x.1 :: y.1, x.2.1 ++ y.2.1, y.2.2)
def zaf (f : H → AV → Hp → Option (AV × List Nat × Hp)) : List (List AV) → Hp → Option (List (List AV) × List Nat × Hp)
 | [], hp => some ([], [], hp)
 | e :: r, hp => bnd (zax f [] e hp) fun x => bnd (zaf f r x.2.2) fun y => some (x.1 :: y.1, x.2.1 ++ y.2.1, y.2.2)
def zj8 (own : Bool) : H → AV → AV
 | .row ty sz, v => if own then .ow ty sz true [] else v
 | .rowd ty sz, v => if own then .od ty sz true [] else v
 | _, v => v
def pack (own : Bool) : Nat → H → AV → Hp → Option (AV × List Nat × Hp)
 | 0, _, _, _ => none
 | n + 1, h, v, hp => match v with
   | .ms key ver off len => bnd (zb2 hp key ver) fun b => ask (b.row = true ∧ off + len ≤ b.es.length) (way b.dp
       (way (own && decide (off = 0 ∧ len = b.es.length))
         (bnd (zaf (pack true n) b.es (drop hp key)) fun y => some (.od b.ty b.sz b.nl y.1, key :: y.2.1, y.2.2))
         (bnd (zaf (pack false n) ((b.es.drop off).take len) (drop hp key)) fun y => some (.sl (skOf b.nl) b.sz y.1, key :: y.2.1, y.2.2)))
       (some (if own = true ∧ off = 0 ∧ len = b.es.length then .ow b.ty b.sz b.nl b.es else .sl (skOf b.nl) b.sz ((b.es.drop off).take len), [key], drop hp key)))
   | .pt key ver el off => bnd (zb2 hp key ver) fun b => ask (b.row = false ∧ b.mp = false ∧ el = 0 ∧ off = 0) (bnd (only b.es) fun cs =>
       bnd (zax (pack own n) h.kids cs (drop hp key)) fun y => some (if own then .bx y.1 else .ip y.1, key :: y.2.1, y.2.2))
   | .sl .nil sz [] => some (zj8 own h (.sl .nil sz []), [], hp)
   | .agg cs => bnd (zax (pack own n) h.kids cs hp) fun y => some (.agg y.1, y.2.1, y.2.2)
   | .tup cs => bnd (zax (pack own n) h.kids cs hp) fun y => some (.tup y.1, y.2.1, y.2.2)
   | .fn f cs => bnd (zax (pack false n) [] cs hp) fun y => some (.fn f y.1, y.2.1, y.2.2)
   | .ow .. => none
   | .bx .. => none
   | .mr key ver => bnd (zb2 hp key ver) fun b => ask (b.row = false ∧ b.mp = true ∧ own = true) (some (.om b.es, [key], drop hp key))
   | .om _ => none
   | .od .. => none
   | .yl => none
   | .yq => none
   | v => some (v, [], hp)
def subK (k : Nat) : Nat := 1000000000000000 * (k + 1)
mutual
def unpack : AV → Nat → Hp → AV × Nat × Hp
 | .ow ty sz nl es, k, hp => (.ms k (zad hp k) 0 es.length, k + 1, (k, .live { ver := zad hp k, row := true, nl, ty, sz, es }) :: hp)
 | .bx cs, k, hp =>
   (.pt k (zad (unpacks cs (k + 1) hp).2.2 k) 0 0, (unpacks cs (k + 1) hp).2.1,
     (k, .live { ver := zad (unpacks cs (k + 1) hp).2.2 k, row := false, nl := false, ty := 0, sz := (unpacks cs (k + 1) hp).1.length, es := [(unpacks cs (k + 1) hp).1] }) :: (unpacks cs (k + 1) hp).2.2)
 | .om es, k, hp => (.mr k (zad hp k), k + 1, (k, .live { ver := zad hp k, row := false, nl := false, ty := 0, sz := 2, es, mp := true }) :: hp)
 | .od ty sz nl es, k, hp => (.ms k (zad (zaw es (subK k) hp).2 k) 0 es.length, k + 1,
     (k, .live { ver := zad (zaw es (subK k) hp).2 k, row := true, nl, ty, sz, es := (zaw es (subK k) hp).1, dp := true }) :: (zaw es (subK k) hp).2)
 | .agg cs, k, hp => (.agg (unpacks cs k hp).1, (unpacks cs k hp).2)
 | .tup cs, k, hp => (.tup (unpacks cs k hp).1, (unpacks cs k hp).2)
 | v, k, hp => (v, k, hp)
def unpacks : List AV → Nat → Hp → List AV × Nat × Hp
 | [], k, hp => ([], k, hp)
 | v :: r, k, hp => ((unpack v k hp).1 :: (unpacks r (unpack v k hp).2.1 (unpack v k hp).2.2).1, (unpacks r (unpack v k hp).2.1 (unpack v k hp).2.2).2)
def zaw : List (List AV) → Nat → Hp → List (List AV) × Hp
 | [], _, hp => ([], hp)
 | e :: r, k, hp => ((unpacks e k hp).1 :: (zaw r (k + 64) (unpacks e k hp).2.2).1, (zaw r (k + 64) (unpacks e k hp).2.2).2)
end
structure Fx where
 val : AV
 hp : Hp
 rd : List Nat
 wr : List Nat
 deriving Inhabited, Repr
structure Cx where
 call : Nat → List AV → Option (AV × List AV)
 spec : Nat → FSpec
 inl : Nat → List AV → Hp → Option (AV × Hp)
def real (f : Nat) : Nat := f % 1000000
mutual
def sh : AV → Bool
 | .od .. => false
 | .agg cs => shs cs
 | .tup cs => shs cs
 | .bx cs => shs cs
 | _ => true
def shs : List AV → Bool
 | [] => true
 | v :: r => sh v && shs r
end
def calm : AOp → Bool
 | .calld .. => false
 | .inl .. => false
 | _ => true
def splice : List AV → Nat → List AV → List AV
 | l, 0, cs => cs ++ l.drop cs.length
 | [], _ + 1, _ => []
 | x :: r, n + 1, cs => x :: splice r n cs
def u8s : List (List AV) → Option (List UInt8)
 | [] => some []
 | [.i .u8 n] :: r => (u8s r).map (UInt8.ofNat n.toNat :: ·)
 | _ :: _ => none
def zg1 (l : List UInt8) : List (List AV) := l.map fun c => [.i .u8 (c.toNat : Int)]
def quiet (v : AV) (hp : Hp) : Option Fx := some { val := v, hp, rd := [], wr := [] }
def content (sz : Nat) (hp : Hp) : AV → Option (List (List AV) × List Nat)
 | .sl _ sz' es => ask (sz' = sz ∨ es = []) (some (es, []))
 | .ms key ver off len => bnd (zb2 hp key ver) fun b => ask (b.row = true ∧ b.dp = false ∧ b.sz = sz ∧ off + len ≤ b.es.length) (some ((b.es.drop off).take len, [key]))
 | _ => none
def zfj (sz : Nat) (hp : Hp) : AV → Option (List (List AV) × List Nat)
 | .ms key ver off len => bnd (zb2 hp key ver) fun b => ask (b.row = true ∧ b.sz = sz ∧ off + len ≤ b.es.length) (some ((b.es.drop off).take len, [key]))
 | _ => none
def andI (k : IntKind) (x y : Int) : Int := k.wrap ((BitVec.ofInt k.bits x &&& BitVec.ofInt k.bits y).toNat : Int)
def orI (k : IntKind) (x y : Int) : Int := k.wrap ((BitVec.ofInt k.bits x ||| BitVec.ofInt k.bits y).toNat : Int)
def xorI (k : IntKind) (x y : Int) : Int := k.wrap ((BitVec.ofInt k.bits x ^^^ BitVec.ofInt k.bits y).toNat : Int)
def zuy (k : IntKind) (x y : Int) : Int := k.wrap ((BitVec.ofInt k.bits x &&& ~~~BitVec.ofInt k.bits y).toNat : Int)
def zno (op : BinOp) (k : IntKind) (x y : Int) : Option AV :=
 match op with
 | .add => some (.i k (k.wrap (x + y)))
 | .sub => some (.i k (k.wrap (x - y)))
 | .mul => some (.i k (k.wrap (x * y)))
 | .quo => ask (y ≠ 0) (some (.i k (k.wrap (x.tdiv y))))
 | .rem => ask (y ≠ 0) (some (.i k (x.tmod y)))
 | .and => some (.i k (andI k x y))
 | .or => some (.i k (orI k x y))
 | .xor => some (.i k (xorI k x y))
 | .andNot => some (.i k (zuy k x y))
 | .eql => some (.b (decide (x = y)))
 | .neq => some (.b (decide (x ≠ y)))
 | .lss => some (.b (decide (x < y)))
 | .leq => some (.b (decide (x ≤ y)))
 | .gtr => some (.b (decide (y < x)))
 | .geq => some (.b (decide (y ≤ x)))
 | _ => none
def shlI (k : IntKind) (x y : Int) : Int := k.wrap (x * 2 ^ (min y.toNat k.bits))
def shrI (k : IntKind) (x y : Int) : Int := x.fdiv (2 ^ (min y.toNat k.bits))
def zhk (op : BinOp) (k : IntKind) (x y : Int) : Option AV :=
 match op with
 | .shl => ask (0 ≤ y) (some (.i k (shlI k x y)))
 | .shr => ask (0 ≤ y) (some (.i k (shrI k x y)))
 | _ => none
def zn1 (op : BinOp) (x y : List UInt8) : Option AV :=
 match op with
 | .add => ask (x.length + y.length ≤ LIM) (some (.str (x ++ y)))
 | .eql => some (.b (decide (x = y)))
 | .neq => some (.b (decide (x ≠ y)))
 | .lss => some (.b (Op.bytesLess x y))
 | .leq => some (.b (Op.bytesLess x y || decide (x = y)))
 | .gtr => some (.b (!(Op.bytesLess x y || decide (x = y))))
 | .geq => some (.b (!Op.bytesLess x y))
 | _ => none
def eqbV (neg : Bool) : AV → AV → Option AV
 | .b x, .b y => some (.b ((x == y) != neg))
 | _, _ => none
def zik : BinOp → Bool
 | .shl => true
 | .shr => true
 | _ => false
def zl7 (op : BinOp) : AV → AV → Option AV
 | .i k x, .i k' y => way (zik op) (zhk op k x y) (ask (k = k') (zno op k x y))
 | .str x, .str y => zn1 op x y
 | _, _ => none
def isNil (hp : Hp) : NK → AV → Option (Bool × List Nat)
 | .sl, .sl k _ _ => some (decide (k = .nil), [])
 | .sl, .ms key ver off len => bnd (zb2 hp key ver) fun b => ask (b.row = true ∧ off = 0 ∧ len = b.es.length) (some (b.nl, [key]))
 | .pt, .pt .. => some (false, [])
 | .pt, .ip _ => some (false, [])
 | .pt, .nilp => some (true, [])
 | .fn, .fn .. => some (false, [])
 | .fn, .nilf => some (true, [])
 | _, _ => none
def zv6 : AV → Option Nat
 | .i _ n => ask (0 ≤ n) (some n.toNat)
 | _ => none
def zd5 (d : Nat) : Option AV → Option Nat
 | none => some d
 | some v => zv6 v
def cut (sz : Nat) (lo hi mx : Option AV) (hp : Hp) : AV → Option (AV × List Nat)
 | .str s => ask (mx.isNone = true ∧ sz = 0) (bnd (zd5 0 lo) fun l => bnd (zd5 s.length hi) fun h => ask (l ≤ h ∧ h ≤ s.length) (some (.str ((s.drop l).take (h - l)), [])))
 | .sl k sz' es => ask ((sz' = sz ∨ es = []) ∧ 0 < sz ∧ (mx.isSome = true → hi.isSome = true)) (bnd (zd5 0 lo) fun l => bnd (zd5 es.length hi) fun h => bnd (zd5 es.length mx) fun m =>
     ask (l ≤ h ∧ h ≤ m ∧ m ≤ es.length)
       (some (.sl (if k = .nil then .nil else if (mx.isSome = true ∨ k = .full) ∧ h = m then .full else .open_) sz' ((es.drop l).take (h - l)), [])))
 | .ms key ver off len => ask (mx.isNone = true ∧ 0 < sz) (bnd (zb2 hp key ver) fun b => ask (b.row = true ∧ b.sz = sz ∧ off + len ≤ b.es.length)
     (bnd (zd5 0 lo) fun l => bnd (zd5 len hi) fun h => ask (l ≤ h ∧ h ≤ len) (some (.ms key ver (off + l) (h - l), [key]))))
 | _ => none
def ze4 (kx ver len : Nat) (b : Blk) (ys : List (List AV)) (hp : Hp) (rd : List Nat) : Option Fx :=
 if len = b.es.length then
   ask (len + ys.length ≤ LIM) (some { val := .ms kx (ver + 1) 0 (len + ys.length), hp := (kx, .live { ver := ver + 1, row := true, nl := b.nl && ys.isEmpty, ty := b.ty, sz := b.sz, es := b.es ++ ys, dp := b.dp }) :: hp, rd, wr := [kx] })
 else
   ask (len + ys.length ≤ b.es.length) (some { val := .ms kx ver 0 (len + ys.length), hp := (kx, .live { b with es := b.es.take len ++ (ys ++ b.es.drop (len + ys.length)) }) :: hp, rd, wr := [kx] })
def appRow (ty sz key : Nat) (ys : List (List AV)) (hp : Hp) (rd : List Nat) : AV → Option Fx
 | .sl k sz' es => way (ys.isEmpty && (decide (k = .open_) || !es.isEmpty)) (some { val := .sl k sz' es, hp, rd, wr := [] })
   (ask (k ≠ .open_ ∧ (sz' = sz ∨ es = []) ∧ es.length + ys.length ≤ LIM)
     (some { val := .ms key (zad hp key) 0 (es.length + ys.length), hp := (key, .live { ver := zad hp key, row := true, nl := decide (k = .nil) && ys.isEmpty, ty, sz, es := es ++ ys }) :: hp, rd, wr := [key] }))
 | .ms kx ver off len => bnd (zb2 hp kx ver) fun b => ask (b.row = true ∧ b.dp = false ∧ b.ty = ty ∧ b.sz = sz ∧ off = 0) (ze4 kx ver len b ys hp rd)
 | _ => none
def zfk (ty sz : Nat) (ys : List (List AV)) (hp : Hp) (rd : List Nat) : AV → Option Fx
 | .ms kx ver off len => bnd (zb2 hp kx ver) fun b => ask (b.row = true ∧ b.dp = true ∧ b.ty = ty ∧ b.sz = sz ∧ off = 0) (ze4 kx ver len b ys hp rd)
 | _ => none
structure Place where
 key : Nat
 ver : Nat
 len : Nat
 sz : Nat
 nl : Bool
structure Handed where
 args : List AV
 rd : List Nat
 io : List Place
 wr : List Nat
 hp : Hp
def place (hp : Hp) : AV → Option Place
 | .pt key ver 0 0 => bnd (zb2 hp key ver) fun b => ask (b.row = false) (some ⟨key, ver, 0, 0, false⟩)
 | .ms key ver 0 len => bnd (zb2 hp key ver) fun b => ask (b.row = true ∧ len = b.es.length) (some ⟨key, ver, len, b.sz, b.nl⟩)
 | _ => none
def hand1 (v : AV) (hp : Hp) : PM → Option Handed
 | .borrow => bnd (snap hp FUEL v) fun x => some { args := [x.1], rd := x.2, io := [], wr := [], hp }
 | .give h => bnd (pack true FUEL h v hp) fun x => some { args := [x.1], rd := [], io := [], wr := x.2.1, hp := x.2.2 }
 | .inout h => bnd (place hp v) fun p => bnd (pack true FUEL h v hp) fun x => some { args := [x.1], rd := [], io := [p], wr := x.2.1, hp := x.2.2 }
def hand : List PM → List AV → Hp → Option Handed
 | _, [], hp => some { args := [], rd := [], io := [], wr := [], hp }
 | pms, v :: r, hp => bnd (hand1 v hp (pms.headD .borrow)) fun x => bnd (hand pms.tail r x.hp) fun y =>
     some { args := x.args ++ y.args, rd := x.rd ++ y.rd, io := x.io ++ y.io, wr := x.wr ++ y.wr, hp := y.hp }
def back1 (p : Place) (k : Nat) (hp : Hp) : AV → Option (Nat × Hp)
 | .bx cs => ask (shs cs = true ∧ zad (unpacks cs k hp).2.2 p.key = p.ver + 1 ∧ p.len = 0)
     (some ((unpacks cs k hp).2.1, (p.key, .live { ver := p.ver, row := false, nl := false, ty := 0, sz := (unpacks cs k hp).1.length, es := [(unpacks cs k hp).1] }) :: (unpacks cs k hp).2.2))
 | .ow ty sz nl es => ask (es.length = p.len ∧ sz = p.sz ∧ nl = p.nl ∧ zad hp p.key = p.ver + 1) (some (k, (p.key, .live { ver := p.ver, row := true, nl, ty, sz, es }) :: hp))
 | _ => none
def back : List Place → List AV → Nat → Hp → Option (Nat × Hp)
 | [], [], k, hp => some (k, hp)
 | p :: io, v :: outs, k, hp => bnd (back1 p k hp v) fun x => back io outs x.1 x.2
 | _, _, _, _ => none
def zbx (a b : List Nat) : Bool := a.all fun k => !b.contains k
def span (k : Nat) : Nat → List Nat
 | 0 => []
 | n + 1 => k :: span (k + 1) n
def took (h : Handed) (dst : Nat) (r : AV) (k2 : Nat) (hp2 : Hp) : Fx :=
 { val := (unpack r (keyOf dst) hp2).1, hp := (unpack r (keyOf dst) hp2).2.2, rd := h.rd,
   wr := h.wr ++ (h.io.map (·.key) ++ ((if plain r && h.io.isEmpty then [] else h.rd) ++ (span (keyOf dst + 32) (k2 - (keyOf dst + 32)) ++ span (keyOf dst) ((unpack r (keyOf dst) hp2).2.1 - keyOf dst)))) }
def zed (cx : Cx) (f : Nat) (args : List AV) (dst : Nat) (hp : Hp) : Option Fx :=
 bnd (hand (cx.spec f).pm args hp) fun h => ask (zbx h.rd h.wr = true) (bnd (cx.call f h.args) fun r =>
   ask (sh r.1 = true) (bnd (back h.io r.2 (keyOf dst + 32) (if plain r.1 && h.io.isEmpty then h.hp else drops h.rd h.hp)) fun x => some (took h dst r.1 x.1 x.2)))
def zd0 (cx : Cx) (f : Nat) (args : List AV) (dst : Nat) (hp : Hp) : Option Fx :=
 bnd (hand (cx.spec f).pm args hp) fun h => ask (zbx h.rd h.wr = true) (bnd (cx.call f h.args) fun r =>
   bnd (back h.io r.2 (keyOf dst + 32) (if plain r.1 && h.io.isEmpty then h.hp else drops h.rd h.hp)) fun x => some (took h dst r.1 x.1 x.2))
def wkC (k m : Nat) : AV → Option AV
 | .i a b => some (.i a b)
 | .b c => some (.b c)
 | .str l => some (.str l)
 | .nilp => some .nilp
 | .sl _ _ es => some (.ms k m 0 es.length)
 | _ => none
def wkCs (k m : Nat) : List AV → Option (List AV)
 | [] => some []
 | a :: r => bnd (wkC k m a) fun x => bnd (wkCs k m r) fun y => some (x :: y)
def wkT (k m : Nat) : AV → Option AV
 | .agg cs => bnd (wkCs k m cs) fun y => some (.agg y)
 | v => wkC k m v
def wkTs (k m : Nat) : List AV → Option (List AV)
 | [] => some []
 | a :: r => bnd (wkT k m a) fun x => bnd (wkTs k m r) fun y => some (x :: y)
def wkn (k m : Nat) : AV → Option AV
 | .tup cs => bnd (wkTs k m cs) fun y => some (.tup y)
 | v => wkT k m v
def zeo (cx : Cx) (f : Nat) (args : List AV) (dst : Nat) (hp : Hp) : Option Fx :=
 bnd (hand (cx.spec f).pm args hp) fun h => ask (zbx h.rd h.wr = true ∧ h.io.isEmpty = true) (bnd (cx.call f h.args) fun r => ask (r.2.isEmpty = true)
   (bnd (ask (flat r.1 = true) (wkn (keyOf dst) (zad h.hp (keyOf dst)) r.1)) fun v => some { val := v, hp := (keyOf dst, .dead (zad h.hp (keyOf dst) + 1)) :: h.hp, rd := h.rd, wr := h.wr ++ [keyOf dst] }))
def zn6 (cx : Cx) (args : List AV) (dst : Nat) (hp : Hp) : AV → Option Fx
 | .fn f caps => zed cx f (args ++ caps) dst hp
 | _ => none
def ints : List AV → Option (IntKind × List Int)
 | [] => none
 | [.i k n] => some (k, [n])
 | .i k n :: r => bnd (ints r) fun x => ask (k = x.1) (some (k, n :: x.2))
 | _ :: _ => none
def frz (v : AV) (hp : Hp) : Option (AV × List Nat × Hp) := way (flat v) (some (v, [], hp)) (pack false FUEL .none v hp)
def zk8 (s : Sl) : List (Nat × Nat × Opd) → List AV → Option (List AV)
 | [], cs => some cs
 | p :: r, cs => bnd (cells (ev s p.2.2)) fun xs => ask (xs.length = p.2.1 ∧ p.1 + p.2.1 ≤ cs.length) (zk8 s r (splice cs p.1 xs))
def zf8 (s : Sl) (size : Nat) : List (Nat × Opd) → List (List AV) → List Nat → Hp → Option (List (List AV) × List Nat × Hp)
 | [], es, ks, hp => some (es, ks, hp)
 | p :: r, es, ks, hp => bnd (frz (ev s p.2) hp) fun x => bnd (cells x.1) fun xs => ask (xs.length = size ∧ p.1 < es.length) (zf8 s size r (es.set p.1 xs) (ks ++ x.2.1) x.2.2)
def zk9 (s : Sl) (size : Nat) : List (Nat × Opd) → List (List AV) → Option (List (List AV))
 | [], es => some es
 | p :: r, es => bnd (cells (ev s p.2)) fun xs => ask (xs.length = size ∧ p.1 < es.length) (zk9 s size r (es.set p.1 xs))
def load1 (agg : Bool) (size : Nat) (cs : List AV) (hp : Hp) (rd : List Nat) : Option Fx :=
 ask (size ≤ cs.length) (way agg (some { val := .agg (cs.take size), hp, rd, wr := [] }) (bnd cs.head? fun v => some { val := v, hp, rd, wr := [] }))
def zlf (agg : Bool) (size : Nat) (hp : Hp) : AV → Option Fx
 | .pt key ver el off => bnd (zb2 hp key ver) fun b => ask (b.mp = false) (bnd (b.es[el]?) fun cs => load1 agg size (cs.drop off) hp [key])
 | .ip cs => load1 agg size cs hp []
 | _ => none
def store1 (size key el off : Nat) (v : AV) (b : Blk) (hp : Hp) (ks : List Nat) : Option Fx :=
 bnd (b.es[el]?) fun cs => bnd (cells v) fun xs => ask (xs.length = size ∧ off + size ≤ cs.length)
   (some { val := undef, hp := (key, .live { b with es := b.es.set el (splice cs off xs) }) :: hp, rd := [], wr := key :: ks })
def zkn (size : Nat) (v : AV) (hp : Hp) : AV → Option Fx
 | .pt key ver el off => bnd (zb2 hp key ver) fun b => ask (b.mp = false) (way (b.row && !b.dp)
     (bnd (frz v hp) fun x => ask (key ∉ x.2.1) (store1 size key el off x.1 b x.2.2 x.2.1))
     (store1 size key el off v b hp []))
 | _ => none
def newRow (ty sz key : Nat) (es : List (List AV)) (hp : Hp) (ks : List Nat) : Option Fx :=
 some { val := .ms key (zad hp key) 0 es.length, hp := (key, .live { ver := zad hp key, row := true, nl := false, ty, sz, es }) :: hp, rd := [], wr := key :: ks }
def zhe (ty sz key : Nat) (es : List (List AV)) (hp : Hp) : Option Fx :=
 some { val := .ms key (zad hp key) 0 es.length, hp := (key, .live { ver := zad hp key, row := true, nl := false, ty, sz, es, dp := true }) :: hp, rd := [], wr := [key] }
def zhs (key : Nat) (cs : List AV) (hp : Hp) : Option Fx :=
 some { val := .pt key (zad hp key) 0 0, hp := (key, .live { ver := zad hp key, row := false, nl := false, ty := 0, sz := cs.length, es := [cs] }) :: hp, rd := [], wr := [key] }
def zxf (a b : AV) : AV → Option AV
 | .b c => way c (some a) (some b)
 | _ => none
def zkd : AV → Option AV
 | .pt k v e o => some (.pt k v e o)
 | .ip cs => some (.ip cs)
 | .fn f cs => some (.fn f cs)
 | _ => none
def unV : UnOp → AV → Option AV
 | .not, .b c => some (.b !c)
 | .neg, .i k n => some (.i k (k.wrap (0 - n)))
 | _, _ => none
def zjk (hp : Hp) : CK → AV → Option Fx
 | .int k, .i _ n => quiet (.i k (k.wrap n)) hp
 | .id, .str l => quiet (.str l) hp
 | .s2b, .str l => quiet (.sl .open_ 1 (zg1 l)) hp
 | .b2s, v => bnd (content 1 hp v) fun x => bnd (u8s x.1) fun l => some { val := .str l, hp, rd := x.2, wr := [] }
 | _, _ => none
def zmi (off : Nat) : AV → Option AV
 | .pt k v e o => some (.pt k v e (o + off))
 | .ip cs => some (.ip (cs.drop off))
 | _ => none
def fldV (agg : Bool) (off size : Nat) (hp : Hp) : AV → Option Fx
 | .agg cs => load1 agg size (cs.drop off) hp []
 | _ => none
def ziz (sz : Nat) (hp : Hp) : AV → AV → Option Fx
 | .sl _ sz' es, .i _ n => ask (0 ≤ n ∧ (sz' = sz ∨ es = [])) (bnd (es[n.toNat]?) fun cs => quiet (.ip cs) hp)
 | .ms k v off len, .i _ n => bnd (zb2 hp k v) fun b => ask (b.row = true ∧ b.sz = sz ∧ off + len ≤ b.es.length ∧ 0 ≤ n ∧ n < len) (some { val := .pt k v (off + n.toNat) 0, hp, rd := [k], wr := [] })
 | _, _ => none
def idxV : AV → AV → Option AV
 | .str l, .i _ n => ask (0 ≤ n) (bnd (l[n.toNat]?) fun c => some (.i .u8 c.toNat))
 | _, _ => none
def extV (i : Nat) : AV → Option AV
 | .tup vs => vs[i]?
 | _ => none
def lenV : Bool → AV → Option AV
 | false, .sl _ _ es => some (.i .i64 es.length)
 | false, .ms _ _ _ len => some (.i .i64 len)
 | true, .str l => some (.i .i64 l.length)
 | _, _ => none
def strOf : AV → Option (List UInt8)
 | .str l => some l
 | _ => none
def zlg : AV → Option Nat
 | .i .i64 n => ask (0 ≤ n ∧ n.toNat ≤ LIM) (some n.toNat)
 | _ => none
def copyV (sz : Nat) (ys : List (List AV)) (ks : List Nat) (hp : Hp) : AV → Option Fx
 | .ms key ver off len => bnd (zb2 hp key ver) fun b => ask (b.row = true ∧ b.dp = false ∧ b.sz = sz ∧ off + len ≤ b.es.length)
     (some { val := .i .i64 (min ys.length len : Nat), hp := (key, .live { b with es := b.es.take off ++ (ys.take (min ys.length len) ++ b.es.drop (off + min ys.length len)) }) :: hp, rd := ks, wr := [key] })
 | _ => none
def zk6 (zero : List AV) (hp : Hp) : AV → Option Fx
 | .ms key ver off len => bnd (zb2 hp key ver) fun b => ask (b.row = true ∧ b.dp = false ∧ b.sz = zero.length ∧ off + len ≤ b.es.length)
     (some { val := undef, hp := (key, .live { b with es := b.es.take off ++ (List.replicate len zero ++ b.es.drop (off + len)) }) :: hp, rd := [], wr := [key] })
 | _ => none
def frzV (hp : Hp) : AV → Option Fx
 | .ms key ver off len => bnd (zb2 hp key ver) fun b => ask (b.row = true ∧ b.dp = false ∧ off + len ≤ b.es.length ∧ b.es.length ≠ 0 ∧ (len ≠ 0 ∨ off = 0))
     (some { val := .sl (skOf b.nl) b.sz ((b.es.drop off).take len), hp := drop hp key, rd := [], wr := [key] })
 | _ => none
def maxL (l : List Int) : Option Int := match l with | [] => none | n :: r => some (r.foldl (fun x y => if x < y then y else x) n)
def minL (l : List Int) : Option Int := match l with | [] => none | n :: r => some (r.foldl (fun x y => if y < x then y else x) n)
def zwg : MK → AV → AV → Option Bool
 | .int, .i k a, .i k' b => ask (k = k') (some (a == b))
 | .str, .str a, .str b => some (a == b)
 | .bool, .b a, .b b => some (a == b)
 | _, _, _ => none
def zka (kk : MK) (k : AV) : List (List AV) → Nat → Option (Option (Nat × AV))
 | [], _ => some none
 | [a, v] :: r, i => bnd (zwg kk k a) fun c => way c (some (some (i, v))) (zka kk k r (i + 1))
 | _ :: _, _ => none
def zj7 (key : Nat) (hp : Hp) : Option Fx :=
 some { val := .mr key (zad hp key), hp := (key, .live { ver := zad hp key, row := false, nl := false, ty := 0, sz := 2, es := [], mp := true }) :: hp, rd := [], wr := [key] }
def zgv (zero : AV) (ok : Bool) : Option (Nat × AV) → AV
 | some x => if ok then .tup [x.2, .b true] else x.2
 | none => if ok then .tup [zero, .b false] else zero
def zpd (kk : MK) (zero : AV) (ok : Bool) (k : AV) (hp : Hp) : AV → Option Fx
 | .mr key ver => bnd (zb2 hp key ver) fun b => ask (b.row = false ∧ b.mp = true) (bnd (zka kk k b.es 0) fun r => some { val := zgv zero ok r, hp, rd := [key], wr := [] })
 | _ => none
def putM (m : List (List AV)) (k v : AV) : Option (Nat × AV) → List (List AV)
 | some x => m.set x.1 [k, v]
 | none => m ++ [[k, v]]
def zpb (kk : MK) (k v : AV) (hp : Hp) : AV → Option Fx
 | .mr key ver => ask (flat k = true ∧ flat v = true) (bnd (zb2 hp key ver) fun b => ask (b.row = false ∧ b.mp = true) (bnd (zka kk k b.es 0) fun r =>
     some { val := undef, hp := (key, .live { b with es := putM b.es k v r }) :: hp, rd := [], wr := [key] }))
 | _ => none
def aop (cx : Cx) (op : AOp) (dst : Nat) (s : Sl) (hp : Hp) : Option Fx :=
 match op with
 | .mov x => quiet (ev s x) hp
 | .pick c a b => bnd (zxf (ev s a) (ev s b) (ev s c)) fun v => quiet v hp
 | .box x => bnd (cells (ev s x)) fun cs => zhs (keyOf dst) cs hp
 | .boxi x => bnd (cells (ev s x)) fun cs => ask (flats cs = true) (quiet (.ip cs) hp)
 | .alloc zero => zhs (keyOf dst) zero hp
 | .build zero parts => bnd (zk8 s parts zero) fun cs => quiet (.agg cs) hp
 | .bslice ty zero n parts => bnd (zf8 s zero.length parts (List.replicate n zero) [] hp) fun x => newRow ty zero.length (keyOf dst) x.1 x.2.2 x.2.1
 | .bsliced ty zero n parts => bnd (zk9 s zero.length parts (List.replicate n zero)) fun es => zhe ty zero.length (keyOf dst) es hp
 | .load agg size a => zlf agg size hp (ev s a)
 | .store size a x => zkn size (ev s x) hp (ev s a)
 | .nilck x => bnd (zkd (ev s x)) fun v => quiet v hp
 | .bin op x y => bnd (zl7 op (ev s x) (ev s y)) fun v => quiet v hp
 | .eqb neg x y => bnd (eqbV neg (ev s x) (ev s y)) fun v => quiet v hp
 | .eqnil k neg x => bnd (isNil hp k (ev s x)) fun r => some { val := .b (r.1 != neg), hp, rd := r.2, wr := [] }
 | .un op x => bnd (unV op (ev s x)) fun v => quiet v hp
 | .conv c x => zjk hp c (ev s x)
 | .mkfn f caps => quiet (.fn f (evs s caps)) hp
 | .slice sz x lo hi mx => bnd (cut sz (evo s lo) (evo s hi) (evo s mx) hp (ev s x)) fun r => some { val := r.1, hp, rd := r.2, wr := [] }
 | .faddr off x => bnd (zmi off (ev s x)) fun v => quiet v hp
 | .fld agg off size x => fldV agg off size hp (ev s x)
 | .iaddr sz x i => ziz sz hp (ev s x) (ev s i)
 | .idx x i => bnd (idxV (ev s x) (ev s i)) fun v => quiet v hp
 | .ext x i => bnd (extV i (ev s x)) fun v => quiet v hp
 | .call f args => zed cx f (evs s args) dst hp
 | .calld f args => if f < 2000000 then zd0 cx f (evs s args) dst hp else zeo cx (f - 2000000) (evs s args) dst hp
 | .inl f args => bnd (cx.inl f (evs s args) hp) fun x => some { val := x.1, hp := x.2, rd := [], wr := [] }
 | .callv x args => zn6 cx (evs s args) dst hp (ev s x)
 | .len t x => bnd (lenV t (ev s x)) fun v => quiet v hp
 | .app ty sz x y => bnd (content sz hp (ev s y)) fun c => appRow ty sz (keyOf dst) c.1 hp c.2 (ev s x)
 | .appd ty sz x y => bnd (zfj sz hp (ev s y)) fun c => zfk ty sz c.1 hp c.2 (ev s x)
 | .appstr ty x y => bnd (strOf (ev s y)) fun l => appRow ty 1 (keyOf dst) (zg1 l) hp [] (ev s x)
 | .appz ty zero x n => bnd (zlg (ev s n)) fun m => appRow ty zero.length (keyOf dst) (List.replicate m zero) hp [] (ev s x)
 | .copy sz x y => bnd (content sz hp (ev s y)) fun c => copyV sz c.1 c.2 hp (ev s x)
 | .mkslice ty zero n => bnd (zlg (ev s n)) fun m => newRow ty zero.length (keyOf dst) (List.replicate m zero) hp []
 | .mx l => bnd (ints (evs s l)) fun x => bnd (maxL x.2) fun n => quiet (.i x.1 n) hp
 | .mn l => bnd (ints (evs s l)) fun x => bnd (minL x.2) fun n => quiet (.i x.1 n) hp
 | .clear zero x => zk6 zero hp (ev s x)
 | .frz x => frzV hp (ev s x)
 | .mkmap => zj7 (keyOf dst) hp
 | .mget kk zero ok x k => zpd kk zero ok (ev s k) hp (ev s x)
 | .mput kk x k v => zpb kk (ev s k) (ev s v) hp (ev s x)
 | .fail => none
def zfo (want : Bool) : AV → Option Bool
 | .b x => some (x == want)
 | .tup [] => some false
 | _ => none
def wanted (s : Sl) : Option (Nat × Bool) → Option Bool
 | none => some true
 | some g => zfo g.2 (get s g.1)
def put (s : Sl) : Option Nat → AV → Sl
 | some d, v => (d, v) :: s
 | none, _ => s
def ains (cx : Cx) (o : AIns) (st : St) : Option (St × List Nat × List Nat) :=
 bnd (wanted st.sl o.guard) fun w => way w
   (bnd (aop cx o.op (o.dst.getD 0) st.sl st.hp) fun fx => some ({ sl := put st.sl o.dst fx.val, hp := fx.hp }, fx.rd, fx.wr))
   (some ({ sl := put st.sl o.dst undef, hp := st.hp }, [], []))
def areg (cx : Cx) : List AIns → St → Option St
 | [], st => some st
 | o :: r, st => bnd (ains cx o st) fun x => areg cx r x.1
def adraw (cx : Cx) : List AIns → List (List Nat × List Nat) → St → Option (St × List (List Nat × List Nat))
 | [], l, st => some (st, l)
 | o :: r, l, st => ask (calm o.op = true) (bnd (ains cx o st) fun x => adraw cx r (l ++ [x.2]) x.1)
def zm8 (l : List (List Nat × List Nat)) (i j : Nat) : Bool :=
 match l[i]?, l[j]? with
 | some p, some q => zbx p.2 (q.1 ++ q.2) && zbx q.2 p.1
 | _, _ => false
def zci (l : List (List Nat × List Nat)) : List (Nat × Nat) → Bool
 | [] => true
 | p :: r => zm8 l p.1 p.2 && zci l r
inductive AExit where
 | normal
 | exit (id : Nat)
 | ret
 deriving DecidableEq, Repr, Inhabited
def zcy : H → AV → Bool
 | _, .pt .. => true
 | _, .mr .. => true
 | .none, _ => false
 | _, _ => true
def zes : List (Nat × H) → Sl → Hp → Option (List (Option AV) × Hp)
 | [], _, hp => some ([], hp)
 | p :: r, s, hp => way (zcy p.2 (get s p.1))
     (bnd (pack true FUEL p.2 (get s p.1) hp) fun x => bnd (zes r s x.2.2) fun y => some (some x.1 :: y.1, y.2))
     (bnd (zes r s hp) fun y => some (none :: y.1, y.2))
def zb6 : List (Nat × H) → List (Option AV) → Sl → Hp → Option (List AV)
 | _ :: r, some v :: vs, s, hp => bnd (zb6 r vs s hp) fun l => some (v :: l)
 | p :: r, none :: vs, s, hp => bnd (snap hp FUEL (get s p.1)) fun x => bnd (zb6 r vs s hp) fun l => some (x.1 :: l)
 | [], [], _, _ => some []
 | _, _, _, _ => none
def zcp (keep : List (Nat × H)) (s : Sl) (hp : Hp) : Option (List AV) :=
 bnd (zes keep s hp) fun x => zb6 keep x.1 s x.2
def zar : List (Nat × H) → List AV → Sl → Hp → St
 | p :: r, v :: vs, s, hp => zar r vs ((p.1, (unpack v (keyOf p.1) hp).1) :: s) (unpack v (keyOf p.1) hp).2.2
 | _, _, s, hp => { sl := s, hp }
abbrev Res := Option (AExit × St)
def goOn (f : List AV → Res) (keep : List (Nat × H)) : AExit × St → Res
 | (.normal, st) => bnd (zcp keep st.sl st.hp) f
 | r => some r
def zc7 (body : St → Res) (keep : List (Nat × H)) : Nat → List AV → Res
 | 0, _ => none
 | n + 1, vs => bnd (body (zar keep vs [] [])) (goOn (zc7 body keep n) keep)
open Classical in
noncomputable def aloop (body : St → Res) (keep : List (Nat × H)) (vs : List AV) : Res :=
 if h : ∃ n r, zc7 body keep n vs = some r then some (Classical.choose (Classical.choose_spec h)) else none
def zgt : List Nat → List AV → Sl → Sl
 | p :: ps, x :: xs, s => zgt ps xs ((p, x) :: s)
 | _, _, s => s
def bindK (ps : List Nat) (x : List AV) (keep : List (Nat × H)) (vs : List AV) : Option St :=
 ask (ps.length = x.length) (some { sl := zgt ps x (zar keep vs [] []).sl, hp := (zar keep vs [] []).hp })
def znc (f : List AV → Res) (keep : List (Nat × H)) : AExit × St → Res
 | (.normal, st) => bnd (zcp keep st.sl st.hp) f
 | (e, st) => bnd (zcp keep st.sl st.hp) fun vs => some (e, zar keep vs [] [])
def arange (body : St → Res) (ps : List Nat) (keep : List (Nat × H)) : List (List AV) → List AV → Res
 | [], vs => some (.normal, zar keep vs [] [])
 | x :: xs, vs => bnd (bindK ps x keep vs) fun st => bnd (body st) (znc (arange body ps keep xs) keep)
def elemsOf : AV × List AV → Option (List (List AV))
 | (.sl _ _ es, _) => some es
 | _ => none
def zh2 (cx : Cx) : AV → Option (List (List AV))
 | .fn f caps => ask ((cx.spec f).it = true) (bnd (cx.call f (.yq :: caps)) elemsOf)
 | _ => none
def zc0 (f : St → Res) : AExit × St → Res
 | (.normal, st) => f st
 | _ => none
def andThen (f : St → Res) : AExit × St → Res
 | (.normal, st) => f st
 | r => some r
def outOf (id : Nat) : AExit × St → Res
 | (.exit id', st) => if id' = id then some (.normal, st) else some (.exit id', st)
 | r => some r
def zib (x y : Res) : AV → Res
 | .b c => way c x y
 | _ => none
noncomputable def aexec (cx : Cx) : ACode → St → Res
 | .skip, st => some (.normal, st)
 | .reg l, st => bnd (areg cx l st) fun st => some (.normal, st)
 | .draw l ps, st => bnd (adraw cx l [] st) fun x => ask (zci x.2 ps = true) (some (.normal, x.1))
 | .seq a b, st => bnd (aexec cx a st) (andThen (aexec cx b))
 | .cond c a b, st => zib (aexec cx a st) (aexec cx b st) (ev st.sl c)
 | .block id c, st => bnd (aexec cx c st) (outOf id)
 | .loop keep c, st => bnd (zcp keep st.sl st.hp) fun vs => aloop (aexec cx c) keep vs
 | .rangef t ps keep a b, st => bnd (zcp keep st.sl st.hp) fun vs => bnd (zh2 cx (get (zar keep vs [] []).sl t)) fun es => arange (fun st => bnd (aexec cx a st) (zc0 (aexec cx b))) ps keep es vs
 | .exit id, st => some (.exit id, st)
 | .ret, st => some (.ret, st)
 | .fail, _ => none
inductive ARes where
 | tmp (t : Nat)
 | cell (t : Nat) (agg : Bool) (size : Nat)
 deriving Inhabited, Repr
structure AFun where
 nparams : Nat
 body : ACode
 res : List ARes
 deriving Inhabited, Repr
def zml (st : St) : ARes → Option AV
 | .tmp t => some (get st.sl t)
 | .cell t agg size => bnd (zlf agg size st.hp (get st.sl t)) fun fx => some fx.val
def zc3 (st : St) : List ARes → Option (List AV)
 | [] => some []
 | r :: l => bnd (zml st r) fun v => bnd (zc3 st l) fun vs => some (v :: vs)
def one : List AV → AV
 | [v] => v
 | vs => .tup vs
def zae : Nat → List AV → Sl → Hp → St
 | _, [], s, hp => { sl := s, hp }
 | t, v :: r, s, hp => zae (t + 1) r ((t, (unpack v (keyOf t) hp).1) :: s) (unpack v (keyOf t) hp).2.2
def outs (s : Sl) : Nat → Nat → List PM → Hp → Option (List AV)
 | _, 0, _, _ => some []
 | _, _ + 1, [], _ => some []
 | t, n + 1, .inout h :: r, hp => bnd (pack true FUEL h (get s t) hp) fun x => bnd (outs s (t + 1) n r x.2.2) fun vs => some (x.1 :: vs)
 | t, n + 1, .borrow :: r, hp => outs s (t + 1) n r hp
 | t, n + 1, .give _ :: r, hp => outs s (t + 1) n r hp
def zc1 : AExit × St → Option St
 | (.exit _, _) => none
 | (.normal, st) => some st
 | (.ret, st) => some st
def zwm : AV → AV
 | .ip _ => .ip []
 | v => v
def weak : Bool → AV → AV
 | true, v => zwm v
 | false, v => v
def answer (fs : FSpec) (np : Nat) (res : List ARes) (st : St) : Option (AV × List AV) :=
 bnd (zc3 st res) fun vs => bnd (pack fs.rm.isSome FUEL (fs.rm.getD .none) (weak fs.nn (one vs)) st.hp) fun x => bnd (outs st.sl 0 np fs.pm x.2.2) fun os => some (x.1, os)
noncomputable def abody (cx : Cx) (fs : FSpec) (f : AFun) (args : List AV) : Option (AV × List AV) :=
 bnd (aexec cx f.body (zae 0 args [] [])) fun x => bnd (zc1 x) fun st => answer fs f.nparams f.res st
inductive YM where
 | go
 | cnt (n : Nat)
 | off
 deriving Inhabited, Repr
structure IS where
 st : St
 tr : List (List AV)
 md : YM
def YM.next : YM → Option (Bool × YM)
 | .go => some (true, .go)
 | .cnt 0 => some (false, .off)
 | .cnt (n + 1) => some (true, .cnt n)
 | .off => none
abbrev IRes := Option (AExit × IS)
def deads (hp : Hp) : Hp := hp.map fun e => (e.1, .dead (match e.2 with | .live b => b.ver + 1 | .dead n => n))
def frzs : List AV → Hp → Option (List AV × Hp)
 | [], hp => some ([], hp)
 | v :: r, hp => bnd (frz v hp) fun x => bnd (frzs r x.2.2) fun y => some (x.1 :: y.1, y.2)
def yaV : AV → List AV → Option (List AV)
 | .yl, args => some args
 | _, _ => none
def zaj (s : Sl) : AOp → Option (List AV)
 | .callv x args => yaV (ev s x) (evs s args)
 | _ => none
def iyield (dst : Option Nat) (args : List AV) (s : IS) : Option IS :=
 bnd (frzs args s.st.hp) fun x => bnd s.md.next fun y => some { st := { sl := put s.st.sl dst (.b y.1), hp := deads x.2 }, tr := s.tr ++ [x.1], md := y.2 }
def iins (cx : Cx) (o : AIns) (s : IS) : Option IS :=
 match zaj s.st.sl o.op with
 | some args => bnd (wanted s.st.sl o.guard) fun w => way w (iyield o.dst args s) (some { s with st := { s.st with sl := put s.st.sl o.dst undef } })
 | none => bnd (ains cx o s.st) fun x => some { s with st := x.1 }
def ireg (cx : Cx) : List AIns → IS → Option IS
 | [], s => some s
 | o :: r, s => bnd (iins cx o s) (ireg cx r)
def unpackY (it : Bool) (keep : List (Nat × H)) (vs : List AV) : St :=
 { sl := (if it then [(0, .yl)] else []) ++ (zar keep vs [] []).sl, hp := (zar keep vs [] []).hp }
def IS.at (s : IS) (st : St) : IS := { s with st }
def ziw (f : List AV → List (List AV) → YM → IRes) (keep : List (Nat × H)) : AExit × IS → IRes
 | (.normal, s) => bnd (zcp keep s.st.sl s.st.hp) fun vs => f vs s.tr s.md
 | r => some r
def zde (it : Bool) (body : IS → IRes) (keep : List (Nat × H)) : Nat → List AV → List (List AV) → YM → IRes
 | 0, _, _, _ => none
 | n + 1, vs, tr, md => bnd (body ⟨unpackY it keep vs, tr, md⟩) (ziw (zde it body keep n) keep)
open Classical in
noncomputable def iloop (it : Bool) (body : IS → IRes) (keep : List (Nat × H)) (vs : List AV) (tr : List (List AV)) (md : YM) : IRes :=
 if h : ∃ n r, zde it body keep n vs tr md = some r then some (Classical.choose (Classical.choose_spec h)) else none
def zn3 (it : Bool) (ps : List Nat) (x : List AV) (keep : List (Nat × H)) (vs : List AV) : Option St :=
 ask (ps.length = x.length) (some { sl := zgt ps x (unpackY it keep vs).sl, hp := (unpackY it keep vs).hp })
def zdd (it : Bool) (f : List AV → List (List AV) → YM → IRes) (keep : List (Nat × H)) : AExit × IS → IRes
 | (.normal, s) => bnd (zcp keep s.st.sl s.st.hp) fun vs => f vs s.tr s.md
 | (e, s) => bnd (zcp keep s.st.sl s.st.hp) fun vs => some (e, ⟨unpackY it keep vs, s.tr, s.md⟩)
def irange (it : Bool) (body : IS → IRes) (ps : List Nat) (keep : List (Nat × H)) : List (List AV) → List AV → List (List AV) → YM → IRes
 | [], vs, tr, md => some (.normal, ⟨unpackY it keep vs, tr, md⟩)
 | x :: xs, vs, tr, md => bnd (zn3 it ps x keep vs) fun st => bnd (body ⟨st, tr, md⟩) (zdd it (irange it body ps keep xs) keep)
def zbz (f : IS → IRes) : AExit × IS → IRes
 | (.normal, s) => f s
 | _ => none
def zdb (f : IS → IRes) : AExit × IS → IRes
 | (.normal, s) => f s
 | r => some r
def ze5 (id : Nat) : AExit × IS → IRes
 | (.exit id', s) => if id' = id then some (.normal, s) else some (.exit id', s)
 | r => some r
def zj2 (x y : IRes) : AV → IRes
 | .b c => way c x y
 | _ => none
noncomputable def iexec (cx : Cx) (it : Bool) : ACode → IS → IRes
 | .skip, s => some (.normal, s)
 | .reg l, s => bnd (ireg cx l s) fun s => some (.normal, s)
 | .draw l ps, s => bnd (adraw cx l [] s.st) fun x => ask (zci x.2 ps = true) (some (.normal, s.at x.1))
 | .seq a b, s => bnd (iexec cx it a s) (zdb (iexec cx it b))
 | .cond c a b, s => zj2 (iexec cx it a s) (iexec cx it b s) (ev s.st.sl c)
 | .block id c, s => bnd (iexec cx it c s) (ze5 id)
 | .loop keep c, s => bnd (zcp keep s.st.sl s.st.hp) fun vs => iloop it (iexec cx it c) keep vs s.tr s.md
 | .rangef t ps keep a b, s => bnd (zcp keep s.st.sl s.st.hp) fun vs => bnd (zh2 cx (get (zar keep vs [] []).sl t)) fun es => irange it (fun s => bnd (iexec cx it a s) (zbz (iexec cx it b))) ps keep es vs s.tr s.md
 | .exit id, s => some (.exit id, s)
 | .ret, s => some (.ret, s)
 | .fail, _ => none
def YM.isOff : YM → Bool
 | .off => true
 | _ => false
def YM.isGo : YM → Bool
 | .go => true
 | _ => false
def ifin : IRes → Option IS
 | some (.exit _, _) => none
 | some (_, s) => some s
 | none => none
noncomputable def irun (cx : Cx) (fn : AFun) (caps : List AV) (md : YM) : Option IS := ifin (iexec cx true fn.body ⟨zae 0 (.yl :: caps) [] [], [], md⟩)
def Stops (cx : Cx) (fn : AFun) (caps : List AV) (es : List (List AV)) : Prop := ∀ n, n < es.length → ∃ s, irun cx fn caps (.cnt n) = some s ∧ s.tr = es.take (n + 1) ∧ s.md.isOff = true
def io0 : List PM → Bool
 | .inout _ :: _ => true
 | _ => false
open Classical in
noncomputable def igive (cx : Cx) (fs : FSpec) (fn : AFun) : List AV → Option (AV × List AV)
 | .yq :: caps => bnd (irun cx fn caps .go) fun s => ask (fn.res.isEmpty = true ∧ s.md.isGo = true ∧ io0 fs.pm = true ∧ flats caps = true ∧ Stops cx fn caps s.tr) (some (.sl .open_ 0 s.tr, []))
 | _ => none
structure Sys where
 spec : Nat → FSpec
 prim : Nat → Option (List AV → Option (AV × List AV))
 fs : Nat → Option AFun
def zfz : Nat → List AV → Sl → Sl
 | _, [], s => s
 | t, v :: r, s => zfz (t + 1) r ((t, v) :: s)
def zhb (cx : Cx) (o : AIns) (st : St) : Option St :=
 bnd (wanted st.sl o.guard) fun w => way w
   (bnd (aop cx o.op (700000 + o.dst.getD 0) st.sl st.hp) fun fx => some { sl := put st.sl o.dst fx.val, hp := fx.hp })
   (some { sl := put st.sl o.dst undef, hp := st.hp })
def zf9 (cx : Cx) : List AIns → St → Option St
 | [], st => some st
 | o :: r, st => bnd (zhb cx o st) fun x => zf9 cx r x
def za5 (cx : Cx) : ACode → St → Res
 | .skip, st => some (.normal, st)
 | .reg l, st => bnd (zf9 cx l st) fun st => some (.normal, st)
 | .seq a b, st => bnd (za5 cx a st) (andThen (za5 cx b))
 | .cond c a b, st => zib (za5 cx a st) (za5 cx b st) (ev st.sl c)
 | .block id c, st => bnd (za5 cx c st) (outOf id)
 | .exit id, st => some (.exit id, st)
 | .ret, st => some (.ret, st)
 | .fail, _ => none
 | .draw .., _ => none
 | .loop .., _ => none
 | .rangef .., _ => none
def inlF (S : Sys) (call : Nat → List AV → Option (AV × List AV)) (f : Nat) (args : List AV) (hp : Hp) : Option (AV × Hp) :=
 bnd (S.fs f) fun fn => ask (args.length = fn.nparams ∧ (S.spec f).pm = []) (bnd (za5 { call, spec := S.spec, inl := fun _ _ _ => none } fn.body ⟨zfz 0 args [], hp⟩) fun x =>
   bnd (zc1 x) fun st => bnd (zc3 st fn.res) fun vs => some (one vs, st.hp))
abbrev cxOf (S : Sys) (call : Nat → List AV → Option (AV × List AV)) : Cx := { call, spec := S.spec, inl := inlF S call }
noncomputable def zh4 (S : Sys) (call : Nat → List AV → Option (AV × List AV)) (f : Nat) (args : List AV) : Option (AV × List AV) :=
 match (S.spec f).it with
 | true => bnd (S.fs f) fun fn => ask (args.length = fn.nparams) (igive (cxOf S call) (S.spec f) fn args)
 | false => match S.prim f with
   | some p => p args
   | none => bnd (S.fs f) fun fn => ask (args.length = fn.nparams) (abody (cxOf S call) (S.spec f) fn args)
noncomputable def zc6 (S : Sys) : Nat → Nat → List AV → Option (AV × List AV)
 | 0, _, _ => none
 | n + 1, f, args => zh4 S (zc6 S n) f args
open Classical in
noncomputable def acall (S : Sys) (f : Nat) (args : List AV) : Option (AV × List AV) :=
 if h : ∃ n r, zc6 S n f args = some r then some (Classical.choose (Classical.choose_spec h)) else none
end Go.Abs
end
section
namespace Go.Abs
def szOf (P : Program) (t : TypeId) : Option Nat := (P.info? t).map (·.size)
def zjo (P : Program) (t : TypeId) : Option Bool := (P.underlying t).map fun | .struct _ => true | .array .. => true | _ => false
def zdw (P : Program) (t : TypeId) : Option TypeId := match P.underlying t with | some (.slice e) => some e | _ => none
def cval : Value → Option AV
 | .int k n => some (.i k n)
 | .bool b => some (.b b)
 | .string s => some (.str s.data.toList)
 | .slice none 0 0 => some (.sl .nil 0 [])
 | .pointer none => some .nilp
 | .nilFunc => some .nilf
 | .tuple vs => if vs.size = 0 then some undef else none
 | _ => none
def cvals : List Value → Option (List AV)
 | [] => some []
 | v :: r => match cval v, cvals r with | some a, some l => some (a :: l) | _, _ => none
def cagg : Value → Option AV
 | .agg cs => match cvals cs.toList with | some l => if ones l then some (.agg l) else none | none => none
 | v => cval v
def zv7 (P : Program) (t : TypeId) : Option AV := match P.info? t with
 | some i => match i.zero with | some z => cagg z | none => none
 | none => none
def zeroOf (P : Program) (t : TypeId) : Option (List AV) := match P.info? t with
 | some i => match i.zero with | some z => (match cvals z.cells.toList with | some l => if flats l && ones l then some l else none | none => none) | none => none
 | none => none
def slim (P : Program) (t : TypeId) : Bool := match P.info? t with | some i => decide (i.bytes ≤ 512) | none => false
def copd : Operand → Option Opd
 | .tmp t => some (.tmp t)
 | .const v => (cagg v).map .con
 | .func f => if real f = f then some (.con (.fn f [])) else none
 | .global _ => none
def copds : List Operand → Option (List Opd)
 | [] => some []
 | v :: r => match copd v, copds r with | some a, some l => some (a :: l) | _, _ => none
def copt : Option Operand → Option (Option Opd)
 | none => some none
 | some x => (copd x).map some
def cparts (f : Nat → Option (Nat × Nat)) : List (Nat × Operand) → Option (List (Nat × Nat × Opd))
 | [] => some []
 | (i, x) :: r => match f i, copd x, cparts f r with | some (o, s), some a, some l => some ((o, s, a) :: l) | _, _, _ => none
def cidx : List (Nat × Operand) → Option (List (Nat × Opd))
 | [] => some []
 | (i, x) :: r => match copd x, cidx r with | some a, some l => some ((i, a) :: l) | _, _ => none
def nkOf : TypeDesc → Operand → Option NK
 | .slice _, .const (.slice none 0 0) => some .sl
 | .pointer _, .const (.pointer none) => some .pt
 | .func .., .const .nilFunc => some .fn
 | _, _ => none
def ccall (P : Program) (c : Call) : Option AOp :=
 match c.callee with
 | .value (.func f) => if real f = f then (copds c.args.toList).map (.call f) else none
 | .value (.tmp t) => (copds c.args.toList).map (.callv (.tmp t))
 | .value _ => none
 | .invoke .. => none
 | .builtin b => match b, c.args.toList, c.argTypes.toList with
   | .len, [x], [t] => match P.underlying t, copd x with
     | some .string, some x => some (.len true x)
     | some (.slice _), some x => some (.len false x)
     | _, _ => none
   | .append, [x, y], [t, u] => match zdw P t, copd x, copd y with
     | some e, some x, some y => match P.underlying u, zeroOf P e, szOf P e with
       | some (.slice u), some z, some s => if 0 < s ∧ z.length = s ∧ szOf P u = some s ∧ slim P e = true then some (.app e s x y) else none
       | some .string, some z, some s => if s = 1 ∧ z.length = s ∧ slim P e = true then some (.appstr e x y) else none
       | some (.int _), some z, some s => if 0 < s ∧ z.length = s ∧ slim P e = true then some (.appz e z x y) else none
       | _, _, _ => none
     | _, _, _ => none
   | .copy, [x, y], [t, u] => match zdw P t, copd x, copd y, P.underlying u with
     | some e, some x, some y, some (.slice u) => match szOf P e with | some s => if 0 < s ∧ szOf P u = some s then some (.copy s x y) else none | none => none
     | _, _, _, _ => none
   | .clear, [x], [t] => match zdw P t, copd x with
     | some e, some x => match zeroOf P e, szOf P e with | some z, some s => if 0 < s ∧ z.length = s then some (.clear z x) else none | _, _ => none
     | _, _ => none
   | .max, l, _ => (copds l).map .mx
   | .min, l, _ => (copds l).map .mn
   | _, _, _ => none
def mkOf : TypeDesc → Option MK
 | .int _ => some .int
 | .string => some .str
 | .bool => some .bool
 | _ => none
def mapKey (P : Program) (k : TypeId) : Option MK := match P.underlying k with | some d => mkOf d | none => none
def cop (P : Program) : Op → Option AOp
 | .move x => (copd x).map .mov
 | .assign x => (copd x).map .mov
 | .pick c a b => match copd c, copd a, copd b with | some c, some a, some b => some (.pick c a b) | _, _, _ => none
 | .alloc t => match zeroOf P t with | some z => some (.alloc z) | none => none
 | .box _ x => (copd x).map .box
 | .build t parts => match P.underlying t, zeroOf P t with
   | some (.struct fs), some z => match fs.toList.mapM (fun f => (P.info? f.type).map fun i => (f.offset, i.size)) with
     | some pl => (match cparts (fun i => pl[i]?) parts.toList with
       | some l => some (.build z l)
       | none => none)
     | none => none
   | _, _ => none
 | .buildSlice t len parts => match zdw P t with
   | some e => match zeroOf P e, szOf P e, cidx parts.toList with
     | some z, some s, some l => if 0 < s ∧ z.length = s ∧ len * s ≤ 16777216 then some (.bslice e z len l) else none
     | _, _, _ => none
   | none => none
 | .load t a => match zjo P t, szOf P t, copd a with | some g, some s, some a => if (g = true ∨ s = 1) ∧ 0 < s then some (.load g s a) else none | _, _, _ => none
 | .store t a v => match szOf P t, copd a, copd v with | some s, some a, some v => some (.store s a v) | _, _, _ => none
 | .nilCheck x => (copd x).map .nilck
 | .binOp op t x y _ => match op, P.underlying t with
   | .eql, some .bool => (match copd x, copd y with | some x, some y => some (.eqb false x y) | _, _ => none)
   | .neq, some .bool => (match copd x, copd y with | some x, some y => some (.eqb true x y) | _, _ => none)
   | .eql, some d => (match nkOf d y, copd x, copd y with | some k, some x, _ => some (.eqnil k false x) | none, some x, some y => some (.bin op x y) | _, _, _ => none)
   | .neq, some d => (match nkOf d y, copd x, copd y with | some k, some x, _ => some (.eqnil k true x) | none, some x, some y => some (.bin op x y) | _, _, _ => none)
   | _, _ => (match copd x, copd y with | some x, some y => some (.bin op x y) | _, _ => none)
 | .unOp op _ x => (copd x).map (.un op)
 | .convert src dst x => match P.underlying src, P.underlying dst, copd x with
   | some (.int _), some (.int k), some x => some (.conv (.int k) x)
   | some .string, some .string, some x => some (.conv .id x)
   | some (.slice e), some .string, some x => match P.underlying e with | some (.int .u8) => some (.conv .b2s x) | _ => none
   | some .string, some (.slice e), some x => match P.underlying e with | some (.int .u8) => some (.conv .s2b x) | _ => none
   | some (.slice _), some (.slice e), some x => if src = dst then (match P.underlying e with | some (.int .u8) => some (.frz x) | _ => none) else none
   | _, _, _ => none
 | .makeFunc fn first caps => match fn, first.toList, copds caps.toList with
   | .func f, [], some l => if real f = f then some (.mkfn f l) else none
   | _, _, _ => none
 | .makeSlice t l c => match zdw P t, copd l, copd c with
   | some e, some l', some _ => match zeroOf P e, szOf P e, (match l, c with | .tmp a, .tmp b => a == b | _, _ => false) with
     | some z, some s, true => if 0 < s ∧ z.length = s ∧ slim P e = true then some (.mkslice e z l') else none
     | _, _, _ => none
   | _, _, _ => none
 | .slice t x lo hi mx => match P.underlying t, copd x, copt lo, copt hi, copt mx with
   | some .string, some x, some lo, some hi, some none => some (.slice 0 x lo hi none)
   | some (.slice e), some x, some lo, some hi, some mx => match szOf P e with | some s => if 0 < s then some (.slice s x lo hi mx) else none | none => none
   | _, _, _, _, _ => none
 | .fieldAddr t x f => match P.underlying t, copd x with
   | some (.struct fs), some x => match fs[f]? with
     | some fd => match szOf P fd.type with | some s => if 0 < s then some (.faddr fd.offset x) else none | none => none
     | none => none
   | _, _ => none
 | .field t x f => match P.underlying t, copd x with
   | some (.struct fs), some x => match fs[f]? with
     | some fd => match szOf P fd.type, zjo P fd.type with | some s, some g => if g = true ∨ s = 1 then some (.fld g fd.offset s x) else none | _, _ => none
     | none => none
   | _, _ => none
 | .indexAddr t x i => match zdw P t, copd x, copd i with
   | some e, some x, some i => match szOf P e with | some s => if 0 < s then some (.iaddr s x i) else none | none => none
   | _, _, _ => none
 | .index t x i => match P.underlying t, copd x, copd i with
   | some .string, some x, some i => some (.idx x i)
   | _, _, _ => none
 | .extract x i => match copd x with | some x => some (.ext x i) | none => none
 | .call c => ccall P c
 | .makeMap t none => match P.underlying t with
   | some (.map _ _) => some .mkmap
   | _ => none
 | .lookup t x k ok => match P.underlying t, copd x, copd k with
   | some (.map kt e), some x, some k => match zv7 P e, mapKey P kt with
     | some z, some kk => some (.mget kk z ok x k)
     | _, _ => none
   | _, _, _ => none
 | .mapUpdate t x k v => match P.underlying t, copd x, copd k, copd v with
   | some (.map kt _), some x, some k, some v => match mapKey P kt with | some kk => some (.mput kk x k v) | none => none
   | _, _, _, _ => none
 | _ => none
def copF (P : Program) (op : Op) : AOp := (cop P op).getD .fail
def isIo : List PM → Nat → Bool
 | .inout _ :: _, 0 => true
 | _ :: r, t + 1 => isIo r t
 | _, _ => false
def okD (n : Nat) (pm : List PM) (d : Nat) : Bool := decide (d < n) && !isIo pm d
structure Ok where
 ok : Nat → Bool
 ib : Nat → Nat
instance : CoeFun Ok (fun _ => Nat → Bool) := ⟨Ok.ok⟩
def ibox : Nat → AOp → AOp
 | 1, .box x => .boxi x
 | 2, .bslice ty z n l => .bsliced ty z n l
 | 2, .app ty sz x y => .appd ty sz x y
 | 3, .call f l => .calld (f + 1000000) l
 | 4, .call f l => .inl (f + 1000000) l
 | 5, .call f l => .calld (f + 2000000) l
 | _, op => op
def Ok.ibAt (ok : Ok) : Option Tmp → Nat
 | some d => ok.ib d
 | none => 0
def zy8 (ok : Ok) : Option Tmp → Bool
 | some d => ok d
 | none => true
def cins (P : Program) (ok : Ok) (ops : Array Oper) (o : Oper) : AIns :=
 if zy8 ok o.dst = false then { dst := o.dst, op := .fail, guard := none } else
 match o.guard with
 | none => { dst := o.dst, op := ibox (ok.ibAt o.dst) (copF P o.op), guard := none }
 | some (j, want) => match (ops[j]?).bind (·.dst) with
   | some t => { dst := o.dst, op := ibox (ok.ibAt o.dst) (copF P o.op), guard := some (t, want) }
   | none => { dst := o.dst, op := .fail, guard := none }
def touches : AOp → Bool
 | .box .. | .alloc .. | .bslice .. | .load .. | .store .. | .eqnil .. | .call .. | .callv .. | .calld .. | .inl .. | .app .. | .appd .. | .bsliced .. | .appstr .. | .appz .. | .copy .. | .mkslice .. | .clear .. | .frz .. | .slice .. | .mkmap | .mget .. | .mput .. => true
 | .conv .b2s _ | .iaddr .. => true
 | _ => false
def zkj (ops : Array Oper) (l : List AIns) : List (Nat × Nat) :=
 let b := Region.before ops
 (List.range l.length).flatMap fun j =>
   (List.range j).filterMap fun i =>
     if (b.getD j 0).testBit i then none
     else match l[i]?, l[j]? with
       | some x, some y => if touches x.op && touches y.op then some (i, j) else none
       | _, _ => none
def zbn : Code → Nat
 | .region id _ _ => id
 | .seq a _ => zbn a
 | .cond _ a _ => zbn a
 | .block _ c => zbn c
 | .loop c => zbn c
 | _ => 0
def opdT : Opd → List Nat
 | .tmp t => [t]
 | .con _ => []
def zf7 : List Opd → List Nat
 | [] => []
 | x :: r => opdT x ++ zf7 r
def optT : Option Opd → List Nat
 | none => []
 | some x => opdT x
def zqx : AOp → List Nat
 | .mov x | .box x | .boxi x | .load _ _ x | .nilck x | .eqnil _ _ x | .un _ x | .conv _ x | .faddr _ x | .fld _ _ _ x | .ext x _ | .len _ x | .mkslice _ _ x | .clear _ x | .frz x => opdT x
 | .pick c a b => opdT c ++ (opdT a ++ opdT b)
 | .alloc _ | .mkmap => []
 | .mget _ _ _ x k => opdT x ++ opdT k
 | .mput _ x k v => opdT x ++ (opdT k ++ opdT v)
 | .build _ parts => zf7 (parts.map fun p => p.2.2)
 | .bslice _ _ _ parts | .bsliced _ _ _ parts => zf7 (parts.map fun p => p.2)
 | .store _ a v | .bin _ a v | .eqb _ a v | .iaddr _ a v | .idx a v | .app _ _ a v | .appd _ _ a v | .appstr _ a v | .appz _ _ a v | .copy _ a v => opdT a ++ opdT v
 | .mkfn _ l | .call _ l | .calld _ l | .inl _ l | .mx l | .mn l => zf7 l
 | .callv x l => opdT x ++ zf7 l
 | .slice _ x lo hi mx => opdT x ++ (optT lo ++ (optT hi ++ optT mx))
 | .fail => []
def zid (x : AIns) : List Nat := (match x.guard with | some g => [g.1] | none => []) ++ zqx x.op
def zhj (x y : AIns) : Bool :=
 (match x.dst with | some d => !(zid y).contains d && y.dst != some d | none => true) && (match y.dst with | some d => !(zid x).contains d | none => true)
def zsx (ops : Array Oper) (b : Array Nat) (l : List AIns) (j : Nat) : Bool :=
 (match ops[j]? with
   | some o => (o.after.all fun e => !Region.binds .any e || decide (e.on < j)) &&
       (List.range l.length).all fun i => !(b.getD j 0).testBit i || o.after.any fun e => Region.binds .any e && (e.on == i || (b.getD e.on 0).testBit i)
   | none => false) &&
 (List.range j).all fun i => (b.getD j 0).testBit i || (match l[i]?, l[j]? with | some x, some y => zhj x y | _, _ => false)
def zqz (ops : Array Oper) (l : List AIns) : Bool := (List.range l.length).all fun j => zsx ops (Region.before ops) l j
def zby : Code → Bool
 | .seq a b => zby a && zby b
 | .cond _ a b => zby a && zby b
 | .block _ c => zby c
 | .loop c => zby c
 | .rangeFunc .. => false
 | _ => true
def zic (a b : Code) : Nat := 1000000 + (if zbn a = 0 then zbn b else zbn a)
def comp (P : Program) (ok : Ok) (keep : Nat → List (Nat × H)) : Code → ACode
 | .skip => .skip
 | .region _ ops draw =>
   if draw then (if zqz ops (ops.toList.map (cins P ok ops)) then .draw (ops.toList.map (cins P ok ops)) (zkj ops (ops.toList.map (cins P ok ops))) else .fail) else .reg (ops.toList.map (cins P ok ops))
 | .seq a b => .seq (comp P ok keep a) (comp P ok keep b)
 | .cond c a b => match copd c with | some c => .cond c (comp P ok keep a) (comp P ok keep b) | none => .fail
 | .block id c => .block id (comp P ok keep c)
 | .loop c => .loop (keep (zbn c)) (comp P ok keep c)
 | .exit id => .exit id
 | .ret => .ret
 | .rangeFunc g ps a b => match copd g with
   | some (.tmp t) =>
     if ((keep (zic a b)).any fun p => p.1 == t) && (ps.toList.all fun d => ok d && !((keep (zic a b)).any fun p => p.1 == d)) && zby a && zby b then
       .rangef t ps.toList (keep (zic a b)) (comp P ⟨fun d => ok d && !((keep (zic a b)).any fun p => p.1 == d), ok.ib⟩ keep a) (comp P ⟨fun d => ok d && !((keep (zic a b)).any fun p => p.1 == d), ok.ib⟩ keep b)
     else .fail
   | _ => .fail
 | _ => .fail
def cres (P : Program) : List ResultVar → Option (List ARes)
 | [] => some []
 | .tmp t :: r => match cres P r with | some l => some (.tmp t :: l) | none => none
 | .cell t ty :: r => match cres P r, szOf P ty, zjo P ty with | some l, some s, some g => if g = true ∨ s = 1 then some (.cell t g s :: l) else none | _, _, _ => none
def ibK (keep : Nat → List (Nat × H)) (d : Nat) : Nat := if (keep 999999).any fun p => p.1 == d then 1 else if (keep 999998).any fun p => p.1 == d then 2 else if (keep 999997).any fun p => p.1 == d then 3 else if (keep 999996).any fun p => p.1 == d then 4 else if (keep 999995).any fun p => p.1 == d then 5 else 0
def zal (P : Program) (keep : Nat → List (Nat × H)) (pm : List PM) (f : Func) : Option AFun :=
 match f.body with
 | some c => match cres P f.results.toList with
   | some l => if f.params.size + f.nfree ≤ f.ntmps ∧ (f.name == "runtime.NumGoroutine") = false then some { nparams := f.params.size + f.nfree, body := comp P ⟨okD f.ntmps pm, ibK keep⟩ keep c, res := l } else none
   | none => none
 | none => none
end Go.Abs
end
section
namespace Go.Abs
structure Gm where
 f : Nat → Nat
 y : Nat
 b : Nat
instance : CoeFun Gm (fun _ => Nat → Nat) := ⟨Gm.f⟩
structure Env where
 w : World
 Z : Nat → Prop
 L : Nat → Option Blk
 N : Nat → Nat
 g : Gm
def Real (b : Blk) : Prop := b.row = false ∨ b.es ≠ []
def Env.X (E : Env) (i : Nat) : Prop := E.Z i ∨ ∃ k b, E.L k = some b ∧ Real b ∧ E.g k = i
def CellsAt (w : World) (X : Nat → Prop) (b off : Nat) (vs : List Value) : Prop := ∀ j v, vs[j]? = some v → w.cell? ⟨b, off + j, none⟩ = some v ∧ ¬ X b
def zay (w : World) (gb n : Nat) : Prop := ∃ arr ty fr, w.heap[gb]? = some (.cells arr ty fr) ∧ n ≤ arr.size
def Head (w : World) (gb : Nat) (b : Blk) (off len : Nat) (A : Option Addr) (c : Nat) : Prop :=
 off + len ≤ b.es.length ∧ b.es.length ≤ off + c ∧ (b.es = [] → c = 0) ∧ (A = none ↔ b.nl = true) ∧ (b.nl = true → b.es = []) ∧
 (b.es ≠ [] → zay w gb ((off + c) * b.sz)) ∧ ((len ≠ 0 ∨ (off = 0 ∧ b.es ≠ [])) → A = some ⟨gb, off * b.sz, none⟩)
mutual
def Rep (E : Env) : AV → Value → Prop
 | .i k n, v => v = .int k n
 | .b c, v => v = .bool c
 | .str l, v => v = .string ⟨l.toArray⟩
 | .nilp, v => v = .pointer none
 | .nilf, v => v = .nilFunc
 | .junk, _ => True
 | .agg cs, v => ∃ a, v = .agg a ∧ ones cs = true ∧ Reps E cs a.toList
 | .tup cs, v => ∃ a, v = .tuple a ∧ Reps E cs a.toList
 | .fn f cs, v => ∃ a, v = .func (.func (real f)) #[] a ∧ Reps E cs a.toList
 | .sl k sz es, v => ∃ A c, v = .slice A es.length c ∧ es.length ≤ c ∧ (k = .nil → A = none ∧ c = 0) ∧ (k ≠ .nil → A ≠ none) ∧ (k = .full → c = es.length) ∧
     flatEs es = true ∧ za2 es = true ∧
     (es ≠ [] → ∃ b off vs, A = some ⟨b, off, none⟩ ∧ CellsAt E.w E.X b off vs ∧ RepEs E sz es vs)
 | .ip cs, v => ∃ b off vs, v = .pointer (some ⟨b, off, none⟩) ∧ flats cs = true ∧ ones cs = true ∧ CellsAt E.w E.X b off vs ∧ Reps E cs vs
 | .ms key ver off len, v => ver < E.N key ∧ ∃ A c, v = .slice A len c ∧ ∀ b, E.L key = some b → b.ver = ver → b.row = true ∧ Head E.w (E.g key) b off len A c
 | .pt key ver el off, v => ver < E.N key ∧ ∃ ad, v = .pointer (some ad) ∧ ∀ b, E.L key = some b → b.ver = ver → (b.row = false → el = 0) ∧ ad = ⟨E.g key, el * b.sz + off, none⟩
 | .mr key ver, v => ver < E.N key ∧ ∃ ad, v = .map (some ad) ∧ ∀ b, E.L key = some b → b.ver = ver → b.row = false → ad = E.g key
 | .ow .., _ => False
 | .bx _, _ => False
 | .om _, _ => False
 | .od .., _ => False
 | .yl, v => v = .func (.yield E.g.y) #[] #[]
 | .yq, _ => False
def Reps (E : Env) : List AV → List Value → Prop
 | [], vs => vs = []
 | a :: r, vs => ∃ v vs', vs = v :: vs' ∧ Rep E a v ∧ Reps E r vs'
def RepEs (E : Env) (sz : Nat) : List (List AV) → List Value → Prop
 | [], vs => vs = []
 | e :: r, vs => ∃ v vs', vs = v ++ vs' ∧ e.length = sz ∧ Reps E e v ∧ RepEs E sz r vs'
end
def MapEs (E : Env) : List (List AV) → List MapEntry → Prop
 | [], l => l = []
 | e :: r, l => ∃ k v m l', e = [k, v] ∧ l = m :: l' ∧ Rep E k m.key ∧ Rep E v m.val ∧ MapEs E r l'
structure ExtR (E E' : Env) : Prop where
 ver : ∀ k, E.N k ≤ E'.N k
 refs : ∀ k b', E'.L k = some b' → b'.ver < E.N k → ∃ b, E.L k = some b ∧ b.ver = b'.ver ∧ b.row = b'.row ∧ E'.g k = E.g k ∧ (b.row = true → b.nl = b'.nl ∧ b.sz = b'.sz ∧ b.es.length = b'.es.length)
 yb : E'.g.y = E.g.y ∧ E'.g.b = E.g.b := by exact ⟨rfl, rfl⟩
structure Ext (E E' : Env) : Prop extends ExtR E E' where
 cells : ∀ b, ¬ E.X b → ∀ off v, E.w.cell? ⟨b, off, none⟩ = some v → E'.w.cell? ⟨b, off, none⟩ = some v ∧ ¬ E'.X b
 sizes : ∀ gb n, zay E.w gb n → zay E'.w gb n
theorem zlj {a b : List (List AV)} (h : a.length = b.length) : a = [] ↔ b = [] := by
 rw [← List.length_eq_zero_iff, ← List.length_eq_zero_iff, h]
theorem CellsAt.ext {E E' : Env} (h : Ext E E') {b off : Nat} {vs : List Value} (hc : CellsAt E.w E.X b off vs) : CellsAt E'.w E'.X b off vs :=
 fun j v hv => h.cells b (hc j v hv).2 _ _ (hc j v hv).1
theorem Head.ext {E E' : Env} (h : Ext E E') {gb : Nat} {b b' : Blk} {off len : Nat} {A : Option Addr} {c : Nat} (hh : Head E.w gb b off len A c)
   (hnl : b.nl = b'.nl) (hsz : b.sz = b'.sz) (hl : b.es.length = b'.es.length) : Head E'.w gb b' off len A c := by
 obtain ⟨h1, h2, h3, h4, h5, h6, h7⟩ := hh
 have he := zlj hl
 refine ⟨by omega, by omega, fun e => h3 (he.2 e), by rw [← hnl]; exact h4, fun e => he.1 (h5 (by rw [hnl]; exact e)), fun e => ?_, fun e => ?_⟩
 · rw [← hsz]; exact h.sizes _ _ (h6 fun x => e (he.1 x))
 · rw [← hsz]; exact h7 (e.imp id fun ⟨x, y⟩ => ⟨x, fun z => y (he.1 z)⟩)
mutual
theorem Rep.ext {E E' : Env} (h : Ext E E') : ∀ (a : AV) (v : Value), Rep E a v → Rep E' a v
 | .i _ _, _, hr => by simpa only [Rep] using hr
 | .b _, _, hr => by simpa only [Rep] using hr
 | .str _, _, hr => by simpa only [Rep] using hr
 | .nilp, _, hr => by simpa only [Rep] using hr
 | .nilf, _, hr => by simpa only [Rep] using hr
 | .junk, _, _ => by simp only [Rep]
 | .agg cs, v, hr => by
   simp only [Rep] at hr ⊢
   obtain ⟨a, h1, h2, h3⟩ := hr
   exact ⟨a, h1, h2, Reps.ext h cs _ h3⟩
 | .tup cs, v, hr => by
   simp only [Rep] at hr ⊢
   obtain ⟨a, h1, h3⟩ := hr
   exact ⟨a, h1, Reps.ext h cs _ h3⟩
 | .fn f cs, v, hr => by
   simp only [Rep] at hr ⊢
   obtain ⟨a, h1, h3⟩ := hr
   exact ⟨a, h1, Reps.ext h cs _ h3⟩
 | .sl k sz es, v, hr => by
   simp only [Rep] at hr ⊢
   obtain ⟨A, c, h1, h2, h3, h4, h5, h6, h7, h8⟩ := hr
   refine ⟨A, c, h1, h2, h3, h4, h5, h6, h7, fun hne => ?_⟩
   obtain ⟨b, off, vs, e1, e2, e3⟩ := h8 hne
   exact ⟨b, off, vs, e1, e2.ext h, RepEs.ext h sz es _ e3⟩
 | .ip cs, v, hr => by
   simp only [Rep] at hr ⊢
   obtain ⟨b, off, vs, h1, h2, h3, h4, h5⟩ := hr
   exact ⟨b, off, vs, h1, h2, h3, h4.ext h, Reps.ext h cs _ h5⟩
 | .ms key ver off len, v, hr => by
   simp only [Rep] at hr ⊢
   obtain ⟨h0, A, c, h1, h2⟩ := hr
   refine ⟨Nat.lt_of_lt_of_le h0 (h.ver key), A, c, h1, fun b' hb hv => ?_⟩
   obtain ⟨b, k1, k2, k3, k4, k5⟩ := h.refs key b' hb (by omega)
   obtain ⟨e1, e2⟩ := h2 b k1 (by omega)
   obtain ⟨f1, f2, f3⟩ := k5 e1
   exact ⟨by rw [← k3]; exact e1, by rw [k4]; exact e2.ext h f1 f2 f3⟩
 | .pt key ver el off, v, hr => by
   simp only [Rep] at hr ⊢
   obtain ⟨h0, ad, h1, h2⟩ := hr
   refine ⟨Nat.lt_of_lt_of_le h0 (h.ver key), ad, h1, fun b' hb hv => ?_⟩
   obtain ⟨b, k1, k2, k3, k4, k5⟩ := h.refs key b' hb (by omega)
   obtain ⟨e1, e2⟩ := h2 b k1 (by omega)
   refine ⟨fun e => e1 (by rw [k3]; exact e), ?_⟩
   rw [e2, k4]
   cases hb' : b.row with
   | true => rw [(k5 hb').2.1]
   | false => rw [e1 hb']; simp
 | .mr key ver, v, hr => by
   simp only [Rep] at hr ⊢
   obtain ⟨h0, ad, h1, h2⟩ := hr
   refine ⟨Nat.lt_of_lt_of_le h0 (h.ver key), ad, h1, fun b' hb hv hrow => ?_⟩
   obtain ⟨b, k1, k2, k3, k4, _⟩ := h.refs key b' hb (by omega)
   rw [k4]
   exact h2 b k1 (by omega) (by rw [k3]; exact hrow)
 | .ow .., _, hr => by simp only [Rep] at hr
 | .bx _, _, hr => by simp only [Rep] at hr
 | .om _, _, hr => by simp only [Rep] at hr
 | .od .., _, hr => by simp only [Rep] at hr
 | .yl, v, hr => by simp only [Rep] at hr ⊢; rw [h.yb.1]; exact hr
 | .yq, _, hr => by simp only [Rep] at hr
theorem Reps.ext {E E' : Env} (h : Ext E E') : ∀ (as : List AV) (vs : List Value), Reps E as vs → Reps E' as vs
 | [], _, hr => by simpa only [Reps] using hr
 | a :: r, vs, hr => by
   simp only [Reps] at hr ⊢
   obtain ⟨v, vs', h1, h2, h3⟩ := hr
   exact ⟨v, vs', h1, Rep.ext h a v h2, Reps.ext h r vs' h3⟩
theorem RepEs.ext {E E' : Env} (h : Ext E E') (sz : Nat) : ∀ (es : List (List AV)) (vs : List Value), RepEs E sz es vs → RepEs E' sz es vs
 | [], _, hr => by simpa only [RepEs] using hr
 | e :: r, vs, hr => by
   simp only [RepEs] at hr ⊢
   obtain ⟨v, vs', h1, h2, h3, h4⟩ := hr
   exact ⟨v, vs', h1, h2, Reps.ext h e v h3, RepEs.ext h sz r vs' h4⟩
end
@[reducible] def Env.imm (w : World) (Y : Nat → Prop) : Env := { w, Z := Y, L := fun _ => none, N := fun _ => 0, g := ⟨fun k => k, 0, 0⟩ }
theorem Env.imm_X (w : World) (Y : Nat → Prop) (i : Nat) : (Env.imm w Y).X i ↔ Y i := by simp [Env.X, Env.imm]
mutual
theorem Rep.flat {E E' : Env} (hw : E'.w = E.w) (hX : ∀ i, E'.X i → E.X i) : ∀ (a : AV) (v : Value), flat a = true → Rep E a v → Rep E' a v
 | .i _ _, _, _, hr => by simpa only [Rep] using hr
 | .b _, _, _, hr => by simpa only [Rep] using hr
 | .str _, _, _, hr => by simpa only [Rep] using hr
 | .nilp, _, _, hr => by simpa only [Rep] using hr
 | .nilf, _, _, hr => by simpa only [Rep] using hr
 | .junk, _, _, _ => by simp only [Rep]
 | .agg cs, v, hf, hr => by
   simp only [Rep] at hr ⊢
   obtain ⟨a, h1, h2, h3⟩ := hr
   exact ⟨a, h1, h2, Reps.flat hw hX cs _ (by simpa only [Abs.flat] using hf) h3⟩
 | .tup cs, v, hf, hr => by
   simp only [Rep] at hr ⊢
   obtain ⟨a, h1, h3⟩ := hr
   exact ⟨a, h1, Reps.flat hw hX cs _ (by simpa only [Abs.flat] using hf) h3⟩
 | .fn f cs, v, hf, hr => by
   simp only [Rep] at hr ⊢
   obtain ⟨a, h1, h3⟩ := hr
   exact ⟨a, h1, Reps.flat hw hX cs _ (by simpa only [Abs.flat] using hf) h3⟩
 | .sl k sz es, v, _, hr => by
   simp only [Rep] at hr ⊢
   obtain ⟨A, c, h1, h2, h3, h4, h5, h6, h7, h8⟩ := hr
   refine ⟨A, c, h1, h2, h3, h4, h5, h6, h7, fun hne => ?_⟩
   obtain ⟨b, off, vs, e1, e2, e3⟩ := h8 hne
   exact ⟨b, off, vs, e1, fun j v hv => by rw [hw]; exact ⟨(e2 j v hv).1, fun hx => (e2 j v hv).2 (hX _ hx)⟩, RepEs.flat hw hX sz es _ h6 e3⟩
 | .ip cs, v, _, hr => by
   simp only [Rep] at hr ⊢
   obtain ⟨b, off, vs, h1, h2, h3, h4, h5⟩ := hr
   exact ⟨b, off, vs, h1, h2, h3, fun j v hv => by rw [hw]; exact ⟨(h4 j v hv).1, fun hx => (h4 j v hv).2 (hX _ hx)⟩, Reps.flat hw hX cs _ h2 h5⟩
 | .ms .., _, hf, _ => by simp [Abs.flat] at hf
 | .pt .., _, hf, _ => by simp [Abs.flat] at hf
 | .mr .., _, hf, _ => by simp [Abs.flat] at hf
 | .ow .., _, _, hr => by simp only [Rep] at hr
 | .bx _, _, _, hr => by simp only [Rep] at hr
 | .om _, _, _, hr => by simp only [Rep] at hr
 | .od .., _, _, hr => by simp only [Rep] at hr
 | .yl, _, hf, _ => by simp [Abs.flat] at hf
 | .yq, _, _, hr => by simp only [Rep] at hr
theorem Reps.flat {E E' : Env} (hw : E'.w = E.w) (hX : ∀ i, E'.X i → E.X i) : ∀ (as : List AV) (vs : List Value), flats as = true → Reps E as vs → Reps E' as vs
 | [], _, _, hr => by simpa only [Reps] using hr
 | a :: r, vs, hf, hr => by
   simp only [Reps] at hr ⊢
   simp only [Abs.flats, Bool.and_eq_true] at hf
   obtain ⟨v, vs', h1, h2, h3⟩ := hr
   exact ⟨v, vs', h1, Rep.flat hw hX a v hf.1 h2, Reps.flat hw hX r vs' hf.2 h3⟩
theorem RepEs.flat {E E' : Env} (hw : E'.w = E.w) (hX : ∀ i, E'.X i → E.X i) (sz : Nat) : ∀ (es : List (List AV)) (vs : List Value), flatEs es = true → RepEs E sz es vs → RepEs E' sz es vs
 | [], _, _, hr => by simpa only [RepEs] using hr
 | e :: r, vs, hf, hr => by
   simp only [RepEs] at hr ⊢
   simp only [Abs.flatEs, Bool.and_eq_true] at hf
   obtain ⟨v, vs', h1, h2, h3, h4⟩ := hr
   exact ⟨v, vs', h1, h2, Reps.flat hw hX e v hf.1 h3, RepEs.flat hw hX sz r vs' hf.2 h4⟩
end
theorem MapEs.ext {E E' : Env} (h : Ext E E') : ∀ {es : List (List AV)} {l : List MapEntry}, MapEs E es l → MapEs E' es l
 | [], _, hr => by simpa only [MapEs] using hr
 | e :: r, l, hr => by
   simp only [MapEs] at hr ⊢
   obtain ⟨k, v, m, l', h1, h2, h3, h4, h5⟩ := hr
   exact ⟨k, v, m, l', h1, h2, h3.ext h, h4.ext h, h5.ext h⟩
theorem MapEs.flat {E E' : Env} (hw : E'.w = E.w) (hX : ∀ i, E'.X i → E.X i) : ∀ {es : List (List AV)} {l : List MapEntry}, flatEs es = true → MapEs E es l → MapEs E' es l
 | [], _, _, hr => by simpa only [MapEs] using hr
 | e :: r, l, hf, hr => by
   simp only [MapEs] at hr ⊢
   simp only [Abs.flatEs, Bool.and_eq_true] at hf
   obtain ⟨k, v, m, l', h1, h2, h3, h4, h5⟩ := hr
   subst h1
   simp only [Abs.flats, Bool.and_eq_true] at hf
   exact ⟨k, v, m, l', rfl, h2, Rep.flat hw hX k _ hf.1.1 h3, Rep.flat hw hX v _ hf.1.2.1 h4, MapEs.flat hw hX hf.2 h5⟩
theorem Reps.length {E : Env} : ∀ {as : List AV} {vs : List Value}, Reps E as vs → vs.length = as.length
 | [], vs, h => by simp only [Reps] at h; subst h; rfl
 | a :: r, vs, h => by
   simp only [Reps] at h
   obtain ⟨v, vs', rfl, _, h3⟩ := h
   simp [Reps.length h3]
theorem RepEs.length {E : Env} {sz : Nat} : ∀ {es : List (List AV)} {vs : List Value}, RepEs E sz es vs → vs.length = es.length * sz
 | [], vs, h => by simp only [RepEs] at h; subst h; simp
 | e :: r, vs, h => by
   simp only [RepEs] at h
   obtain ⟨v, vs', rfl, h2, h3, h4⟩ := h
   simp only [List.length_append, RepEs.length h4, Reps.length h3, h2, List.length_cons, Nat.succ_mul]
   omega
theorem Reps.append {E : Env} : ∀ {as bs : List AV} {vs us : List Value}, Reps E as vs → Reps E bs us → Reps E (as ++ bs) (vs ++ us)
 | [], bs, vs, us, h, k => by simp only [Reps] at h; subst h; simpa using k
 | a :: r, bs, vs, us, h, k => by
   simp only [Reps] at h
   obtain ⟨v, vs', rfl, h2, h3⟩ := h
   simp only [List.cons_append, Reps]
   exact ⟨v, vs' ++ us, rfl, h2, Reps.append h3 k⟩
theorem RepEs.append {E : Env} {sz : Nat} : ∀ {as bs : List (List AV)} {vs us : List Value}, RepEs E sz as vs → RepEs E sz bs us → RepEs E sz (as ++ bs) (vs ++ us)
 | [], bs, vs, us, h, k => by simp only [RepEs] at h; subst h; simpa using k
 | e :: r, bs, vs, us, h, k => by
   simp only [RepEs] at h
   obtain ⟨v, vs', rfl, h2, h3, h4⟩ := h
   simp only [List.cons_append, RepEs, List.append_assoc]
   exact ⟨v, vs' ++ us, rfl, h2, h3, RepEs.append h4 k⟩
theorem Reps.drop {E : Env} : ∀ {as : List AV} {vs : List Value} (n : Nat), Reps E as vs → Reps E (as.drop n) (vs.drop n)
 | _, _, 0, h => by simpa using h
 | [], vs, n + 1, h => by simp only [Reps] at h; subst h; simp [Reps]
 | a :: r, vs, n + 1, h => by
   simp only [Reps] at h
   obtain ⟨v, vs', rfl, h2, h3⟩ := h
   simpa using Reps.drop n h3
theorem Reps.take {E : Env} : ∀ {as : List AV} {vs : List Value} (n : Nat), Reps E as vs → Reps E (as.take n) (vs.take n)
 | _, _, 0, h => by simp [Reps]
 | [], vs, n + 1, h => by simp only [Reps] at h; subst h; simp [Reps]
 | a :: r, vs, n + 1, h => by
   simp only [Reps] at h
   obtain ⟨v, vs', rfl, h2, h3⟩ := h
   simp only [List.take_succ_cons, Reps]
   exact ⟨v, vs'.take n, rfl, h2, Reps.take n h3⟩
theorem RepEs.drop {E : Env} {sz : Nat} : ∀ {es : List (List AV)} {vs : List Value} (n : Nat), RepEs E sz es vs → RepEs E sz (es.drop n) (vs.drop (n * sz))
 | _, _, 0, h => by simpa using h
 | [], vs, n + 1, h => by simp only [RepEs] at h; subst h; simp [RepEs]
 | e :: r, vs, n + 1, h => by
   simp only [RepEs] at h
   obtain ⟨v, vs', rfl, h2, h3, h4⟩ := h
   have hl : v.length = sz := by rw [h3.length, h2]
   have : (v ++ vs').drop ((n + 1) * sz) = vs'.drop (n * sz) := by
     rw [Nat.succ_mul, Nat.add_comm, ← hl, List.drop_append, List.drop_of_length_le (by omega)]
     simp
   rw [this]
   simpa using RepEs.drop n h4
theorem RepEs.take {E : Env} {sz : Nat} : ∀ {es : List (List AV)} {vs : List Value} (n : Nat), RepEs E sz es vs → RepEs E sz (es.take n) (vs.take (n * sz))
 | _, _, 0, h => by simp [RepEs]
 | [], vs, n + 1, h => by simp only [RepEs] at h; subst h; simp [RepEs]
 | e :: r, vs, n + 1, h => by
   simp only [RepEs] at h
   obtain ⟨v, vs', rfl, h2, h3, h4⟩ := h
   have hl : v.length = sz := by rw [h3.length, h2]
   have : (v ++ vs').take ((n + 1) * sz) = v ++ vs'.take (n * sz) := by
     rw [Nat.succ_mul, Nat.add_comm, ← hl, List.take_append, List.take_of_length_le (by omega)]
     simp
   rw [this]
   simp only [List.take_succ_cons, RepEs]
   exact ⟨v, _, rfl, h2, h3, RepEs.take n h4⟩
theorem RepEs.get {E : Env} {sz : Nat} : ∀ {es : List (List AV)} {vs : List Value} {n : Nat} {e : List AV}, RepEs E sz es vs → es[n]? = some e → e.length = sz ∧ Reps E e ((vs.drop (n * sz)).take sz)
 | [], vs, n, e, _, he => by simp at he
 | x :: r, vs, 0, e, h, he => by
   simp only [RepEs] at h
   obtain ⟨v, vs', rfl, h2, h3, h4⟩ := h
   simp at he
   subst he
   have hl : v.length = sz := by rw [h3.length, h2]
   refine ⟨h2, ?_⟩
   rw [Nat.zero_mul, List.drop_zero, ← hl, List.take_left]
   exact h3
 | x :: r, vs, n + 1, e, h, he => by
   simp only [RepEs] at h
   obtain ⟨v, vs', rfl, h2, h3, h4⟩ := h
   have hl : v.length = sz := by rw [h3.length, h2]
   have : (v ++ vs').drop ((n + 1) * sz) = vs'.drop (n * sz) := by
     rw [Nat.succ_mul, Nat.add_comm, ← hl, List.drop_append, List.drop_of_length_le (by omega)]
     simp
   rw [this]
   exact RepEs.get h4 (by simpa using he)
theorem RepEs.replicate {E : Env} {z : List AV} {vs : List Value} (h : Reps E z vs) : ∀ n, RepEs E z.length (List.replicate n z) (List.replicate n vs).flatten
 | 0 => by simp [RepEs]
 | n + 1 => by
   simp only [List.replicate_succ, List.flatten_cons, RepEs]
   exact ⟨vs, _, rfl, trivial, h, RepEs.replicate h n⟩
theorem zi4 : ∀ (a b : List AV), flats (a ++ b) = (flats a && flats b)
 | [], b => by simp [flats]
 | x :: r, b => by simp [flats, zi4 r b, Bool.and_assoc]
theorem zkb : ∀ (a b : List AV), ones (a ++ b) = (ones a && ones b)
 | [], b => by simp [ones]
 | x :: r, b => by simp [ones, zkb r b, Bool.and_assoc]
theorem zc5 : ∀ (a b : List (List AV)), flatEs (a ++ b) = (flatEs a && flatEs b)
 | [], b => by simp [flatEs]
 | x :: r, b => by simp [flatEs, zc5 r b, Bool.and_assoc]
theorem zdk : ∀ (a b : List (List AV)), za2 (a ++ b) = (za2 a && za2 b)
 | [], b => by simp [za2]
 | x :: r, b => by simp [za2, zdk r b, Bool.and_assoc]
theorem zf3 {l : List AV} : flats l = true ↔ ∀ x ∈ l, flat x = true := by
 induction l with
 | nil => simp [flats]
 | cons a r ih => simp [flats, ih]
theorem zdi {l : List AV} : ones l = true ↔ ∀ x ∈ l, oneA x = true := by
 induction l with
 | nil => simp [ones]
 | cons a r ih => simp [ones, ih]
theorem zav {l : List (List AV)} : flatEs l = true ↔ ∀ x ∈ l, flats x = true := by
 induction l with
 | nil => simp [flatEs]
 | cons a r ih => simp [flatEs, ih]
theorem zau {l : List (List AV)} : za2 l = true ↔ ∀ x ∈ l, ones x = true := by
 induction l with
 | nil => simp [za2]
 | cons a r ih => simp [za2, ih]
theorem zgf {l r : List (List AV)} (h : flatEs l = true) (hs : ∀ x ∈ r, x ∈ l) : flatEs r = true := zav.2 fun x hx => zav.1 h x (hs x hx)
theorem zd2 {l r : List (List AV)} (h : za2 l = true) (hs : ∀ x ∈ r, x ∈ l) : za2 r = true := zau.2 fun x hx => zau.1 h x (hs x hx)
theorem zu1 {l r : List AV} (h : flats l = true) (hs : ∀ x ∈ r, x ∈ l) : flats r = true := zf3.2 fun x hx => zf3.1 h x (hs x hx)
theorem zgh {l r : List AV} (h : ones l = true) (hs : ∀ x ∈ r, x ∈ l) : ones r = true := zdi.2 fun x hx => zdi.1 h x (hs x hx)
theorem Rep.oneCell {E : Env} : ∀ {a : AV} {v : Value}, oneA a = true → Rep E a v → v.oneCell' = true := by
 intro a v ho h
 cases a <;> simp only [Rep] at h <;> simp only [oneA, Bool.false_eq_true] at ho
 case i => subst h; rfl
 case b => subst h; rfl
 case str => subst h; rfl
 case nilp => subst h; rfl
 case nilf => subst h; rfl
 case fn => obtain ⟨a, rfl, _⟩ := h; rfl
 case sl => obtain ⟨A, c, rfl, _⟩ := h; rfl
 case ip => obtain ⟨b, off, vs, rfl, _⟩ := h; rfl
 case ms => obtain ⟨_, A, c, rfl, _⟩ := h; rfl
 case pt => obtain ⟨_, ad, rfl, _⟩ := h; rfl
 case mr => obtain ⟨_, ad, rfl, _⟩ := h; rfl
 case yl => subst h; rfl
theorem Reps.oneCell {E : Env} : ∀ {as : List AV} {vs : List Value}, ones as = true → Reps E as vs → ∀ v ∈ vs, v.oneCell' = true
 | [], vs, _, h, v, hv => by simp only [Reps] at h; subst h; simp at hv
 | a :: r, vs, ho, h, v, hv => by
   simp only [Reps] at h
   simp only [ones, Bool.and_eq_true] at ho
   obtain ⟨u, vs', rfl, h2, h3⟩ := h
   rcases List.mem_cons.1 hv with rfl | hv
   · exact Rep.oneCell ho.1 h2
   · exact Reps.oneCell ho.2 h3 v hv
theorem RepEs.oneCell {E : Env} {sz : Nat} : ∀ {es : List (List AV)} {vs : List Value}, za2 es = true → RepEs E sz es vs → ∀ v ∈ vs, v.oneCell' = true
 | [], vs, _, h, v, hv => by simp only [RepEs] at h; subst h; simp at hv
 | e :: r, vs, ho, h, v, hv => by
   simp only [RepEs] at h
   simp only [za2, Bool.and_eq_true] at ho
   obtain ⟨u, vs', rfl, h2, h3, h4⟩ := h
   rcases List.mem_append.1 hv with hv | hv
   · exact Reps.oneCell ho.1 h3 v hv
   · exact RepEs.oneCell ho.2 h4 v hv
theorem Value.cells_oneCell {v : Value} (h : v.oneCell' = true) : v.cells = #[v] := by cases v <;> simp_all [Value.oneCell', Value.cells]
theorem Rep.cells {E : Env} {a : AV} {v : Value} {cs : List AV} (h : Rep E a v) (hc : Abs.cells a = some cs) : ones cs = true ∧ Reps E cs v.cells.toList := by
 by_cases ho : oneA a = true
 · have e : cs = [a] := by cases a <;> simp_all [Abs.cells, oneA]
   subst e
   rw [Value.cells_oneCell (Rep.oneCell ho h)]
   refine ⟨by simp [ones, ho], ?_⟩
   simp only [Reps]
   exact ⟨v, [], rfl, h, rfl⟩
 · cases a <;> simp [oneA] at ho <;> simp [Abs.cells] at hc
   subst hc
   simp only [Rep] at h
   obtain ⟨a, rfl, h2, h3⟩ := h
   exact ⟨h2, h3⟩
end Go.Abs
end
section
namespace Go.Abs
def z4x (E : Env) (gb : Nat) (b : Blk) : Prop :=
 (b.dp = false → flatEs b.es = true) ∧ za2 b.es = true ∧ (b.es ≠ [] → ∃ arr vs rest, E.w.heap[gb]? = some (.cells arr b.ty (0, 0)) ∧ arr.toList = vs ++ rest ∧ RepEs E b.sz b.es vs)
def zx2 (E : Env) (gb : Nat) (b : Blk) : Prop :=
 ∃ cs arr ty, b.es = [cs] ∧ ones cs = true ∧ E.w.heap[gb]? = some (.cells arr ty (0, 0)) ∧ Reps E cs arr.toList
def zyp (E : Env) (gb : Nat) (b : Blk) : Prop :=
 ∃ arr clock, flatEs b.es = true ∧ E.w.heap[gb]? = some (.map arr clock) ∧ MapEs E b.es arr.toList
def BlkRep (E : Env) (gb : Nat) (b : Blk) : Prop := (b.row = true → z4x E gb b) ∧ (b.row = false → b.mp = false → zx2 E gb b) ∧ (b.row = false → b.mp = true → zyp E gb b)
theorem BlkRep.rest {E : Env} {gb : Nat} {b : Blk} (h : b.row = true) : (b.row = false → b.mp = false → zx2 E gb b) ∧ (b.row = false → b.mp = true → zyp E gb b) :=
 ⟨(fun e => by rw [h] at e; cases e), (fun e => by rw [h] at e; cases e)⟩
structure Inv (E : Env) : Prop where
 blk : ∀ k b, E.L k = some b → b.ver < E.N k ∧ BlkRep E (E.g k) b
 dis : ∀ k b, E.L k = some b → Real b → ¬ E.Z (E.g k)
 inj : ∀ k k' b b', E.L k = some b → E.L k' = some b' → Real b → Real b' → E.g k = E.g k' → k = k'
 zlt : ∀ i, E.Z i → i < E.w.heap.size
@[reducible] def Env.of (w : World) (Z : Nat → Prop) (hp : Hp) (g : Gm) : Env := { w, Z, L := look hp, N := zad hp, g }
theorem zas (k : Nat) (b : Blk) (hp : Hp) (t : Nat) : look ((k, .live b) :: hp) t = if t = k then some b else look hp t := rfl
theorem zam (k : Nat) (b : Blk) (hp : Hp) (t : Nat) : zad ((k, .live b) :: hp) t = if t = k then b.ver + 1 else zad hp t := rfl
theorem zbl (k : Nat) (hp : Hp) (t : Nat) : look (drop hp k) t = if t = k then none else look hp t := rfl
theorem zea (k : Nat) (hp : Hp) (t : Nat) : zad (drop hp k) t = zad hp t := by
 show (if t = k then zad hp k else zad hp t) = _
 split
 · rename_i h; rw [h]
 · rfl
theorem za6 {w : World} {i : Nat} {o : Obj} (h : w.heap[i]? = some o) : i < w.heap.size := (Array.getElem?_eq_some_iff.1 h).1
theorem BlkRep.lt {E : Env} {gb : Nat} {b : Blk} (h : BlkRep E gb b) (hr : Real b) : gb < E.w.heap.size := by
 by_cases hb : b.row = true
 · rcases hr with hr | hr
   · rw [hb] at hr; cases hr
   · obtain ⟨arr, vs, rest, h1, _⟩ := (h.1 hb).2.2 hr
     exact za6 h1
 · by_cases hm : b.mp = true
   · obtain ⟨arr, clock, _, h1, _⟩ := h.2.2 (by simpa using hb) hm
     exact za6 h1
   · obtain ⟨cs, arr, ty, _, _, h1, _⟩ := h.2.1 (by simpa using hb) (by simpa using hm)
     exact za6 h1
theorem Inv.lt {E : Env} (h : Inv E) {i : Nat} (hx : E.X i) : i < E.w.heap.size := by
 rcases hx with hx | ⟨k, b, h1, h2, rfl⟩
 · exact h.zlt _ hx
 · exact ((h.blk k b h1).2).lt h2
theorem BlkRep.ext {E E' : Env} (h : Ext E E') {gb : Nat} {b : Blk} (hb : BlkRep E gb b) (hh : Real b → E'.w.heap[gb]? = E.w.heap[gb]?) : BlkRep E' gb b := by
 refine ⟨fun hr => ?_, fun hr hm => ?_, fun hr hm => ?_⟩
 · obtain ⟨h1, h2, h3⟩ := hb.1 hr
   refine ⟨h1, h2, fun hne => ?_⟩
   obtain ⟨arr, vs, rest, k1, k2, k3⟩ := h3 hne
   exact ⟨arr, vs, rest, by rw [hh (.inr hne)]; exact k1, k2, k3.ext h⟩
 · obtain ⟨cs, arr, ty, h1, h2, h3, h4⟩ := hb.2.1 hr hm
   exact ⟨cs, arr, ty, h1, h2, by rw [hh (.inl hr)]; exact h3, h4.ext h⟩
 · obtain ⟨arr, clock, h1, h2, h3⟩ := hb.2.2 hr hm
   exact ⟨arr, clock, h1, by rw [hh (.inl hr)]; exact h2, h3.ext h⟩
theorem Env.less {E E' : Env} (hw : E'.w = E.w) (hZ : ∀ i, E'.Z i → E.Z i) (hN : ∀ k, E.N k ≤ E'.N k) (hg : E'.g = E.g) (hL : ∀ k b, E'.L k = some b → E.L k = some b) :
   Ext E E' ∧ (Inv E → Inv E') ∧ ∀ i, E'.X i → E.X i := by
 have hX : ∀ i, E'.X i → E.X i := by
   rintro i (h | ⟨k, b, h1, h2, h3⟩)
   · exact .inl (hZ i h)
   · exact .inr ⟨k, b, hL k b h1, h2, by rw [← hg]; exact h3⟩
 have hE : Ext E E' := ⟨⟨hN, fun k b' hb _ => ⟨b', hL k b' hb, rfl, rfl, by rw [hg], fun _ => ⟨rfl, rfl, rfl⟩⟩, by rw [hg]; exact ⟨rfl, rfl⟩⟩,
   fun b hb off v hv => ⟨by rw [hw]; exact hv, fun hx => hb (hX _ hx)⟩, fun gb n hs => by rw [hw]; exact hs⟩
 refine ⟨hE, fun hi => ⟨fun k b hb => ?_, fun k b hb hr => ?_, fun k k' b b' h1 h2 h3 h4 h5 => ?_, fun i hi' => by rw [hw]; exact hi.zlt i (hZ i hi')⟩, hX⟩
 · obtain ⟨h1, h2⟩ := hi.blk k b (hL k b hb)
   exact ⟨Nat.lt_of_lt_of_le h1 (hN k), by rw [hg]; exact h2.ext hE fun _ => by rw [hw]⟩
 · rw [hg]; exact fun hz => hi.dis k b (hL k b hb) hr (hZ _ hz)
 · rw [hg] at h5; exact hi.inj k k' b b' (hL _ _ h1) (hL _ _ h2) h3 h4 h5
theorem ze6 (w : World) (Z : Nat → Prop) (hp : Hp) (g : Gm) (k : Nat) :
   Ext (Env.of w Z hp g) (Env.of w Z (drop hp k) g) ∧ (Inv (Env.of w Z hp g) → Inv (Env.of w Z (drop hp k) g)) ∧ ∀ i, (Env.of w Z (drop hp k) g).X i → (Env.of w Z hp g).X i :=
 Env.less rfl (fun _ h => h) (fun t => by simp [Env.of, zea]) rfl (fun t b h => by
   simp only [Env.of, zbl] at h ⊢
   split at h
   · cases h
   · exact h)
theorem zga {w : World} {Z : Nat → Prop} {hp : Hp} {g : Gm} {k : Nat} {b : Blk} (hi : Inv (Env.of w Z hp g)) (hb : look hp k = some b) (hr : Real b) : ¬ (Env.of w Z (drop hp k) g).X (g k) := by
 rintro (h | ⟨k', b', h1, h2, h3⟩)
 · exact hi.dis k b hb hr h
 · simp only [Env.of, zbl] at h1
   split at h1
   · cases h1
   · rename_i hne
     exact hne (hi.inj k' k b' b h1 hb h2 hr h3)
theorem zat {hp : Hp} {k v : Nat} {b : Blk} : zb2 hp k v = some b ↔ look hp k = some b ∧ b.ver = v := by
 simp only [zb2, zaa, zac]
 constructor
 · rintro ⟨a, h1, h2, h3⟩
   injection h3 with h3
   subst h3
   exact ⟨h1, h2⟩
 · rintro ⟨h1, h2⟩
   exact ⟨b, h1, h2, rfl⟩
theorem zkw {es : List (List AV)} {cs : List AV} : only es = some cs ↔ es = [cs] := by
 cases es with
 | nil => simp [only]
 | cons a r => cases r <;> simp [only]
mutual
def RepP (w : World) (Y : Nat → Prop) : AV → Value → List Nat → Prop
 | .ow ty sz nl es, v, F => ∃ A c, v = .slice A es.length c ∧ (A = none ↔ nl = true) ∧ (nl = true → es = []) ∧ flatEs es = true ∧ za2 es = true ∧ (es = [] → F = [] ∧ c = 0) ∧
     (es ≠ [] → ∃ gb arr vs rest, F = [gb] ∧ A = some ⟨gb, 0, none⟩ ∧ w.heap[gb]? = some (.cells arr ty (0, 0)) ∧ arr.toList = vs ++ rest ∧ RepEs (Env.imm w Y) sz es vs ∧ es.length ≤ c ∧ c * sz ≤ arr.size)
 | .bx cs, v, F => ∃ gb arr ty F', v = .pointer (some ⟨gb, 0, none⟩) ∧ F = gb :: F' ∧ ones cs = true ∧ w.heap[gb]? = some (.cells arr ty (0, 0)) ∧ RepPs w Y cs arr.toList F'
 | .agg cs, v, F => ∃ a, v = .agg a ∧ ones cs = true ∧ RepPs w Y cs a.toList F
 | .tup cs, v, F => ∃ a, v = .tuple a ∧ RepPs w Y cs a.toList F
 | .i k n, v, F => F = [] ∧ Rep (Env.imm w Y) (.i k n) v
 | .b c, v, F => F = [] ∧ Rep (Env.imm w Y) (.b c) v
 | .str l, v, F => F = [] ∧ Rep (Env.imm w Y) (.str l) v
 | .sl k sz es, v, F => F = [] ∧ Rep (Env.imm w Y) (.sl k sz es) v
 | .ip cs, v, F => F = [] ∧ Rep (Env.imm w Y) (.ip cs) v
 | .fn f cs, v, F => F = [] ∧ flats cs = true ∧ Rep (Env.imm w Y) (.fn f cs) v
 | .nilp, v, F => F = [] ∧ Rep (Env.imm w Y) .nilp v
 | .nilf, v, F => F = [] ∧ Rep (Env.imm w Y) .nilf v
 | .junk, _, F => F = []
 | .ms .., _, _ => False
 | .pt .., _, _ => False
 | .mr .., _, _ => False
 | .yl, _, _ => False
 | .yq, _, _ => False
 | .om es, v, F => ∃ gb arr clock, v = .map (some gb) ∧ F = [gb] ∧ flatEs es = true ∧ w.heap[gb]? = some (.map arr clock) ∧ MapEs (Env.imm w Y) es arr.toList
 | .od ty sz nl es, v, F => ∃ A c, v = .slice A es.length c ∧ (A = none ↔ nl = true) ∧ (nl = true → es = []) ∧ za2 es = true ∧ (es = [] → F = [] ∧ c = 0) ∧
     (es ≠ [] → ∃ gb arr vs rest F', F = gb :: F' ∧ A = some ⟨gb, 0, none⟩ ∧ w.heap[gb]? = some (.cells arr ty (0, 0)) ∧ arr.toList = vs ++ rest ∧ RepPEs w Y sz es vs F' ∧ es.length ≤ c ∧ c * sz ≤ arr.size)
def RepPs (w : World) (Y : Nat → Prop) : List AV → List Value → List Nat → Prop
 | [], vs, F => vs = [] ∧ F = []
 | a :: r, vs, F => ∃ v vs' F1 F2, vs = v :: vs' ∧ F = F1 ++ F2 ∧ RepP w Y a v F1 ∧ RepPs w Y r vs' F2
def RepPEs (w : World) (Y : Nat → Prop) (sz : Nat) : List (List AV) → List Value → List Nat → Prop
 | [], vs, F => vs = [] ∧ F = []
 | e :: r, vs, F => ∃ v vs' F1 F2, vs = v ++ vs' ∧ F = F1 ++ F2 ∧ e.length = sz ∧ RepPs w Y e v F1 ∧ RepPEs w Y sz r vs' F2
end
theorem Rep.imm {w w' : World} {Y Y' : Nat → Prop} {a : AV} {v : Value} (_hf : Abs.flat a = true) (h : Rep (Env.imm w Y) a v)
   (hc : ∀ b, ¬ Y b → ∀ off u, w.cell? ⟨b, off, none⟩ = some u → w'.cell? ⟨b, off, none⟩ = some u ∧ ¬ Y' b) (hs : ∀ gb n, zay w gb n → zay w' gb n) : Rep (Env.imm w' Y') a v := by
 refine Rep.ext (E := Env.imm w Y) (E' := Env.imm w' Y') ⟨⟨fun _ => Nat.le_refl _, fun k b' hb _ => (by cases hb), ⟨rfl, rfl⟩⟩, fun b hb off u hu => ?_, hs⟩ a v h
 rw [Env.imm_X] at hb
 rw [Env.imm_X]
 exact hc b hb off u hu
theorem RepEs.imm {w w' : World} {Y Y' : Nat → Prop} {sz : Nat} {es : List (List AV)} {vs : List Value} (h : RepEs (Env.imm w Y) sz es vs)
   (hc : ∀ b, ¬ Y b → ∀ off u, w.cell? ⟨b, off, none⟩ = some u → w'.cell? ⟨b, off, none⟩ = some u ∧ ¬ Y' b) (hs : ∀ gb n, zay w gb n → zay w' gb n) : RepEs (Env.imm w' Y') sz es vs := by
 refine RepEs.ext (E := Env.imm w Y) (E' := Env.imm w' Y') ⟨⟨fun _ => Nat.le_refl _, fun k b' hb _ => (by cases hb), ⟨rfl, rfl⟩⟩, fun b hb off u hu => ?_, hs⟩ sz es vs h
 rw [Env.imm_X] at hb
 rw [Env.imm_X]
 exact hc b hb off u hu
theorem MapEs.imm {w w' : World} {Y Y' : Nat → Prop} {es : List (List AV)} {l : List MapEntry} (h : MapEs (Env.imm w Y) es l)
   (hc : ∀ b, ¬ Y b → ∀ off u, w.cell? ⟨b, off, none⟩ = some u → w'.cell? ⟨b, off, none⟩ = some u ∧ ¬ Y' b) (hs : ∀ gb n, zay w gb n → zay w' gb n) : MapEs (Env.imm w' Y') es l := by
 refine MapEs.ext (E := Env.imm w Y) (E' := Env.imm w' Y') ⟨⟨fun _ => Nat.le_refl _, fun k b' hb _ => (by cases hb), ⟨rfl, rfl⟩⟩, fun b hb off u hu => ?_, hs⟩ h
 rw [Env.imm_X] at hb
 rw [Env.imm_X]
 exact hc b hb off u hu
mutual
theorem RepP.keep {w w' : World} {Y Y' : Nat → Prop} (hc : ∀ b, ¬ Y b → ∀ off u, w.cell? ⟨b, off, none⟩ = some u → w'.cell? ⟨b, off, none⟩ = some u ∧ ¬ Y' b) (hs : ∀ gb n, zay w gb n → zay w' gb n) :
   ∀ (a : AV) (v : Value) (F : List Nat), (∀ i ∈ F, w'.heap[i]? = w.heap[i]?) → RepP w Y a v F → RepP w' Y' a v F
 | .ow ty sz nl es, v, F, hF, h => by
   simp only [RepP] at h ⊢
   obtain ⟨A, c, h1, h2, h3, h4, h5, h6, h7⟩ := h
   refine ⟨A, c, h1, h2, h3, h4, h5, h6, fun hne => ?_⟩
   obtain ⟨gb, arr, vs, rest, k1, k2, k3, k4, k5, k6, k7⟩ := h7 hne
   exact ⟨gb, arr, vs, rest, k1, k2, by rw [hF gb (by simp [k1])]; exact k3, k4, k5.imm hc hs, k6, k7⟩
 | .bx cs, v, F, hF, h => by
   simp only [RepP] at h ⊢
   obtain ⟨gb, arr, ty, F', h1, h2, h3, h4, h5⟩ := h
   exact ⟨gb, arr, ty, F', h1, h2, h3, by rw [hF gb (by simp [h2])]; exact h4, RepPs.keep hc hs cs _ F' (fun i hi => hF i (by simp [h2, hi])) h5⟩
 | .agg cs, v, F, hF, h => by
   simp only [RepP] at h ⊢
   obtain ⟨a, h1, h2, h3⟩ := h
   exact ⟨a, h1, h2, RepPs.keep hc hs cs _ F hF h3⟩
 | .tup cs, v, F, hF, h => by
   simp only [RepP] at h ⊢
   obtain ⟨a, h1, h3⟩ := h
   exact ⟨a, h1, RepPs.keep hc hs cs _ F hF h3⟩
 | .i .., _, _, _, h => by simp only [RepP] at h ⊢; exact ⟨h.1, h.2.imm rfl hc hs⟩
 | .b _, _, _, _, h => by simp only [RepP] at h ⊢; exact ⟨h.1, h.2.imm rfl hc hs⟩
 | .str _, _, _, _, h => by simp only [RepP] at h ⊢; exact ⟨h.1, h.2.imm rfl hc hs⟩
 | .sl .., _, _, _, h => by simp only [RepP] at h ⊢; exact ⟨h.1, h.2.imm rfl hc hs⟩
 | .ip _, _, _, _, h => by simp only [RepP] at h ⊢; exact ⟨h.1, h.2.imm rfl hc hs⟩
 | .fn .., _, _, _, h => by simp only [RepP] at h ⊢; exact ⟨h.1, h.2.1, h.2.2.imm h.2.1 hc hs⟩
 | .nilp, _, _, _, h => by simp only [RepP] at h ⊢; exact ⟨h.1, h.2.imm rfl hc hs⟩
 | .nilf, _, _, _, h => by simp only [RepP] at h ⊢; exact ⟨h.1, h.2.imm rfl hc hs⟩
 | .junk, _, _, _, h => by simp only [RepP] at h ⊢; exact h
 | .ms .., _, _, _, h => by simp only [RepP] at h
 | .pt .., _, _, _, h => by simp only [RepP] at h
 | .mr .., _, _, _, h => by simp only [RepP] at h
 | .yl, _, _, _, h => by simp only [RepP] at h
 | .yq, _, _, _, h => by simp only [RepP] at h
 | .om es, v, F, hF, h => by
   simp only [RepP] at h ⊢
   obtain ⟨gb, arr, clock, h1, h2, h3, h4, h5⟩ := h
   exact ⟨gb, arr, clock, h1, h2, h3, by rw [hF gb (by simp [h2])]; exact h4, h5.imm hc hs⟩
 | .od ty sz nl es, v, F, hF, h => by
   simp only [RepP] at h ⊢
   obtain ⟨A, c, h1, h2, h3, h5, h6, h7⟩ := h
   refine ⟨A, c, h1, h2, h3, h5, h6, fun hne => ?_⟩
   obtain ⟨gb, arr, vs, rest, F', k1, k2, k3, k4, k5, k6, k7⟩ := h7 hne
   exact ⟨gb, arr, vs, rest, F', k1, k2, by rw [hF gb (by simp [k1])]; exact k3, k4, RepPEs.keep hc hs sz es vs F' (fun i hi => hF i (by simp [k1, hi])) k5, k6, k7⟩
theorem RepPs.keep {w w' : World} {Y Y' : Nat → Prop} (hc : ∀ b, ¬ Y b → ∀ off u, w.cell? ⟨b, off, none⟩ = some u → w'.cell? ⟨b, off, none⟩ = some u ∧ ¬ Y' b) (hs : ∀ gb n, zay w gb n → zay w' gb n) :
   ∀ (as : List AV) (vs : List Value) (F : List Nat), (∀ i ∈ F, w'.heap[i]? = w.heap[i]?) → RepPs w Y as vs F → RepPs w' Y' as vs F
 | [], _, _, _, h => by simp only [RepPs] at h ⊢; exact h
 | a :: r, vs, F, hF, h => by
   simp only [RepPs] at h ⊢
   obtain ⟨v, vs', F1, F2, h1, h2, h3, h4⟩ := h
   exact ⟨v, vs', F1, F2, h1, h2, RepP.keep hc hs a v F1 (fun i hi => hF i (by simp [h2, hi])) h3, RepPs.keep hc hs r vs' F2 (fun i hi => hF i (by simp [h2, hi])) h4⟩
theorem RepPEs.keep {w w' : World} {Y Y' : Nat → Prop} (hc : ∀ b, ¬ Y b → ∀ off u, w.cell? ⟨b, off, none⟩ = some u → w'.cell? ⟨b, off, none⟩ = some u ∧ ¬ Y' b) (hs : ∀ gb n, zay w gb n → zay w' gb n) (sz : Nat) :
   ∀ (es : List (List AV)) (vs : List Value) (F : List Nat), (∀ i ∈ F, w'.heap[i]? = w.heap[i]?) → RepPEs w Y sz es vs F → RepPEs w' Y' sz es vs F
 | [], _, _, _, h => by simp only [RepPEs] at h ⊢; exact h
 | e :: r, vs, F, hF, h => by
   simp only [RepPEs] at h ⊢
   obtain ⟨v, vs', F1, F2, h1, h2, h0, h3, h4⟩ := h
   exact ⟨v, vs', F1, F2, h1, h2, h0, RepPs.keep hc hs e v F1 (fun i hi => hF i (by simp [h2, hi])) h3, RepPEs.keep hc hs sz r vs' F2 (fun i hi => hF i (by simp [h2, hi])) h4⟩
end
theorem RepP.less {w : World} {Y Y' : Nat → Prop} (hY : ∀ i, Y' i → Y i) {a : AV} {v : Value} {F : List Nat} (h : RepP w Y a v F) : RepP w Y' a v F :=
 RepP.keep (fun _ hb _ _ hu => ⟨hu, fun h => hb (hY _ h)⟩) (fun _ _ h => h) a v F (fun _ _ => rfl) h
theorem RepPs.less {w : World} {Y Y' : Nat → Prop} (hY : ∀ i, Y' i → Y i) {as : List AV} {vs : List Value} {F : List Nat} (h : RepPs w Y as vs F) : RepPs w Y' as vs F :=
 RepPs.keep (fun _ hb _ _ hu => ⟨hu, fun h => hb (hY _ h)⟩) (fun _ _ h => h) as vs F (fun _ _ => rfl) h
mutual
theorem RepP.of_flat {w : World} {Y : Nat → Prop} : ∀ (a : AV) (v : Value), flat a = true → Rep (Env.imm w Y) a v → RepP w Y a v []
 | .ow .., _, hf, _ => by simp [flat] at hf
 | .bx _, _, hf, _ => by simp [flat] at hf
 | .ms .., _, hf, _ => by simp [flat] at hf
 | .pt .., _, hf, _ => by simp [flat] at hf
 | .mr .., _, hf, _ => by simp [flat] at hf
 | .yl, _, hf, _ => by simp [flat] at hf
 | .yq, _, hf, _ => by simp [flat] at hf
 | .om _, _, hf, _ => by simp [flat] at hf
 | .od .., _, hf, _ => by simp [flat] at hf
 | .agg cs, v, hf, h => by
   simp only [Rep, RepP] at h ⊢
   obtain ⟨a, h1, h2, h3⟩ := h
   exact ⟨a, h1, h2, RepPs.of_flat cs _ (by simpa only [flat] using hf) h3⟩
 | .tup cs, v, hf, h => by
   simp only [Rep, RepP] at h ⊢
   obtain ⟨a, h1, h3⟩ := h
   exact ⟨a, h1, RepPs.of_flat cs _ (by simpa only [flat] using hf) h3⟩
 | .fn f cs, v, hf, h => by simp only [RepP]; exact ⟨trivial, by simpa only [flat] using hf, h⟩
 | .i .., _, _, h => by simp only [RepP]; exact ⟨trivial, h⟩
 | .b _, _, _, h => by simp only [RepP]; exact ⟨trivial, h⟩
 | .str _, _, _, h => by simp only [RepP]; exact ⟨trivial, h⟩
 | .sl .., _, _, h => by simp only [RepP]; exact ⟨trivial, h⟩
 | .ip _, _, _, h => by simp only [RepP]; exact ⟨trivial, h⟩
 | .nilp, _, _, h => by simp only [RepP]; exact ⟨trivial, h⟩
 | .nilf, _, _, h => by simp only [RepP]; exact ⟨trivial, h⟩
 | .junk, _, _, _ => by simp only [RepP]
theorem RepPs.of_flat {w : World} {Y : Nat → Prop} : ∀ (as : List AV) (vs : List Value), flats as = true → Reps (Env.imm w Y) as vs → RepPs w Y as vs []
 | [], _, _, h => by simp only [Reps, RepPs] at h ⊢; exact ⟨h, trivial⟩
 | a :: r, vs, hf, h => by
   simp only [Reps, RepPs] at h ⊢
   simp only [flats, Bool.and_eq_true] at hf
   obtain ⟨v, vs', h1, h2, h3⟩ := h
   exact ⟨v, vs', [], [], h1, rfl, RepP.of_flat a v hf.1 h2, RepPs.of_flat r vs' hf.2 h3⟩
end
theorem RepPs.length {w : World} {Y : Nat → Prop} : ∀ {as : List AV} {vs : List Value} {F : List Nat}, RepPs w Y as vs F → vs.length = as.length
 | [], vs, F, h => by simp only [RepPs] at h; rw [h.1]; rfl
 | a :: r, vs, F, h => by
   simp only [RepPs] at h
   obtain ⟨v, vs', F1, F2, rfl, _, _, h4⟩ := h
   simp [RepPs.length h4]
mutual
theorem RepP.mem {w : World} {Y : Nat → Prop} : ∀ (a : AV) (v : Value) (F : List Nat), RepP w Y a v F → ∀ i ∈ F, i < w.heap.size
 | .ow ty sz nl es, v, F, h, i, hi => by
   simp only [RepP] at h
   obtain ⟨A, c, _, _, _, _, _, h6, h7⟩ := h
   by_cases hne : es = []
   · rw [(h6 hne).1] at hi; simp at hi
   · obtain ⟨gb, arr, vs, rest, k1, _, k3, _⟩ := h7 hne
     rw [k1] at hi
     simp at hi
     subst hi
     exact za6 k3
 | .bx cs, v, F, h, i, hi => by
   simp only [RepP] at h
   obtain ⟨gb, arr, ty, F', _, h2, _, h4, h5⟩ := h
   rw [h2] at hi
   rcases List.mem_cons.1 hi with rfl | hi
   · exact za6 h4
   · exact RepPs.mem cs _ F' h5 i hi
 | .agg cs, v, F, h, i, hi => by
   simp only [RepP] at h
   obtain ⟨a, _, _, h3⟩ := h
   exact RepPs.mem cs _ F h3 i hi
 | .tup cs, v, F, h, i, hi => by
   simp only [RepP] at h
   obtain ⟨a, _, h3⟩ := h
   exact RepPs.mem cs _ F h3 i hi
 | .fn .., _, F, h, i, hi => by simp only [RepP] at h; rw [h.1] at hi; simp at hi
 | .i .., _, F, h, i, hi => by simp only [RepP] at h; rw [h.1] at hi; simp at hi
 | .b _, _, F, h, i, hi => by simp only [RepP] at h; rw [h.1] at hi; simp at hi
 | .str _, _, F, h, i, hi => by simp only [RepP] at h; rw [h.1] at hi; simp at hi
 | .sl .., _, F, h, i, hi => by simp only [RepP] at h; rw [h.1] at hi; simp at hi
 | .ip _, _, F, h, i, hi => by simp only [RepP] at h; rw [h.1] at hi; simp at hi
 | .nilp, _, F, h, i, hi => by simp only [RepP] at h; rw [h.1] at hi; simp at hi
 | .nilf, _, F, h, i, hi => by simp only [RepP] at h; rw [h.1] at hi; simp at hi
 | .junk, _, F, h, i, hi => by simp only [RepP] at h; rw [h] at hi; simp at hi
 | .ms .., _, _, h, _, _ => by simp only [RepP] at h
 | .pt .., _, _, h, _, _ => by simp only [RepP] at h
 | .mr .., _, _, h, _, _ => by simp only [RepP] at h
 | .yl, _, _, h, _, _ => by simp only [RepP] at h
 | .yq, _, _, h, _, _ => by simp only [RepP] at h
 | .om es, v, F, h, i, hi => by
   simp only [RepP] at h
   obtain ⟨gb, arr, clock, _, h2, _, h4, _⟩ := h
   rw [h2] at hi
   simp at hi
   subst hi
   exact za6 h4
 | .od ty sz nl es, v, F, h, i, hi => by
   simp only [RepP] at h
   obtain ⟨A, c, _, _, _, _, h6, h7⟩ := h
   by_cases hne : es = []
   · rw [(h6 hne).1] at hi; simp at hi
   · obtain ⟨gb, arr, vs, rest, F', k1, _, k3, _, k5, _⟩ := h7 hne
     rw [k1] at hi
     rcases List.mem_cons.1 hi with rfl | hi
     · exact za6 k3
     · exact RepPEs.mem sz es _ F' k5 i hi
theorem RepPs.mem {w : World} {Y : Nat → Prop} : ∀ (as : List AV) (vs : List Value) (F : List Nat), RepPs w Y as vs F → ∀ i ∈ F, i < w.heap.size
 | [], _, F, h, i, hi => by simp only [RepPs] at h; rw [h.2] at hi; simp at hi
 | a :: r, vs, F, h, i, hi => by
   simp only [RepPs] at h
   obtain ⟨v, vs', F1, F2, _, rfl, h3, h4⟩ := h
   rcases List.mem_append.1 hi with hi | hi
   · exact RepP.mem a v F1 h3 i hi
   · exact RepPs.mem r vs' F2 h4 i hi
theorem RepPEs.mem {w : World} {Y : Nat → Prop} (sz : Nat) : ∀ (es : List (List AV)) (vs : List Value) (F : List Nat), RepPEs w Y sz es vs F → ∀ i ∈ F, i < w.heap.size
 | [], _, F, h => by simp only [RepPEs] at h; rw [h.2] at *; simp
 | e :: r, vs, F, h => by
   simp only [RepPEs] at h
   obtain ⟨v, vs', F1, F2, _, rfl, _, h3, h4⟩ := h
   intro i hi
   rcases List.mem_append.1 hi with hi | hi
   · exact RepPs.mem e v F1 h3 i hi
   · exact RepPEs.mem sz r vs' F2 h4 i hi
end
end Go.Abs
end
section
namespace Go.Abs
def Env.but (E : Env) (ks : List Nat) (i : Nat) : Prop := E.X i ∧ ∀ k ∈ ks, ∀ b, E.L k = some b → Real b → E.g k ≠ i
theorem Env.but_mono {E : Env} {ks ks' : List Nat} (h : ∀ k ∈ ks, k ∈ ks') {i : Nat} (hi : E.but ks' i) : E.but ks i := ⟨hi.1, fun k hk => hi.2 k (h k hk)⟩
theorem Env.but_X {E : Env} {ks : List Nat} {i : Nat} (hi : (Env.imm E.w (E.but ks)).X i) : E.X i := ((Env.imm_X _ _ _).1 hi).1
theorem zq6 {c : Bool} : skOf c = .nil ↔ c = true := by cases c <;> simp [skOf]
theorem zuc {c : Bool} : skOf c ≠ .full := by cases c <;> simp [skOf]
theorem zbg {α : Type} {l : List α} {n m : Nat} {x : α} (h : x ∈ (l.drop n).take m) : x ∈ l := List.mem_of_mem_drop (List.mem_of_mem_take h)
theorem Rep.row_sl {E : Env} (hi : Inv E) {key ver off len : Nat} {v : Value} {b : Blk} (h : Rep E (.ms key ver off len) v) (hb : E.L key = some b) (hv : b.ver = ver) (hr : b.row = true) (hl : off + len ≤ b.es.length)
   (Y : Nat → Prop) (hne : Real b → ¬ Y (E.g key)) (es' : List (List AV)) (hlen : es'.length = len) (hf : flatEs es' = true) (ho : za2 es' = true)
   (hrep : ∀ vs, RepEs E b.sz ((b.es.drop off).take len) vs → RepEs (Env.imm E.w Y) b.sz es' vs) : Rep (Env.imm E.w Y) (.sl (skOf b.nl) b.sz es') v := by
 simp only [Rep] at h ⊢
 obtain ⟨_, A, c, rfl, h2⟩ := h
 obtain ⟨_, hh1, hh2, hh3, hh4, hh5, hh6, hh7⟩ := h2 b hb hv
 obtain ⟨r1, r2, r3⟩ := (hi.blk key b hb).2.1 hr
 refine ⟨A, c, by rw [hlen], by omega, fun e => ?_, fun e => ?_, fun e => absurd e zuc, hf, ho, fun e => ?_⟩
 · have := zq6.1 e
   exact ⟨hh4.2 this, hh3 (hh5 this)⟩
 · intro hA
   exact e (zq6.2 (hh4.1 hA))
 · have hln : len ≠ 0 := by rintro rfl; exact e (List.length_eq_zero_iff.1 hlen)
   have hes : b.es ≠ [] := by rintro e2; rw [e2] at hl; simp at hl; omega
   obtain ⟨arr, vs, rest, k1, k2, k3⟩ := r3 hes
   refine ⟨E.g key, off * b.sz, (vs.drop (off * b.sz)).take (len * b.sz), hh7 (.inl hln), fun j u hu => ⟨?_, ?_⟩, ?_⟩
   · show E.w.cell? _ = _
     rw [cell_of_row _ _ _ arr b.ty (0, 0) k1]
     rw [List.getElem?_take] at hu
     split at hu
     · rw [List.getElem?_drop] at hu
       have hlt := (List.getElem?_eq_some_iff.1 hu).1
       rw [← Array.getElem?_toList, k2, List.getElem?_append_left hlt]
       exact hu
     · cases hu
   · rw [Env.imm_X]; exact hne (.inr hes)
   · exact hrep _ ((k3.drop off).take len)
theorem Rep.row_read {E : Env} (hi : Inv E) {key ver off len : Nat} {v : Value} {b : Blk} (h : Rep E (.ms key ver off len) v) (hb : E.L key = some b) (hv : b.ver = ver) (hr : b.row = true) (hd : b.dp = false) (hl : off + len ≤ b.es.length)
   (Y : Nat → Prop) (hY : ∀ i, Y i → E.X i) (hne : Real b → ¬ Y (E.g key)) : Rep (Env.imm E.w Y) (.sl (skOf b.nl) b.sz ((b.es.drop off).take len)) v := by
 obtain ⟨r1, r2, r3⟩ := (hi.blk key b hb).2.1 hr
 have hf := zgf (r1 hd) fun x hx => zbg (n := off) (m := len) hx
 refine h.row_sl hi hb hv hr hl Y hne _ (by rw [List.length_take, List.length_drop]; omega) hf (zd2 r2 fun x hx => zbg hx) fun vs hvs => ?_
 exact RepEs.flat (E := E) (E' := Env.imm E.w Y) rfl (fun i hi => hY i ((Env.imm_X _ _ _).1 hi)) _ _ _ hf hvs
theorem Rep.but_less {E : Env} {ks ks' : List Nat} (h : ∀ k ∈ ks, k ∈ ks') {a : AV} {v : Value} (hf : Abs.flat a = true) (hr : Rep (Env.imm E.w (E.but ks)) a v) : Rep (Env.imm E.w (E.but ks')) a v :=
 Rep.flat (E := Env.imm E.w (E.but ks)) (E' := Env.imm E.w (E.but ks')) rfl (fun _ hi => (Env.imm_X _ _ _).2 (Env.but_mono h ((Env.imm_X _ _ _).1 hi))) _ _ hf hr
theorem Reps.but_less {E : Env} {ks ks' : List Nat} (h : ∀ k ∈ ks, k ∈ ks') {a : List AV} {v : List Value} (hf : Abs.flats a = true) (hr : Reps (Env.imm E.w (E.but ks)) a v) : Reps (Env.imm E.w (E.but ks')) a v :=
 Reps.flat (E := Env.imm E.w (E.but ks)) (E' := Env.imm E.w (E.but ks')) rfl (fun _ hi => (Env.imm_X _ _ _).2 (Env.but_mono h ((Env.imm_X _ _ _).1 hi))) _ _ hf hr
theorem zek {E : Env} (f : AV → Option (AV × List Nat))
   (hf : ∀ a v a' ks, f a = some (a', ks) → Rep E a v → flat a' = true ∧ (oneA a = true → oneA a' = true) ∧ Rep (Env.imm E.w (E.but ks)) a' v) :
   ∀ (as : List AV) (vs : List Value) (as' : List AV) (ks : List Nat), zbm f as = some (as', ks) → Reps E as vs → flats as' = true ∧ (ones as = true → ones as' = true) ∧ Reps (Env.imm E.w (E.but ks)) as' vs
 | [], vs, as', ks, h, hr => by
   simp only [zbm, Option.some.injEq, Prod.mk.injEq] at h
   obtain ⟨rfl, rfl⟩ := h
   simp only [Reps] at hr ⊢
   exact ⟨rfl, fun h => h, hr⟩
 | a :: r, vs, as', ks, h, hr => by
   simp only [zbm, zaa, Option.some.injEq, Prod.mk.injEq] at h
   obtain ⟨⟨a1, k1⟩, h1, ⟨r1, k2⟩, h2, rfl, rfl⟩ := h
   simp only [Reps] at hr
   obtain ⟨v, vs', rfl, hv, hvs⟩ := hr
   obtain ⟨p1, p2, p3⟩ := hf a v a1 k1 h1 hv
   obtain ⟨q1, q2, q3⟩ := zek f hf r vs' r1 k2 h2 hvs
   refine ⟨by simp [flats, p1, q1], fun ho => ?_, ?_⟩
   · simp only [ones, Bool.and_eq_true] at ho ⊢
     exact ⟨p2 ho.1, q2 ho.2⟩
   · simp only [Reps]
     refine ⟨v, vs', rfl, ?_, ?_⟩
     · exact Rep.but_less (fun k hk => by simp [hk]) p1 p3
     · exact Reps.but_less (fun k hk => by simp [hk]) q1 q3
theorem RepEs.but_less {E : Env} {ks ks' : List Nat} (h : ∀ k ∈ ks, k ∈ ks') {sz : Nat} {es : List (List AV)} {vs : List Value} (hf : Abs.flatEs es = true) (hr : RepEs (Env.imm E.w (E.but ks)) sz es vs) : RepEs (Env.imm E.w (E.but ks')) sz es vs :=
 RepEs.flat (E := Env.imm E.w (E.but ks)) (E' := Env.imm E.w (E.but ks')) rfl (fun _ hi => (Env.imm_X _ _ _).2 (Env.but_mono h ((Env.imm_X _ _ _).1 hi))) _ _ _ hf hr
theorem zix {E : Env} (f : AV → Option (AV × List Nat))
   (hf : ∀ a v a' ks, f a = some (a', ks) → Rep E a v → flat a' = true ∧ (oneA a = true → oneA a' = true) ∧ Rep (Env.imm E.w (E.but ks)) a' v) {sz : Nat} :
   ∀ (es : List (List AV)) (vs : List Value) (es' : List (List AV)) (ks : List Nat), zb3 f es = some (es', ks) → RepEs E sz es vs →
     flatEs es' = true ∧ (za2 es = true → za2 es' = true) ∧ es'.length = es.length ∧ RepEs (Env.imm E.w (E.but ks)) sz es' vs
 | [], vs, es', ks, h, hr => by
   simp only [zb3, Option.some.injEq, Prod.mk.injEq] at h
   obtain ⟨rfl, rfl⟩ := h
   refine ⟨rfl, fun h => h, rfl, ?_⟩
   simp only [RepEs] at hr ⊢
   exact hr
 | e :: r, vs, es', ks, h, hr => by
   simp only [zb3, zaa, Option.some.injEq, Prod.mk.injEq] at h
   obtain ⟨⟨e1, k1⟩, h1, ⟨r1, k2⟩, h2, rfl, rfl⟩ := h
   simp only [RepEs] at hr
   obtain ⟨v, vs', rfl, hl, hv, hvs⟩ := hr
   obtain ⟨p1, p2, p3⟩ := zek f hf e v e1 k1 h1 hv
   obtain ⟨q1, q2, q3, q4⟩ := zix f hf r vs' r1 k2 h2 hvs
   refine ⟨by simp [flatEs, p1, q1], fun ho => ?_, by simp [q3], ?_⟩
   · simp only [za2, Bool.and_eq_true] at ho ⊢
     exact ⟨p2 ho.1, q2 ho.2⟩
   · simp only [RepEs]
     exact ⟨v, vs', rfl, by rw [← hl, ← hv.length, ← p3.length], Reps.but_less (fun k hk => by simp [hk]) p1 p3, RepEs.but_less (fun k hk => by simp [hk]) q1 q4⟩
theorem zvc {w : World} {Z : Nat → Prop} {hp : Hp} {g : Gm} (hi : Inv (Env.of w Z hp g)) : ∀ (n : Nat) (a : AV) (v : Value) (a' : AV) (ks : List Nat), snap hp n a = some (a', ks) → Rep (Env.of w Z hp g) a v →
   flat a' = true ∧ (oneA a = true → oneA a' = true) ∧ Rep (Env.imm w ((Env.of w Z hp g).but ks)) a' v := by
 intro n
 induction n with
 | zero => intro a v a' ks h; simp [snap] at h
 | succ n ih =>
   intro a v a' ks h hr
   cases a with
   | ms key ver off len =>
     simp only [snap, zaa, zac, zat, Option.some.injEq, Prod.mk.injEq] at h
     obtain ⟨b, ⟨hb, hv⟩, ⟨hrow, hl⟩, h⟩ := h
     cases hd : b.dp with
     | false =>
       simp only [hd, zbk, Option.some.injEq, Prod.mk.injEq] at h
       obtain ⟨rfl, rfl⟩ := h
       refine ⟨rfl, fun _ => rfl, hr.row_read hi hb hv hrow hd hl _ (fun i h => h.1) fun hreal h => ?_⟩
       exact h.2 key (by simp) b hb hreal rfl
     | true =>
       simp only [hd, zbu, zaa, Option.some.injEq, Prod.mk.injEq] at h
       obtain ⟨⟨es', ks'⟩, hm, rfl, rfl⟩ := h
       obtain ⟨r1, r2, r3⟩ := (hi.blk key b hb).2.1 hrow
       have hlen0 : ((b.es.drop off).take len).length = len := by rw [List.length_take, List.length_drop]; omega
       have hmm : ∀ vs, RepEs (Env.of w Z hp g) b.sz ((b.es.drop off).take len) vs → _ := fun vs hvs => zix (E := Env.of w Z hp g) (snap hp n) (fun a v a' ks h hr => ih a v a' ks h hr) _ vs _ _ hm hvs
       by_cases hz : len = 0
       · subst hz
         rw [List.take_zero] at hm
         simp only [zb3, Option.some.injEq, Prod.mk.injEq] at hm
         obtain ⟨rfl, rfl⟩ := hm
         refine ⟨rfl, fun _ => rfl, hr.row_sl hi hb hv hrow hl _ (fun hreal h => h.2 key (by simp) b hb hreal rfl) [] rfl rfl rfl fun vs hvs => ?_⟩
         rw [List.take_zero] at hvs
         simp only [RepEs] at hvs ⊢
         exact hvs
       · have hes : b.es ≠ [] := by intro e2; rw [e2] at hl; simp at hl; omega
         obtain ⟨arr, vs, rest, k1, k2, k3⟩ := r3 hes
         obtain ⟨q1, q2, q3, q4⟩ := hmm _ ((k3.drop off).take len)
         refine ⟨rfl, fun _ => rfl, hr.row_sl hi hb hv hrow hl _ (fun hreal h => h.2 key (by simp) b hb hreal rfl) es' (by rw [q3, hlen0]) q1 (q2 (zd2 r2 fun x hx => zbg hx)) fun vs hvs => ?_⟩
         exact RepEs.but_less (E := Env.of w Z hp g) (fun k hk => by simp [hk]) q1 (hmm vs hvs).2.2.2
   | pt key ver el off =>
     simp only [snap, zaa, zac, zat, zkw, Option.some.injEq, Prod.mk.injEq] at h
     obtain ⟨b, ⟨hb, hv⟩, ⟨hrow, hmp, rfl⟩, cs, hes, ⟨cs', ks'⟩, hm, rfl, rfl⟩ := h
     obtain ⟨cs2, arr, ty, e1, e2, e3, e4⟩ := (hi.blk key b hb).2.2.1 hrow hmp
     rw [hes] at e1
     simp only [List.cons.injEq, and_true] at e1
     subst e1
     obtain ⟨p1, p2, p3⟩ := zek (E := Env.of w Z hp g) (snap hp n) (fun a v a' ks h hr => ih a v a' ks h hr) _ _ _ _ hm (e4.drop off)
     simp only [Rep] at hr
     obtain ⟨_, ad, rfl, hpt⟩ := hr
     obtain ⟨_, rfl⟩ := hpt b hb hv
     have ho := p2 (zgh e2 fun x hx => List.mem_of_mem_drop hx)
     refine ⟨rfl, fun _ => rfl, ?_⟩
     simp only [Rep]
     refine ⟨g key, off, arr.toList.drop off, by simp [Env.of], p1, ho, fun j u hu => ⟨?_, ?_⟩, ?_⟩
     · show w.cell? _ = _
       rw [cell_of_row _ _ _ arr ty (0, 0) e3, ← Array.getElem?_toList]
       rw [List.getElem?_drop] at hu
       exact hu
     · rw [Env.imm_X]
       exact fun h => h.2 key (by simp) b hb (.inl hrow) rfl
     · exact Reps.but_less (E := Env.of w Z hp g) (fun k hk => by simp [hk]) p1 p3
   | agg cs =>
     simp only [snap, zaa, Option.some.injEq, Prod.mk.injEq] at h
     obtain ⟨⟨cs', ks'⟩, hm, rfl, rfl⟩ := h
     simp only [Rep] at hr ⊢
     obtain ⟨x, rfl, ho, hcs⟩ := hr
     obtain ⟨p1, p2, p3⟩ := zek (E := Env.of w Z hp g) (snap hp n) (fun a v a' ks h hr => ih a v a' ks h hr) _ _ _ _ hm hcs
     exact ⟨by simpa [flat] using p1, fun h => by simp [oneA] at h, x, rfl, p2 ho, p3⟩
   | tup cs =>
     simp only [snap, zaa, Option.some.injEq, Prod.mk.injEq] at h
     obtain ⟨⟨cs', ks'⟩, hm, rfl, rfl⟩ := h
     simp only [Rep] at hr ⊢
     obtain ⟨x, rfl, hcs⟩ := hr
     obtain ⟨p1, p2, p3⟩ := zek (E := Env.of w Z hp g) (snap hp n) (fun a v a' ks h hr => ih a v a' ks h hr) _ _ _ _ hm hcs
     exact ⟨by simpa [flat] using p1, fun h => by simp [oneA] at h, x, rfl, p3⟩
   | fn f cs =>
     simp only [snap, zaa, Option.some.injEq, Prod.mk.injEq] at h
     obtain ⟨⟨cs', ks'⟩, hm, rfl, rfl⟩ := h
     simp only [Rep] at hr ⊢
     obtain ⟨x, rfl, hcs⟩ := hr
     obtain ⟨p1, p2, p3⟩ := zek (E := Env.of w Z hp g) (snap hp n) (fun a v a' ks h hr => ih a v a' ks h hr) _ _ _ _ hm hcs
     exact ⟨by simpa [flat] using p1, fun _ => rfl, x, rfl, p3⟩
   | ow _ _ _ _ => simp [snap] at h
   | bx _ => simp [snap] at h
   | mr _ _ => simp [snap] at h
   | om _ => simp [snap] at h
   | od _ _ _ _ => simp [snap] at h
   | yl => simp [snap] at h
   | yq => simp [snap] at h
   | _ =>
     simp only [snap, Option.some.injEq, Prod.mk.injEq] at h
     obtain ⟨rfl, rfl⟩ := h
     exact ⟨rfl, fun h => h, Rep.flat (E := Env.of w Z hp g) (E' := Env.imm w ((Env.of w Z hp g).but [])) rfl (fun i hi => Env.but_X (E := Env.of w Z hp g) hi) _ _ rfl hr⟩
end Go.Abs
end
section
set_option linter.unusedSimpArgs false
namespace Go.Abs
def Zp (Z : Nat → Prop) (F : List Nat) (i : Nat) : Prop := Z i ∨ i ∈ F
structure PackOk (w : World) (Z : Nat → Prop) (g : Gm) (hp hp' : Hp) (F : List Nat) : Prop where
 ext : Ext (Env.of w Z hp g) (Env.of w Z hp' g)
 inv : Inv (Env.of w Z hp' g)
 less : ∀ i, (Env.of w Z hp' g).X i → (Env.of w Z hp g).X i
 nd : F.Nodup
 out : ∀ i ∈ F, (Env.of w Z hp g).X i ∧ ¬ Z i ∧ ¬ (Env.of w Z hp' g).X i
 vers : ∀ k, zad hp' k = zad hp k
 sub : ∀ k b, look hp' k = some b → look hp k = some b
theorem X_Zp {w : World} {Z : Nat → Prop} {hp : Hp} {g : Gm} {F : List Nat} {i : Nat} : (Env.of w (Zp Z F) hp g).X i ↔ (Env.of w Z hp g).X i ∨ i ∈ F := by
 simp only [Env.X, Zp]
 constructor
 · rintro ((h | h) | h)
   · exact .inl (.inl h)
   · exact .inr h
   · exact .inl (.inr h)
 · rintro ((h | h) | h)
   · exact .inl (.inl h)
   · exact .inr h
   · exact .inl (.inr h)
theorem PackOk.refl {w : World} {Z : Nat → Prop} {g : Gm} {hp : Hp} (hi : Inv (Env.of w Z hp g)) : PackOk w Z g hp hp [] :=
 ⟨⟨⟨fun _ => Nat.le_refl _, fun k b' hb _ => ⟨b', hb, rfl, rfl, rfl, fun _ => ⟨rfl, rfl, rfl⟩⟩, ⟨rfl, rfl⟩⟩, fun _ hb _ _ hu => ⟨hu, hb⟩, fun _ _ h => h⟩, hi, fun _ h => h, List.nodup_nil, fun _ h => by simp at h, fun _ => rfl, fun _ _ h => h⟩
theorem Ext.trans {A B C : Env} (h : Ext A B) (k : Ext B C) : Ext A C := by
 refine ⟨⟨fun t => Nat.le_trans (h.ver t) (k.ver t), fun t b' hb hv => ?_, ⟨k.yb.1.trans h.yb.1, k.yb.2.trans h.yb.2⟩⟩, fun b hb off v hv => ?_, fun gb n hs => k.sizes _ _ (h.sizes _ _ hs)⟩
 · obtain ⟨b1, e1, e2, e3, e4, e5⟩ := k.refs t b' hb (Nat.lt_of_lt_of_le hv (h.ver t))
   obtain ⟨b0, f1, f2, f3, f4, f5⟩ := h.refs t b1 e1 (by omega)
   refine ⟨b0, f1, by omega, f3.trans e3, e4.trans f4, fun hr => ?_⟩
   obtain ⟨x1, x2, x3⟩ := f5 hr
   obtain ⟨y1, y2, y3⟩ := e5 (by rw [← f3]; exact hr)
   exact ⟨x1.trans y1, x2.trans y2, x3.trans y3⟩
 · obtain ⟨e1, e2⟩ := h.cells b hb off v hv
   exact k.cells b e2 off v e1
theorem PackOk.trans {w : World} {Z : Nat → Prop} {g : Gm} {hp hp1 hp2 : Hp} {F1 F2 : List Nat} (h : PackOk w Z g hp hp1 F1) (k : PackOk w (Zp Z F1) g hp1 hp2 F2) : PackOk w Z g hp hp2 (F1 ++ F2) := by
 have hX2 : ∀ i, (Env.of w Z hp2 g).X i → (Env.of w Z hp1 g).X i := by
   rintro i (hz | ⟨t, b, h1, h2, h3⟩)
   · exact .inl hz
   · exact .inr ⟨t, b, k.sub t b h1, h2, h3⟩
 have hF2 : ∀ i ∈ F2, (Env.of w Z hp1 g).X i := by
   intro i hi
   obtain ⟨k1, k2, k3⟩ := k.out i hi
   rcases X_Zp.1 k1 with hx | hx
   · exact hx
   · exact absurd (.inr hx) k2
 have hl := Env.less (E := Env.of w Z hp1 g) (E' := Env.of w Z hp2 g) rfl (fun _ h => h) (fun t => by simp [k.vers t]) rfl k.sub
 refine ⟨h.ext.trans hl.1, hl.2.1 h.inv, fun i hi => h.less i (hX2 i hi), ?_, ?_, fun t => (k.vers t).trans (h.vers t), fun t b hb => h.sub t b (k.sub t b hb)⟩
 · rw [List.nodup_append]
   refine ⟨h.nd, k.nd, fun a ha b hb e => ?_⟩
   subst e
   exact (h.out a ha).2.2 (hF2 a hb)
 · intro i hi
   rcases List.mem_append.1 hi with hi | hi
   · obtain ⟨a, b, c⟩ := h.out i hi
     exact ⟨a, b, fun hx => c (hX2 i hx)⟩
   · obtain ⟨a, b, c⟩ := k.out i hi
     exact ⟨h.less i (hF2 i hi), fun hz => b (.inl hz), fun hx => c (X_Zp.2 (.inl hx))⟩
theorem PackOk.others {w : World} {Z : Nat → Prop} {g : Gm} {hp hp1 : Hp} {F1 : List Nat} (h : PackOk w Z g hp hp1 F1) (hi : Inv (Env.of w Z hp g)) : Ext (Env.of w Z hp g) (Env.of w (Zp Z F1) hp1 g) ∧ Inv (Env.of w (Zp Z F1) hp1 g) := by
 refine ⟨⟨⟨fun k => h.ext.ver k, fun k b' hb hv => h.ext.refs k b' hb hv, h.ext.yb⟩, fun b hb off v hv => ?_, h.ext.sizes⟩, ⟨fun k b hb => ?_, fun k b hb hr => ?_, h.inv.inj, ?_⟩⟩
 · obtain ⟨e1, e2⟩ := h.ext.cells b hb off v hv
   refine ⟨e1, fun hx => ?_⟩
   rcases X_Zp.1 hx with hx | hx
   · exact e2 hx
   · exact hb (h.out b hx).1
 · obtain ⟨e1, e2⟩ := h.inv.blk k b hb
   refine ⟨e1, ?_⟩
   have h0 := (hi.blk k b (h.sub k b hb)).2
   refine BlkRep.ext (E := Env.of w Z hp g) (E' := Env.of w (Zp Z F1) hp1 g) ?_ h0 (fun _ => rfl)
   refine ⟨⟨fun k => h.ext.ver k, fun k b' hb hv => h.ext.refs k b' hb hv, h.ext.yb⟩, fun b hb off v hv => ?_, h.ext.sizes⟩
   obtain ⟨e1, e2⟩ := h.ext.cells b hb off v hv
   refine ⟨e1, fun hx => ?_⟩
   rcases X_Zp.1 hx with hx | hx
   · exact e2 hx
   · exact hb (h.out b hx).1
 · rintro (hz | hz)
   · exact h.inv.dis k b hb hr hz
   · exact (h.out _ hz).2.2 (.inr ⟨k, b, hb, hr, rfl⟩)
 · rintro i (hz | hz)
   · exact h.inv.zlt i hz
   · exact hi.lt (h.out i hz).1
mutual
theorem RepP.to_flat {w : World} {Y : Nat → Prop} : ∀ (a : AV) (v : Value) (F : List Nat), flat a = true → RepP w Y a v F → Rep (Env.imm w Y) a v ∧ F = []
 | .ow .., _, _, hf, _ => by simp [flat] at hf
 | .bx _, _, _, hf, _ => by simp [flat] at hf
 | .ms .., _, _, hf, _ => by simp [flat] at hf
 | .yl, _, _, hf, _ => by simp [flat] at hf
 | .yq, _, _, hf, _ => by simp [flat] at hf
 | .pt .., _, _, hf, _ => by simp [flat] at hf
 | .agg cs, v, F, hf, h => by
   simp only [Rep, RepP] at h ⊢
   obtain ⟨a, h1, h2, h3⟩ := h
   obtain ⟨e1, e2⟩ := RepPs.to_flat cs _ F (by simpa only [flat] using hf) h3
   exact ⟨⟨a, h1, h2, e1⟩, e2⟩
 | .tup cs, v, F, hf, h => by
   simp only [Rep, RepP] at h ⊢
   obtain ⟨a, h1, h3⟩ := h
   obtain ⟨e1, e2⟩ := RepPs.to_flat cs _ F (by simpa only [flat] using hf) h3
   exact ⟨⟨a, h1, e1⟩, e2⟩
 | .fn f cs, v, F, _, h => by simp only [RepP] at h; exact ⟨h.2.2, h.1⟩
 | .i .., _, _, _, h => by simp only [RepP] at h; exact ⟨h.2, h.1⟩
 | .b _, _, _, _, h => by simp only [RepP] at h; exact ⟨h.2, h.1⟩
 | .str _, _, _, _, h => by simp only [RepP] at h; exact ⟨h.2, h.1⟩
 | .sl .., _, _, _, h => by simp only [RepP] at h; exact ⟨h.2, h.1⟩
 | .ip _, _, _, _, h => by simp only [RepP] at h; exact ⟨h.2, h.1⟩
 | .nilp, _, _, _, h => by simp only [RepP] at h; exact ⟨h.2, h.1⟩
 | .nilf, _, _, _, h => by simp only [RepP] at h; exact ⟨h.2, h.1⟩
 | .junk, _, _, _, h => by simp only [RepP] at h; exact ⟨by simp only [Rep], h⟩
 | .od .., _, _, hf, _ => by simp [flat] at hf
theorem RepPs.to_flat {w : World} {Y : Nat → Prop} : ∀ (as : List AV) (vs : List Value) (F : List Nat), flats as = true → RepPs w Y as vs F → Reps (Env.imm w Y) as vs ∧ F = []
 | [], _, _, _, h => by simp only [Reps, RepPs] at h ⊢; exact h
 | a :: r, vs, F, hf, h => by
   simp only [Reps, RepPs] at h ⊢
   simp only [flats, Bool.and_eq_true] at hf
   obtain ⟨v, vs', F1, F2, h1, h2, h3, h4⟩ := h
   obtain ⟨e1, e2⟩ := RepP.to_flat a v F1 hf.1 h3
   obtain ⟨e3, e4⟩ := RepPs.to_flat r vs' F2 hf.2 h4
   exact ⟨⟨v, vs', h1, e1, e3⟩, by rw [h2, e2, e4]; rfl⟩
theorem RepPEs.to_flat {w : World} {Y : Nat → Prop} {sz : Nat} : ∀ (es : List (List AV)) (vs : List Value) (F : List Nat), flatEs es = true → RepPEs w Y sz es vs F → RepEs (Env.imm w Y) sz es vs ∧ F = []
 | [], _, _, _, h => by simp only [RepEs, RepPEs] at h ⊢; exact h
 | e :: r, vs, F, hf, h => by
   simp only [RepEs, RepPEs] at h ⊢
   simp only [flatEs, Bool.and_eq_true] at hf
   obtain ⟨v, vs', F1, F2, h1, h2, h0, h3, h4⟩ := h
   obtain ⟨e1, e2⟩ := RepPs.to_flat e v F1 hf.1 h3
   obtain ⟨e3, e4⟩ := RepPEs.to_flat r vs' F2 hf.2 h4
   exact ⟨⟨v, vs', h1, h0, e1, e3⟩, by rw [h2, e2, e4]; rfl⟩
end
theorem RepPEs.less {w : World} {Y Y' : Nat → Prop} (hY : ∀ i, Y' i → Y i) {sz : Nat} {es : List (List AV)} {vs : List Value} {F : List Nat} (h : RepPEs w Y sz es vs F) : RepPEs w Y' sz es vs F :=
 RepPEs.keep (fun _ hb _ _ hu => ⟨hu, fun h => hb (hY _ h)⟩) (fun _ _ h => h) sz es vs F (fun _ _ => rfl) h
def YF (w : World) (Z : Nat → Prop) (hp : Hp) (g : Gm) (F : List Nat) (i : Nat) : Prop := (Env.of w Z hp g).X i ∨ i ∈ F
def zng (w : World) (g : Gm) (own : Bool) (f : H → AV → Hp → Option (AV × List Nat × Hp)) : Prop :=
 ∀ (Z : Nat → Prop) h a v hp a' ks hp', f h a hp = some (a', ks, hp') → Inv (Env.of w Z hp g) → Rep (Env.of w Z hp g) a v →
   ∃ F, PackOk w Z g hp hp' F ∧ RepP w (YF w Z hp' g F) a' v F ∧ (oneA a = true → oneA a' = true) ∧ (own = false → flat a' = true)
theorem zej {w : World} {g : Gm} {own : Bool} {f : H → AV → Hp → Option (AV × List Nat × Hp)} (hf : zng w g own f) :
   ∀ (as : List AV) (hs : List H) (Z : Nat → Prop) (vs : List Value) (hp : Hp) (as' : List AV) (ks : List Nat) (hp' : Hp), zax f hs as hp = some (as', ks, hp') → Inv (Env.of w Z hp g) → Reps (Env.of w Z hp g) as vs →
   ∃ F, PackOk w Z g hp hp' F ∧ RepPs w (YF w Z hp' g F) as' vs F ∧ (ones as = true → ones as' = true) ∧ (own = false → flats as' = true)
 | [], hs, Z, vs, hp, as', ks, hp', h, hi, hr => by
   have e : zax f hs [] hp = some ([], [], hp) := by unfold zax; rfl
   rw [e] at h
   simp only [Option.some.injEq, Prod.mk.injEq] at h
   obtain ⟨rfl, rfl, rfl⟩ := h
   refine ⟨[], PackOk.refl hi, ?_, fun h => h, fun _ => rfl⟩
   simp only [Reps] at hr
   simp only [RepPs]
   exact ⟨hr, trivial⟩
 | a :: r, hs, Z, vs, hp, as', ks, hp', h, hi, hr => by
   simp only [zax, zaa, Option.some.injEq, Prod.mk.injEq] at h
   obtain ⟨⟨a1, k1, hp1⟩, h1, ⟨r1, k2, hp2⟩, h2, rfl, rfl, rfl⟩ := h
   simp only [Reps] at hr
   obtain ⟨v, vs', rfl, hv, hvs⟩ := hr
   obtain ⟨F1, p1, p2, p3, p4⟩ := hf Z _ a v hp a1 k1 hp1 h1 hi hv
   obtain ⟨hE, hI⟩ := p1.others hi
   obtain ⟨F2, q1, q2, q3, q4⟩ := zej hf r hs.tail (Zp Z F1) vs' hp1 r1 k2 hp2 h2 hI (hvs.ext hE)
   refine ⟨F1 ++ F2, p1.trans q1, ?_, fun ho => ?_, fun ho => ?_⟩
   · simp only [RepPs]
     refine ⟨v, vs', F1, F2, rfl, rfl, p2.less fun i hi' => ?_, q2.less fun i hi' => ?_⟩
     · rcases hi' with hx | hx
       · left
         rcases hx with hz | ⟨t, b, h1, h2, h3⟩
         · exact .inl hz
         · exact .inr ⟨t, b, q1.sub t b h1, h2, h3⟩
       · rcases List.mem_append.1 hx with hx | hx
         · exact .inr hx
         · left
           rcases X_Zp.1 (q1.out i hx).1 with hx' | hx'
           · exact hx'
           · exact absurd (.inr hx') (q1.out i hx).2.1
     · rcases hi' with hx | hx
       · exact .inl (X_Zp.2 (.inl hx))
       · rcases List.mem_append.1 hx with hx | hx
         · exact .inl (X_Zp.2 (.inr hx))
         · exact .inr hx
   · simp only [ones, Bool.and_eq_true] at ho ⊢
     exact ⟨p3 ho.1, q3 ho.2⟩
   · simp only [flats, p4 ho, q4 ho, Bool.and_true]
theorem zf0 {w : World} {g : Gm} {own : Bool} {f : H → AV → Hp → Option (AV × List Nat × Hp)} (hf : zng w g own f) {sz : Nat} :
   ∀ (es : List (List AV)) (Z : Nat → Prop) (vs : List Value) (hp : Hp) (es' : List (List AV)) (ks : List Nat) (hp' : Hp), zaf f es hp = some (es', ks, hp') → Inv (Env.of w Z hp g) → RepEs (Env.of w Z hp g) sz es vs →
   ∃ F, PackOk w Z g hp hp' F ∧ RepPEs w (YF w Z hp' g F) sz es' vs F ∧ (za2 es = true → za2 es' = true) ∧ (own = false → flatEs es' = true) ∧ es'.length = es.length
 | [], Z, vs, hp, es', ks, hp', h, hi, hr => by
   simp only [zaf, Option.some.injEq, Prod.mk.injEq] at h
   obtain ⟨rfl, rfl, rfl⟩ := h
   refine ⟨[], PackOk.refl hi, ?_, fun h => h, fun _ => rfl, rfl⟩
   simp only [RepEs] at hr
   simp only [RepPEs]
   exact ⟨hr, trivial⟩
 | e :: r, Z, vs, hp, es', ks, hp', h, hi, hr => by
   simp only [zaf, zaa, Option.some.injEq, Prod.mk.injEq] at h
   obtain ⟨⟨a1, k1, hp1⟩, h1, ⟨r1, k2, hp2⟩, h2, rfl, rfl, rfl⟩ := h
   simp only [RepEs] at hr
   obtain ⟨v, vs', rfl, h0, hv, hvs⟩ := hr
   obtain ⟨F1, p1, p2, p3, p4⟩ := zej hf e [] Z v hp a1 k1 hp1 h1 hi hv
   obtain ⟨hE, hI⟩ := p1.others hi
   obtain ⟨F2, q1, q2, q3, q4, q5⟩ := zf0 hf r (Zp Z F1) vs' hp1 r1 k2 hp2 h2 hI (hvs.ext hE)
   refine ⟨F1 ++ F2, p1.trans q1, ?_, fun ho => ?_, fun ho => ?_, by simp [q5]⟩
   · simp only [RepPEs]
     refine ⟨v, vs', F1, F2, rfl, rfl, by rw [← h0, ← hv.length, ← p2.length], p2.less fun i hi' => ?_, q2.less fun i hi' => ?_⟩
     · rcases hi' with hx | hx
       · left
         rcases hx with hz | ⟨t, b, h1, h2, h3⟩
         · exact .inl hz
         · exact .inr ⟨t, b, q1.sub t b h1, h2, h3⟩
       · rcases List.mem_append.1 hx with hx | hx
         · exact .inr hx
         · left
           rcases X_Zp.1 (q1.out i hx).1 with hx' | hx'
           · exact hx'
           · exact absurd (.inr hx') (q1.out i hx).2.1
     · rcases hi' with hx | hx
       · exact .inl (X_Zp.2 (.inl hx))
       · rcases List.mem_append.1 hx with hx | hx
         · exact .inl (X_Zp.2 (.inr hx))
         · exact .inr hx
   · simp only [za2, Bool.and_eq_true] at ho ⊢
     exact ⟨p3 ho.1, q3 ho.2⟩
   · simp only [flatEs, p4 ho, q4 ho, Bool.and_true]
theorem PackOk.one {w : World} {Z : Nat → Prop} {g : Gm} {hp : Hp} {k : Nat} {b : Blk} (hi : Inv (Env.of w Z hp g)) (hb : look hp k = some b) (hr : Real b) : PackOk w Z g hp (drop hp k) [g k] := by
 obtain ⟨h1, h2, h3⟩ := ze6 w Z hp g k
 refine ⟨h1, h2 hi, h3, by simp, fun i hi' => ?_, zea k hp, fun t b' hb' => ?_⟩
 · simp at hi'
   subst hi'
   exact ⟨.inr ⟨k, b, hb, hr, rfl⟩, hi.dis k b hb hr, zga hi hb hr⟩
 · rw [zbl] at hb'
   split at hb'
   · cases hb'
   · exact hb'
theorem PackOk.none {w : World} {Z : Nat → Prop} {g : Gm} {hp : Hp} (k : Nat) (hi : Inv (Env.of w Z hp g)) : PackOk w Z g hp (drop hp k) [] := by
 obtain ⟨h1, h2, h3⟩ := ze6 w Z hp g k
 refine ⟨h1, h2 hi, h3, by simp, fun i hi' => by simp at hi', zea k hp, fun t b' hb' => ?_⟩
 rw [zbl] at hb'
 split at hb'
 · cases hb'
 · exact hb'
theorem zfa {w : World} {g : Gm} : ∀ (n : Nat) (own : Bool), zng w g own (pack own n) := by
 intro n
 induction n with
 | zero => intro own Z h a v hp a' ks hp' e; simp [pack] at e
 | succ n ih =>
   intro own Z h a v hp a' ks hp' e hi hr
   cases a with
   | ms key ver off len =>
     simp only [pack, zaa, zac, zat, Option.some.injEq, Prod.mk.injEq] at e
     obtain ⟨b, ⟨hb, hv⟩, ⟨hrow, hl⟩, e⟩ := e
     cases hd : b.dp with
     | false =>
       simp only [hd, zbk, Option.some.injEq, Prod.mk.injEq] at e
       obtain ⟨rfl, rfl, rfl⟩ := e
       by_cases hc : own = true ∧ off = 0 ∧ len = b.es.length
       · rw [if_pos hc]
         obtain ⟨rfl, rfl, rfl⟩ := hc
         have hr' := hr
         simp only [Rep] at hr'
         obtain ⟨_, A, c, rfl, h2⟩ := hr'
         obtain ⟨_, hh1, hh2, hh3, hh4, hh5, hh6, hh7⟩ := h2 b hb hv
         obtain ⟨r1, r2, r3⟩ := (hi.blk key b hb).2.1 hrow
         have r1 := r1 hd
         by_cases hes : b.es = []
         · refine ⟨[], PackOk.none key hi, ?_, fun _ => rfl, fun h => by cases h⟩
           simp only [RepP]
           exact ⟨A, c, rfl, hh4, hh5, r1, r2, fun _ => ⟨trivial, hh3 hes⟩, fun h => absurd hes h⟩
         · refine ⟨[g key], PackOk.one hi hb (.inr hes), ?_, fun _ => rfl, fun h => by cases h⟩
           simp only [RepP]
           obtain ⟨arr, vs, rest, k1, k2, k3⟩ := r3 hes
           refine ⟨A, c, rfl, hh4, hh5, r1, r2, fun h => absurd h hes, fun _ => ⟨g key, arr, vs, rest, rfl, ?_, k1, k2, ?_, by omega, ?_⟩⟩
           · have := hh7 (.inr ⟨rfl, hes⟩)
             simpa using this
           · refine RepEs.flat (E := Env.of w Z hp g) (E' := Env.imm w _) rfl (fun i hi' => ?_) _ _ _ r1 k3
             rcases (Env.imm_X _ _ _).1 hi' with hx | hx
             · exact (ze6 w Z hp g key).2.2 i hx
             · simp at hx
               subst hx
               exact .inr ⟨key, b, hb, .inr hes, rfl⟩
           · obtain ⟨arr', ty', fr', x1, x2⟩ := hh6 hes
             rw [k1] at x1
             simp only [Option.some.injEq, Obj.cells.injEq] at x1
             rw [x1.1]
             simpa using x2
       · rw [if_neg hc]
         refine ⟨[], PackOk.none key hi, ?_, fun _ => rfl, fun _ => rfl⟩
         simp only [RepP]
         refine ⟨trivial, Rep.row_read hi hr hb hv hrow hd hl _ (fun i h => ?_) fun hreal h => ?_⟩
         · rcases h with h | h
           · exact (ze6 w Z hp g key).2.2 i h
           · simp at h
         · rcases h with h | h
           · exact zga hi hb hreal h
           · simp at h
     | true =>
       simp only [hd, zbu] at e
       obtain ⟨r1, r2, r3⟩ := (hi.blk key b hb).2.1 hrow
       cases hc : (own && decide (off = 0 ∧ len = b.es.length)) with
       | true =>
         simp only [Bool.and_eq_true, decide_eq_true_eq] at hc
         obtain ⟨rfl, rfl, rfl⟩ := hc
         simp only [Bool.true_and, and_self, decide_true, zbu, zaa, Option.some.injEq, Prod.mk.injEq] at e
         obtain ⟨⟨es', ks', hp2⟩, hm, rfl, rfl, rfl⟩ := e
         have hr' := hr
         simp only [Rep] at hr'
         obtain ⟨_, A, c, rfl, h2⟩ := hr'
         obtain ⟨_, hh1, hh2, hh3, hh4, hh5, hh6, hh7⟩ := h2 b hb hv
         by_cases hes : b.es = []
         · rw [hes] at hm
           simp only [zaf, Option.some.injEq, Prod.mk.injEq] at hm
           obtain ⟨rfl, rfl, rfl⟩ := hm
           refine ⟨[], PackOk.none key hi, ?_, fun _ => rfl, fun h => by cases h⟩
           simp only [RepP]
           exact ⟨A, c, by rw [hes], hh4, by simp, by simp [za2], fun _ => ⟨trivial, hh3 hes⟩, by simp⟩
         · obtain ⟨arr, vs, rest, k1, k2, k3⟩ := r3 hes
           have p1 := PackOk.one hi hb (.inr hes)
           obtain ⟨hE, hI⟩ := p1.others hi
           obtain ⟨F, q1, q2, q3, q4, q5⟩ := zf0 (ih true) b.es (Zp Z [g key]) vs (drop hp key) es' ks' hp2 hm hI (k3.ext hE)
           have hne : es' ≠ [] := fun h => hes (List.length_eq_zero_iff.1 (by rw [← q5, h]; rfl))
           refine ⟨g key :: F, p1.trans q1, ?_, fun _ => rfl, fun h => by cases h⟩
           simp only [RepP]
           refine ⟨A, c, by rw [q5], hh4, fun h => absurd (hh5 h) hes, q3 r2, fun h => absurd h hne, fun _ => ⟨g key, arr, vs, rest, F, rfl, ?_, k1, k2, q2.less ?_, by omega, ?_⟩⟩
           · have := hh7 (.inr ⟨rfl, hes⟩)
             simpa using this
           · rintro i (hx | hx)
             · exact .inl (X_Zp.2 (.inl hx))
             · rcases List.mem_cons.1 hx with rfl | hx
               · exact .inl (X_Zp.2 (.inr (by simp)))
               · exact .inr hx
           · obtain ⟨arr', ty', fr', x1, x2⟩ := hh6 hes
             rw [k1] at x1
             simp only [Option.some.injEq, Obj.cells.injEq] at x1
             rw [x1.1]
             simpa using x2
       | false =>
         simp only [hc, zbk, zaa, Option.some.injEq, Prod.mk.injEq] at e
         obtain ⟨⟨es', ks', hp2⟩, hm, rfl, rfl, rfl⟩ := e
         have hlen0 : ((b.es.drop off).take len).length = len := by rw [List.length_take, List.length_drop]; omega
         by_cases hz : len = 0
         · subst hz
           rw [List.take_zero] at hm
           simp only [zaf, Option.some.injEq, Prod.mk.injEq] at hm
           obtain ⟨rfl, rfl, rfl⟩ := hm
           refine ⟨[], PackOk.none key hi, ?_, fun _ => rfl, fun _ => rfl⟩
           simp only [RepP]
           refine ⟨trivial, Rep.row_sl hi hr hb hv hrow hl _ (fun hreal h => ?_) [] rfl rfl rfl fun vs hvs => ?_⟩
           · rcases h with h | h
             · exact zga hi hb hreal h
             · simp at h
           · rw [List.take_zero] at hvs
             simp only [RepEs] at hvs ⊢
             exact hvs
         · have hes : b.es ≠ [] := by intro e2; rw [e2] at hl; simp at hl; omega
           obtain ⟨arr, vs, rest, k1, k2, k3⟩ := r3 hes
           have p1 := PackOk.one hi hb (.inr hes)
           obtain ⟨hE, hI⟩ := p1.others hi
           have hmm : ∀ vs, RepEs (Env.of w Z hp g) b.sz ((b.es.drop off).take len) vs → _ := fun vs hvs => zf0 (ih false) _ (Zp Z [g key]) vs (drop hp key) es' ks' hp2 hm hI (hvs.ext hE)
           obtain ⟨F, q1, q2, q3, q4, q5⟩ := hmm _ ((k3.drop off).take len)
           obtain ⟨f1, f2⟩ := RepPEs.to_flat _ _ _ (q4 rfl) q2
           subst f2
           have hp1 := p1.trans q1
           refine ⟨[], ⟨hp1.ext, hp1.inv, hp1.less, by simp, fun i hi' => by simp at hi', hp1.vers, hp1.sub⟩, ?_, fun _ => rfl, fun _ => rfl⟩
           simp only [RepP]
           refine ⟨trivial, Rep.row_sl hi hr hb hv hrow hl _ (fun hreal h => ?_) es' (by rw [q5, hlen0]) (q4 rfl) (q3 (zd2 r2 fun x hx => zbg hx)) fun vs' hvs => ?_⟩
           · rcases h with h | h
             · exact (hp1.out (g key) (by simp)).2.2 h
             · simp at h
           · obtain ⟨F', x1, x2, x3, x4, x5⟩ := hmm vs' hvs
             obtain ⟨y1, y2⟩ := RepPEs.to_flat _ _ _ (x4 rfl) x2
             subst y2
             refine RepEs.flat (E := Env.imm w (YF w (Zp Z [g key]) hp2 g [])) (E' := Env.imm w (YF w Z hp2 g [])) rfl (fun i hi' => ?_) _ _ _ (x4 rfl) y1
             rw [Env.imm_X] at hi' ⊢
             rcases hi' with hx | hx
             · exact .inl (X_Zp.2 (.inl hx))
             · simp at hx
   | pt key ver el off =>
     simp only [pack, zaa, zac, zat, zkw, Option.some.injEq, Prod.mk.injEq] at e
     obtain ⟨b, ⟨hb, hv⟩, ⟨hrow, hmp, rfl, rfl⟩, cs, hes, ⟨cs', ks', hp2⟩, hm, rfl, rfl, rfl⟩ := e
     obtain ⟨cs2, arr, ty, e1, e2, e3, e4⟩ := (hi.blk key b hb).2.2.1 hrow hmp
     rw [hes] at e1
     simp only [List.cons.injEq, and_true] at e1
     subst e1
     have p1 := PackOk.one hi hb (.inl hrow)
     obtain ⟨hE, hI⟩ := p1.others hi
     obtain ⟨F, q1, q2, q3, q4⟩ := zej (ih own) cs h.kids (Zp Z [g key]) arr.toList (drop hp key) cs' ks' hp2 hm hI (e4.ext hE)
     have hp1 := p1.trans q1
     simp only [Rep] at hr
     obtain ⟨_, ad, rfl, hpt⟩ := hr
     obtain ⟨_, rfl⟩ := hpt b hb hv
     have hY : ∀ i, YF w Z hp2 g (g key :: F) i → YF w (Zp Z [g key]) hp2 g F i := by
       rintro i (hx | hx)
       · exact .inl (X_Zp.2 (.inl hx))
       · rcases List.mem_cons.1 hx with rfl | hx
         · exact .inl (X_Zp.2 (.inr (by simp)))
         · exact .inr hx
     cases own with
     | true =>
       refine ⟨g key :: F, hp1, ?_, fun _ => rfl, fun h => by cases h⟩
       simp only [if_true, RepP]
       exact ⟨g key, arr, ty, F, by simp, rfl, q3 e2, e3, q2.less hY⟩
     | false =>
       obtain ⟨f1, f2⟩ := RepPs.to_flat _ _ _ (q4 rfl) q2
       subst f2
       refine ⟨[], ⟨hp1.ext, hp1.inv, hp1.less, by simp, fun i hi' => by simp at hi', hp1.vers, hp1.sub⟩, ?_, fun _ => rfl, fun _ => rfl⟩
       simp only [Bool.false_eq_true, if_false, RepP, Rep]
       refine ⟨trivial, g key, 0, arr.toList, by simp, q4 rfl, q3 e2, fun j u hu => ⟨?_, ?_⟩, ?_⟩
       · show w.cell? _ = _
         rw [cell_of_row _ _ _ arr ty (0, 0) e3, ← Array.getElem?_toList]
         simpa using hu
       · rw [Env.imm_X]
         rintro (hx | hx)
         · exact (hp1.out (g key) (by simp)).2.2 hx
         · simp at hx
       · refine Reps.flat (E := Env.imm w (YF w (Zp Z [g key]) hp2 g [])) (E' := Env.imm w (YF w Z hp2 g [])) rfl (fun i hi' => ?_) _ _ (q4 rfl) f1
         rw [Env.imm_X] at hi' ⊢
         exact hY i (hi'.imp id fun h => by simp at h)
   | agg cs =>
     simp only [pack, zaa, Option.some.injEq, Prod.mk.injEq] at e
     obtain ⟨⟨cs', ks', hp2⟩, hm, rfl, rfl, rfl⟩ := e
     simp only [Rep] at hr
     obtain ⟨x, rfl, ho, hcs⟩ := hr
     obtain ⟨F, q1, q2, q3, q4⟩ := zej (ih own) cs h.kids Z x.toList hp cs' ks' hp2 hm hi hcs
     refine ⟨F, q1, ?_, fun h => by simp [oneA] at h, fun h => by simpa [flat] using q4 h⟩
     simp only [RepP]
     exact ⟨x, rfl, q3 ho, q2⟩
   | tup cs =>
     simp only [pack, zaa, Option.some.injEq, Prod.mk.injEq] at e
     obtain ⟨⟨cs', ks', hp2⟩, hm, rfl, rfl, rfl⟩ := e
     simp only [Rep] at hr
     obtain ⟨x, rfl, hcs⟩ := hr
     obtain ⟨F, q1, q2, q3, q4⟩ := zej (ih own) cs h.kids Z x.toList hp cs' ks' hp2 hm hi hcs
     refine ⟨F, q1, ?_, fun h => by simp [oneA] at h, fun h => by simpa [flat] using q4 h⟩
     simp only [RepP]
     exact ⟨x, rfl, q2⟩
   | fn f cs =>
     simp only [pack, zaa, Option.some.injEq, Prod.mk.injEq] at e
     obtain ⟨⟨cs', ks', hp2⟩, hm, rfl, rfl, rfl⟩ := e
     simp only [Rep] at hr
     obtain ⟨x, rfl, hcs⟩ := hr
     obtain ⟨F, q1, q2, q3, q4⟩ := zej (ih false) cs [] Z x.toList hp cs' ks' hp2 hm hi hcs
     obtain ⟨f1, f2⟩ := RepPs.to_flat _ _ _ (q4 rfl) q2
     subst f2
     refine ⟨[], q1, ?_, fun _ => rfl, fun h => by simpa [flat] using q4 rfl⟩
     simp only [RepP, Rep]
     exact ⟨trivial, q4 rfl, x, rfl, f1⟩
   | ow _ _ _ _ => simp [pack] at e
   | bx _ => simp [pack] at e
   | om _ => simp [pack] at e
   | od _ _ _ _ => simp [pack] at e
   | yl => simp [pack] at e
   | yq => simp [pack] at e
   | mr key ver =>
     simp only [pack, zaa, zac, zat, Option.some.injEq, Prod.mk.injEq] at e
     obtain ⟨b, ⟨hb, hv⟩, ⟨hrow, hmp, rfl⟩, rfl, rfl, rfl⟩ := e
     obtain ⟨arr, clock, e1, e2, e3⟩ := (hi.blk key b hb).2.2.2 hrow hmp
     simp only [Rep] at hr
     obtain ⟨_, ad, rfl, hpt⟩ := hr
     have had := hpt b hb hv hrow
     subst had
     refine ⟨[g key], PackOk.one hi hb (.inl hrow), ?_, fun _ => rfl, fun h => by cases h⟩
     simp only [RepP]
     refine ⟨g key, arr, clock, rfl, rfl, e1, e2, MapEs.flat (E := Env.of w Z hp g) (E' := Env.imm w _) rfl (fun i hi' => ?_) e1 e3⟩
     rcases (Env.imm_X _ _ _).1 hi' with hx | hx
     · exact (ze6 w Z hp g key).2.2 i hx
     · simp at hx
       subst hx
       exact .inr ⟨key, b, hb, .inl hrow, rfl⟩
   | sl k sz es =>
     have hs : (a' = .sl k sz es ∧ hp' = hp) ∨ (own = true ∧ k = .nil ∧ es = [] ∧ ((∃ ty sz', a' = .ow ty sz' true [] ∧ hp' = hp) ∨ (∃ ty sz', a' = .od ty sz' true [] ∧ hp' = hp))) := by
       cases k <;> cases es <;> simp only [pack, Option.some.injEq, Prod.mk.injEq] at e
       all_goals first
         | exact .inl ⟨e.1.symm, e.2.2.symm⟩
         | (obtain ⟨e1, _, e2⟩ := e
            cases h <;> simp only [zj8] at e1
            · exact .inl ⟨e1.symm, e2.symm⟩
            · cases own
              · exact .inl ⟨by simpa using e1.symm, e2.symm⟩
              · exact .inr ⟨rfl, rfl, rfl, .inl ⟨_, _, by simpa using e1.symm, e2.symm⟩⟩
            · cases own
              · exact .inl ⟨by simpa using e1.symm, e2.symm⟩
              · exact .inr ⟨rfl, rfl, rfl, .inr ⟨_, _, by simpa using e1.symm, e2.symm⟩⟩
            · exact .inl ⟨e1.symm, e2.symm⟩)
     rcases hs with ⟨rfl, rfl⟩ | ⟨rfl, rfl, rfl, ⟨ty, sz', rfl, rfl⟩ | ⟨ty, sz', rfl, rfl⟩⟩
     · refine ⟨[], PackOk.refl hi, ?_, fun h => h, fun _ => rfl⟩
       simp only [RepP]
       refine ⟨trivial, Rep.flat (E := Env.of w Z hp' g) (E' := Env.imm w _) rfl (fun i hi' => ?_) _ _ rfl hr⟩
       rcases (Env.imm_X _ _ _).1 hi' with hx | hx
       · exact hx
       · simp at hx
     · refine ⟨[], PackOk.refl hi, ?_, fun _ => rfl, fun h => by cases h⟩
       simp only [Rep] at hr
       obtain ⟨A, c, rfl, _, h3, _⟩ := hr
       obtain ⟨rfl, rfl⟩ := h3 trivial
       simp only [RepP]
       exact ⟨none, 0, rfl, by simp, fun _ => trivial, rfl, rfl, fun _ => ⟨trivial, rfl⟩, fun h => absurd rfl h⟩
     · refine ⟨[], PackOk.refl hi, ?_, fun _ => rfl, fun h => by cases h⟩
       simp only [Rep] at hr
       obtain ⟨A, c, rfl, _, h3, _⟩ := hr
       obtain ⟨rfl, rfl⟩ := h3 trivial
       simp only [RepP]
       exact ⟨none, 0, rfl, by simp, fun _ => trivial, rfl, fun _ => ⟨trivial, rfl⟩, fun h => absurd rfl h⟩
   | _ =>
     simp only [pack, Option.some.injEq, Prod.mk.injEq] at e
     obtain ⟨rfl, rfl, rfl⟩ := e
     refine ⟨[], PackOk.refl hi, RepP.of_flat _ _ rfl (Rep.flat (E := Env.of w Z hp g) (E' := Env.imm w _) rfl (fun i hi' => ?_) _ _ rfl hr), fun h => h, fun _ => rfl⟩
     rcases (Env.imm_X _ _ _).1 hi' with hx | hx
     · exact hx
     · simp at hx
end Go.Abs
end
section
set_option linter.unusedSimpArgs false
namespace Go.Abs
def upd (g : Gm) (k x : Nat) : Gm := { g with f := fun t => if t = k then x else g t }
theorem zjh (g : Gm) (k : Nat) : upd g k (g k) = g := by
 obtain ⟨f, y, b⟩ := g
 simp only [upd, Gm.mk.injEq, and_true]
 funext x
 split <;> simp_all
theorem upd_same (g : Gm) (k x : Nat) : upd g k x k = x := by simp [upd]
theorem upd_ne {g : Gm} {k x t : Nat} (h : t ≠ k) : upd g k x t = g t := by simp [upd, h]
theorem zlm {w : World} {Z : Nat → Prop} {hp : Hp} {g : Gm} {k gb : Nat} {b : Blk} {G : List Nat} (hi : Inv (Env.of w (Zp Z G) hp g)) (hv : b.ver = zad hp k) (hG : Real b → gb ∈ G) (hZ : ∀ i ∈ G, ¬ Z i) :
   Ext (Env.of w (Zp Z G) hp g) (Env.of w Z ((k, .live b) :: hp) (upd g k gb)) ∧ (BlkRep (Env.of w Z ((k, .live b) :: hp) (upd g k gb)) gb b → Inv (Env.of w Z ((k, .live b) :: hp) (upd g k gb))) ∧
     (∀ i, (Env.of w Z ((k, .live b) :: hp) (upd g k gb)).X i → (Env.of w Z hp g).X i ∨ i ∈ G) := by
 have hX : ∀ i, (Env.of w Z ((k, .live b) :: hp) (upd g k gb)).X i → (Env.of w Z hp g).X i ∨ i ∈ G := by
   rintro i (hz | ⟨t, b', h1, h2, h3⟩)
   · exact .inl (.inl hz)
   · simp only [zas] at h1
     split at h1
     · rename_i ht
       subst ht
       injection h1 with h1
       subst h1
       simp only [upd_same] at h3
       subst h3
       exact .inr (hG h2)
     · rename_i ht
       simp only [upd_ne ht] at h3
       exact .inl (.inr ⟨t, b', h1, h2, h3⟩)
 have hE : Ext (Env.of w (Zp Z G) hp g) (Env.of w Z ((k, .live b) :: hp) (upd g k gb)) := by
   refine ⟨⟨fun t => ?_, fun t b' hb hlt => ?_, ⟨rfl, rfl⟩⟩, fun i hb off v hv => ⟨hv, fun hx => hb (X_Zp.2 (hX i hx))⟩, fun _ _ h => h⟩
   · simp only [zam]
     split
     · rename_i ht; subst ht; omega
     · exact Nat.le_refl _
   · simp only [zas] at hb
     split at hb
     · rename_i ht
       subst ht
       injection hb with hb
       subst hb
       simp only at hlt
       omega
     · rename_i ht
       exact ⟨b', hb, rfl, rfl, by simp only [upd_ne ht], fun _ => ⟨rfl, rfl, rfl⟩⟩
 refine ⟨hE, fun hbr => ⟨fun t b' hb => ?_, fun t b' hb hr => ?_, fun t t' b1 b2 h1 h2 hr1 hr2 he => ?_, fun i hz => hi.zlt i (.inl hz)⟩, hX⟩
 · simp only [zas] at hb
   simp only [zam]
   split at hb
   · rename_i ht
     subst ht
     injection hb with hb
     subst hb
     refine ⟨by simp, ?_⟩
     simp only [upd_same]
     exact hbr
   · rename_i ht
     obtain ⟨e1, e2⟩ := hi.blk t b' hb
     rw [if_neg ht]
     refine ⟨e1, ?_⟩
     simp only [upd_ne ht]
     exact e2.ext hE fun _ => rfl
 · simp only [zas] at hb
   split at hb
   · rename_i ht
     subst ht
     injection hb with hb
     subst hb
     simp only [upd_same]
     exact hZ _ (hG hr)
   · rename_i ht
     simp only [upd_ne ht]
     exact fun hz => hi.dis t b' hb hr (.inl hz)
 · simp only [zas] at h1 h2
   split at h1 <;> split at h2
   · rename_i e1 e2; rw [e1, e2]
   · rename_i e1 e2
     subst e1
     injection h1 with h1
     subst h1
     simp only [upd_same, upd_ne e2] at he
     exact absurd (.inr (by show g t' ∈ G; rw [← he]; exact hG hr1)) (hi.dis t' b2 h2 hr2)
   · rename_i e1 e2
     subst e2
     injection h2 with h2
     subst h2
     simp only [upd_same, upd_ne e1] at he
     exact absurd (.inr (by show g t ∈ G; rw [he]; exact hG hr2)) (hi.dis t b1 h1 hr1)
   · rename_i e1 e2
     simp only [upd_ne e1, upd_ne e2] at he
     exact hi.inj t t' b1 b2 h1 h2 hr1 hr2 he
structure UnpOk (w : World) (Z : Nat → Prop) (hp hp' : Hp) (g g' : Gm) (F : List Nat) : Prop where
 ext : Ext (Env.of w (Zp Z F) hp g) (Env.of w Z hp' g')
 inv : Inv (Env.of w Z hp' g')
 less : ∀ i, (Env.of w Z hp' g').X i → (Env.of w Z hp g).X i ∨ i ∈ F
theorem zep (Z : Nat → Prop) : Zp Z [] = Z := by funext i; simp [Zp]
theorem zfx (Z : Nat → Prop) (F G : List Nat) : Zp (Zp Z G) F = Zp Z (F ++ G) := by
 funext i
 simp only [Zp, List.mem_append, eq_iff_iff]
 constructor
 · rintro ((h | h) | h)
   · exact .inl h
   · exact .inr (.inr h)
   · exact .inr (.inl h)
 · rintro (h | h | h)
   · exact .inl (.inl h)
   · exact .inr h
   · exact .inl (.inr h)
theorem UnpOk.refl {w : World} {Z : Nat → Prop} {hp : Hp} {g : Gm} (hi : Inv (Env.of w Z hp g)) : UnpOk w Z hp hp g g [] := by
 refine ⟨?_, hi, fun i h => .inl h⟩
 rw [zep]
 exact (PackOk.refl hi).ext
mutual
theorem zor {w : World} {Y : Nat → Prop} : ∀ (a : AV) (Z : Nat → Prop) (v : Value) (F : List Nat) (k : Nat) (hp : Hp) (g : Gm), RepP w Y a v F → Inv (Env.of w (Zp Z F) hp g) → F.Nodup → (∀ i ∈ F, ¬ Z i) →
   (∀ i, (Env.of w Z hp g).X i ∨ i ∈ F → Y i) →
   ∃ g', UnpOk w Z hp (unpack a k hp).2.2 g g' F ∧ Rep (Env.of w Z (unpack a k hp).2.2 g') (unpack a k hp).1 v ∧ (oneA a = true → oneA (unpack a k hp).1 = true)
 | .ow ty sz nl es, Z, v, F, k, hp, g, h, hi, hnd, hZ, hY => by
   simp only [RepP] at h
   obtain ⟨A, c, rfl, h2, h3, h4, h5, h6, h7⟩ := h
   simp only [unpack]
   by_cases hes : es = []
   · obtain ⟨rfl, rfl⟩ := h6 hes
     subst hes
     obtain ⟨x1, x2, x3⟩ := zlm (k := k) (gb := 0) (b := { ver := zad hp k, row := true, nl, ty, sz, es := [] }) hi rfl (fun hr => by rcases hr with hr | hr <;> simp at hr) hZ
     refine ⟨upd g k 0, ⟨x1, x2 ⟨fun _ => ⟨fun _ => rfl, rfl, fun h => absurd rfl h⟩, (fun h => by cases h), (fun h => by cases h)⟩, x3⟩, ?_, fun _ => rfl⟩
     simp only [Rep]
     refine ⟨by simp [zam], A, 0, rfl, fun b hb _ => ?_⟩
     simp only [zas, if_true, Option.some.injEq] at hb
     subst hb
     exact ⟨rfl, by simp, by simp, fun _ => rfl, h2, fun _ => rfl, fun h => absurd rfl h, fun h => by simp at h⟩
   · obtain ⟨gb, arr, vs, rest, rfl, rfl, k3, k4, k5, k6, k7⟩ := h7 hes
     have hb : Real { ver := zad hp k, row := true, nl, ty, sz, es } := .inr hes
     obtain ⟨x1, x2, x3⟩ := zlm (k := k) (gb := gb) (b := { ver := zad hp k, row := true, nl, ty, sz, es }) hi rfl (fun _ => by simp) hZ
     refine ⟨upd g k gb, ⟨x1, x2 ⟨fun _ => ⟨fun _ => h4, h5, fun _ => ⟨arr, vs, rest, k3, k4, ?_⟩⟩, (fun h => by cases h), (fun h => by cases h)⟩, x3⟩, ?_, fun _ => rfl⟩
     · refine RepEs.flat (E := Env.imm w Y) (E' := Env.of w Z _ _) rfl (fun i hx => (Env.imm_X _ _ _).2 (hY i (x3 i hx))) _ _ _ h4 k5
     · simp only [Rep]
       refine ⟨by simp [zam], _, c, rfl, fun b hb _ => ?_⟩
       simp only [zas, if_true, Option.some.injEq] at hb
       subst hb
       simp only [upd_same]
       exact ⟨trivial, by simp, by simpa using k6, fun h => absurd h hes, h2, h3, fun _ => ⟨arr, ty, (0, 0), k3, by simpa using k7⟩, fun _ => by simp⟩
 | .om es, Z, v, F, k, hp, g, h, hi, hnd, hZ, hY => by
   simp only [RepP] at h
   obtain ⟨gb, arr, clock, rfl, rfl, h3, h4, h5⟩ := h
   simp only [unpack]
   obtain ⟨x1, x2, x3⟩ := zlm (k := k) (gb := gb) (b := { ver := zad hp k, row := false, nl := false, ty := 0, sz := 2, es, mp := true }) hi rfl (fun _ => by simp) hZ
   refine ⟨upd g k gb, ⟨x1, x2 ⟨(fun h => by cases h), (fun _ h => by cases h), fun _ _ => ⟨arr, clock, h3, h4, MapEs.flat (E := Env.imm w Y) (E' := Env.of w Z _ _) rfl (fun i hx => (Env.imm_X _ _ _).2 (hY i (x3 i hx))) h3 h5⟩⟩, x3⟩, ?_, fun _ => rfl⟩
   simp only [Rep]
   refine ⟨by simp [zam], _, rfl, fun b hb _ _ => ?_⟩
   simp only [upd_same]
 | .bx cs, Z, v, F, k, hp, g, h, hi, hnd, hZ, hY => by
   simp only [RepP] at h
   obtain ⟨gb, arr, ty, F', rfl, rfl, h3, h4, h5⟩ := h
   simp only [unpack]
   have hn : gb ∉ F' ∧ F'.Nodup := by simpa using hnd
   have hi' : Inv (Env.of w (Zp (Zp Z [gb]) F') hp g) := by
     have e : Zp (Zp Z [gb]) F' = Zp Z (gb :: F') := by
       rw [zfx]
       funext i
       simp [Zp, or_comm, or_left_comm]
     rw [e]; exact hi
   obtain ⟨g1, u1, u2, u3⟩ := zeh cs (Zp Z [gb]) arr.toList F' (k + 1) hp g h5 hi' hn.2
     (fun i hm hz => by
       rcases hz with hz | hz
       · exact hZ i (by simp [hm]) hz
       · simp at hz; subst hz; exact hn.1 hm)
     (fun i hx => hY i (by
       rcases hx with hx | hx
       · rcases X_Zp.1 hx with hx | hx
         · exact .inl hx
         · right; simp at hx; simp [hx]
       · right; simp [hx]))
   obtain ⟨x1, x2, x3⟩ := zlm (k := k) (gb := gb) (b := { ver := zad (unpacks cs (k + 1) hp).2.2 k, row := false, nl := false, ty := 0, sz := (unpacks cs (k + 1) hp).1.length, es := [(unpacks cs (k + 1) hp).1] }) u1.inv rfl (fun _ => by simp)
     (fun i hm => hZ i (by simp at hm; simp [hm]))
   refine ⟨upd g1 k gb, ⟨?_, x2 ⟨(fun h => by cases h), fun _ _ => ⟨_, arr, ty, rfl, u3 h3, h4, u2.ext x1⟩, fun _ h => by cases h⟩, fun i hx => ?_⟩, ?_, fun _ => rfl⟩
   · refine Ext.trans ?_ x1
     have := u1.ext
     have e : Zp (Zp Z [gb]) F' = Zp Z (gb :: F') := by
       rw [zfx]
       funext i
       simp [Zp, or_comm, or_left_comm]
     rw [e] at this
     exact this
   · rcases x3 i hx with hx | hx
     · have hx' : (Env.of w (Zp Z [gb]) (unpacks cs (k + 1) hp).2.2 g1).X i := X_Zp.2 (.inl hx)
       rcases u1.less i hx' with hx | hx
       · rcases X_Zp.1 hx with hx | hx
         · exact .inl hx
         · right; simp at hx; simp [hx]
       · right; simp [hx]
     · right; simp at hx; simp [hx]
   · simp only [Rep]
     refine ⟨by simp [zam], _, rfl, fun b hb _ => ?_⟩
     simp only [zas, if_true, Option.some.injEq] at hb
     subst hb
     simp [upd_same]
 | .od ty sz nl es, Z, v, F, k, hp, g, h, hi, hnd, hZ, hY => by
   simp only [RepP] at h
   obtain ⟨A, c, rfl, h2, h3, h5, h6, h7⟩ := h
   simp only [unpack]
   by_cases hes : es = []
   · obtain ⟨rfl, rfl⟩ := h6 hes
     subst hes
     simp only [zaw]
     obtain ⟨x1, x2, x3⟩ := zlm (k := k) (gb := 0) (b := { ver := zad hp k, row := true, nl, ty, sz, es := [], dp := true }) hi rfl (fun hr => by rcases hr with hr | hr <;> simp at hr) hZ
     refine ⟨upd g k 0, ⟨x1, x2 ⟨fun _ => ⟨fun _ => rfl, rfl, fun h => absurd rfl h⟩, (fun h => by cases h), (fun h => by cases h)⟩, x3⟩, ?_, fun _ => rfl⟩
     simp only [Rep]
     refine ⟨by simp [zam], A, 0, rfl, fun b hb _ => ?_⟩
     simp only [zas, if_true, Option.some.injEq] at hb
     subst hb
     exact ⟨rfl, by simp, by simp, fun _ => rfl, h2, fun _ => rfl, fun h => absurd rfl h, fun h => by simp at h⟩
   · obtain ⟨gb, arr, vs, rest, F', rfl, rfl, k3, k4, k5, k6, k7⟩ := h7 hes
     have hn : gb ∉ F' ∧ F'.Nodup := by simpa using hnd
     have eZ : Zp (Zp Z [gb]) F' = Zp Z (gb :: F') := by
       rw [zfx]
       funext i
       simp [Zp, or_comm, or_left_comm]
     have hi' : Inv (Env.of w (Zp (Zp Z [gb]) F') hp g) := by rw [eZ]; exact hi
     obtain ⟨g1, u1, u2, u3, u4⟩ := zke sz es (Zp Z [gb]) vs F' (subK k) hp g k5 hi' hn.2
       (fun i hm hz => by
         rcases hz with hz | hz
         · exact hZ i (by simp [hm]) hz
         · simp at hz; subst hz; exact hn.1 hm)
       (fun i hx => hY i (by
         rcases hx with hx | hx
         · rcases X_Zp.1 hx with hx | hx
           · exact .inl hx
           · right; simp at hx; simp [hx]
         · right; simp [hx]))
     have hne : (zaw es (subK k) hp).1 ≠ [] := fun h => hes (List.length_eq_zero_iff.1 (by rw [← u4, h]; rfl))
     obtain ⟨x1, x2, x3⟩ := zlm (k := k) (gb := gb) (b := { ver := zad (zaw es (subK k) hp).2 k, row := true, nl, ty, sz, es := (zaw es (subK k) hp).1, dp := true }) u1.inv rfl (fun _ => by simp)
       (fun i hm => hZ i (by simp at hm; simp [hm]))
     refine ⟨upd g1 k gb, ⟨?_, x2 ⟨fun _ => ⟨(fun h => by cases h), u3 h5, fun _ => ⟨arr, vs, rest, k3, k4, u2.ext x1⟩⟩, (fun h => by cases h), (fun h => by cases h)⟩, fun i hx => ?_⟩, ?_, fun _ => rfl⟩
     · refine Ext.trans ?_ x1
       have := u1.ext
       rw [eZ] at this
       exact this
     · rcases x3 i hx with hx | hx
       · have hx' : (Env.of w (Zp Z [gb]) (zaw es (subK k) hp).2 g1).X i := X_Zp.2 (.inl hx)
         rcases u1.less i hx' with hx | hx
         · rcases X_Zp.1 hx with hx | hx
           · exact .inl hx
           · right; simp at hx; simp [hx]
         · right; simp [hx]
       · right; simp at hx; simp [hx]
     · simp only [Rep]
       refine ⟨by simp [zam], _, c, rfl, fun b hb _ => ?_⟩
       simp only [zas, if_true, Option.some.injEq] at hb
       subst hb
       simp only [upd_same]
       exact ⟨trivial, by simp [u4], by simpa [u4] using k6, fun h => absurd h hne, h2, fun h => absurd (h3 h) hes, fun _ => ⟨arr, ty, (0, 0), k3, by simpa using k7⟩, fun _ => by simp⟩
 | .agg cs, Z, v, F, k, hp, g, h, hi, hnd, hZ, hY => by
   simp only [RepP] at h
   obtain ⟨a, rfl, h2, h3⟩ := h
   simp only [unpack]
   obtain ⟨g1, u1, u2, u3⟩ := zeh cs Z a.toList F k hp g h3 hi hnd hZ hY
   refine ⟨g1, u1, ?_, fun h => by simp [oneA] at h⟩
   simp only [Rep]
   exact ⟨a, rfl, u3 h2, u2⟩
 | .tup cs, Z, v, F, k, hp, g, h, hi, hnd, hZ, hY => by
   simp only [RepP] at h
   obtain ⟨a, rfl, h3⟩ := h
   simp only [unpack]
   obtain ⟨g1, u1, u2, u3⟩ := zeh cs Z a.toList F k hp g h3 hi hnd hZ hY
   refine ⟨g1, u1, ?_, fun h => by simp [oneA] at h⟩
   simp only [Rep]
   exact ⟨a, rfl, u2⟩
 | .i .., Z, v, F, k, hp, g, h, hi, _, _, hY => by
   obtain ⟨h1, rfl⟩ := RepP.to_flat _ _ _ rfl h
   rw [zep] at hi
   simp only [unpack]
   exact ⟨g, UnpOk.refl hi, Rep.flat (E := Env.imm w Y) (E' := Env.of w Z hp g) rfl (fun i hx => (Env.imm_X _ _ _).2 (hY i (.inl hx))) _ _ rfl h1, fun h => h⟩
 | .b _, Z, v, F, k, hp, g, h, hi, _, _, hY => by
   obtain ⟨h1, rfl⟩ := RepP.to_flat _ _ _ rfl h
   rw [zep] at hi
   simp only [unpack]
   exact ⟨g, UnpOk.refl hi, Rep.flat (E := Env.imm w Y) (E' := Env.of w Z hp g) rfl (fun i hx => (Env.imm_X _ _ _).2 (hY i (.inl hx))) _ _ rfl h1, fun h => h⟩
 | .str _, Z, v, F, k, hp, g, h, hi, _, _, hY => by
   obtain ⟨h1, rfl⟩ := RepP.to_flat _ _ _ rfl h
   rw [zep] at hi
   simp only [unpack]
   exact ⟨g, UnpOk.refl hi, Rep.flat (E := Env.imm w Y) (E' := Env.of w Z hp g) rfl (fun i hx => (Env.imm_X _ _ _).2 (hY i (.inl hx))) _ _ rfl h1, fun h => h⟩
 | .sl .., Z, v, F, k, hp, g, h, hi, _, _, hY => by
   obtain ⟨h1, rfl⟩ := RepP.to_flat _ _ _ rfl h
   rw [zep] at hi
   simp only [unpack]
   exact ⟨g, UnpOk.refl hi, Rep.flat (E := Env.imm w Y) (E' := Env.of w Z hp g) rfl (fun i hx => (Env.imm_X _ _ _).2 (hY i (.inl hx))) _ _ rfl h1, fun h => h⟩
 | .ip _, Z, v, F, k, hp, g, h, hi, _, _, hY => by
   obtain ⟨h1, rfl⟩ := RepP.to_flat _ _ _ rfl h
   rw [zep] at hi
   simp only [unpack]
   exact ⟨g, UnpOk.refl hi, Rep.flat (E := Env.imm w Y) (E' := Env.of w Z hp g) rfl (fun i hx => (Env.imm_X _ _ _).2 (hY i (.inl hx))) _ _ rfl h1, fun h => h⟩
 | .fn f cs, Z, v, F, k, hp, g, h, hi, _, _, hY => by
   have hf : flat (.fn f cs) = true := by simp only [RepP] at h; simpa only [flat] using h.2.1
   obtain ⟨h1, rfl⟩ := RepP.to_flat _ _ _ hf h
   rw [zep] at hi
   simp only [unpack]
   exact ⟨g, UnpOk.refl hi, Rep.flat (E := Env.imm w Y) (E' := Env.of w Z hp g) rfl (fun i hx => (Env.imm_X _ _ _).2 (hY i (.inl hx))) _ _ hf h1, fun h => h⟩
 | .nilp, Z, v, F, k, hp, g, h, hi, _, _, hY => by
   obtain ⟨h1, rfl⟩ := RepP.to_flat _ _ _ rfl h
   rw [zep] at hi
   simp only [unpack]
   exact ⟨g, UnpOk.refl hi, Rep.flat (E := Env.imm w Y) (E' := Env.of w Z hp g) rfl (fun i hx => (Env.imm_X _ _ _).2 (hY i (.inl hx))) _ _ rfl h1, fun h => h⟩
 | .nilf, Z, v, F, k, hp, g, h, hi, _, _, hY => by
   obtain ⟨h1, rfl⟩ := RepP.to_flat _ _ _ rfl h
   rw [zep] at hi
   simp only [unpack]
   exact ⟨g, UnpOk.refl hi, Rep.flat (E := Env.imm w Y) (E' := Env.of w Z hp g) rfl (fun i hx => (Env.imm_X _ _ _).2 (hY i (.inl hx))) _ _ rfl h1, fun h => h⟩
 | .junk, Z, v, F, k, hp, g, h, hi, _, _, _ => by
   obtain ⟨h1, rfl⟩ := RepP.to_flat _ _ _ rfl h
   rw [zep] at hi
   simp only [unpack]
   exact ⟨g, UnpOk.refl hi, by simp only [Rep], fun h => h⟩
 | .ms .., _, _, _, _, _, _, h, _, _, _, _ => by simp only [RepP] at h
 | .pt .., _, _, _, _, _, _, h, _, _, _, _ => by simp only [RepP] at h
theorem zeh {w : World} {Y : Nat → Prop} : ∀ (as : List AV) (Z : Nat → Prop) (vs : List Value) (F : List Nat) (k : Nat) (hp : Hp) (g : Gm), RepPs w Y as vs F → Inv (Env.of w (Zp Z F) hp g) → F.Nodup → (∀ i ∈ F, ¬ Z i) →
   (∀ i, (Env.of w Z hp g).X i ∨ i ∈ F → Y i) →
   ∃ g', UnpOk w Z hp (unpacks as k hp).2.2 g g' F ∧ Reps (Env.of w Z (unpacks as k hp).2.2 g') (unpacks as k hp).1 vs ∧ (ones as = true → ones (unpacks as k hp).1 = true)
 | [], Z, vs, F, k, hp, g, h, hi, _, _, _ => by
   simp only [RepPs] at h
   obtain ⟨rfl, rfl⟩ := h
   rw [zep] at hi
   simp only [unpacks]
   refine ⟨g, UnpOk.refl hi, ?_, fun h => h⟩
   simp only [Reps]
 | a :: r, Z, vs, F, k, hp, g, h, hi, hnd, hZ, hY => by
   simp only [RepPs] at h
   obtain ⟨v, vs', F1, F2, rfl, rfl, h3, h4⟩ := h
   simp only [unpacks]
   obtain ⟨n1, n2, n3⟩ := List.nodup_append.1 hnd
   rw [← zfx] at hi
   obtain ⟨g1, u1, u2, u3⟩ := zor a (Zp Z F2) v F1 k hp g h3 hi n1
     (fun i hi' hz => by
       rcases hz with hz | hz
       · exact hZ i (by simp [hi']) hz
       · exact n3 i hi' i hz rfl)
     (fun i hx => hY i (by
       rcases hx with hx | hx
       · rcases X_Zp.1 hx with hx | hx
         · exact .inl hx
         · right; simp [hx]
       · right; simp [hx]))
   obtain ⟨g2, q1, q2, q3⟩ := zeh r Z vs' F2 (unpack a k hp).2.1 (unpack a k hp).2.2 g1 h4 u1.inv n2
     (fun i hi' => hZ i (by simp [hi']))
     (fun i hx => hY i (by
       rcases hx with hx | hx
       · have hx' : (Env.of w (Zp Z F2) (unpack a k hp).2.2 g1).X i := X_Zp.2 (.inl hx)
         rcases u1.less i hx' with hx | hx
         · rcases X_Zp.1 hx with hx | hx
           · exact .inl hx
           · right; simp [hx]
         · right; simp [hx]
       · right; simp [hx]))
   refine ⟨g2, ⟨?_, q1.inv, fun i hx => ?_⟩, ?_, fun ho => ?_⟩
   · rw [← zfx]
     exact u1.ext.trans q1.ext
   · rcases q1.less i hx with hx | hx
     · have hx' : (Env.of w (Zp Z F2) (unpack a k hp).2.2 g1).X i := X_Zp.2 (.inl hx)
       rcases u1.less i hx' with hx | hx
       · rcases X_Zp.1 hx with hx | hx
         · exact .inl hx
         · right; simp [hx]
       · right; simp [hx]
     · right; simp [hx]
   · simp only [Reps]
     exact ⟨v, vs', rfl, u2.ext q1.ext, q2⟩
   · simp only [ones, Bool.and_eq_true] at ho ⊢
     exact ⟨u3 ho.1, q3 ho.2⟩
theorem zke {w : World} {Y : Nat → Prop} (sz : Nat) : ∀ (es : List (List AV)) (Z : Nat → Prop) (vs : List Value) (F : List Nat) (k : Nat) (hp : Hp) (g : Gm), RepPEs w Y sz es vs F → Inv (Env.of w (Zp Z F) hp g) → F.Nodup → (∀ i ∈ F, ¬ Z i) →
   (∀ i, (Env.of w Z hp g).X i ∨ i ∈ F → Y i) →
   ∃ g', UnpOk w Z hp (zaw es k hp).2 g g' F ∧ RepEs (Env.of w Z (zaw es k hp).2 g') sz (zaw es k hp).1 vs ∧ (za2 es = true → za2 (zaw es k hp).1 = true) ∧ (zaw es k hp).1.length = es.length
 | [], Z, vs, F, k, hp, g, h, hi, _, _, _ => by
   simp only [RepPEs] at h
   obtain ⟨rfl, rfl⟩ := h
   rw [zep] at hi
   simp only [zaw]
   refine ⟨g, UnpOk.refl hi, ?_, fun h => h, by simp⟩
   simp only [RepEs]
 | e :: r, Z, vs, F, k, hp, g, h, hi, hnd, hZ, hY => by
   simp only [RepPEs] at h
   obtain ⟨v, vs', F1, F2, rfl, rfl, h0, h3, h4⟩ := h
   simp only [zaw]
   obtain ⟨n1, n2, n3⟩ := List.nodup_append.1 hnd
   rw [← zfx] at hi
   obtain ⟨g1, u1, u2, u3⟩ := zeh e (Zp Z F2) v F1 k hp g h3 hi n1
     (fun i hi' hz => by
       rcases hz with hz | hz
       · exact hZ i (by simp [hi']) hz
       · exact n3 i hi' i hz rfl)
     (fun i hx => hY i (by
       rcases hx with hx | hx
       · rcases X_Zp.1 hx with hx | hx
         · exact .inl hx
         · right; simp [hx]
       · right; simp [hx]))
   obtain ⟨g2, q1, q2, q3, q4⟩ := zke sz r Z vs' F2 (k + 64) (unpacks e k hp).2.2 g1 h4 u1.inv n2
     (fun i hi' => hZ i (by simp [hi']))
     (fun i hx => hY i (by
       rcases hx with hx | hx
       · have hx' : (Env.of w (Zp Z F2) (unpacks e k hp).2.2 g1).X i := X_Zp.2 (.inl hx)
         rcases u1.less i hx' with hx | hx
         · rcases X_Zp.1 hx with hx | hx
           · exact .inl hx
           · right; simp [hx]
         · right; simp [hx]
       · right; simp [hx]))
   refine ⟨g2, ⟨?_, q1.inv, fun i hx => ?_⟩, ?_, fun ho => ?_, by simp [q4]⟩
   · rw [← zfx]
     exact u1.ext.trans q1.ext
   · rcases q1.less i hx with hx | hx
     · have hx' : (Env.of w (Zp Z F2) (unpacks e k hp).2.2 g1).X i := X_Zp.2 (.inl hx)
       rcases u1.less i hx' with hx | hx
       · rcases X_Zp.1 hx with hx | hx
         · exact .inl hx
         · right; simp [hx]
       · right; simp [hx]
     · right; simp [hx]
   · simp only [RepEs]
     exact ⟨v, vs', rfl, by rw [← h0, ← RepPs.length h3, u2.length], u2.ext q1.ext, q2⟩
   · simp only [za2, Bool.and_eq_true] at ho ⊢
     exact ⟨u3 ho.1, q3 ho.2⟩
end
end Go.Abs
end
section
set_option linter.unusedSimpArgs false
set_option linter.unusedVariables false
namespace Go.Abs
def Mine (hp : Hp) (g : Gm) (i : Nat) : Prop := ∃ k b, look hp k = some b ∧ Real b ∧ g k = i
structure Step (w w' : World) (Z : Nat → Prop) (hp hp' : Hp) (g g' : Gm) : Prop where
 ext : Ext (Env.of w Z hp g) (Env.of w' Z hp' g')
 inv : Inv (Env.of w' Z hp' g')
 less : ∀ i, (Env.of w' Z hp' g').X i → (Env.of w Z hp g).X i ∨ w.heap.size ≤ i
 os : w'.os = w.os
 tape : w'.tape = w.tape
 output : w'.output = w.output
 size : w.heap.size ≤ w'.heap.size
 blk : ∀ i, i < w.heap.size → ¬ Mine hp g i → w'.heap[i]? = w.heap[i]?
theorem Step.refl {w : World} {Z : Nat → Prop} {hp : Hp} {g : Gm} (hi : Inv (Env.of w Z hp g)) : Step w w Z hp hp g g :=
 ⟨(PackOk.refl hi).ext, hi, fun _ h => .inl h, rfl, rfl, rfl, Nat.le_refl _, fun _ _ _ => rfl⟩
theorem Step.trans {w w1 w2 : World} {Z : Nat → Prop} {hp hp1 hp2 : Hp} {g g1 g2 : Gm} (h : Step w w1 Z hp hp1 g g1) (k : Step w1 w2 Z hp1 hp2 g1 g2) : Step w w2 Z hp hp2 g g2 := by
 refine ⟨h.ext.trans k.ext, k.inv, fun i hx => ?_, k.os.trans h.os, k.tape.trans h.tape, k.output.trans h.output, Nat.le_trans h.size k.size, fun i hi hm => ?_⟩
 · rcases k.less i hx with hx | hx
   · exact h.less i hx
   · exact .inr (Nat.le_trans h.size hx)
 · rw [k.blk i (Nat.lt_of_lt_of_le hi h.size) ?_, h.blk i hi hm]
   rintro ⟨t, b, h1, h2, h3⟩
   rcases h.less i (.inr ⟨t, b, h1, h2, h3⟩) with hx | hx
   · rcases hx with hz | hx
     · exact h.inv.dis t b h1 h2 (by show Z (g1 t); rw [h3]; exact hz)
     · exact hm hx
   · omega
theorem Step.of_pack {w : World} {Z : Nat → Prop} {hp hp' : Hp} {g : Gm} {F : List Nat} (h : PackOk w Z g hp hp' F) : Step w w Z hp hp' g g :=
 ⟨h.ext, h.inv, fun i hx => .inl (h.less i hx), rfl, rfl, rfl, Nat.le_refl _, fun _ _ _ => rfl⟩
theorem zew : ∀ {hp : Hp} {k : Nat} {b : Blk}, look hp k = some b → zad hp k = b.ver + 1
 | [], _, _, h => by simp [look] at h
 | (t, .live x) :: r, k, b, h => by
   simp only [look, zad] at h ⊢
   split at h
   · rename_i e
     injection h with h
     rw [if_pos e, h]
   · rename_i e
     rw [if_neg e]
     exact zew h
 | (t, .dead x) :: r, k, b, h => by
   simp only [look, zad] at h ⊢
   split at h
   · cases h
   · rename_i e
     rw [if_neg e]
     exact zew h
theorem zfm {w w' : World} {Z : Nat → Prop} {hp : Hp} {g : Gm} (hi : Inv (Env.of w Z hp g)) {k gb : Nat} {b : Blk}
   (hos : w'.os = w.os) (htape : w'.tape = w.tape) (hout : w'.output = w.output) (hsz : w.heap.size ≤ w'.heap.size) (hsizes : ∀ gb n, zay w gb n → zay w' gb n)
   (hold : ∀ i, i < w.heap.size → ¬ (i = g k ∧ ∃ b0, look hp k = some b0 ∧ Real b0) → w'.heap[i]? = w.heap[i]?)
   (hver : zad hp k ≤ b.ver ∨ ∃ b0, look hp k = some b0 ∧ b0.ver = b.ver ∧ b0.row = b.row ∧ (b0.row = true → b0.nl = b.nl ∧ b0.sz = b.sz ∧ b0.es.length = b.es.length) ∧ gb = g k)
   (hgb : Real b → w.heap.size ≤ gb ∨ (gb = g k ∧ ∃ b0, look hp k = some b0 ∧ Real b0)) :
   Ext (Env.of w Z hp g) (Env.of w' Z ((k, .live b) :: hp) (upd g k gb)) ∧ (BlkRep (Env.of w' Z ((k, .live b) :: hp) (upd g k gb)) gb b → Step w w' Z hp ((k, .live b) :: hp) g (upd g k gb)) := by
 have hX : ∀ i, (Env.of w' Z ((k, .live b) :: hp) (upd g k gb)).X i → (Env.of w Z hp g).X i ∨ w.heap.size ≤ i := by
   rintro i (hz | ⟨t, b', h1, h2, h3⟩)
   · exact .inl (.inl hz)
   · simp only [zas] at h1
     split at h1
     · rename_i ht
       subst ht
       injection h1 with h1
       subst h1
       simp only [upd_same] at h3
       subst h3
       rcases hgb h2 with h | ⟨h, b0, h4, h5⟩
       · exact .inr h
       · exact .inl (.inr ⟨t, b0, h4, h5, h.symm⟩)
     · rename_i ht
       simp only [upd_ne ht] at h3
       exact .inl (.inr ⟨t, b', h1, h2, h3⟩)
 have hE : Ext (Env.of w Z hp g) (Env.of w' Z ((k, .live b) :: hp) (upd g k gb)) := by
   refine ⟨⟨fun t => ?_, fun t b' hb hlt => ?_, ⟨rfl, rfl⟩⟩, fun i hb off v hv => ?_, hsizes⟩
   · simp only [zam]
     split
     · rename_i ht
       subst ht
       rcases hver with h | ⟨b0, h1, h2, _⟩
       · omega
       · have := zew h1; omega
     · exact Nat.le_refl _
   · simp only [zas] at hb
     split at hb
     · rename_i ht
       subst ht
       injection hb with hb
       subst hb
       rcases hver with h | ⟨b0, h1, h2, h3, h4, h5⟩
       · simp only at hlt; omega
       · exact ⟨b0, h1, h2, h3, by simp only [upd_same]; exact h5, h4⟩
     · rename_i ht
       exact ⟨b', hb, rfl, rfl, by simp only [upd_ne ht], fun _ => ⟨rfl, rfl, rfl⟩⟩
   · have hlt := World.block_lt_of_cell? w _ hv
     refine ⟨?_, fun hx => ?_⟩
     · have : w'.heap[i]? = w.heap[i]? := hold i hlt (by
         rintro ⟨rfl, b0, h1, h2⟩
         exact hb (.inr ⟨k, b0, h1, h2, rfl⟩))
       have e : w'.cell? ⟨i, off, none⟩ = w.cell? ⟨i, off, none⟩ := World.cell?_of_block this
       rw [e]; exact hv
     · rcases hX i hx with hx | hx
       · exact hb hx
       · simp only at hlt; omega
 refine ⟨hE, fun hbr => ⟨hE, ?_, hX, hos, htape, hout, hsz, fun i hlt hm => hold i hlt ?_⟩⟩
 · refine ⟨fun t b' hb => ?_, fun t b' hb hr => ?_, fun t t' b1 b2 h1 h2 hr1 hr2 he => ?_, fun i hz => Nat.lt_of_lt_of_le (hi.zlt i hz) hsz⟩
   · simp only [zas] at hb
     simp only [zam]
     split at hb
     · rename_i ht
       subst ht
       injection hb with hb
       subst hb
       refine ⟨by simp, ?_⟩
       simp only [upd_same]
       exact hbr
     · rename_i ht
       obtain ⟨e1, e2⟩ := hi.blk t b' hb
       rw [if_neg ht]
       refine ⟨e1, ?_⟩
       simp only [upd_ne ht]
       refine e2.ext hE fun hr => hold _ (e2.lt hr) ?_
       rintro ⟨h1, b0, h2, h3⟩
       exact ht (hi.inj t k b' b0 hb h2 hr h3 h1)
   · simp only [zas] at hb
     split at hb
     · rename_i ht
       subst ht
       injection hb with hb
       subst hb
       simp only [upd_same]
       rcases hgb hr with h | ⟨h, b0, h4, h5⟩
       · exact fun hz => by have := hi.zlt _ hz; simp only at this; omega
       · rw [h]; exact hi.dis t b0 h4 h5
     · rename_i ht
       simp only [upd_ne ht]
       exact hi.dis t b' hb hr
   · simp only [zas] at h1 h2
     have key : ∀ t' b2, look hp t' = some b2 → Real b2 → Real b → t' ≠ k → gb = g t' → False := by
       intro t' b2 h2 hr2 hrb hne he
       rcases hgb hrb with h | ⟨h, b0, h4, h5⟩
       · have := (hi.blk t' b2 h2).2.lt hr2
         simp only at this
         omega
       · exact hne (hi.inj t' k b2 b0 h2 h4 hr2 h5 (by show g t' = g k; rw [← he, h]))
     split at h1 <;> split at h2
     · rename_i e1 e2; rw [e1, e2]
     · rename_i e1 e2
       subst e1
       injection h1 with h1
       subst h1
       simp only [upd_same, upd_ne e2] at he
       exact (key t' b2 h2 hr2 hr1 e2 he).elim
     · rename_i e1 e2
       subst e2
       injection h2 with h2
       subst h2
       simp only [upd_same, upd_ne e1] at he
       exact (key t b1 h1 hr1 hr2 e1 he.symm).elim
     · rename_i e1 e2
       simp only [upd_ne e1, upd_ne e2] at he
       exact hi.inj t t' b1 b2 h1 h2 hr1 hr2 he
 · rintro ⟨rfl, b0, h1, h2⟩
   exact hm ⟨k, b0, h1, h2, rfl⟩
theorem zi2 {w : World} {o : Obj} {gb n : Nat} (h : zay w gb n) : zay (w.alloc o) gb n := by
 obtain ⟨arr, ty, fr, h1, h2⟩ := h
 exact ⟨arr, ty, fr, by rw [heap_alloc_old w o _ (za6 h1)]; exact h1, h2⟩
theorem zdm {w : World} {g0 gb n : Nat} {cur cs : Array Value} {t : TypeId} {fr : Nat × Nat} (hg : w.heap[g0]? = some (.cells cur t fr)) (hl : cs.size = cur.size) (h : zay w gb n) : zay (w.setRow g0 cs) gb n := by
 obtain ⟨arr, ty, fr', h1, h2⟩ := h
 by_cases e : gb = g0
 · subst e
   rw [hg] at h1
   simp only [Option.some.injEq, Obj.cells.injEq] at h1
   exact ⟨cs, t, fr, setRow_heap w gb cur cs t fr hg, by rw [hl, h1.1]; exact h2⟩
 · exact ⟨arr, ty, fr', by rw [setRow_other w g0 gb cs e]; exact h1, h2⟩
theorem zjj {w : World} {Z : Nat → Prop} {hp : Hp} {g : Gm} (hi : Inv (Env.of w Z hp g)) (k : Nat) {b : Blk} (hv : zad hp k ≤ b.ver) (w1 : World) (hw1 : w1.heap = w.heap ∧ w1.os = w.os ∧ w1.tape = w.tape ∧ w1.output = w.output) (arr : Array Value) (ty : TypeId) :
   Ext (Env.of w Z hp g) (Env.of (w1.alloc (.cells arr ty)) Z ((k, .live b) :: hp) (upd g k w.heap.size)) ∧
     (BlkRep (Env.of (w1.alloc (.cells arr ty)) Z ((k, .live b) :: hp) (upd g k w.heap.size)) w.heap.size b → Step w (w1.alloc (.cells arr ty)) Z hp ((k, .live b) :: hp) g (upd g k w.heap.size)) := by
 obtain ⟨h1, h2, h3, h4⟩ := hw1
 refine zfm hi h2 h3 h4 (by simp [h1]) (fun gb n h => zi2 (by unfold zay at h ⊢; rw [h1]; exact h)) (fun i hlt _ => ?_) (.inl hv) (fun _ => .inl (Nat.le_refl _))
 rw [heap_alloc_old w1 _ _ (by rw [h1]; exact hlt), h1]
theorem zgm {w : World} {Z : Nat → Prop} {hp : Hp} {g : Gm} (hi : Inv (Env.of w Z hp g)) {k : Nat} {b b0 : Blk} (h0 : look hp k = some b0) (hr : Real b0) (hver : b0.ver = b.ver) (hrow : b0.row = b.row)
   (hsame : b0.row = true → b0.nl = b.nl ∧ b0.sz = b.sz ∧ b0.es.length = b.es.length) {cur cs : Array Value} {t : TypeId} {fr : Nat × Nat} (hg : w.heap[g k]? = some (.cells cur t fr)) (hl : cs.size = cur.size) :
   Ext (Env.of w Z hp g) (Env.of (w.setRow (g k) cs) Z ((k, .live b) :: hp) g) ∧
     (BlkRep (Env.of (w.setRow (g k) cs) Z ((k, .live b) :: hp) g) (g k) b → Step w (w.setRow (g k) cs) Z hp ((k, .live b) :: hp) g g) := by
 have e : upd g k (g k) = g := zjh _ _
 have := zfm (w' := w.setRow (g k) cs) (gb := g k) (b := b) hi rfl rfl rfl (by simp [World.setRow]) (fun gb n h => zdm hg hl h) (fun i _ hne => setRow_other w (g k) i cs (fun e => hne ⟨e, b0, h0, hr⟩))
   (.inr ⟨b0, h0, hver, hrow, hsame, rfl⟩) (fun _ => .inr ⟨rfl, b0, h0, hr⟩)
 rwa [e] at this
end Go.Abs
end
section
set_option linter.unusedSimpArgs false
set_option linter.unusedVariables false
namespace Go.Abs
mutual
def Late (N : Nat → Nat) : AV → Prop
 | .ms key ver _ _ => N key ≤ ver
 | .pt key ver _ _ => N key ≤ ver
 | .mr key ver => N key ≤ ver
 | .agg cs => Lates N cs
 | .tup cs => Lates N cs
 | .fn _ cs => Lates N cs
 | .sl _ _ es => zb7 N es
 | .ip cs => Lates N cs
 | _ => True
def Lates (N : Nat → Nat) : List AV → Prop
 | [] => True
 | a :: r => Late N a ∧ Lates N r
def zb7 (N : Nat → Nat) : List (List AV) → Prop
 | [] => True
 | e :: r => Lates N e ∧ zb7 N r
end
mutual
theorem zfe (N : Nat → Nat) : ∀ (a : AV) (E : Env) (v : Value), flat a = true → Rep E a v → Late N a
 | .i .., _, _, _, _ => by simp only [Late]
 | .b _, _, _, _, _ => by simp only [Late]
 | .str _, _, _, _, _ => by simp only [Late]
 | .nilp, _, _, _, _ => by simp only [Late]
 | .nilf, _, _, _, _ => by simp only [Late]
 | .junk, _, _, _, _ => by simp only [Late]
 | .agg cs, E, v, h, hr => by
   simp only [Rep] at hr
   obtain ⟨a, _, _, h3⟩ := hr
   simp only [Late]
   exact zem N cs E _ (by simpa only [flat] using h) h3
 | .tup cs, E, v, h, hr => by
   simp only [Rep] at hr
   obtain ⟨a, _, h3⟩ := hr
   simp only [Late]
   exact zem N cs E _ (by simpa only [flat] using h) h3
 | .fn _ cs, E, v, h, hr => by
   simp only [Rep] at hr
   obtain ⟨a, _, h3⟩ := hr
   simp only [Late]
   exact zem N cs E _ (by simpa only [flat] using h) h3
 | .sl _ sz es, E, v, h, hr => by
   simp only [Rep] at hr
   obtain ⟨A, c, _, _, _, _, _, h6, _, h8⟩ := hr
   simp only [Late]
   by_cases he : es = []
   · subst he; simp only [zb7]
   · obtain ⟨b, off, vs, _, _, h9⟩ := h8 he
     exact zff N sz es E vs h6 h9
 | .ip cs, E, v, h, hr => by
   simp only [Rep] at hr
   obtain ⟨b, off, vs, _, h2, _, _, h5⟩ := hr
   simp only [Late]
   exact zem N cs E vs h2 h5
 | .ms .., _, _, h, _ => by simp [flat] at h
 | .pt .., _, _, h, _ => by simp [flat] at h
 | .mr .., _, _, h, _ => by simp [flat] at h
 | .om _, _, _, _, hr => by simp only [Rep] at hr
 | .yl, _, _, h, _ => by simp [flat] at h
 | .yq, _, _, _, hr => by simp only [Rep] at hr
 | .ow .., _, _, _, hr => by simp only [Rep] at hr
 | .bx _, _, _, _, hr => by simp only [Rep] at hr
theorem zem (N : Nat → Nat) : ∀ (as : List AV) (E : Env) (vs : List Value), flats as = true → Reps E as vs → Lates N as
 | [], _, _, _, _ => by simp only [Lates]
 | a :: r, E, vs, h, hr => by
   simp only [flats, Bool.and_eq_true] at h
   simp only [Reps] at hr
   obtain ⟨v, vs', _, h2, h3⟩ := hr
   simp only [Lates]
   exact ⟨zfe N a E v h.1 h2, zem N r E vs' h.2 h3⟩
theorem zff (N : Nat → Nat) (sz : Nat) : ∀ (es : List (List AV)) (E : Env) (vs : List Value), flatEs es = true → RepEs E sz es vs → zb7 N es
 | [], _, _, _, _ => by simp only [zb7]
 | e :: r, E, vs, h, hr => by
   simp only [flatEs, Bool.and_eq_true] at h
   simp only [RepEs] at hr
   obtain ⟨v, vs', _, _, h3, h4⟩ := hr
   simp only [zb7]
   exact ⟨zem N e E v h.1 h3, zff N sz r E vs' h.2 h4⟩
end
structure ExtL (N : Nat → Nat) (E E' : Env) : Prop where
 ver : ∀ k, E.N k ≤ E'.N k
 refs : ∀ k b', E'.L k = some b' → N k ≤ b'.ver → b'.ver < E.N k → ∃ b, E.L k = some b ∧ b.ver = b'.ver ∧ b.row = b'.row ∧ E'.g k = E.g k ∧ (b.row = true → b.nl = b'.nl ∧ b.sz = b'.sz ∧ b.es.length = b'.es.length)
 cells : ∀ b, ¬ E.X b → ∀ off v, E.w.cell? ⟨b, off, none⟩ = some v → E'.w.cell? ⟨b, off, none⟩ = some v ∧ ¬ E'.X b
 sizes : ∀ gb n, zay E.w gb n → zay E'.w gb n
 yb : E'.g.y = E.g.y ∧ E'.g.b = E.g.b
mutual
theorem Rep.extL {N : Nat → Nat} {E E' : Env} (h : ExtL N E E') : ∀ (a : AV) (v : Value), Late N a → Rep E a v → Rep E' a v
 | .i _ _, _, _, hr => by simpa only [Rep] using hr
 | .b _, _, _, hr => by simpa only [Rep] using hr
 | .str _, _, _, hr => by simpa only [Rep] using hr
 | .nilp, _, _, hr => by simpa only [Rep] using hr
 | .nilf, _, _, hr => by simpa only [Rep] using hr
 | .junk, _, _, _ => by simp only [Rep]
 | .agg cs, v, hl, hr => by
   simp only [Rep, Late] at hr hl ⊢
   obtain ⟨a, h1, h2, h3⟩ := hr
   exact ⟨a, h1, h2, Reps.extL h cs _ hl h3⟩
 | .tup cs, v, hl, hr => by
   simp only [Rep, Late] at hr hl ⊢
   obtain ⟨a, h1, h3⟩ := hr
   exact ⟨a, h1, Reps.extL h cs _ hl h3⟩
 | .fn f cs, v, hl, hr => by
   simp only [Rep, Late] at hr hl ⊢
   obtain ⟨a, h1, h3⟩ := hr
   exact ⟨a, h1, Reps.extL h cs _ hl h3⟩
 | .sl k sz es, v, hl, hr => by
   simp only [Rep, Late] at hr hl ⊢
   obtain ⟨A, c, h1, h2, h3, h4, h5, h6, h7, h8⟩ := hr
   refine ⟨A, c, h1, h2, h3, h4, h5, h6, h7, fun hne => ?_⟩
   obtain ⟨b, off, vs, e1, e2, e3⟩ := h8 hne
   exact ⟨b, off, vs, e1, fun j v hv => h.cells b (e2 j v hv).2 _ _ (e2 j v hv).1, RepEs.extL h sz es _ hl e3⟩
 | .ip cs, v, hl, hr => by
   simp only [Rep, Late] at hr hl ⊢
   obtain ⟨b, off, vs, h1, h2, h3, h4, h5⟩ := hr
   exact ⟨b, off, vs, h1, h2, h3, fun j v hv => h.cells b (h4 j v hv).2 _ _ (h4 j v hv).1, Reps.extL h cs _ hl h5⟩
 | .ms key ver off len, v, hl, hr => by
   simp only [Rep, Late] at hr hl ⊢
   obtain ⟨h0, A, c, h1, h2⟩ := hr
   refine ⟨Nat.lt_of_lt_of_le h0 (h.ver key), A, c, h1, fun b' hb hv => ?_⟩
   obtain ⟨b, k1, k2, k3, k4, k5⟩ := h.refs key b' hb (by omega) (by omega)
   obtain ⟨e1, e2⟩ := h2 b k1 (by omega)
   obtain ⟨f1, f2, f3⟩ := k5 e1
   refine ⟨by rw [← k3]; exact e1, ?_⟩
   rw [k4]
   obtain ⟨q1, q2, q3, q4, q5, q6, q7⟩ := e2
   have he := zlj f3
   refine ⟨by omega, by omega, fun e => q3 (he.2 e), by rw [← f1]; exact q4, fun e => he.1 (q5 (by rw [f1]; exact e)), fun e => ?_, fun e => ?_⟩
   · rw [← f2]; exact h.sizes _ _ (q6 fun x => e (he.1 x))
   · rw [← f2]; exact q7 (e.imp id fun ⟨x, y⟩ => ⟨x, fun z => y (he.1 z)⟩)
 | .pt key ver el off, v, hl, hr => by
   simp only [Rep, Late] at hr hl ⊢
   obtain ⟨h0, ad, h1, h2⟩ := hr
   refine ⟨Nat.lt_of_lt_of_le h0 (h.ver key), ad, h1, fun b' hb hv => ?_⟩
   obtain ⟨b, k1, k2, k3, k4, k5⟩ := h.refs key b' hb (by omega) (by omega)
   obtain ⟨e1, e2⟩ := h2 b k1 (by omega)
   refine ⟨fun e => e1 (by rw [k3]; exact e), ?_⟩
   rw [e2, k4]
   cases hb' : b.row with
   | true => rw [(k5 hb').2.1]
   | false => rw [e1 hb']; simp
 | .mr key ver, v, hl, hr => by
   simp only [Rep, Late] at hr hl ⊢
   obtain ⟨h0, ad, h1, h2⟩ := hr
   refine ⟨Nat.lt_of_lt_of_le h0 (h.ver key), ad, h1, fun b' hb hv hrow => ?_⟩
   obtain ⟨b, k1, k2, k3, k4, _⟩ := h.refs key b' hb (by omega) (by omega)
   rw [k4]
   exact h2 b k1 (by omega) (by rw [k3]; exact hrow)
 | .ow .., _, _, hr => by simp only [Rep] at hr
 | .bx _, _, _, hr => by simp only [Rep] at hr
 | .om _, _, _, hr => by simp only [Rep] at hr
 | .od .., _, _, hr => by simp only [Rep] at hr
 | .yl, v, _, hr => by simp only [Rep] at hr ⊢; rw [h.yb.1]; exact hr
 | .yq, _, _, hr => by simp only [Rep] at hr
theorem Reps.extL {N : Nat → Nat} {E E' : Env} (h : ExtL N E E') : ∀ (as : List AV) (vs : List Value), Lates N as → Reps E as vs → Reps E' as vs
 | [], _, _, hr => by simpa only [Reps] using hr
 | a :: r, vs, hl, hr => by
   simp only [Reps, Lates] at hr hl ⊢
   obtain ⟨v, vs', h1, h2, h3⟩ := hr
   exact ⟨v, vs', h1, Rep.extL h a v hl.1 h2, Reps.extL h r vs' hl.2 h3⟩
theorem RepEs.extL {N : Nat → Nat} {E E' : Env} (h : ExtL N E E') (sz : Nat) : ∀ (es : List (List AV)) (vs : List Value), zb7 N es → RepEs E sz es vs → RepEs E' sz es vs
 | [], _, _, hr => by simpa only [RepEs] using hr
 | e :: r, vs, hl, hr => by
   simp only [RepEs, zb7] at hr hl ⊢
   obtain ⟨v, vs', h1, h2, h3, h4⟩ := hr
   exact ⟨v, vs', h1, h2, Reps.extL h e v hl.1 h3, RepEs.extL h sz r vs' hl.2 h4⟩
end
theorem zlv (N : Nat → Nat) : ∀ (es : List (List AV)) (E : Env) (l : List MapEntry), flatEs es = true → MapEs E es l → zb7 N es
 | [], _, _, _, _ => by simp only [zb7]
 | e :: r, E, l, h, hr => by
   simp only [flatEs, Bool.and_eq_true] at h
   simp only [MapEs] at hr
   obtain ⟨k, v, m, l', rfl, _, h3, h4, h5⟩ := hr
   simp only [flats, Bool.and_eq_true] at h
   simp only [zb7, Lates]
   exact ⟨⟨zfe N k E _ h.1.1 h3, zfe N v E _ h.1.2.1 h4, trivial⟩, zlv N r E l' h.2 h5⟩
theorem MapEs.extL {N : Nat → Nat} {E E' : Env} (h : ExtL N E E') : ∀ {es : List (List AV)} {l : List MapEntry}, zb7 N es → MapEs E es l → MapEs E' es l
 | [], _, _, hr => by simpa only [MapEs] using hr
 | e :: r, l, hl, hr => by
   simp only [MapEs, zb7] at hr hl ⊢
   obtain ⟨k, v, m, l', rfl, h2, h3, h4, h5⟩ := hr
   simp only [Lates] at hl
   exact ⟨k, v, m, l', rfl, h2, Rep.extL h k _ hl.1.1 h3, Rep.extL h v _ hl.1.2.1 h4, MapEs.extL h hl.2 h5⟩
mutual
theorem zpg {w : World} {Y : Nat → Prop} {N : Nat → Nat} : ∀ (a : AV) (v : Value) (F : List Nat) (k : Nat) (hp : Hp), RepP w Y a v F → (∀ t, N t ≤ zad hp t) →
   Late N (unpack a k hp).1 ∧ (∀ t b, look (unpack a k hp).2.2 t = some b → look hp t = some b ∨ zb7 N b.es) ∧ (∀ t, zad hp t ≤ zad (unpack a k hp).2.2 t)
 | .ow ty sz nl es, v, F, k, hp, h, hN => by
   simp only [RepP] at h
   obtain ⟨A, c, rfl, h2, h3, h4, h5, h6, h7⟩ := h
   simp only [unpack, Late]
   refine ⟨hN k, fun t b hb => ?_, fun t => ?_⟩
   · simp only [zas] at hb
     split at hb
     · injection hb with hb
       subst hb
       right
       by_cases he : es = []
       · subst he; simp only [zb7]
       · obtain ⟨gb, arr, vs, rest, _, _, _, _, k5, _⟩ := h7 he
         exact zff N sz es _ vs h4 k5
     · exact .inl hb
   · simp only [zam]
     split
     · rename_i e; subst e; omega
     · exact Nat.le_refl _
 | .bx cs, v, F, k, hp, h, hN => by
   simp only [RepP] at h
   obtain ⟨gb, arr, ty, F', rfl, rfl, h3, h4, h5⟩ := h
   obtain ⟨u1, u2, u3⟩ := zdf cs _ _ (k + 1) hp h5 hN
   simp only [unpack, Late]
   refine ⟨Nat.le_trans (hN k) (u3 k), fun t b hb => ?_, fun t => ?_⟩
   · simp only [zas] at hb
     split at hb
     · injection hb with hb
       subst hb
       right
       simp only [zb7]
       exact ⟨u1, trivial⟩
     · exact u2 t b hb
   · simp only [zam]
     split
     · rename_i e; subst e; exact Nat.le_trans (u3 t) (by omega)
     · exact u3 t
 | .agg cs, v, F, k, hp, h, hN => by
   simp only [RepP] at h
   obtain ⟨a, rfl, h2, h3⟩ := h
   simp only [unpack, Late]
   exact zdf cs _ _ k hp h3 hN
 | .tup cs, v, F, k, hp, h, hN => by
   simp only [RepP] at h
   obtain ⟨a, rfl, h3⟩ := h
   simp only [unpack, Late]
   exact zdf cs _ _ k hp h3 hN
 | .i .., _, _, _, _, _, _ => by simp only [unpack, Late]; exact ⟨trivial, fun _ _ h => .inl h, fun _ => Nat.le_refl _⟩
 | .b _, _, _, _, _, _, _ => by simp only [unpack, Late]; exact ⟨trivial, fun _ _ h => .inl h, fun _ => Nat.le_refl _⟩
 | .str _, _, _, _, _, _, _ => by simp only [unpack, Late]; exact ⟨trivial, fun _ _ h => .inl h, fun _ => Nat.le_refl _⟩
 | .nilp, _, _, _, _, _, _ => by simp only [unpack, Late]; exact ⟨trivial, fun _ _ h => .inl h, fun _ => Nat.le_refl _⟩
 | .nilf, _, _, _, _, _, _ => by simp only [unpack, Late]; exact ⟨trivial, fun _ _ h => .inl h, fun _ => Nat.le_refl _⟩
 | .junk, _, _, _, _, _, _ => by simp only [unpack, Late]; exact ⟨trivial, fun _ _ h => .inl h, fun _ => Nat.le_refl _⟩
 | .sl x y z, v, F, _, _, h, _ => by
   have := zfe N (.sl x y z) _ v rfl (RepP.to_flat (.sl x y z) v F rfl h).1
   simp only [unpack]; exact ⟨this, fun _ _ h => .inl h, fun _ => Nat.le_refl _⟩
 | .ip x, v, F, _, _, h, _ => by
   have := zfe N (.ip x) _ v rfl (RepP.to_flat (.ip x) v F rfl h).1
   simp only [unpack]; exact ⟨this, fun _ _ h => .inl h, fun _ => Nat.le_refl _⟩
 | .fn f cs, v, F, _, _, h, _ => by
   have hf : flat (.fn f cs) = true := by simp only [RepP] at h; simpa only [flat] using h.2.1
   have := zfe N (.fn f cs) _ v hf (RepP.to_flat (.fn f cs) v F hf h).1
   simp only [unpack]; exact ⟨this, fun _ _ h => .inl h, fun _ => Nat.le_refl _⟩
 | .ms .., _, _, _, _, h, _ => by simp only [RepP] at h
 | .pt .., _, _, _, _, h, _ => by simp only [RepP] at h
 | .mr .., _, _, _, _, h, _ => by simp only [RepP] at h
 | .yl, _, _, _, _, h, _ => by simp only [RepP] at h
 | .yq, _, _, _, _, h, _ => by simp only [RepP] at h
 | .om es, v, F, k, hp, h, hN => by
   simp only [RepP] at h
   obtain ⟨gb, arr, clock, rfl, rfl, h3, h4, h5⟩ := h
   simp only [unpack, Late]
   refine ⟨hN k, fun t b hb => ?_, fun t => ?_⟩
   · simp only [zas] at hb
     split at hb
     · injection hb with hb
       subst hb
       exact .inr (zlv N es _ _ h3 h5)
     · exact .inl hb
   · simp only [zam]
     split
     · rename_i e; subst e; omega
     · exact Nat.le_refl _
 | .od ty sz nl es, v, F, k, hp, h, hN => by
   simp only [RepP] at h
   obtain ⟨A, c, rfl, h2, h3, h5, h6, h7⟩ := h
   simp only [unpack, Late]
   have hu : zb7 N (zaw es (subK k) hp).1 ∧ (∀ t b, look (zaw es (subK k) hp).2 t = some b → look hp t = some b ∨ zb7 N b.es) ∧ (∀ t, zad hp t ≤ zad (zaw es (subK k) hp).2 t) := by
     by_cases he : es = []
     · subst he
       simp only [zaw, zb7]
       exact ⟨trivial, fun _ _ h => .inl h, fun _ => Nat.le_refl _⟩
     · obtain ⟨gb, arr, vs, rest, F', _, _, _, _, k5, _⟩ := h7 he
       exact zhq sz es vs F' (subK k) hp k5 hN
   obtain ⟨u1, u2, u3⟩ := hu
   refine ⟨Nat.le_trans (hN k) (u3 k), fun t b hb => ?_, fun t => ?_⟩
   · simp only [zas] at hb
     split at hb
     · injection hb with hb
       subst hb
       exact .inr u1
     · exact u2 t b hb
   · simp only [zam]
     split
     · rename_i e; subst e; exact Nat.le_trans (u3 t) (by omega)
     · exact u3 t
theorem zdf {w : World} {Y : Nat → Prop} {N : Nat → Nat} : ∀ (as : List AV) (vs : List Value) (F : List Nat) (k : Nat) (hp : Hp), RepPs w Y as vs F → (∀ t, N t ≤ zad hp t) →
   Lates N (unpacks as k hp).1 ∧ (∀ t b, look (unpacks as k hp).2.2 t = some b → look hp t = some b ∨ zb7 N b.es) ∧ (∀ t, zad hp t ≤ zad (unpacks as k hp).2.2 t)
 | [], _, _, k, hp, _, _ => by simp only [unpacks, Lates]; exact ⟨trivial, fun _ _ h => .inl h, fun _ => Nat.le_refl _⟩
 | a :: r, vs, F, k, hp, h, hN => by
   simp only [RepPs] at h
   obtain ⟨v, vs', F1, F2, rfl, rfl, h3, h4⟩ := h
   obtain ⟨u1, u2, u3⟩ := zpg a v F1 k hp h3 hN
   obtain ⟨p1, p2, p3⟩ := zdf r vs' F2 (unpack a k hp).2.1 (unpack a k hp).2.2 h4 (fun t => Nat.le_trans (hN t) (u3 t))
   simp only [unpacks, Lates]
   refine ⟨⟨u1, p1⟩, fun t b hb => ?_, fun t => Nat.le_trans (u3 t) (p3 t)⟩
   rcases p2 t b hb with hb | hb
   · exact u2 t b hb
   · exact .inr hb
theorem zhq {w : World} {Y : Nat → Prop} {N : Nat → Nat} (sz : Nat) : ∀ (es : List (List AV)) (vs : List Value) (F : List Nat) (k : Nat) (hp : Hp), RepPEs w Y sz es vs F → (∀ t, N t ≤ zad hp t) →
   zb7 N (zaw es k hp).1 ∧ (∀ t b, look (zaw es k hp).2 t = some b → look hp t = some b ∨ zb7 N b.es) ∧ (∀ t, zad hp t ≤ zad (zaw es k hp).2 t)
 | [], _, _, k, hp, _, _ => by simp only [zaw, zb7]; exact ⟨trivial, fun _ _ h => .inl h, fun _ => Nat.le_refl _⟩
 | e :: r, vs, F, k, hp, h, hN => by
   simp only [RepPEs] at h
   obtain ⟨v, vs', F1, F2, rfl, rfl, _, h3, h4⟩ := h
   obtain ⟨u1, u2, u3⟩ := zdf e v F1 k hp h3 hN
   obtain ⟨p1, p2, p3⟩ := zhq sz r vs' F2 (k + 64) (unpacks e k hp).2.2 h4 (fun t => Nat.le_trans (hN t) (u3 t))
   simp only [zaw, zb7]
   refine ⟨⟨u1, p1⟩, fun t b hb => ?_, fun t => Nat.le_trans (u3 t) (p3 t)⟩
   rcases p2 t b hb with hb | hb
   · exact u2 t b hb
   · exact .inr hb
end
end Go.Abs
end
section
set_option linter.unusedSimpArgs false
set_option linter.unusedVariables false
namespace Go.Abs
structure Back (w : World) (hp0 hp1 : Hp) (g0 : Gm) (w' : World) (Z : Nat → Prop) (hp : Hp) (g : Gm) (F : List Nat) : Prop where
 ext : Ext (Env.of w Z hp0 g0) (Env.of w' (Zp Z F) hp g)
 inv : Inv (Env.of w' (Zp Z F) hp g)
 old : ∀ t b, look hp t = some b → (look hp1 t = some b ∧ g t = g0 t) ∨ zb7 (zad hp1) b.es
 ver : ∀ t, zad hp1 t ≤ zad hp t
 nd : F.Nodup
 nz : ∀ i ∈ F, ¬ Z i
structure Side (w : World) (Z : Nat → Prop) (hp0 hp1 : Hp) (g0 : Gm) (w' : World) : Prop where
 inv : Inv (Env.of w Z hp0 g0)
 sub : ∀ t b, look hp1 t = some b → look hp0 t = some b
 ver : ∀ t, zad hp1 t = zad hp0 t
 heap : ∀ t b, look hp1 t = some b → Real b → w'.heap[g0 t]? = w.heap[g0 t]?
theorem BlkRep.extL {N : Nat → Nat} {E E' : Env} (h : ExtL N E E') (hw : E'.w = E.w) {gb : Nat} {b : Blk} (hl : zb7 N b.es) (hb : BlkRep E gb b) : BlkRep E' gb b := by
 refine ⟨fun hr => ?_, fun hr hm => ?_, fun hr hm => ?_⟩
 · obtain ⟨h1, h2, h3⟩ := hb.1 hr
   refine ⟨h1, h2, fun hne => ?_⟩
   obtain ⟨arr, vs, rest, k1, k2, k3⟩ := h3 hne
   exact ⟨arr, vs, rest, by rw [hw]; exact k1, k2, RepEs.extL h _ _ _ hl k3⟩
 · obtain ⟨cs, arr, ty, h1, h2, h3, h4⟩ := hb.2.1 hr hm
   rw [h1] at hl
   simp only [zb7] at hl
   exact ⟨cs, arr, ty, h1, h2, by rw [hw]; exact h3, Reps.extL h _ _ hl.1 h4⟩
 · obtain ⟨arr, clock, h1, h2, h3⟩ := hb.2.2 hr hm
   exact ⟨arr, clock, h1, by rw [hw]; exact h2, h3.extL h hl⟩
theorem Back.perm {w : World} {hp0 hp1 : Hp} {g0 : Gm} {w' : World} {Z : Nat → Prop} {hp : Hp} {g : Gm} {F F' : List Nat} (B : Back w hp0 hp1 g0 w' Z hp g F) (h : ∀ i, i ∈ F ↔ i ∈ F') (hn : F'.Nodup) : Back w hp0 hp1 g0 w' Z hp g F' := by
 have e : Zp Z F = Zp Z F' := by funext i; simp only [Zp, h i]
 exact ⟨e ▸ B.ext, e ▸ B.inv, B.old, B.ver, hn, fun i hi => B.nz i ((h i).2 hi)⟩
theorem Back.relay {w : World} {hp0 hp1 : Hp} {g0 : Gm} {w' : World} {Z : Nat → Prop} {hp : Hp} {g : Gm} {G F : List Nat} (S : Side w Z hp0 hp1 g0 w') (B : Back w hp0 hp1 g0 w' Z hp g (G ++ F)) {key : Nat} {b b0 : Blk} (h0 : look hp0 key = some b0) (hver : b0.ver = b.ver) (hrow : b0.row = b.row)
   (hsame : b0.row = true → b0.nl = b.nl ∧ b0.sz = b.sz ∧ b0.es.length = b.es.length) (hN : zad hp key = b.ver + 1) (hG : Real b → G = [g0 key]) :
   ExtL (zad hp1) (Env.of w' (Zp Z (G ++ F)) hp g) (Env.of w' (Zp Z F) ((key, .live b) :: hp) (upd g key (g0 key))) ∧
   (∀ i, (Env.of w' (Zp Z F) ((key, .live b) :: hp) (upd g key (g0 key))).X i → (Env.of w' (Zp Z (G ++ F)) hp g).X i) ∧
   (BlkRep (Env.of w' (Zp Z F) ((key, .live b) :: hp) (upd g key (g0 key))) (g0 key) b → zb7 (zad hp1) b.es → Back w hp0 hp1 g0 w' Z ((key, .live b) :: hp) (upd g key (g0 key)) F) := by
 have hX : ∀ i, (Env.of w' (Zp Z F) ((key, .live b) :: hp) (upd g key (g0 key))).X i → (Env.of w' (Zp Z (G ++ F)) hp g).X i := by
   rintro i (hz | ⟨t, b', h1, h2, h3⟩)
   · rcases hz with hz | hz
     · exact .inl (.inl hz)
     · exact .inl (.inr (by simp [hz]))
   · simp only [zas] at h1
     split at h1
     · rename_i e
       subst e
       injection h1 with h1
       subst h1
       simp only [upd_same] at h3
       subst h3
       refine .inl (.inr ?_)
       rw [hG h2]
       simp
     · rename_i e
       simp only [upd_ne e] at h3
       exact .inr ⟨t, b', h1, h2, h3⟩
 have hv0 := (S.inv.blk key b0 h0).1
 have hL : ExtL (zad hp1) (Env.of w' (Zp Z (G ++ F)) hp g) (Env.of w' (Zp Z F) ((key, .live b) :: hp) (upd g key (g0 key))) := by
   refine ⟨fun t => ?_, fun t b' hb h1 h2 => ?_, fun i hi off v hv => ⟨hv, fun hx => hi (hX i hx)⟩, fun _ _ h => h, ⟨rfl, rfl⟩⟩
   · simp only [zam]
     split
     · rename_i e; subst e; omega
     · exact Nat.le_refl _
   · simp only [zas] at hb
     split at hb
     · rename_i e
       subst e
       injection hb with hb
       subst hb
       have := S.ver t
       simp only at hv0
       omega
     · rename_i e
       exact ⟨b', hb, rfl, rfl, by simp only [upd_ne e], fun _ => ⟨rfl, rfl, rfl⟩⟩
 refine ⟨hL, hX, fun hbr hlate => ?_⟩
 have hE : Ext (Env.of w Z hp0 g0) (Env.of w' (Zp Z F) ((key, .live b) :: hp) (upd g key (g0 key))) := by
   refine ⟨⟨fun t => Nat.le_trans (B.ext.ver t) (hL.ver t), fun t b' hb hlt => ?_, ⟨B.ext.yb.1, B.ext.yb.2⟩⟩, fun i hi off v hv => ?_, fun gb n hs => B.ext.sizes gb n hs⟩
   · simp only [zas] at hb
     split at hb
     · rename_i e
       subst e
       injection hb with hb
       subst hb
       exact ⟨b0, h0, hver, hrow, by simp only [upd_same], hsame⟩
     · rename_i e
       obtain ⟨b1, k1, k2, k3, k4, k5⟩ := B.ext.refs t b' hb hlt
       exact ⟨b1, k1, k2, k3, by simp only [upd_ne e]; exact k4, k5⟩
   · obtain ⟨k1, k2⟩ := B.ext.cells i hi off v hv
     exact ⟨k1, fun hx => k2 (hX i hx)⟩
 refine ⟨hE, ⟨fun t b' hb => ?_, fun t b' hb hr => ?_, fun t t' b1 b2 h1 h2 hr1 hr2 he => ?_, fun i hz => B.inv.zlt i ?_⟩, fun t b' hb => ?_, fun t => Nat.le_trans (B.ver t) (hL.ver t), (List.nodup_append.1 B.nd).2.1, fun i hi => B.nz i (by simp [hi])⟩
 · simp only [zas] at hb
   simp only [zam]
   split at hb
   · rename_i e
     subst e
     injection hb with hb
     subst hb
     refine ⟨by simp, ?_⟩
     simp only [upd_same]
     exact hbr
   · rename_i e
     obtain ⟨k1, k2⟩ := B.inv.blk t b' hb
     rw [if_neg e]
     refine ⟨k1, ?_⟩
     simp only [upd_ne e]
     rcases B.old t b' hb with ⟨o1, o2⟩ | o
     · have := (S.inv.blk t b' (S.sub t b' o1)).2
       simp only at k2 this ⊢
       rw [o2]
       exact this.ext hE fun hr => S.heap t b' o1 hr
     · exact k2.extL hL rfl o
 · simp only [zas] at hb
   split at hb
   · rename_i e
     subst e
     injection hb with hb
     subst hb
     simp only [upd_same]
     have hm : g0 t ∈ G := by rw [hG hr]; simp
     rintro (hz | hz)
     · exact B.nz (g0 t) (by simp [hm]) hz
     · exact (List.nodup_append.1 B.nd).2.2 _ hm _ hz rfl
   · rename_i e
     simp only [upd_ne e]
     have := B.inv.dis t b' hb hr
     rintro (hz | hz)
     · exact this (.inl hz)
     · exact this (.inr (by simp [hz]))
 · simp only [zas] at h1 h2
   have key1 : ∀ t', t' ≠ key → look hp t' = some b2 → Real b2 → Real b → g0 key = g t' → False := by
     intro t' hne h2 hr2 hrb he
     refine B.inv.dis t' b2 h2 hr2 (.inr ?_)
     show g t' ∈ G ++ F
     rw [← he, hG hrb]
     simp
   have key2 : ∀ t', t' ≠ key → look hp t' = some b1 → Real b1 → Real b → g0 key = g t' → False := by
     intro t' hne h2 hr2 hrb he
     refine B.inv.dis t' b1 h2 hr2 (.inr ?_)
     show g t' ∈ G ++ F
     rw [← he, hG hrb]
     simp
   split at h1 <;> split at h2
   · rename_i e1 e2; rw [e1, e2]
   · rename_i e1 e2
     subst e1
     injection h1 with h1
     subst h1
     simp only [upd_same, upd_ne e2] at he
     exact (key1 t' e2 h2 hr2 hr1 he).elim
   · rename_i e1 e2
     subst e2
     injection h2 with h2
     subst h2
     simp only [upd_same, upd_ne e1] at he
     exact (key2 t e1 h1 hr1 hr2 he.symm).elim
   · rename_i e1 e2
     simp only [upd_ne e1, upd_ne e2] at he
     exact B.inv.inj t t' b1 b2 h1 h2 hr1 hr2 he
 · rcases hz with hz | hz
   · exact .inl hz
   · exact .inr (by simp [hz])
 · simp only [zas] at hb
   split at hb
   · rename_i e
     injection hb with hb
     subst hb
     exact .inr hlate
   · rename_i e
     simp only [upd_ne e]
     exact B.old t b' hb
theorem Back.unpacks {w : World} {hp0 hp1 : Hp} {g0 : Gm} {w' : World} {Z : Nat → Prop} {hp : Hp} {g : Gm} {F1 F2 : List Nat} (B : Back w hp0 hp1 g0 w' Z hp g (F1 ++ F2)) {as : List AV} {vs : List Value} {Y : Nat → Prop} (hr : RepPs w' Y as vs F1) (hY : ∀ i, (Env.of w' Z hp g).X i ∨ i ∈ F1 ++ F2 → Y i) (k : Nat) :
   ∃ g', Back w hp0 hp1 g0 w' Z (unpacks as k hp).2.2 g' F2 ∧ Reps (Env.of w' (Zp Z F2) (unpacks as k hp).2.2 g') (unpacks as k hp).1 vs ∧ Lates (zad hp1) (unpacks as k hp).1 ∧ (ones as = true → ones (unpacks as k hp).1 = true) ∧
     (∀ i, (Env.of w' Z (unpacks as k hp).2.2 g').X i → (Env.of w' Z hp g).X i ∨ i ∈ F1) := by
 have hnd := List.nodup_append.1 B.nd
 have hi : Inv (Env.of w' (Zp (Zp Z F2) F1) hp g) := by rw [zfx]; exact B.inv
 obtain ⟨g', u1, u2, u3⟩ := zeh as (Zp Z F2) vs F1 k hp g hr hi hnd.1 (fun i h1 hz => by
     rcases hz with hz | hz
     · exact B.nz i (by simp [h1]) hz
     · exact hnd.2.2 i h1 i hz rfl)
   (fun i hx => hY i (by
     rcases hx with hx | hx
     · rcases X_Zp.1 hx with hx | hx
       · exact .inl hx
       · exact .inr (by simp [hx])
     · exact .inr (by simp [hx])))
 obtain ⟨l1, l2, l3⟩ := zdf (N := zad hp1) as vs F1 k hp hr B.ver
 refine ⟨g', ⟨?_, u1.inv, fun t b hb => ?_, fun t => Nat.le_trans (B.ver t) (l3 t), hnd.2.1, fun i h => B.nz i (by simp [h])⟩, u2, l1, u3, fun i hx => ?_⟩
 · have := u1.ext
   rw [zfx] at this
   exact B.ext.trans this
 · rcases l2 t b hb with h | h
   · rcases B.old t b h with ⟨o1, o2⟩ | o
     · have hv := (B.inv.blk t b h).1
       obtain ⟨b1, k1, k2, k3, k4, k5⟩ := u1.ext.refs t b hb hv
       exact .inl ⟨o1, k4.trans o2⟩
     · exact .inr o
   · exact .inr h
 · rcases u1.less i (X_Zp.2 (.inl hx)) with hx' | hx'
   · rcases X_Zp.1 hx' with h | h
     · exact .inl h
     · -- a block of the others
       rcases hx with hz | ⟨t, b, h1, h2, h3⟩
       · exact .inl (.inl hz)
       · exact absurd (.inr (by show g' t ∈ F2; rw [show g' t = i from h3]; exact h)) (u1.inv.dis t b h1 h2)
   · exact .inr hx'
end Go.Abs
end
section
set_option linter.unusedSimpArgs false
set_option linter.unusedVariables false
namespace Go.Abs
def PlaceOk (hp : Hp) (g : Gm) (p : Place) (u : Value) : Prop :=
 ∃ b, look hp p.key = some b ∧ b.ver = p.ver ∧ ((b.row = false ∧ u = .pointer (some ⟨g p.key, 0, none⟩)) ∨
   (b.row = true ∧ p.len = b.es.length ∧ p.sz = b.sz ∧ p.nl = b.nl ∧ ∃ A c, u = .slice A b.es.length c ∧ (b.es ≠ [] → A = some ⟨g p.key, 0, none⟩)))
def PlacesOk (hp : Hp) (g : Gm) : List Place → List Value → Prop
 | [], us => us = []
 | p :: r, us => ∃ u us', us = u :: us' ∧ PlaceOk hp g p u ∧ PlacesOk hp g r us'
theorem zxg {w : World} {Z : Nat → Prop} {hp : Hp} {g : Gm} (hi : Inv (Env.of w Z hp g)) {a : AV} {p : Place} (h : place hp a = some p) {u : Value} (hr : Rep (Env.of w Z hp g) a u) : PlaceOk hp g p u := by
 unfold place at h
 split at h
 · rename_i key ver
   simp only [zaa, zat, zac, Option.some.injEq] at h
   obtain ⟨b, ⟨hb, hv⟩, hrow, rfl⟩ := h
   simp only [Rep] at hr
   obtain ⟨_, ad, rfl, h2⟩ := hr
   obtain ⟨_, rfl⟩ := h2 b hb hv
   exact ⟨b, hb, hv, .inl ⟨hrow, by simp⟩⟩
 · rename_i key ver len
   simp only [zaa, zat, zac, Option.some.injEq] at h
   obtain ⟨b, ⟨hb, hv⟩, ⟨hrow, hlen⟩, rfl⟩ := h
   simp only [Rep] at hr
   obtain ⟨_, A, c, rfl, h2⟩ := hr
   obtain ⟨_, q1, q2, q3, q4, q5, q6, q7⟩ := h2 b hb hv
   exact ⟨b, hb, hv, .inr ⟨hrow, hlen, rfl, rfl, A, c, by rw [hlen], fun he => by simpa using q7 (.inr ⟨rfl, he⟩)⟩⟩
 · cases h
theorem PlaceOk.mono {hp hp' : Hp} {g : Gm} (h : ∀ t b, look hp' t = some b → look hp t = some b) {p : Place} {u : Value} (hp' : PlaceOk hp' g p u) : PlaceOk hp g p u := by
 obtain ⟨b, h1, h2⟩ := hp'
 exact ⟨b, h _ _ h1, h2⟩
theorem PlacesOk.mono {hp hp' : Hp} {g : Gm} (h : ∀ t b, look hp' t = some b → look hp t = some b) : ∀ {ps : List Place} {us : List Value}, PlacesOk hp' g ps us → PlacesOk hp g ps us
 | [], _, k => k
 | p :: r, us, k => by
   simp only [PlacesOk] at k ⊢
   obtain ⟨u, us', h1, h2, h3⟩ := k
   exact ⟨u, us', h1, h2.mono h, h3.mono h⟩
theorem zt6 (Z : Nat → Prop) (a : Nat) (F F2 : List Nat) : ∀ i, i ∈ (a :: F) ++ F2 ↔ i ∈ F ++ (a :: F2) := by
 intro i
 simp only [List.mem_append, List.mem_cons]
 constructor
 · rintro ((h | h) | h)
   · exact .inr (.inl h)
   · exact .inl h
   · exact .inr (.inr h)
 · rintro (h | h | h)
   · exact .inl (.inr h)
   · exact .inl (.inl h)
   · exact .inr h
theorem zwy {w : World} {hp0 hp1 : Hp} {g0 : Gm} {w' : World} {Z : Nat → Prop} {hp : Hp} {g : Gm} {F1 F2 : List Nat} (S : Side w Z hp0 hp1 g0 w') (B : Back w hp0 hp1 g0 w' Z hp g (F1 ++ F2)) {p : Place} {u : Value} (hpl : PlaceOk hp0 g0 p u) {a : AV} {Y : Nat → Prop} (hr : RepP w' Y a u F1)
   (hY : ∀ i, (Env.of w' Z hp g).X i ∨ i ∈ F1 ++ F2 → Y i) {k : Nat} {r : Nat × Hp} (h : back1 p k hp a = some r) : ∃ g', Back w hp0 hp1 g0 w' Z r.2 g' F2 ∧ (∀ i, (Env.of w' Z r.2 g').X i → (Env.of w' Z hp g).X i ∨ i ∈ F1) := by
 obtain ⟨b0, h0, hver, hpl⟩ := hpl
 cases a <;> simp only [back1] at h <;> try cases h
 case ow ty sz nl es =>
   simp only [zac, Option.some.injEq] at h
   obtain ⟨⟨h1, h2, h3, h4⟩, rfl⟩ := h
   simp only [RepP] at hr
   obtain ⟨A, c, rfl, q1, q2, q3, q4, q5, q6⟩ := hr
   rcases hpl with ⟨_, hu⟩ | ⟨hrow, l1, l2, l3, A', c', hu, l4⟩
   · cases hu
   · injection hu with hA hlen hc
     subst hA
     have hG : Real { ver := p.ver, row := true, nl, ty, sz, es } → F1 = [g0 p.key] := by
       intro hre
       have hne : es ≠ [] := by rcases hre with hre | hre
                                · cases hre
                                · exact hre
       obtain ⟨gb, arr, vs, rest, rfl, hA2, _⟩ := q6 hne
       have := l4 (by rintro e; rw [e] at hlen; exact hne (List.length_eq_zero_iff.1 (by simpa using hlen)))
       rw [hA2] at this
       injection this with this
       injection this with this
       rw [this]
     obtain ⟨r1, r2, r3⟩ := Back.relay (G := F1) (F := F2) S B (b := { ver := p.ver, row := true, nl, ty, sz, es }) h0 hver hrow (fun _ => ⟨by rw [h3]; exact l3.symm, by rw [h2]; exact l2.symm, by simp only; omega⟩) h4 hG
     have hX : ∀ i, (Env.of w' Z ((p.key, .live { ver := p.ver, row := true, nl, ty, sz, es }) :: hp) (upd g p.key (g0 p.key))).X i → (Env.of w' Z hp g).X i ∨ i ∈ F1 := by
       rintro i (hz | ⟨t, b', e1, e2, e3⟩)
       · exact .inl (.inl hz)
       · simp only [zas] at e1
         split at e1
         · rename_i e
           subst e
           injection e1 with e1
           subst e1
           simp only [upd_same] at e3
           right
           rw [hG e2, ← e3]
           simp
         · rename_i e
           simp only [upd_ne e] at e3
           exact .inl (.inr ⟨t, b', e1, e2, e3⟩)
     refine ⟨_, r3 ⟨fun _ => ⟨(fun _ => q3), q4, fun hne => ?_⟩, (fun h => by cases h), (fun h => by cases h)⟩ ?_, hX⟩
     · obtain ⟨gb, arr, vs, rest, hF, hA2, k3, k4, k5, _⟩ := q6 hne
       have hgb : gb = g0 p.key := by
         have := hG (.inr hne)
         rw [hF] at this
         simpa using this
       subst hgb
       refine ⟨arr, vs, rest, k3, k4, RepEs.flat (E := Env.imm w' Y) (E' := Env.of w' (Zp Z F2) _ _) rfl (fun i hx => (Env.imm_X _ _ _).2 (hY i ?_)) _ _ _ q3 k5⟩
       rcases X_Zp.1 (r2 i hx) with h | h
       · exact .inl h
       · exact .inr h
     · by_cases hne : es = []
       · subst hne; simp only [zb7]
       · obtain ⟨gb, arr, vs, rest, hF, hA2, k3, k4, k5, _⟩ := q6 hne
         exact zff _ sz es _ vs q3 k5
 case bx cs =>
   simp only [zac, Option.some.injEq] at h
   obtain ⟨⟨_, h4, _⟩, rfl⟩ := h
   simp only [RepP] at hr
   obtain ⟨gb, arr, ty, F', rfl, rfl, q1, q2, q3⟩ := hr
   rcases hpl with ⟨hrow, hu⟩ | ⟨_, _, _, _, _, _, hu, _⟩
   · injection hu with hu
     injection hu with hu
     injection hu with hu
     subst hu
     have hnd : (F' ++ (g0 p.key :: F2)).Nodup := by
       have := B.nd
       rw [List.nodup_append] at this ⊢
       obtain ⟨n1, n2, n3⟩ := this
       rw [List.nodup_cons] at n1
       refine ⟨n1.2, List.nodup_cons.2 ⟨fun hm => n3 _ (by simp) _ hm rfl, n2⟩, fun x hx y hy => ?_⟩
       rcases List.mem_cons.1 hy with rfl | hy
       · rintro rfl; exact n1.1 hx
       · exact n3 x (by simp [hx]) y hy
     have B1 := B.perm (zt6 Z (g0 p.key) F' F2) hnd
     obtain ⟨g1, B2, u1, u2, u3, u4⟩ := B1.unpacks q3 (fun i hx => hY i (by
       rcases hx with hx | hx
       · exact .inl hx
       · exact .inr ((zt6 Z (g0 p.key) F' F2 i).2 hx))) k
     obtain ⟨r1, r2, r3⟩ := Back.relay (G := [g0 p.key]) (F := F2) S B2 (b := { ver := p.ver, row := false, nl := false, ty := 0, sz := (unpacks cs k hp).1.length, es := [(unpacks cs k hp).1] }) h0 hver hrow (fun h => by rw [hrow] at h; cases h) h4 (fun _ => rfl)
     refine ⟨_, r3 ⟨(fun h => by cases h), fun _ _ => ⟨_, arr, ty, rfl, u3 q1, q2, Reps.extL r1 _ _ u2 u1⟩, fun _ h => by cases h⟩ (by simp only [zb7]; exact ⟨u2, trivial⟩), fun i hx => ?_⟩
     rcases hx with hz | ⟨t, b', e1, e2, e3⟩
     · exact .inl (.inl hz)
     · simp only [zas] at e1
       split at e1
       · rename_i e
         subst e
         simp only [upd_same] at e3
         right
         rw [← e3]
         simp
       · rename_i e
         simp only [upd_ne e] at e3
         rcases u4 i (.inr ⟨t, b', e1, e2, e3⟩) with h | h
         · exact .inl h
         · exact .inr (by simp [h])
   · cases hu
theorem zu3 {w : World} {hp0 hp1 : Hp} {g0 : Gm} {w' : World} {Z : Nat → Prop} (S : Side w Z hp0 hp1 g0 w') {Y : Nat → Prop} : ∀ (io : List Place) (os : List AV) (us : List Value) (k : Nat) (hp : Hp) (g : Gm) (F1 F2 : List Nat) (r : Nat × Hp), back io os k hp = some r → Back w hp0 hp1 g0 w' Z hp g (F1 ++ F2) → PlacesOk hp0 g0 io us →
   RepPs w' Y os us F1 → (∀ i, (Env.of w' Z hp g).X i ∨ i ∈ F1 ++ F2 → Y i) → ∃ g', Back w hp0 hp1 g0 w' Z r.2 g' F2 ∧ (∀ i, (Env.of w' Z r.2 g').X i → (Env.of w' Z hp g).X i ∨ i ∈ F1)
 | [], [], us, k, hp, g, F1, F2, r, h, B, _, hr, _ => by
   simp only [back, Option.some.injEq] at h
   subst h
   simp only [RepPs] at hr
   obtain ⟨_, rfl⟩ := hr
   exact ⟨g, B, fun i hx => .inl hx⟩
 | p :: io, a :: os, us, k, hp, g, F1, F2, r, h, B, hpl, hr, hY => by
   simp only [back, zaa] at h
   obtain ⟨x, h1, h2⟩ := h
   simp only [PlacesOk] at hpl
   obtain ⟨u, us', rfl, p1, p2⟩ := hpl
   simp only [RepPs] at hr
   obtain ⟨v, vs', Fa, Fb, he, rfl, r1, r2⟩ := hr
   injection he with he1 he2
   subst he1
   subst he2
   rw [List.append_assoc] at B
   obtain ⟨g1, B1, x1⟩ := zwy S B p1 r1 (fun i hx => hY i (by
     rcases hx with hx | hx
     · exact .inl hx
     · right; simpa [List.append_assoc] using hx)) h1
   obtain ⟨g2, B2, x2⟩ := zu3 S io os us' x.1 x.2 g1 Fb F2 r h2 B1 p2 r2 (fun i hx => hY i (by
     rcases hx with hx | hx
     · rcases x1 i hx with h | h
       · exact .inl h
       · right; simp [h]
     · right; simp only [List.mem_append] at hx ⊢
       rcases hx with hx | hx
       · exact .inl (.inr hx)
       · exact .inr hx))
   refine ⟨g2, B2, fun i hx => ?_⟩
   rcases x2 i hx with h | h
   · rcases x1 i h with h | h
     · exact .inl h
     · right; simp [h]
   · right; simp [h]
 | [], _ :: _, _, _, _, _, _, _, _, h, _, _, _, _ => by simp [back] at h
 | _ :: _, [], _, _, _, _, _, _, _, h, _, _, _, _ => by simp [back] at h
end Go.Abs
end
