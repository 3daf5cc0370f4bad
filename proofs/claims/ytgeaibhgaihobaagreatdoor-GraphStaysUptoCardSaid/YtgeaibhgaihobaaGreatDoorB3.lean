/-
  Own work. Contracts of the functions, and the plain law: many texts, merged by program.
-/
import Derived.Test.YtgeaibhgaihobaaGreatDoorB2
import Derived.Test.YtgeaibhgaihobaaGreatDoorB1
set_option linter.unusedSimpArgs false
set_option linter.unusedVariables false
set_option maxHeartbeats 8000000
set_option maxRecDepth 100000
namespace Go.Proofs.YtgeaibhgaihobaaGreatDoor
open Go.Abs
open Nat renaming add_assoc → J0, reduceEqDiff → Ja, reduceAdd → Jb, reduceMul → Jc, reduceSub → Jd, reduceLeDiff → Je, reduceLT → Jf, reduceBEq → Jg, reduceBNe → Jh
open Int renaming reduceLE → Ji, reduceLT → Jj, reduceToNat → Jk, reduceEq → Jl, reduceNe → Jm, reduceNeg → Jn, reduceAdd → Jo, reduceSub → Jp, reduceMul → Jq, cast_ofNat_Int → Jr, natCast_zero → Js
section
theorem zx7 : ∀ a : List UInt8, Op.bytesLess a a = false
 | [] => rfl
 | a :: x => by simp [Op.bytesLess, zx7 x]
theorem zyh : ∀ {a b : List UInt8}, Op.bytesLess a b = false → Op.bytesLess b a = false → a = b
 | [], [], _, _ => rfl
 | [], b :: y, h, _ => by simp [Op.bytesLess] at h
 | a :: x, [], _, h => by simp [Op.bytesLess] at h
 | a :: x, b :: y, h, h' => by
   simp only [Op.bytesLess, Bool.or_eq_false_iff, decide_eq_false_iff_not, Bool.and_eq_false_iff, beq_eq_false_iff_ne, ne_eq] at h h'
   have e : a = b := by
     have h1 := h.1
     have h2 := h'.1
     rw [UInt8.lt_iff_toNat_lt] at h1 h2
     exact UInt8.toNat_inj.1 (by omega)
   subst e
   rw [zyh (h.2.resolve_left fun k => k rfl) (h'.2.resolve_left fun k => k rfl)]
theorem zq9 : ∀ {a b c : List UInt8}, Op.bytesLess a b = true → Op.bytesLess b c = true → Op.bytesLess a c = true
 | [], [], _, h, _ => by simp [Op.bytesLess] at h
 | a :: x, [], _, h, _ => by simp [Op.bytesLess] at h
 | _, b :: y, [], _, h => by simp [Op.bytesLess] at h
 | [], b :: y, c :: z, _, _ => by simp [Op.bytesLess]
 | a :: x, b :: y, c :: z, h, h' => by
   simp only [Op.bytesLess, Bool.or_eq_true, decide_eq_true_eq, Bool.and_eq_true, beq_iff_eq] at h h' ⊢
   rcases h with h | ⟨rfl, h⟩
   · rcases h' with h' | ⟨rfl, h'⟩
     · exact .inl (by rw [UInt8.lt_iff_toNat_lt] at *; omega)
     · exact .inl h
   · rcases h' with h' | ⟨rfl, h'⟩
     · exact .inl h'
     · exact .inr ⟨rfl, zq9 h h'⟩
abbrev PPs := List (List UInt8 × PV)
def isN (nm : List UInt8) (x : List UInt8 × PV) : Bool := decide (x.1 = nm)
def putP (nm : List UInt8) (v : PV) : PPs → PPs
 | [] => [(nm, v)]
 | x :: r => if Op.bytesLess x.1 nm = true then x :: putP nm v r else if x.1 = nm then (nm, v) :: r else (nm, v) :: x :: r
def delP (nm : List UInt8) (l : PPs) : PPs := l.filter fun x => !isN nm x
theorem zcw {q : Option (List UInt8)} {x : List UInt8 × PV} {r : PPs} : zfu q (x :: r) = false ↔ nameB x.1 = true ∧ zc2 q x.1 = false ∧ mayV x.2 0 = true ∧ zfu (some x.1) r = false := by
 simp only [zfu, Bool.or_eq_false_iff, Bool.not_eq_false', and_assoc]
theorem zn2 {nm : List UInt8} {v : PV} (hn : nameB nm = true) (hv : mayV v 0 = true) : ∀ {l : PPs} {q : Option (List UInt8)}, zfu q l = false → zc2 q nm = false → zfu q (putP nm v l) = false
 | [], q, h, hq => by
   simp only [putP]
   exact zcw.2 ⟨hn, hq, hv, rfl⟩
 | x :: r, q, h, hq => by
   obtain ⟨h1, h2, h3, h4⟩ := zcw.1 h
   simp only [putP]
   by_cases hl : Op.bytesLess x.1 nm = true
   · rw [if_pos hl]
     exact zcw.2 ⟨h1, h2, h3, zn2 hn hv h4 (by simp only [zc2, hl, Bool.not_true])⟩
   · rw [if_neg hl]
     by_cases he : x.1 = nm
     · rw [if_pos he]
       exact zcw.2 ⟨hn, hq, hv, by rw [← he]; exact h4⟩
     · rw [if_neg he]
       refine zcw.2 ⟨hn, hq, hv, zcw.2 ⟨h1, ?_, h3, h4⟩⟩
       cases hb : Op.bytesLess nm x.1 with
       | true => simp only [zc2, hb, Bool.not_true]
       | false => exact absurd (zyh (by simpa using hl) hb) he
theorem zr3 {b : List UInt8} {q : Option (List UInt8)} (hq : zc2 q b = false) : ∀ {l : PPs}, zfu (some b) l = false → zfu q l = false
 | [], _ => rfl
 | x :: r, h => by
   obtain ⟨h1, h2, h3, h4⟩ := zcw.1 h
   refine zcw.2 ⟨h1, ?_, h3, h4⟩
   cases q with
   | none => rfl
   | some a =>
     simp only [zc2, Bool.not_eq_false'] at hq h2 ⊢
     exact zq9 hq h2
theorem zsq (nm : List UInt8) (x : List UInt8 × PV) (r : PPs) : delP nm (x :: r) = if x.1 = nm then delP nm r else x :: delP nm r := by
 simp only [delP, List.filter_cons, isN]
 by_cases h : x.1 = nm <;> simp [h]
theorem zjm {nm : List UInt8} : ∀ {l : PPs} {q : Option (List UInt8)}, zfu q l = false → zfu q (delP nm l) = false
 | [], q, _ => rfl
 | x :: r, q, h => by
   obtain ⟨h1, h2, h3, h4⟩ := zcw.1 h
   rw [zsq]
   split
   · exact zr3 h2 (zjm h4)
   · exact zcw.2 ⟨h1, h2, h3, zjm h4⟩
theorem zwv (nm : List UInt8) (l : PPs) : (delP nm l).length ≤ l.length := List.length_filter_le ..
def updV (i : Nat) (P : PPs) : List PVx → List PVx
 | [] => []
 | x :: r => match i with | 0 => { x with props := P } :: r | i + 1 => x :: updV i P r
theorem zv1 (P Q : PPs) : ∀ (l : List PVx) (i : Nat), updV i Q (updV i P l) = updV i Q l
 | [], _ => by simp only [updV]
 | x :: r, 0 => rfl
 | x :: r, i + 1 => by simp only [updV, zv1 P Q r i]
theorem zqv (P : PPs) : ∀ (l : List PVx) (i : Nat), (updV i P l).length = l.length
 | [], _ => by simp only [updV]
 | y :: r, 0 => rfl
 | y :: r, i + 1 => by simp only [updV, List.length_cons, zqv P r i]
theorem zq0 {vs : List Vx} (y : Vx) (P : PPs) (hP : y.props.map tagP = P) : ∀ {l : List Vx} {i : Nat} {x : Vx}, l[i]? = some x → y.id = x.id ∧ y.label = x.label → (l.set i y).map Vx.p = updV i P (l.map Vx.p)
 | [], _, _, h, _ => by simp at h
 | z :: r, 0, x, h, he => by
   obtain rfl : z = x := by simpa using h
   obtain ⟨e1, e2⟩ := he
   simp only [List.set_cons_zero, List.map_cons, updV, Vx.p, hP, e1, e2]
 | z :: r, i + 1, x, h, he => by simp only [List.set_cons_succ, List.map_cons, updV, zq0 (vs := vs) y P hP (l := r) (i := i) (x := x) (by simpa using h) he]
def updE (i : Nat) (P : PPs) : List PLk → List PLk
 | [] => []
 | x :: r => match i with | 0 => { x with props := P } :: r | i + 1 => x :: updE i P r
theorem zxc (P Q : PPs) : ∀ (l : List PLk) (i : Nat), updE i Q (updE i P l) = updE i Q l
 | [], _ => by simp only [updE]
 | x :: r, 0 => rfl
 | x :: r, i + 1 => by simp only [updE, zxc P Q r i]
theorem zqq (P : PPs) : ∀ (l : List PLk) (i : Nat), (updE i P l).length = l.length
 | [], _ => by simp only [updE]
 | y :: r, 0 => rfl
 | y :: r, i + 1 => by simp only [updE, List.length_cons, zqq P r i]
theorem zqk {es : List Lk} (y : Lk) (P : PPs) (hP : y.props.map tagP = P) : ∀ {l : List Lk} {i : Nat} {x : Lk}, l[i]? = some x → y.id = x.id ∧ y.label = x.label ∧ y.out = x.out ∧ y.inn = x.inn → (l.set i y).map Lk.p = updE i P (l.map Lk.p)
 | [], _, _, h, _ => by simp at h
 | z :: r, 0, x, h, he => by
   obtain rfl : z = x := by simpa using h
   obtain ⟨e1, e2, e3, e4⟩ := he
   simp only [List.set_cons_zero, List.map_cons, updE, Lk.p, hP, e1, e2, e3, e4]
 | z :: r, i + 1, x, h, he => by simp only [List.set_cons_succ, List.map_cons, updE, zqk (es := es) y P hP (l := r) (i := i) (x := x) (by simpa using h) he]
theorem zoj {P : PPs} (hP : zcj P = false) {top : Int} : ∀ {l : List PVx} {i : Nat} {last : Int}, zdc top last l = false → zdc top last (updV i P l) = false
 | [], _, _, _ => by simp only [updV, zdc]
 | y :: r, 0, last, h => by
   simp only [zdc, Bool.or_eq_false_iff, znf, bvx] at h
   simp only [updV, zdc, Bool.or_eq_false_iff, znf, bvx, hP]
   exact ⟨⟨h.1.1, h.1.2.1, h.1.2.2.1, trivial⟩, h.2⟩
 | y :: r, i + 1, last, h => by
   simp only [zdc, Bool.or_eq_false_iff] at h
   simp only [updV, zdc, Bool.or_eq_false_iff]
   exact ⟨h.1, zoj hP h.2⟩
theorem zn9 {ids : Int → Bool} {P : PPs} (hP : zcj P = false) {top : Int} : ∀ {l : List PLk} {i : Nat} {last : Int}, zdh ids top last l = false → zdh ids top last (updE i P l) = false
 | [], _, _, _ => by simp only [updE, zdh]
 | y :: r, 0, last, h => by
   simp only [zdh, Bool.or_eq_false_iff, zm5, blk] at h
   simp only [updE, zdh, Bool.or_eq_false_iff, zm5, blk, hP]
   exact ⟨⟨h.1.1, h.1.2.1, h.1.2.2.1, trivial, h.1.2.2.2.2⟩, h.2⟩
 | y :: r, i + 1, last, h => by
   simp only [zdh, Bool.or_eq_false_iff] at h
   simp only [updE, zdh, Bool.or_eq_false_iff]
   exact ⟨h.1, zn9 hP h.2⟩
theorem zqs {top : Int} : ∀ {l : List PVx} {i : Nat} {last : Int} {x : PVx}, zdc top last l = false → l[i]? = some x → zcj x.props = false
 | [], _, _, _, _, h => by simp at h
 | y :: r, 0, last, x, h, hx => by
   obtain rfl : y = x := by simpa using hx
   simp only [zdc, Bool.or_eq_false_iff, znf, bvx] at h
   exact h.1.2.2.2
 | y :: r, i + 1, last, x, h, hx => by
   simp only [zdc, Bool.or_eq_false_iff] at h
   exact zqs h.2 (by simpa using hx)
theorem zqi {ids : Int → Bool} {top : Int} : ∀ {l : List PLk} {i : Nat} {last : Int} {x : PLk}, zdh ids top last l = false → l[i]? = some x → zcj x.props = false
 | [], _, _, _, _, h => by simp at h
 | y :: r, 0, last, x, h, hx => by
   obtain rfl : y = x := by simpa using hx
   simp only [zdh, Bool.or_eq_false_iff, zm5, blk] at h
   exact h.1.2.2.2.1
 | y :: r, i + 1, last, x, h, hx => by
   simp only [zdh, Bool.or_eq_false_iff] at h
   exact zqi h.2 (by simpa using hx)
theorem zn0 (P : PPs) (n : Int) : ∀ (l : List PVx) (i : Nat), zcs (updV i P l) n = zcs l n
 | [], _ => by simp only [updV]
 | y :: r, 0 => rfl
 | y :: r, i + 1 => by
   have := zn0 P n r i
   simp only [zcs] at this
   simp only [zcs, updV, List.any_cons, this]
inductive Pl where
 | v (i : Nat)
 | e (i : Nat)
def plOf (kd a b : Int) : Option Pl := if kd = 6 then if 0 ≤ a then some (.v a.toNat) else none else if kd = 7 then if 0 ≤ b then some (.e b.toNat) else none else none
def zee (g : PG) (kd n : Int) : Option Pl := plOf kd (idxJ (fun x : PVx => decide (x.id = n)) g.v 0) (idxJ (fun x : PLk => decide (x.id = n)) g.e 0)
def PG.at (g : PG) : Pl → PPs
 | .v i => ((g.v[i]?).map (·.props)).getD []
 | .e i => ((g.e[i]?).map (·.props)).getD []
def PG.put (g : PG) : Pl → PPs → PG
 | .v i, P => { g with v := updV i P g.v }
 | .e i, P => { g with e := updE i P g.e }
def PG.has (g : PG) : Pl → Prop
 | .v i => i < g.v.length
 | .e i => i < g.e.length
theorem zho {g : PG} {kd n : Int} {p : Pl} (h : zee g kd n = some p) : g.has p := by
 unfold zee plOf at h
 split at h
 · split at h
   · rename_i h0
     obtain rfl : .v _ = p := by simpa using h
     obtain ⟨x, hx, _⟩ := zbh (q := fun x : PVx => decide (x.id = n)) (l := g.v) (i := (idxJ (fun x : PVx => decide (x.id = n)) g.v 0).toNat) (by omega)
     exact zbi hx
   · cases h
 · split at h
   · split at h
     · rename_i h0
       obtain rfl : .e _ = p := by simpa using h
       obtain ⟨x, hx, _⟩ := zbh (q := fun x : PLk => decide (x.id = n)) (l := g.e) (i := (idxJ (fun x : PLk => decide (x.id = n)) g.e 0).toNat) (by omega)
       exact zbi hx
     · cases h
   · cases h
theorem zue {g : PG} (p : Pl) {P : PPs} (h : okG g = true) (hP : zcj P = false) : okG (g.put p P) = true := by
 simp only [okG, Bool.and_eq_true, Bool.not_eq_true'] at h ⊢
 obtain ⟨h1, h2, h3⟩ := h
 cases p with
 | v i =>
   refine ⟨?_, zoj hP h2, ?_⟩
   · simp only [tooBig, PG.put, zqv] at h1 ⊢; exact h1
   · have : zcs (updV i P g.v) = zcs g.v := funext fun n => zn0 P n g.v i
     simp only [PG.put, this]; exact h3
 | e i =>
   refine ⟨?_, h2, zn9 hP h3⟩
   simp only [tooBig, PG.put, zqq] at h1 ⊢; exact h1
theorem zql {g : PG} {p : Pl} (h : okG g = true) (hp : g.has p) : zcj (g.at p) = false := by
 simp only [okG, Bool.and_eq_true, Bool.not_eq_true'] at h
 obtain ⟨h1, h2, h3⟩ := h
 cases p with
 | v i =>
   obtain ⟨x, hx⟩ := zbe (show i < g.v.length from hp)
   simp only [PG.at, hx, Option.map_some, Option.getD_some]
   exact zqs h2 hx
 | e i =>
   obtain ⟨x, hx⟩ := zbe (show i < g.e.length from hp)
   simp only [PG.at, hx, Option.map_some, Option.getD_some]
   exact zqi h3 hx
theorem zdg {P : PPs} : zcj P = false ↔ zfu none P = false ∧ P.length ≤ 16 := by
 simp only [zcj, Bool.or_eq_false_iff, decide_eq_false_iff_not]
 exact ⟨fun h => ⟨h.1, by omega⟩, fun h => ⟨h.1, by omega⟩⟩
def setG (g : PG) (kd n : Int) (nm : List UInt8) (v : PV) : PG × Int :=
 if okG g = true then match zee g kd n with
   | none => (g, 101)
   | some p => if nameB nm = true then if mayV v 0 = true then if (putP nm v (g.at p)).length ≤ 16 then (g.put p (putP nm v (g.at p)), 0) else (g, 102) else (g, 20) else (g, 100)
 else (g, 103)
def zgu (g : PG) (kd n : Int) (nm : List UInt8) : PG × Bool × Int :=
 if okG g = true then match zee g kd n with
   | none => (g, false, 101)
   | some p => (g.put p (delP nm (g.at p)), decide ((delP nm (g.at p)).length < (g.at p).length), 0)
 else (g, false, 103)
def propG (g : PG) (kd n : Int) (nm : List UInt8) : Option PV := match zee g kd n with
 | none => none
 | some p => ((g.at p).find? (isN nm)).map (·.2)
end
section
theorem zry {g : Gr} (h : g.ok) {v : Vl} (hv : v.ok) {name s : List UInt8} {n : Int} {kk : SK} {z : Nat} {ll : List (List AV)} {i : Nat} {x : Vx} (hn : name.length ≤ 137438953472) (hc : okG g.p = true) (hi : idxJ (isV n) (g.vs.map Vx.cl) 0 = (i : Int)) (hx : g.vs[i]? = some x) (hq : nameB name = false) :
   acall S 22 [.agg g.c, .agg [.i .i64 6, .i .i64 n, .str s, .sl kk z ll], .str name, .agg v.c] = some (.tup [.agg g.cl.c, .i .i64 100], []) := by
 have hcl := e1000011 g h
 have hck := e7 g.cl (Gr.cl_ok h)
 rw [Gr.cl_p, hc] at hck
 have hvl := h.vl
 have hel := h.el
 have hv0 := zdo (zch g.vs)
 have he0 := zdl (zcg g.es)
 have hx2 : (g.vs.map Vx.cl)[i]? = some x.cl := by rw [List.getElem?_map, hx]; rfl
 have hlt : i < g.vs.length := (List.getElem?_eq_some_iff.1 hx).1
 have hp := fun hp hh => zca (hp := hp) (kv := 1024) (ke := 1025) (Kv := 1025000000000000000) (Ke := 1026000000000000000) (last := g.last) (s := s) (y := .sl kk z ll) hh (zcm h (by omega) (by omega) (by omega) (by omega)) hi hx2
 have hnm := e27 name (Nat.le_trans hn (by decide))
 have hvk := e54 v hv
 rw [hq] at hnm
 obtain ⟨yk, ym, ys, ykk, yz, yll⟩ := v
 simp only [growd, Gr.c, Gr.cl, Vl.c, Vl.cs_map] at hcl hck hvk ⊢
 simp only [zce, List.length_map, zen, vBlk, eBlk, bxB] at hp
 refine W_eq (g22 rfl ?_)
 (repeat' (first | with_reducible refine zab ?_ | simp only [go_sem, J0, reduceIte, reduceCtorEq, Ja, Jb, Jc, Jd, Je, Jf, Jg, Jh, Ji, Jj, Jk, Jl, Jm, Jn, Jo, Jp, Jq, Jr, Js, a22, s1000011, hcl, s7, hck, List.length_map, hvl, hel, hv0, he0, zdv (ty := 45) (sz := 5), zcb (ty := 45) (sz := 5), hp, s27, hnm]))
theorem zu8 {g : Gr} (h : g.ok) {v : Vl} (hv : v.ok) {name s : List UInt8} {n : Int} {kk : SK} {z : Nat} {ll : List (List AV)} {i : Nat} {x : Vx} (hn : name.length ≤ 137438953472) (hc : okG g.p = true) (hi : idxJ (isV n) (g.vs.map Vx.cl) 0 = (i : Int)) (hx : g.vs[i]? = some x) (hq : nameB name = true) (hw : mayV v.p 0 = false) :
   acall S 22 [.agg g.c, .agg [.i .i64 6, .i .i64 n, .str s, .sl kk z ll], .str name, .agg v.c] = some (.tup [.agg g.cl.c, .i .i64 20], []) := by
 have hcl := e1000011 g h
 have hck := e7 g.cl (Gr.cl_ok h)
 rw [Gr.cl_p, hc] at hck
 have hvl := h.vl
 have hel := h.el
 have hv0 := zdo (zch g.vs)
 have he0 := zdl (zcg g.es)
 have hx2 : (g.vs.map Vx.cl)[i]? = some x.cl := by rw [List.getElem?_map, hx]; rfl
 have hlt : i < g.vs.length := (List.getElem?_eq_some_iff.1 hx).1
 have hp := fun hp hh => zca (hp := hp) (kv := 1024) (ke := 1025) (Kv := 1025000000000000000) (Ke := 1026000000000000000) (last := g.last) (s := s) (y := .sl kk z ll) hh (zcm h (by omega) (by omega) (by omega) (by omega)) hi hx2
 have hnm := e27 name (Nat.le_trans hn (by decide))
 have hvk := e54 v hv
 rw [hq] at hnm
 rw [hw] at hvk
 obtain ⟨yk, ym, ys, ykk, yz, yll⟩ := v
 simp only [growd, Gr.c, Gr.cl, Vl.c, Vl.cs_map] at hcl hck hvk ⊢
 simp only [zce, List.length_map, zen, vBlk, eBlk, bxB] at hp
 refine W_eq (g22 rfl ?_)
 (repeat' (first | with_reducible refine zab ?_ | simp only [go_sem, J0, reduceIte, reduceCtorEq, Ja, Jb, Jc, Jd, Je, Jf, Jg, Jh, Ji, Jj, Jk, Jl, Jm, Jn, Jo, Jp, Jq, Jr, Js, a22, s1000011, hcl, s7, hck, List.length_map, hvl, hel, hv0, he0, zdv (ty := 45) (sz := 5), zcb (ty := 45) (sz := 5), hp, s27, hnm, s54, hvk]))
theorem zr0 {g : Gr} (h : g.ok) {v : Vl} (hv : v.ok) {name s : List UInt8} {n : Int} {kk : SK} {z : Nat} {ll : List (List AV)} {i : Nat} {x : Lk} (hn : name.length ≤ 137438953472) (hc : okG g.p = true) (hi : idxJ (isE n) (g.es.map Lk.cl) 0 = (i : Int)) (hx : g.es[i]? = some x) (hq : nameB name = false) :
   acall S 22 [.agg g.c, .agg [.i .i64 7, .i .i64 n, .str s, .sl kk z ll], .str name, .agg v.c] = some (.tup [.agg g.cl.c, .i .i64 100], []) := by
 have hcl := e1000011 g h
 have hck := e7 g.cl (Gr.cl_ok h)
 rw [Gr.cl_p, hc] at hck
 have hvl := h.vl
 have hel := h.el
 have hv0 := zdo (zch g.vs)
 have he0 := zdl (zcg g.es)
 have hx2 : (g.es.map Lk.cl)[i]? = some x.cl := by rw [List.getElem?_map, hx]; rfl
 have hlt : i < g.es.length := (List.getElem?_eq_some_iff.1 hx).1
 have hp := fun hp hh => zcc (hp := hp) (kv := 1024) (ke := 1025) (Kv := 1025000000000000000) (Ke := 1026000000000000000) (last := g.last) (s := s) (y := .sl kk z ll) hh (zcm h (by omega) (by omega) (by omega) (by omega)) hi hx2
 have hnm := e27 name (Nat.le_trans hn (by decide))
 have hvk := e54 v hv
 rw [hq] at hnm
 obtain ⟨yk, ym, ys, ykk, yz, yll⟩ := v
 simp only [growd, Gr.c, Gr.cl, Vl.c, Vl.cs_map] at hcl hck hvk ⊢
 simp only [zce, List.length_map, zen, vBlk, eBlk, bxB] at hp
 refine W_eq (g22 rfl ?_)
 (repeat' (first | with_reducible refine zab ?_ | simp only [go_sem, J0, reduceIte, reduceCtorEq, Ja, Jb, Jc, Jd, Je, Jf, Jg, Jh, Ji, Jj, Jk, Jl, Jm, Jn, Jo, Jp, Jq, Jr, Js, a22, s1000011, hcl, s7, hck, List.length_map, hvl, hel, hv0, he0, zdv (ty := 45) (sz := 5), zcb (ty := 45) (sz := 5), hp, s27, hnm]))
theorem zur {g : Gr} (h : g.ok) {v : Vl} (hv : v.ok) {name s : List UInt8} {n : Int} {kk : SK} {z : Nat} {ll : List (List AV)} {i : Nat} {x : Lk} (hn : name.length ≤ 137438953472) (hc : okG g.p = true) (hi : idxJ (isE n) (g.es.map Lk.cl) 0 = (i : Int)) (hx : g.es[i]? = some x) (hq : nameB name = true) (hw : mayV v.p 0 = false) :
   acall S 22 [.agg g.c, .agg [.i .i64 7, .i .i64 n, .str s, .sl kk z ll], .str name, .agg v.c] = some (.tup [.agg g.cl.c, .i .i64 20], []) := by
 have hcl := e1000011 g h
 have hck := e7 g.cl (Gr.cl_ok h)
 rw [Gr.cl_p, hc] at hck
 have hvl := h.vl
 have hel := h.el
 have hv0 := zdo (zch g.vs)
 have he0 := zdl (zcg g.es)
 have hx2 : (g.es.map Lk.cl)[i]? = some x.cl := by rw [List.getElem?_map, hx]; rfl
 have hlt : i < g.es.length := (List.getElem?_eq_some_iff.1 hx).1
 have hp := fun hp hh => zcc (hp := hp) (kv := 1024) (ke := 1025) (Kv := 1025000000000000000) (Ke := 1026000000000000000) (last := g.last) (s := s) (y := .sl kk z ll) hh (zcm h (by omega) (by omega) (by omega) (by omega)) hi hx2
 have hnm := e27 name (Nat.le_trans hn (by decide))
 have hvk := e54 v hv
 rw [hq] at hnm
 rw [hw] at hvk
 obtain ⟨yk, ym, ys, ykk, yz, yll⟩ := v
 simp only [growd, Gr.c, Gr.cl, Vl.c, Vl.cs_map] at hcl hck hvk ⊢
 simp only [zce, List.length_map, zen, vBlk, eBlk, bxB] at hp
 refine W_eq (g22 rfl ?_)
 (repeat' (first | with_reducible refine zab ?_ | simp only [go_sem, J0, reduceIte, reduceCtorEq, Ja, Jb, Jc, Jd, Je, Jf, Jg, Jh, Ji, Jj, Jk, Jl, Jm, Jn, Jo, Jp, Jq, Jr, Js, a22, s1000011, hcl, s7, hck, List.length_map, hvl, hel, hv0, he0, zdv (ty := 45) (sz := 5), zcb (ty := 45) (sz := 5), hp, s27, hnm, s54, hvk]))
end
section
theorem hq_v {vs : List Vx} (hv : ClV vs) {i : Nat} {x : Vx} (hx : vs[i]? = some x) (y : Vx) (h1 : y.id = x.id) (h2 : y.label = x.label) (h3 : y.props.length = x.props.length) (h4 : y.pk = .open_) (h5 : y.pz = 5) {es : List (List AV)} (he : y.props.map tagC = es) {K : Nat} (n : Nat) (hp : Hp)
   (h : Laid hp 45 5 K ((vs.map Vx.re).set i ⟨[.i .i64 x.id, .s x.label], false, es⟩)) :
   zaf (pack false (n + 1)) (zct K (vs.map Vx.re)) hp = some ((vs.set i y).map Vx.c, zd8 K vs.length, drops (zd8 K vs.length) hp) := by
 have hr : Vx.re y = ⟨[.i .i64 x.id, .s x.label], false, es⟩ := by simp only [Vx.re, h1, h2, he]
 have hm : (vs.map Vx.re)[i]? = some x.re := by rw [List.getElem?_map, hx]; rfl
 rw [← zjp (vs.map Vx.re) K i x.re ⟨[.i .i64 x.id, .s x.label], false, es⟩ hm rfl (by rw [← he]; simp only [Vx.re, List.length_map, h3]), zcb h, List.length_set, List.length_map, ← hr, ← List.map_set, zdo]
 intro z hz
 rcases List.mem_or_eq_of_mem_set hz with h | rfl
 · exact hv z h
 · exact ⟨h4, h5⟩
theorem hq_e {vs : List Lk} (hv : ClE vs) {i : Nat} {x : Lk} (hx : vs[i]? = some x) (y : Lk) (h1 : y.id = x.id) (h2 : y.label = x.label) (h6 : y.out = x.out) (h7 : y.inn = x.inn) (h3 : y.props.length = x.props.length) (h4 : y.pk = .open_) (h5 : y.pz = 5) {es : List (List AV)} (he : y.props.map tagC = es) {K : Nat} (n : Nat) (hp : Hp)
   (h : Laid hp 45 5 K ((vs.map Lk.re).set i ⟨[.i .i64 x.id, .s x.label, .i .i64 x.out, .i .i64 x.inn], false, es⟩)) :
   zaf (pack false (n + 1)) (zct K (vs.map Lk.re)) hp = some ((vs.set i y).map Lk.c, zd8 K vs.length, drops (zd8 K vs.length) hp) := by
 have hr : Lk.re y = ⟨[.i .i64 x.id, .s x.label, .i .i64 x.out, .i .i64 x.inn], false, es⟩ := by simp only [Lk.re, h1, h2, h6, h7, he]
 have hm : (vs.map Lk.re)[i]? = some x.re := by rw [List.getElem?_map, hx]; rfl
 rw [← zjp (vs.map Lk.re) K i x.re ⟨[.i .i64 x.id, .s x.label, .i .i64 x.out, .i .i64 x.inn], false, es⟩ hm rfl (by rw [← he]; simp only [Lk.re, List.length_map, h3]), zcb h, List.length_set, List.length_map, ← hr, ← List.map_set, zdl]
 intro z hz
 rcases List.mem_or_eq_of_mem_set hz with h | rfl
 · exact hv z h
 · exact ⟨h4, h5⟩
theorem zu4 {g : Gr} (h : g.ok) {v : Vl} (hv : v.ok) {name s : List UInt8} {n : Int} {kk : SK} {z : Nat} {ll : List (List AV)} {i : Nat} {x : Vx} (hn : name.length ≤ 137438953472) (hc : okG g.p = true) (hi : idxJ (isV n) (g.vs.map Vx.cl) 0 = (i : Int)) (hx : g.vs[i]? = some x) (hq : nameB name = true) (hw : mayV v.p 0 = true) {m : Nat} {w : Vl} (hm : idxJ (geP name) (x.props.map clT) 0 = (m : Int)) (hpm : (x.props.map clT)[m]? = some (name, w)) (hxo : x.ok) :
   acall S 22 [.agg g.c, .agg [.i .i64 6, .i .i64 n, .str s, .sl kk z ll], .str name, .agg v.c] = some (.tup [.agg { g.cl with vs := g.cl.vs.set i { x.cl with props := (x.props.map clT).set m (name, clV v) } }.c, .i .i64 0], []) := by
 have hcl := e1000011 g h
 have hck := e7 g.cl (Gr.cl_ok h)
 rw [Gr.cl_p, hc] at hck
 have hvl := h.vl
 have hel := h.el
 have hv0 := zdo (zch g.vs)
 have he0 := zdl (zcg g.es)
 have hx2 : (g.vs.map Vx.cl)[i]? = some x.cl := by rw [List.getElem?_map, hx]; rfl
 have hlt : i < g.vs.length := (List.getElem?_eq_some_iff.1 hx).1
 have hp := fun hp hh => zca (hp := hp) (kv := 1024) (ke := 1025) (Kv := 1025000000000000000) (Ke := 1026000000000000000) (last := g.last) (s := s) (y := .sl kk z ll) hh (zcm h (by omega) (by omega) (by omega) (by omega)) hi hx2
 have hnm := e27 name (Nat.le_trans hn (by decide))
 have hvk := e54 v hv
 rw [hq] at hnm
 rw [hw] at hvk
 have hu := zkh hv
 have hidx := idxG name (OkS.open_ 5 (x.props.map clT)) (by rw [List.length_map]; exact hxo.ps.len)
 rw [hm] at hidx
 have hi37 : i < 137438953472 := by omega
 have b0 : decide ((0 : Int) ≤ (m : Int)) = true := decide_eq_true (by omega)
 have b1 : (0 : Int) ≤ (m : Int) := by omega
 have hml := (List.getElem?_eq_some_iff.1 hpm).1
 rw [List.length_map] at hml
 have b2 : (m : Int) < (x.props.length : Int) := by omega
 obtain ⟨xid, xl,  xpk, xpz, xps⟩ := x
 simp only at hpm hml b2 hidx
 have hqp := hq_v (K := 1025000000000000000) (zch g.vs) hx2 ⟨xid, xl,  .open_, 5, (xps.map clT).set m (name, clV v)⟩ rfl rfl  (by simp only [Vx.cl, List.length_set]) rfl rfl rfl
 rw [List.map_set] at hqp
 simp only [List.length_map, Vx.cl, tagC] at hqp
 obtain ⟨wk, wn, ws, wkk, wz, wl⟩ := w
 generalize clV v = u at hu hqp ⊢
 obtain ⟨uk, un, us, ukk, uz, ul⟩ := u
 obtain ⟨yk, ym, ys, ykk, yz, yll⟩ := v
 simp only [growd, Gr.c, Gr.cl, Vl.c, Vl.cs_map] at hcl hck hvk ⊢
 simp only [zce, List.length_map, zen, vBlk, eBlk, bxB] at hp
 refine W_eq (g22 rfl ?_)
 simp only [Vl.c, Vl.cs_map] at hu hqp
 (repeat' (first | with_reducible refine zab ?_ | simp -implicitDefEqProofs only [go_sem, J0, reduceIte, reduceCtorEq, Ja, Jb, Jc, Jd, Je, Jf, Jg, Jh, Ji, Jj, Jk, Jl, Jm, Jn, Jo, Jp, Jq, Jr, Js, a22, s1000011, hcl, s7, hck, List.length_map, hvl, hel, hv0, he0, zdv (ty := 45) (sz := 5), zcb (ty := 45) (sz := 5), hp, s27, hnm, s54, hvk, s55, hu, s56, hidx, hi37, hlt, hx, hx2, RE.b, RE.r, Vx.re, Vx.cl, b0, b1, b2, hml, hpm, tagC, Vl.c, Vl.cs_map, hqp]))
theorem ztb {g : Gr} (h : g.ok) {v : Vl} (hv : v.ok) {name s : List UInt8} {n : Int} {kk : SK} {z : Nat} {ll : List (List AV)} {i : Nat} {x : Lk} (hn : name.length ≤ 137438953472) (hc : okG g.p = true) (hi : idxJ (isE n) (g.es.map Lk.cl) 0 = (i : Int)) (hx : g.es[i]? = some x) (hq : nameB name = true) (hw : mayV v.p 0 = true) {m : Nat} {w : Vl} (hm : idxJ (geP name) (x.props.map clT) 0 = (m : Int)) (hpm : (x.props.map clT)[m]? = some (name, w)) (hxo : x.ok) :
   acall S 22 [.agg g.c, .agg [.i .i64 7, .i .i64 n, .str s, .sl kk z ll], .str name, .agg v.c] = some (.tup [.agg { g.cl with es := g.cl.es.set i { x.cl with props := (x.props.map clT).set m (name, clV v) } }.c, .i .i64 0], []) := by
 have hcl := e1000011 g h
 have hck := e7 g.cl (Gr.cl_ok h)
 rw [Gr.cl_p, hc] at hck
 have hvl := h.vl
 have hel := h.el
 have hv0 := zdo (zch g.vs)
 have he0 := zdl (zcg g.es)
 have hx2 : (g.es.map Lk.cl)[i]? = some x.cl := by rw [List.getElem?_map, hx]; rfl
 have hlt : i < g.es.length := (List.getElem?_eq_some_iff.1 hx).1
 have hp := fun hp hh => zcc (hp := hp) (kv := 1024) (ke := 1025) (Kv := 1025000000000000000) (Ke := 1026000000000000000) (last := g.last) (s := s) (y := .sl kk z ll) hh (zcm h (by omega) (by omega) (by omega) (by omega)) hi hx2
 have hnm := e27 name (Nat.le_trans hn (by decide))
 have hvk := e54 v hv
 rw [hq] at hnm
 rw [hw] at hvk
 have hu := zkh hv
 have hidx := idxG name (OkS.open_ 5 (x.props.map clT)) (by rw [List.length_map]; exact hxo.ps.len)
 rw [hm] at hidx
 have hi37 : i < 137438953472 := by omega
 have b0 : decide ((0 : Int) ≤ (m : Int)) = true := decide_eq_true (by omega)
 have b1 : (0 : Int) ≤ (m : Int) := by omega
 have hml := (List.getElem?_eq_some_iff.1 hpm).1
 rw [List.length_map] at hml
 have b2 : (m : Int) < (x.props.length : Int) := by omega
 obtain ⟨xid, xl, xo, xi, xpk, xpz, xps⟩ := x
 simp only at hpm hml b2 hidx
 have hqp := hq_e (K := 1026000000000000000) (zcg g.es) hx2 ⟨xid, xl, xo, xi, .open_, 5, (xps.map clT).set m (name, clV v)⟩ rfl rfl rfl rfl (by simp only [Lk.cl, List.length_set]) rfl rfl rfl
 rw [List.map_set] at hqp
 simp only [List.length_map, Lk.cl, tagC] at hqp
 obtain ⟨wk, wn, ws, wkk, wz, wl⟩ := w
 generalize clV v = u at hu hqp ⊢
 obtain ⟨uk, un, us, ukk, uz, ul⟩ := u
 obtain ⟨yk, ym, ys, ykk, yz, yll⟩ := v
 simp only [growd, Gr.c, Gr.cl, Vl.c, Vl.cs_map] at hcl hck hvk ⊢
 simp only [zce, List.length_map, zen, vBlk, eBlk, bxB] at hp
 refine W_eq (g22 rfl ?_)
 simp only [Vl.c, Vl.cs_map] at hu hqp
 (repeat' (first | with_reducible refine zab ?_ | simp -implicitDefEqProofs only [go_sem, J0, reduceIte, reduceCtorEq, Ja, Jb, Jc, Jd, Je, Jf, Jg, Jh, Ji, Jj, Jk, Jl, Jm, Jn, Jo, Jp, Jq, Jr, Js, a22, s1000011, hcl, s7, hck, List.length_map, hvl, hel, hv0, he0, zdv (ty := 45) (sz := 5), zcb (ty := 45) (sz := 5), hp, s27, hnm, s54, hvk, s55, hu, s56, hidx, hi37, hlt, hx, hx2, RE.b, RE.r, Lk.re, Lk.cl, b0, b1, b2, hml, hpm, tagC, Vl.c, Vl.cs_map, hqp]))
end
section
theorem zpf {g : Gr} (h : g.ok) {v : Vl} (hv : v.ok) {name s : List UInt8} {n : Int} {kk : SK} {z : Nat} {ll : List (List AV)} {i : Nat} {x : Vx} (hn : name.length ≤ 137438953472) (hc : okG g.p = true) (hi : idxJ (isV n) (g.vs.map Vx.cl) 0 = (i : Int)) (hx : g.vs[i]? = some x) (hq : nameB name = true) (hw : mayV v.p 0 = true) {m : Nat} {w : Vl} {nm : List UInt8} (hm : idxJ (geP name) (x.props.map clT) 0 = (m : Int)) (hpm : (x.props.map clT)[m]? = some (nm, w)) (hne : ¬ nm = name) (hxo : x.ok) (hfull : 16 ≤ x.props.length) :
   acall S 22 [.agg g.c, .agg [.i .i64 6, .i .i64 n, .str s, .sl kk z ll], .str name, .agg v.c] = some (.tup [.agg g.cl.c, .i .i64 102], []) := by
 have hcl := e1000011 g h
 have hck := e7 g.cl (Gr.cl_ok h)
 rw [Gr.cl_p, hc] at hck
 have hvl := h.vl
 have hel := h.el
 have hv0 := zdo (zch g.vs)
 have he0 := zdl (zcg g.es)
 have hx2 : (g.vs.map Vx.cl)[i]? = some x.cl := by rw [List.getElem?_map, hx]; rfl
 have hlt : i < g.vs.length := (List.getElem?_eq_some_iff.1 hx).1
 have hp := fun hp hh => zca (hp := hp) (kv := 1024) (ke := 1025) (Kv := 1025000000000000000) (Ke := 1026000000000000000) (last := g.last) (s := s) (y := .sl kk z ll) hh (zcm h (by omega) (by omega) (by omega) (by omega)) hi hx2
 have hnm := e27 name (Nat.le_trans hn (by decide))
 have hvk := e54 v hv
 rw [hq] at hnm
 rw [hw] at hvk
 have hu := zkh hv
 have hidx := idxG name (OkS.open_ 5 (x.props.map clT)) (by rw [List.length_map]; exact hxo.ps.len)
 rw [hm] at hidx
 have hi37 : i < 137438953472 := by omega
 have hpl : x.props.length ≤ 137438953472 := hxo.ps.len
 have b0 : decide ((0 : Int) ≤ (m : Int)) = true := decide_eq_true (by omega)
 have b1 : (0 : Int) ≤ (m : Int) := by omega
 have hml := (List.getElem?_eq_some_iff.1 hpm).1
 rw [List.length_map] at hml
 have b2 : (m : Int) < (x.props.length : Int) := by omega
 have bne : decide (nm = name) = false := decide_eq_false hne
 have b3 : decide ((m : Int) < 0) = false := decide_eq_false (by omega)
 have b16 : decide ((16 : Int) ≤ (x.props.length : Int)) = true := decide_eq_true (by omega)
 obtain ⟨xid, xl,  xpk, xpz, xps⟩ := x
 simp only at hpm hml b2 hpl b16 hidx
 obtain ⟨wk, wn, ws, wkk, wz, wl⟩ := w
 generalize clV v = u at hu ⊢
 obtain ⟨uk, un, us, ukk, uz, ul⟩ := u
 obtain ⟨yk, ym, ys, ykk, yz, yll⟩ := v
 simp only [growd, Gr.c, Gr.cl, Vl.c, Vl.cs_map] at hcl hck hvk ⊢
 simp only [zce, List.length_map, zen, vBlk, eBlk, bxB] at hp
 refine W_eq (g22 rfl ?_)
 simp only [Vl.c, Vl.cs_map] at hu
 (repeat' (first | with_reducible refine zab ?_ | simp -implicitDefEqProofs only [go_sem, J0, reduceIte, reduceCtorEq, Ja, Jb, Jc, Jd, Je, Jf, Jg, Jh, Ji, Jj, Jk, Jl, Jm, Jn, Jo, Jp, Jq, Jr, Js, a22, s1000011, hcl, s7, hck, List.length_map, hvl, hel, hv0, he0, zdv (ty := 45) (sz := 5), zcb (ty := 45) (sz := 5), hp, s27, hnm, s54, hvk, s55, hu, s56, hidx, hi37, hlt, hx, hx2, RE.b, RE.r, Vx.re, Vx.cl, tagC, Vl.c, Vl.cs_map, b16, b0, b1, b2, b3, hml, hpm, bne]))
theorem zps {g : Gr} (h : g.ok) {v : Vl} (hv : v.ok) {name s : List UInt8} {n : Int} {kk : SK} {z : Nat} {ll : List (List AV)} {i : Nat} {x : Lk} (hn : name.length ≤ 137438953472) (hc : okG g.p = true) (hi : idxJ (isE n) (g.es.map Lk.cl) 0 = (i : Int)) (hx : g.es[i]? = some x) (hq : nameB name = true) (hw : mayV v.p 0 = true) {m : Nat} {w : Vl} {nm : List UInt8} (hm : idxJ (geP name) (x.props.map clT) 0 = (m : Int)) (hpm : (x.props.map clT)[m]? = some (nm, w)) (hne : ¬ nm = name) (hxo : x.ok) (hfull : 16 ≤ x.props.length) :
   acall S 22 [.agg g.c, .agg [.i .i64 7, .i .i64 n, .str s, .sl kk z ll], .str name, .agg v.c] = some (.tup [.agg g.cl.c, .i .i64 102], []) := by
 have hcl := e1000011 g h
 have hck := e7 g.cl (Gr.cl_ok h)
 rw [Gr.cl_p, hc] at hck
 have hvl := h.vl
 have hel := h.el
 have hv0 := zdo (zch g.vs)
 have he0 := zdl (zcg g.es)
 have hx2 : (g.es.map Lk.cl)[i]? = some x.cl := by rw [List.getElem?_map, hx]; rfl
 have hlt : i < g.es.length := (List.getElem?_eq_some_iff.1 hx).1
 have hp := fun hp hh => zcc (hp := hp) (kv := 1024) (ke := 1025) (Kv := 1025000000000000000) (Ke := 1026000000000000000) (last := g.last) (s := s) (y := .sl kk z ll) hh (zcm h (by omega) (by omega) (by omega) (by omega)) hi hx2
 have hnm := e27 name (Nat.le_trans hn (by decide))
 have hvk := e54 v hv
 rw [hq] at hnm
 rw [hw] at hvk
 have hu := zkh hv
 have hidx := idxG name (OkS.open_ 5 (x.props.map clT)) (by rw [List.length_map]; exact hxo.ps.len)
 rw [hm] at hidx
 have hi37 : i < 137438953472 := by omega
 have hpl : x.props.length ≤ 137438953472 := hxo.ps.len
 have b0 : decide ((0 : Int) ≤ (m : Int)) = true := decide_eq_true (by omega)
 have b1 : (0 : Int) ≤ (m : Int) := by omega
 have hml := (List.getElem?_eq_some_iff.1 hpm).1
 rw [List.length_map] at hml
 have b2 : (m : Int) < (x.props.length : Int) := by omega
 have bne : decide (nm = name) = false := decide_eq_false hne
 have b3 : decide ((m : Int) < 0) = false := decide_eq_false (by omega)
 have b16 : decide ((16 : Int) ≤ (x.props.length : Int)) = true := decide_eq_true (by omega)
 obtain ⟨xid, xl, xo, xi, xpk, xpz, xps⟩ := x
 simp only at hpm hml b2 hpl b16 hidx
 obtain ⟨wk, wn, ws, wkk, wz, wl⟩ := w
 generalize clV v = u at hu ⊢
 obtain ⟨uk, un, us, ukk, uz, ul⟩ := u
 obtain ⟨yk, ym, ys, ykk, yz, yll⟩ := v
 simp only [growd, Gr.c, Gr.cl, Vl.c, Vl.cs_map] at hcl hck hvk ⊢
 simp only [zce, List.length_map, zen, vBlk, eBlk, bxB] at hp
 refine W_eq (g22 rfl ?_)
 simp only [Vl.c, Vl.cs_map] at hu
 (repeat' (first | with_reducible refine zab ?_ | simp -implicitDefEqProofs only [go_sem, J0, reduceIte, reduceCtorEq, Ja, Jb, Jc, Jd, Je, Jf, Jg, Jh, Ji, Jj, Jk, Jl, Jm, Jn, Jo, Jp, Jq, Jr, Js, a22, s1000011, hcl, s7, hck, List.length_map, hvl, hel, hv0, he0, zdv (ty := 45) (sz := 5), zcb (ty := 45) (sz := 5), hp, s27, hnm, s54, hvk, s55, hu, s56, hidx, hi37, hlt, hx, hx2, RE.b, RE.r, Lk.re, Lk.cl, tagC, Vl.c, Vl.cs_map, b16, b0, b1, b2, b3, hml, hpm, bne]))
theorem zo3 {g : Gr} (h : g.ok) {v : Vl} (hv : v.ok) {name s : List UInt8} {n : Int} {kk : SK} {z : Nat} {ll : List (List AV)} {i : Nat} {x : Vx} (hn : name.length ≤ 137438953472) (hc : okG g.p = true) (hi : idxJ (isV n) (g.vs.map Vx.cl) 0 = (i : Int)) (hx : g.vs[i]? = some x) (hq : nameB name = true) (hw : mayV v.p 0 = true) (hm : idxJ (geP name) (x.props.map clT) 0 = -1) (hxo : x.ok) (hfull : 16 ≤ x.props.length) :
   acall S 22 [.agg g.c, .agg [.i .i64 6, .i .i64 n, .str s, .sl kk z ll], .str name, .agg v.c] = some (.tup [.agg g.cl.c, .i .i64 102], []) := by
 have hcl := e1000011 g h
 have hck := e7 g.cl (Gr.cl_ok h)
 rw [Gr.cl_p, hc] at hck
 have hvl := h.vl
 have hel := h.el
 have hv0 := zdo (zch g.vs)
 have he0 := zdl (zcg g.es)
 have hx2 : (g.vs.map Vx.cl)[i]? = some x.cl := by rw [List.getElem?_map, hx]; rfl
 have hlt : i < g.vs.length := (List.getElem?_eq_some_iff.1 hx).1
 have hp := fun hp hh => zca (hp := hp) (kv := 1024) (ke := 1025) (Kv := 1025000000000000000) (Ke := 1026000000000000000) (last := g.last) (s := s) (y := .sl kk z ll) hh (zcm h (by omega) (by omega) (by omega) (by omega)) hi hx2
 have hnm := e27 name (Nat.le_trans hn (by decide))
 have hvk := e54 v hv
 rw [hq] at hnm
 rw [hw] at hvk
 have hu := zkh hv
 have hidx := idxG name (OkS.open_ 5 (x.props.map clT)) (by rw [List.length_map]; exact hxo.ps.len)
 rw [hm] at hidx
 have hi37 : i < 137438953472 := by omega
 have hpl : x.props.length ≤ 137438953472 := hxo.ps.len
 have b16 : decide ((16 : Int) ≤ (x.props.length : Int)) = true := decide_eq_true (by omega)
 obtain ⟨xid, xl,  xpk, xpz, xps⟩ := x
 simp only at  hpl b16 hidx
 generalize clV v = u at hu ⊢
 obtain ⟨uk, un, us, ukk, uz, ul⟩ := u
 obtain ⟨yk, ym, ys, ykk, yz, yll⟩ := v
 simp only [growd, Gr.c, Gr.cl, Vl.c, Vl.cs_map] at hcl hck hvk ⊢
 simp only [zce, List.length_map, zen, vBlk, eBlk, bxB] at hp
 refine W_eq (g22 rfl ?_)
 simp only [Vl.c, Vl.cs_map] at hu
 (repeat' (first | with_reducible refine zab ?_ | simp -implicitDefEqProofs only [go_sem, J0, reduceIte, reduceCtorEq, Ja, Jb, Jc, Jd, Je, Jf, Jg, Jh, Ji, Jj, Jk, Jl, Jm, Jn, Jo, Jp, Jq, Jr, Js, a22, s1000011, hcl, s7, hck, List.length_map, hvl, hel, hv0, he0, zdv (ty := 45) (sz := 5), zcb (ty := 45) (sz := 5), hp, s27, hnm, s54, hvk, s55, hu, s56, hidx, hi37, hlt, hx, hx2, RE.b, RE.r, Vx.re, Vx.cl, tagC, Vl.c, Vl.cs_map, b16]))
theorem zpn {g : Gr} (h : g.ok) {v : Vl} (hv : v.ok) {name s : List UInt8} {n : Int} {kk : SK} {z : Nat} {ll : List (List AV)} {i : Nat} {x : Lk} (hn : name.length ≤ 137438953472) (hc : okG g.p = true) (hi : idxJ (isE n) (g.es.map Lk.cl) 0 = (i : Int)) (hx : g.es[i]? = some x) (hq : nameB name = true) (hw : mayV v.p 0 = true) (hm : idxJ (geP name) (x.props.map clT) 0 = -1) (hxo : x.ok) (hfull : 16 ≤ x.props.length) :
   acall S 22 [.agg g.c, .agg [.i .i64 7, .i .i64 n, .str s, .sl kk z ll], .str name, .agg v.c] = some (.tup [.agg g.cl.c, .i .i64 102], []) := by
 have hcl := e1000011 g h
 have hck := e7 g.cl (Gr.cl_ok h)
 rw [Gr.cl_p, hc] at hck
 have hvl := h.vl
 have hel := h.el
 have hv0 := zdo (zch g.vs)
 have he0 := zdl (zcg g.es)
 have hx2 : (g.es.map Lk.cl)[i]? = some x.cl := by rw [List.getElem?_map, hx]; rfl
 have hlt : i < g.es.length := (List.getElem?_eq_some_iff.1 hx).1
 have hp := fun hp hh => zcc (hp := hp) (kv := 1024) (ke := 1025) (Kv := 1025000000000000000) (Ke := 1026000000000000000) (last := g.last) (s := s) (y := .sl kk z ll) hh (zcm h (by omega) (by omega) (by omega) (by omega)) hi hx2
 have hnm := e27 name (Nat.le_trans hn (by decide))
 have hvk := e54 v hv
 rw [hq] at hnm
 rw [hw] at hvk
 have hu := zkh hv
 have hidx := idxG name (OkS.open_ 5 (x.props.map clT)) (by rw [List.length_map]; exact hxo.ps.len)
 rw [hm] at hidx
 have hi37 : i < 137438953472 := by omega
 have hpl : x.props.length ≤ 137438953472 := hxo.ps.len
 have b16 : decide ((16 : Int) ≤ (x.props.length : Int)) = true := decide_eq_true (by omega)
 obtain ⟨xid, xl, xo, xi, xpk, xpz, xps⟩ := x
 simp only at  hpl b16 hidx
 generalize clV v = u at hu ⊢
 obtain ⟨uk, un, us, ukk, uz, ul⟩ := u
 obtain ⟨yk, ym, ys, ykk, yz, yll⟩ := v
 simp only [growd, Gr.c, Gr.cl, Vl.c, Vl.cs_map] at hcl hck hvk ⊢
 simp only [zce, List.length_map, zen, vBlk, eBlk, bxB] at hp
 refine W_eq (g22 rfl ?_)
 simp only [Vl.c, Vl.cs_map] at hu
 (repeat' (first | with_reducible refine zab ?_ | simp -implicitDefEqProofs only [go_sem, J0, reduceIte, reduceCtorEq, Ja, Jb, Jc, Jd, Je, Jf, Jg, Jh, Ji, Jj, Jk, Jl, Jm, Jn, Jo, Jp, Jq, Jr, Js, a22, s1000011, hcl, s7, hck, List.length_map, hvl, hel, hv0, he0, zdv (ty := 45) (sz := 5), zcb (ty := 45) (sz := 5), hp, s27, hnm, s54, hvk, s55, hu, s56, hidx, hi37, hlt, hx, hx2, RE.b, RE.r, Lk.re, Lk.cl, tagC, Vl.c, Vl.cs_map, b16]))
end
section
theorem hi_v {vs : List Vx} (hv : ClV vs) {i : Nat} {x : Vx} (hx : vs[i]? = some x) (y : Vx) (h1 : y.id = x.id) (h2 : y.label = x.label) (h4 : y.pk = .open_) (h5 : y.pz = 5) {es : List (List AV)} (he : y.props.map tagC = es) {K k : Nat} (hk : k < K) (n : Nat) (hp : Hp)
   (h : zet hp 45 5 K (vs.map Vx.re) i) (hl : Go.Abs.look hp k = some { ver := 0, row := true, nl := false, ty := 45, sz := 5, es }) :
   zaf (pack false (n + 1)) ((zct K (vs.map Vx.re)).set i [.i .i64 x.id, .str x.label, .ms k 0 0 es.length]) hp = some ((vs.set i y).map Vx.c, zgp K vs.length i k, drops (zgp K vs.length i k) hp) := by
 have hlt := zbi hx
 have := zkm (n := n) (ty := 45) (sz := 5) (x := ⟨[.i .i64 x.id, .s x.label], false, es⟩) (L := vs.map Vx.re) (by rw [List.length_map]; exact hlt) hk h hl
 rw [zdo hv, List.length_map] at this
 refine Eq.trans this ?_
 rw [List.map_set]
 congr 3
 simp only [RE.s, Vx.c, h1, h2, h4, h5, he, List.map_cons, List.map_nil, SC.a, List.cons_append, List.nil_append, za3]
theorem hi_e {vs : List Lk} (hv : ClE vs) {i : Nat} {x : Lk} (hx : vs[i]? = some x) (y : Lk) (h1 : y.id = x.id) (h2 : y.label = x.label) (h6 : y.out = x.out) (h7 : y.inn = x.inn) (h4 : y.pk = .open_) (h5 : y.pz = 5) {es : List (List AV)} (he : y.props.map tagC = es) {K k : Nat} (hk : k < K) (n : Nat) (hp : Hp)
   (h : zet hp 45 5 K (vs.map Lk.re) i) (hl : Go.Abs.look hp k = some { ver := 0, row := true, nl := false, ty := 45, sz := 5, es }) :
   zaf (pack false (n + 1)) ((zct K (vs.map Lk.re)).set i [.i .i64 x.id, .str x.label, .i .i64 x.out, .i .i64 x.inn, .ms k 0 0 es.length]) hp = some ((vs.set i y).map Lk.c, zgp K vs.length i k, drops (zgp K vs.length i k) hp) := by
 have hlt := zbi hx
 have := zkm (n := n) (ty := 45) (sz := 5) (x := ⟨[.i .i64 x.id, .s x.label, .i .i64 x.out, .i .i64 x.inn], false, es⟩) (L := vs.map Lk.re) (by rw [List.length_map]; exact hlt) hk h hl
 rw [zdl hv, List.length_map] at this
 refine Eq.trans this ?_
 rw [List.map_set]
 congr 3
 simp only [RE.s, Lk.c, h1, h2, h4, h5, h6, h7, he, List.map_cons, List.map_nil, SC.a, List.cons_append, List.nil_append, za3]
theorem zsb {g : Gr} (h : g.ok) {v : Vl} (hv : v.ok) {name s : List UInt8} {n : Int} {kk : SK} {z : Nat} {ll : List (List AV)} {i : Nat} {x : Vx} (hn : name.length ≤ 137438953472) (hc : okG g.p = true) (hi : idxJ (isV n) (g.vs.map Vx.cl) 0 = (i : Int)) (hx : g.vs[i]? = some x) (hq : nameB name = true) (hw : mayV v.p 0 = true) {m : Nat} {w : Vl} {nm : List UInt8} (hm : idxJ (geP name) (x.props.map clT) 0 = (m : Int)) (hpm : (x.props.map clT)[m]? = some (nm, w)) (hne : ¬ nm = name) (hxo : x.ok) (hfew : x.props.length < 16) :
   acall S 22 [.agg g.c, .agg [.i .i64 6, .i .i64 n, .str s, .sl kk z ll], .str name, .agg v.c] = some (.tup [.agg { g.cl with vs := g.cl.vs.set i { x.cl with props := (x.props.map clT).take m ++ (name, clV v) :: (x.props.map clT).drop m } }.c, .i .i64 0], []) := by
 have hcl := e1000011 g h
 have hck := e7 g.cl (Gr.cl_ok h)
 rw [Gr.cl_p, hc] at hck
 have hvl := h.vl
 have hel := h.el
 have hv0 := zdo (zch g.vs)
 have he0 := zdl (zcg g.es)
 have hx2 : (g.vs.map Vx.cl)[i]? = some x.cl := by rw [List.getElem?_map, hx]; rfl
 have hlt : i < g.vs.length := (List.getElem?_eq_some_iff.1 hx).1
 have hp := fun hp hh => zca (hp := hp) (kv := 1024) (ke := 1025) (Kv := 1025000000000000000) (Ke := 1026000000000000000) (last := g.last) (s := s) (y := .sl kk z ll) hh (zcm h (by omega) (by omega) (by omega) (by omega)) hi hx2
 have hnm := e27 name (Nat.le_trans hn (by decide))
 have hvk := e54 v hv
 rw [hq] at hnm
 rw [hw] at hvk
 have hu := zkh hv
 have hidx := idxG name (OkS.open_ 5 (x.props.map clT)) (by rw [List.length_map]; exact hxo.ps.len)
 rw [hm] at hidx
 have hi37 : i < 137438953472 := by omega
 have hpl : x.props.length ≤ 137438953472 := hxo.ps.len
 have b0 : decide ((0 : Int) ≤ (m : Int)) = true := decide_eq_true (by omega)
 have b1 : (0 : Int) ≤ (m : Int) := by omega
 have hml := (List.getElem?_eq_some_iff.1 hpm).1
 rw [List.length_map] at hml
 have b2 : (m : Int) < (x.props.length : Int) := by omega
 have bne : decide (nm = name) = false := decide_eq_false hne
 have b3 : decide ((m : Int) < 0) = false := decide_eq_false (by omega)
 have b16 : decide ((16 : Int) ≤ (x.props.length : Int)) = false := decide_eq_false (by omega)
 obtain ⟨xid, xl,  xpk, xpz, xps⟩ := x
 simp only at hpm hml b2 hpl b16 hidx hfew
 obtain ⟨wk, wn, ws, wkk, wz, wl⟩ := w
 have hr : ∃ R : List (List AV), R = ((xps.map clT).take m ++ (name, clV v) :: (xps.map clT).drop m).map tagC := ⟨_, rfl⟩
 obtain ⟨R, hR⟩ := hr
 have hqp := fun n hp => hi_v (K := 1025000000000000000) (k := 5760) (zch g.vs) hx2 ⟨xid, xl,  .open_, 5, (xps.map clT).take m ++ (name, clV v) :: (xps.map clT).drop m⟩ rfl rfl  rfl rfl hR.symm (by omega) n hp
 have hins : ∀ nl nl2, acall S 58 [.ow 45 5 nl ((xps.map clT).map tagC), .i .i64 (m : Int), .ow 45 5 nl2 [tagC (name, clV v)]] = some (.ow 45 5 false R, []) := by
   intro nl nl2
   refine zei (p := zcl) rfl rfl ?_
   have hle : m ≤ xps.length := by omega
   have hlim : xps.length + 1 ≤ 274877906944 := by omega
   simp only [zcl, and_self, Int.natCast_nonneg, Int.toNat_natCast, List.length_map, hle, List.length_singleton, hlim, Nat.lt_add_one, zd3, Nat.zero_lt_one, true_and, hR, List.map_append, List.map_cons, List.map_take, List.map_drop, List.append_assoc, List.cons_append, List.nil_append]
 simp only [List.length_map, Vx.cl, tagC] at hqp hins
 generalize clV v = u at hu hqp hins ⊢
 obtain ⟨uk, un, us, ukk, uz, ul⟩ := u
 obtain ⟨yk, ym, ys, ykk, yz, yll⟩ := v
 simp only [growd, Gr.c, Gr.cl, Vl.c, Vl.cs_map] at hcl hck hvk ⊢
 simp only [zce, List.length_map, zen, vBlk, eBlk, bxB] at hp
 refine W_eq (g22 rfl ?_)
 simp only [Vl.c, Vl.cs_map] at hu hqp hins
 (repeat' (first | with_reducible refine zab ?_ | simp -implicitDefEqProofs only [go_sem, J0, reduceIte, reduceCtorEq, Ja, Jb, Jc, Jd, Je, Jf, Jg, Jh, Ji, Jj, Jk, Jl, Jm, Jn, Jo, Jp, Jq, Jr, Js, a22, s1000011, hcl, s7, hck, List.length_map, hvl, hel, hv0, he0, zdv (ty := 45) (sz := 5), zcb (ty := 45) (sz := 5), hp, s27, hnm, s54, hvk, s55, hu, s56, hidx, hi37, hlt, hx, hx2, RE.b, RE.r, Vx.re, Vx.cl, tagC, Vl.c, Vl.cs_map, b16, s58, hins, hqp, List.length_set, b0, b1, b2, b3, hml, hpm, bne]))
theorem zsk {g : Gr} (h : g.ok) {v : Vl} (hv : v.ok) {name s : List UInt8} {n : Int} {kk : SK} {z : Nat} {ll : List (List AV)} {i : Nat} {x : Lk} (hn : name.length ≤ 137438953472) (hc : okG g.p = true) (hi : idxJ (isE n) (g.es.map Lk.cl) 0 = (i : Int)) (hx : g.es[i]? = some x) (hq : nameB name = true) (hw : mayV v.p 0 = true) {m : Nat} {w : Vl} {nm : List UInt8} (hm : idxJ (geP name) (x.props.map clT) 0 = (m : Int)) (hpm : (x.props.map clT)[m]? = some (nm, w)) (hne : ¬ nm = name) (hxo : x.ok) (hfew : x.props.length < 16) :
   acall S 22 [.agg g.c, .agg [.i .i64 7, .i .i64 n, .str s, .sl kk z ll], .str name, .agg v.c] = some (.tup [.agg { g.cl with es := g.cl.es.set i { x.cl with props := (x.props.map clT).take m ++ (name, clV v) :: (x.props.map clT).drop m } }.c, .i .i64 0], []) := by
 have hcl := e1000011 g h
 have hck := e7 g.cl (Gr.cl_ok h)
 rw [Gr.cl_p, hc] at hck
 have hvl := h.vl
 have hel := h.el
 have hv0 := zdo (zch g.vs)
 have he0 := zdl (zcg g.es)
 have hx2 : (g.es.map Lk.cl)[i]? = some x.cl := by rw [List.getElem?_map, hx]; rfl
 have hlt : i < g.es.length := (List.getElem?_eq_some_iff.1 hx).1
 have hp := fun hp hh => zcc (hp := hp) (kv := 1024) (ke := 1025) (Kv := 1025000000000000000) (Ke := 1026000000000000000) (last := g.last) (s := s) (y := .sl kk z ll) hh (zcm h (by omega) (by omega) (by omega) (by omega)) hi hx2
 have hnm := e27 name (Nat.le_trans hn (by decide))
 have hvk := e54 v hv
 rw [hq] at hnm
 rw [hw] at hvk
 have hu := zkh hv
 have hidx := idxG name (OkS.open_ 5 (x.props.map clT)) (by rw [List.length_map]; exact hxo.ps.len)
 rw [hm] at hidx
 have hi37 : i < 137438953472 := by omega
 have hpl : x.props.length ≤ 137438953472 := hxo.ps.len
 have b0 : decide ((0 : Int) ≤ (m : Int)) = true := decide_eq_true (by omega)
 have b1 : (0 : Int) ≤ (m : Int) := by omega
 have hml := (List.getElem?_eq_some_iff.1 hpm).1
 rw [List.length_map] at hml
 have b2 : (m : Int) < (x.props.length : Int) := by omega
 have bne : decide (nm = name) = false := decide_eq_false hne
 have b3 : decide ((m : Int) < 0) = false := decide_eq_false (by omega)
 have b16 : decide ((16 : Int) ≤ (x.props.length : Int)) = false := decide_eq_false (by omega)
 obtain ⟨xid, xl, xo, xi, xpk, xpz, xps⟩ := x
 simp only at hpm hml b2 hpl b16 hidx hfew
 obtain ⟨wk, wn, ws, wkk, wz, wl⟩ := w
 have hr : ∃ R : List (List AV), R = ((xps.map clT).take m ++ (name, clV v) :: (xps.map clT).drop m).map tagC := ⟨_, rfl⟩
 obtain ⟨R, hR⟩ := hr
 have hqp := fun n hp => hi_e (K := 1026000000000000000) (k := 5760) (zcg g.es) hx2 ⟨xid, xl, xo, xi, .open_, 5, (xps.map clT).take m ++ (name, clV v) :: (xps.map clT).drop m⟩ rfl rfl rfl rfl rfl rfl hR.symm (by omega) n hp
 have hins : ∀ nl nl2, acall S 58 [.ow 45 5 nl ((xps.map clT).map tagC), .i .i64 (m : Int), .ow 45 5 nl2 [tagC (name, clV v)]] = some (.ow 45 5 false R, []) := by
   intro nl nl2
   refine zei (p := zcl) rfl rfl ?_
   have hle : m ≤ xps.length := by omega
   have hlim : xps.length + 1 ≤ 274877906944 := by omega
   simp only [zcl, and_self, Int.natCast_nonneg, Int.toNat_natCast, List.length_map, hle, List.length_singleton, hlim, Nat.lt_add_one, zd3, Nat.zero_lt_one, true_and, hR, List.map_append, List.map_cons, List.map_take, List.map_drop, List.append_assoc, List.cons_append, List.nil_append]
 simp only [List.length_map, Lk.cl, tagC] at hqp hins
 generalize clV v = u at hu hqp hins ⊢
 obtain ⟨uk, un, us, ukk, uz, ul⟩ := u
 obtain ⟨yk, ym, ys, ykk, yz, yll⟩ := v
 simp only [growd, Gr.c, Gr.cl, Vl.c, Vl.cs_map] at hcl hck hvk ⊢
 simp only [zce, List.length_map, zen, vBlk, eBlk, bxB] at hp
 refine W_eq (g22 rfl ?_)
 simp only [Vl.c, Vl.cs_map] at hu hqp hins
 (repeat' (first | with_reducible refine zab ?_ | simp -implicitDefEqProofs only [go_sem, J0, reduceIte, reduceCtorEq, Ja, Jb, Jc, Jd, Je, Jf, Jg, Jh, Ji, Jj, Jk, Jl, Jm, Jn, Jo, Jp, Jq, Jr, Js, a22, s1000011, hcl, s7, hck, List.length_map, hvl, hel, hv0, he0, zdv (ty := 45) (sz := 5), zcb (ty := 45) (sz := 5), hp, s27, hnm, s54, hvk, s55, hu, s56, hidx, hi37, hlt, hx, hx2, RE.b, RE.r, Lk.re, Lk.cl, tagC, Vl.c, Vl.cs_map, b16, s58, hins, hqp, List.length_set, b0, b1, b2, b3, hml, hpm, bne]))
theorem zrx {g : Gr} (h : g.ok) {v : Vl} (hv : v.ok) {name s : List UInt8} {n : Int} {kk : SK} {z : Nat} {ll : List (List AV)} {i : Nat} {x : Vx} (hn : name.length ≤ 137438953472) (hc : okG g.p = true) (hi : idxJ (isV n) (g.vs.map Vx.cl) 0 = (i : Int)) (hx : g.vs[i]? = some x) (hq : nameB name = true) (hw : mayV v.p 0 = true) (hm : idxJ (geP name) (x.props.map clT) 0 = -1) (hxo : x.ok) (hfew : x.props.length < 16) :
   acall S 22 [.agg g.c, .agg [.i .i64 6, .i .i64 n, .str s, .sl kk z ll], .str name, .agg v.c] = some (.tup [.agg { g.cl with vs := g.cl.vs.set i { x.cl with props := (x.props.map clT).take x.props.length ++ (name, clV v) :: (x.props.map clT).drop x.props.length } }.c, .i .i64 0], []) := by
 have hcl := e1000011 g h
 have hck := e7 g.cl (Gr.cl_ok h)
 rw [Gr.cl_p, hc] at hck
 have hvl := h.vl
 have hel := h.el
 have hv0 := zdo (zch g.vs)
 have he0 := zdl (zcg g.es)
 have hx2 : (g.vs.map Vx.cl)[i]? = some x.cl := by rw [List.getElem?_map, hx]; rfl
 have hlt : i < g.vs.length := (List.getElem?_eq_some_iff.1 hx).1
 have hp := fun hp hh => zca (hp := hp) (kv := 1024) (ke := 1025) (Kv := 1025000000000000000) (Ke := 1026000000000000000) (last := g.last) (s := s) (y := .sl kk z ll) hh (zcm h (by omega) (by omega) (by omega) (by omega)) hi hx2
 have hnm := e27 name (Nat.le_trans hn (by decide))
 have hvk := e54 v hv
 rw [hq] at hnm
 rw [hw] at hvk
 have hu := zkh hv
 have hidx := idxG name (OkS.open_ 5 (x.props.map clT)) (by rw [List.length_map]; exact hxo.ps.len)
 rw [hm] at hidx
 have hi37 : i < 137438953472 := by omega
 have hpl : x.props.length ≤ 137438953472 := hxo.ps.len
 have b16 : decide ((16 : Int) ≤ (x.props.length : Int)) = false := decide_eq_false (by omega)
 obtain ⟨xid, xl,  xpk, xpz, xps⟩ := x
 simp only at  hpl b16 hidx hfew
 have hr : ∃ R : List (List AV), R = ((xps.map clT).take xps.length ++ (name, clV v) :: (xps.map clT).drop xps.length).map tagC := ⟨_, rfl⟩
 obtain ⟨R, hR⟩ := hr
 have hqp := fun n hp => hi_v (K := 1025000000000000000) (k := 5760) (zch g.vs) hx2 ⟨xid, xl,  .open_, 5, (xps.map clT).take xps.length ++ (name, clV v) :: (xps.map clT).drop xps.length⟩ rfl rfl  rfl rfl hR.symm (by omega) n hp
 have hins : ∀ nl nl2, acall S 58 [.ow 45 5 nl ((xps.map clT).map tagC), .i .i64 (xps.length : Int), .ow 45 5 nl2 [tagC (name, clV v)]] = some (.ow 45 5 false R, []) := by
   intro nl nl2
   refine zei (p := zcl) rfl rfl ?_
   have hle : xps.length ≤ xps.length := by omega
   have hlim : xps.length + 1 ≤ 274877906944 := by omega
   simp only [zcl, and_self, Int.natCast_nonneg, Int.toNat_natCast, List.length_map, hle, List.length_singleton, hlim, Nat.lt_add_one, zd3, Nat.zero_lt_one, true_and, hR, List.map_append, List.map_cons, List.map_take, List.map_drop, List.append_assoc, List.cons_append, List.nil_append]
 simp only [List.length_map, Vx.cl, tagC] at hqp hins
 generalize clV v = u at hu hqp hins ⊢
 obtain ⟨uk, un, us, ukk, uz, ul⟩ := u
 obtain ⟨yk, ym, ys, ykk, yz, yll⟩ := v
 simp only [growd, Gr.c, Gr.cl, Vl.c, Vl.cs_map] at hcl hck hvk ⊢
 simp only [zce, List.length_map, zen, vBlk, eBlk, bxB] at hp
 refine W_eq (g22 rfl ?_)
 simp only [Vl.c, Vl.cs_map] at hu hqp hins
 (repeat' (first | with_reducible refine zab ?_ | simp -implicitDefEqProofs only [go_sem, J0, reduceIte, reduceCtorEq, Ja, Jb, Jc, Jd, Je, Jf, Jg, Jh, Ji, Jj, Jk, Jl, Jm, Jn, Jo, Jp, Jq, Jr, Js, a22, s1000011, hcl, s7, hck, List.length_map, hvl, hel, hv0, he0, zdv (ty := 45) (sz := 5), zcb (ty := 45) (sz := 5), hp, s27, hnm, s54, hvk, s55, hu, s56, hidx, hi37, hlt, hx, hx2, RE.b, RE.r, Vx.re, Vx.cl, tagC, Vl.c, Vl.cs_map, b16, s58, hins, hqp, List.length_set]))
theorem zsa {g : Gr} (h : g.ok) {v : Vl} (hv : v.ok) {name s : List UInt8} {n : Int} {kk : SK} {z : Nat} {ll : List (List AV)} {i : Nat} {x : Lk} (hn : name.length ≤ 137438953472) (hc : okG g.p = true) (hi : idxJ (isE n) (g.es.map Lk.cl) 0 = (i : Int)) (hx : g.es[i]? = some x) (hq : nameB name = true) (hw : mayV v.p 0 = true) (hm : idxJ (geP name) (x.props.map clT) 0 = -1) (hxo : x.ok) (hfew : x.props.length < 16) :
   acall S 22 [.agg g.c, .agg [.i .i64 7, .i .i64 n, .str s, .sl kk z ll], .str name, .agg v.c] = some (.tup [.agg { g.cl with es := g.cl.es.set i { x.cl with props := (x.props.map clT).take x.props.length ++ (name, clV v) :: (x.props.map clT).drop x.props.length } }.c, .i .i64 0], []) := by
 have hcl := e1000011 g h
 have hck := e7 g.cl (Gr.cl_ok h)
 rw [Gr.cl_p, hc] at hck
 have hvl := h.vl
 have hel := h.el
 have hv0 := zdo (zch g.vs)
 have he0 := zdl (zcg g.es)
 have hx2 : (g.es.map Lk.cl)[i]? = some x.cl := by rw [List.getElem?_map, hx]; rfl
 have hlt : i < g.es.length := (List.getElem?_eq_some_iff.1 hx).1
 have hp := fun hp hh => zcc (hp := hp) (kv := 1024) (ke := 1025) (Kv := 1025000000000000000) (Ke := 1026000000000000000) (last := g.last) (s := s) (y := .sl kk z ll) hh (zcm h (by omega) (by omega) (by omega) (by omega)) hi hx2
 have hnm := e27 name (Nat.le_trans hn (by decide))
 have hvk := e54 v hv
 rw [hq] at hnm
 rw [hw] at hvk
 have hu := zkh hv
 have hidx := idxG name (OkS.open_ 5 (x.props.map clT)) (by rw [List.length_map]; exact hxo.ps.len)
 rw [hm] at hidx
 have hi37 : i < 137438953472 := by omega
 have hpl : x.props.length ≤ 137438953472 := hxo.ps.len
 have b16 : decide ((16 : Int) ≤ (x.props.length : Int)) = false := decide_eq_false (by omega)
 obtain ⟨xid, xl, xo, xi, xpk, xpz, xps⟩ := x
 simp only at  hpl b16 hidx hfew
 have hr : ∃ R : List (List AV), R = ((xps.map clT).take xps.length ++ (name, clV v) :: (xps.map clT).drop xps.length).map tagC := ⟨_, rfl⟩
 obtain ⟨R, hR⟩ := hr
 have hqp := fun n hp => hi_e (K := 1026000000000000000) (k := 5760) (zcg g.es) hx2 ⟨xid, xl, xo, xi, .open_, 5, (xps.map clT).take xps.length ++ (name, clV v) :: (xps.map clT).drop xps.length⟩ rfl rfl rfl rfl rfl rfl hR.symm (by omega) n hp
 have hins : ∀ nl nl2, acall S 58 [.ow 45 5 nl ((xps.map clT).map tagC), .i .i64 (xps.length : Int), .ow 45 5 nl2 [tagC (name, clV v)]] = some (.ow 45 5 false R, []) := by
   intro nl nl2
   refine zei (p := zcl) rfl rfl ?_
   have hle : xps.length ≤ xps.length := by omega
   have hlim : xps.length + 1 ≤ 274877906944 := by omega
   simp only [zcl, and_self, Int.natCast_nonneg, Int.toNat_natCast, List.length_map, hle, List.length_singleton, hlim, Nat.lt_add_one, zd3, Nat.zero_lt_one, true_and, hR, List.map_append, List.map_cons, List.map_take, List.map_drop, List.append_assoc, List.cons_append, List.nil_append]
 simp only [List.length_map, Lk.cl, tagC] at hqp hins
 generalize clV v = u at hu hqp hins ⊢
 obtain ⟨uk, un, us, ukk, uz, ul⟩ := u
 obtain ⟨yk, ym, ys, ykk, yz, yll⟩ := v
 simp only [growd, Gr.c, Gr.cl, Vl.c, Vl.cs_map] at hcl hck hvk ⊢
 simp only [zce, List.length_map, zen, vBlk, eBlk, bxB] at hp
 refine W_eq (g22 rfl ?_)
 simp only [Vl.c, Vl.cs_map] at hu hqp hins
 (repeat' (first | with_reducible refine zab ?_ | simp -implicitDefEqProofs only [go_sem, J0, reduceIte, reduceCtorEq, Ja, Jb, Jc, Jd, Je, Jf, Jg, Jh, Ji, Jj, Jk, Jl, Jm, Jn, Jo, Jp, Jq, Jr, Js, a22, s1000011, hcl, s7, hck, List.length_map, hvl, hel, hv0, he0, zdv (ty := 45) (sz := 5), zcb (ty := 45) (sz := 5), hp, s27, hnm, s54, hvk, s55, hu, s56, hidx, hi37, hlt, hx, hx2, RE.b, RE.r, Lk.re, Lk.cl, tagC, Vl.c, Vl.cs_map, b16, s58, hins, hqp, List.length_set]))
end
section
theorem zez {K i : Nat} {L : List RE} {y : List AV} (h : i < L.length) : ((zct K L).set i y)[i]? = some y := List.getElem?_set_self (by rw [zk7]; exact h)
theorem zqd {t i K : Nat} (h : t < K) : (t == 64 * i + K) = false := by simp only [beq_eq_false_iff_ne]; omega
theorem hf_v {vs : List Vx} (hv : ClV vs) {i : Nat} {x : Vx} (hx : vs[i]? = some x) (y : Vx) (h1 : y.id = x.id) (h2 : y.label = x.label) (h4 : y.pk = .open_) (h5 : y.pz = 5) {K : Nat} (n : Nat) (hp : Hp) (h : zet hp 45 5 K (vs.map Vx.re) i) :
   zaf (pack false (n + 1)) ((zct K (vs.map Vx.re)).set i [.i .i64 x.id, .str x.label, .sl .open_ 5 (y.props.map tagC)]) hp = some ((vs.set i y).map Vx.c, zg3 K vs.length i, drops (zg3 K vs.length i) hp) := by
 have hlt := zbi hx
 have := zj4 (n := n) (ty := 45) (sz := 5) (p := [.i .i64 x.id, .s x.label]) (z := 5) (es := y.props.map tagC) (L := vs.map Vx.re) (by rw [List.length_map]; exact hlt) h
 rw [zdo hv, List.length_map] at this
 refine Eq.trans this ?_
 rw [List.map_set]
 congr 3
 simp only [Vx.c, h1, h2, h4, h5, List.map_cons, List.map_nil, SC.a, List.cons_append, List.nil_append]
theorem hf_e {vs : List Lk} (hv : ClE vs) {i : Nat} {x : Lk} (hx : vs[i]? = some x) (y : Lk) (h1 : y.id = x.id) (h2 : y.label = x.label) (h6 : y.out = x.out) (h7 : y.inn = x.inn) (h4 : y.pk = .open_) (h5 : y.pz = 5) {K : Nat} (n : Nat) (hp : Hp) (h : zet hp 45 5 K (vs.map Lk.re) i) :
   zaf (pack false (n + 1)) ((zct K (vs.map Lk.re)).set i [.i .i64 x.id, .str x.label, .i .i64 x.out, .i .i64 x.inn, .sl .open_ 5 (y.props.map tagC)]) hp = some ((vs.set i y).map Lk.c, zg3 K vs.length i, drops (zg3 K vs.length i) hp) := by
 have hlt := zbi hx
 have := zj4 (n := n) (ty := 45) (sz := 5) (p := [.i .i64 x.id, .s x.label, .i .i64 x.out, .i .i64 x.inn]) (z := 5) (es := y.props.map tagC) (L := vs.map Lk.re) (by rw [List.length_map]; exact hlt) h
 rw [zdl hv, List.length_map] at this
 refine Eq.trans this ?_
 rw [List.map_set]
 congr 3
 simp only [Lk.c, h1, h2, h4, h5, h6, h7, List.map_cons, List.map_nil, SC.a, List.cons_append, List.nil_append]
theorem ztw {g : Gr} (h : g.ok) {ec : Vl} {name : List UInt8} (hc : okG g.p = false) : acall S 24 [.agg g.c, .agg ec.c, .str name] = some (.tup [.agg g.cl.c, .b false, .i .i64 103], []) := by
 have hcl := e1000011 g h
 have hck := e7 g.cl (Gr.cl_ok h)
 rw [Gr.cl_p, hc] at hck
 have hvl := h.vl
 have hel := h.el
 have hv0 := zdo (zch g.vs)
 have he0 := zdl (zcg g.es)
 obtain ⟨xk, xm, xs, xkk, xz, xll⟩ := ec
 simp only [growd, Gr.c, Gr.cl, Vl.c, Vl.cs_map] at hcl hck ⊢
 refine W_eq (g24 rfl ?_)
 (repeat' (first | with_reducible refine zab ?_ | simp only [go_sem, J0, reduceIte, reduceCtorEq, Ja, Jb, Jc, Jd, Je, Jf, Jg, Jh, Ji, Jj, Jk, Jl, Jm, Jn, Jo, Jp, Jq, Jr, Js, a24, s1000011, hcl, s7, hck, List.length_map, hvl, hel, hv0, he0, zdv (ty := 45) (sz := 5), zcb (ty := 45) (sz := 5)]))
theorem zti {g : Gr} (h : g.ok) {name s : List UInt8} {kd n : Int} {kk : SK} {z : Nat} {ll : List (List AV)} (hc : okG g.p = true) (h6 : kd = 6 → ¬ 0 ≤ idxJ (isV n) (g.vs.map Vx.cl) 0) (h7 : kd = 7 → ¬ 0 ≤ idxJ (isE n) (g.es.map Lk.cl) 0) :
   acall S 24 [.agg g.c, .agg [.i .i64 kd, .i .i64 n, .str s, .sl kk z ll], .str name] = some (.tup [.agg g.cl.c, .b false, .i .i64 101], []) := by
 have hcl := e1000011 g h
 have hck := e7 g.cl (Gr.cl_ok h)
 rw [Gr.cl_p, hc] at hck
 have hvl := h.vl
 have hel := h.el
 have hv0 := zdo (zch g.vs)
 have he0 := zdl (zcg g.es)
 have hp := fun hp hh => zl2 (hp := hp) (kv := 832) (ke := 833) (Kv := 833000000000000000) (Ke := 834000000000000000) (last := g.last) (s := s) (y := .sl kk z ll) hh (zcm h (by omega) (by omega) (by omega) (by omega)) h6 h7
 simp only [growd, Gr.c, Gr.cl] at hcl hck ⊢
 simp only [zce, List.length_map, zen, vBlk, eBlk, bxB] at hp
 refine W_eq (g24 rfl ?_)
 (repeat' (first | with_reducible refine zab ?_ | simp only [go_sem, J0, reduceIte, reduceCtorEq, Ja, Jb, Jc, Jd, Je, Jf, Jg, Jh, Ji, Jj, Jk, Jl, Jm, Jn, Jo, Jp, Jq, Jr, Js, a24, s1000011, hcl, s7, hck, List.length_map, hvl, hel, hv0, he0, zdv (ty := 45) (sz := 5), zcb (ty := 45) (sz := 5), hp]))
theorem znp {g : Gr} (h : g.ok) {name s : List UInt8} {n : Int} {kk : SK} {z : Nat} {ll : List (List AV)} {i : Nat} {x : Vx} (hc : okG g.p = true) (hi : idxJ (isV n) (g.vs.map Vx.cl) 0 = (i : Int)) (hx : g.vs[i]? = some x) (hxo : x.ok) (hm : idxJ (eqP name) (x.props.map clT) 0 = -1) :
   acall S 24 [.agg g.c, .agg [.i .i64 6, .i .i64 n, .str s, .sl kk z ll], .str name] = some (.tup [.agg { g.cl with vs := g.cl.vs.set i x.cl }.c, .b false, .i .i64 0], []) := by
 have hcl := e1000011 g h
 have hck := e7 g.cl (Gr.cl_ok h)
 rw [Gr.cl_p, hc] at hck
 have hvl := h.vl
 have hel := h.el
 have hv0 := zdo (zch g.vs)
 have he0 := zdl (zcg g.es)
 have hx2 : (g.vs.map Vx.cl)[i]? = some x.cl := by rw [List.getElem?_map, hx]; rfl
 have hlt : i < g.vs.length := (List.getElem?_eq_some_iff.1 hx).1
 have hp := fun hp hh => zca (hp := hp) (kv := 832) (ke := 833) (Kv := 833000000000000000) (Ke := 834000000000000000) (last := g.last) (s := s) (y := .sl kk z ll) hh (zcm h (by omega) (by omega) (by omega) (by omega)) hi hx2
 have hi37 : i < 137438953472 := by omega
 have hpl : x.props.length ≤ 137438953472 := hxo.ps.len
 obtain ⟨xid, xl,  xpk, xpz, xps⟩ := x
 simp only at hpl hm
 have hdel := zqy name (l := xps.map clT) (by rw [List.length_map]; exact hpl) hm
 have hqp := fun n hp => hi_v (K := 833000000000000000) (k := 2240) (zch g.vs) hx2 ⟨xid, xl,  .open_, 5, xps.map clT⟩ rfl rfl  rfl rfl rfl (by omega) n hp
 simp only [List.length_map, Vx.cl, tagC] at hqp
 simp only [growd, Gr.c, Gr.cl, Vl.c, Vl.cs_map] at hcl hck ⊢
 simp only [zce, List.length_map, zen, vBlk, eBlk, bxB] at hp
 refine W_eq (g24 rfl ?_)
 (repeat' (first | with_reducible refine zab ?_ | simp -implicitDefEqProofs only [go_sem, J0, reduceIte, reduceCtorEq, Ja, Jb, Jc, Jd, Je, Jf, Jg, Jh, Ji, Jj, Jk, Jl, Jm, Jn, Jo, Jp, Jq, Jr, Js, a24, s1000011, hcl, s7, hck, List.length_map, hvl, hel, hv0, he0, zdv (ty := 45) (sz := 5), zcb (ty := 45) (sz := 5), hp, hi37, hlt, hx, hx2, RE.b, RE.r, Vx.re, Vx.cl, s63, hdel, List.length_set, hqp, zqd, zez, Int.lt_irrefl, decide_false]))
theorem zou {g : Gr} (h : g.ok) {name s : List UInt8} {n : Int} {kk : SK} {z : Nat} {ll : List (List AV)} {i : Nat} {x : Vx} (hc : okG g.p = true) (hi : idxJ (isV n) (g.vs.map Vx.cl) 0 = (i : Int)) (hx : g.vs[i]? = some x) (hxo : x.ok) {m : Nat} (hm : idxJ (eqP name) (x.props.map clT) 0 = (m : Int)) :
   acall S 24 [.agg g.c, .agg [.i .i64 6, .i .i64 n, .str s, .sl kk z ll], .str name] = some (.tup [.agg { g.cl with vs := g.cl.vs.set i { x.cl with props := (x.props.map clT).filter fun y => !eqP name y } }.c, .b true, .i .i64 0], []) := by
 have hcl := e1000011 g h
 have hck := e7 g.cl (Gr.cl_ok h)
 rw [Gr.cl_p, hc] at hck
 have hvl := h.vl
 have hel := h.el
 have hv0 := zdo (zch g.vs)
 have he0 := zdl (zcg g.es)
 have hx2 : (g.vs.map Vx.cl)[i]? = some x.cl := by rw [List.getElem?_map, hx]; rfl
 have hlt : i < g.vs.length := (List.getElem?_eq_some_iff.1 hx).1
 have hp := fun hp hh => zca (hp := hp) (kv := 832) (ke := 833) (Kv := 833000000000000000) (Ke := 834000000000000000) (last := g.last) (s := s) (y := .sl kk z ll) hh (zcm h (by omega) (by omega) (by omega) (by omega)) hi hx2
 have hi37 : i < 137438953472 := by omega
 have hpl : x.props.length ≤ 137438953472 := hxo.ps.len
 obtain ⟨xid, xl,  xpk, xpz, xps⟩ := x
 simp only at hpl hm
 have hdel := zp4 name (l := xps.map clT) (by rw [List.length_map]; exact hpl) hm
 have hless : ((xps.map clT).filter fun y => !eqP name y).length < xps.length := by
   obtain ⟨y, h1, h2, h3⟩ := zbh hm
   have := List.length_filter_lt_length_iff_exists (p := fun y => !eqP name y) (l := xps.map clT)
   rw [List.length_map] at this
   exact this.2 ⟨y, List.mem_of_getElem? h1, by rw [h2]; decide⟩
 have bl : decide ((((xps.map clT).filter fun y => !eqP name y).length : Int) < (xps.length : Int)) = true := decide_eq_true (by omega)
 have hqp := fun n hp => hf_v (K := 833000000000000000) (zch g.vs) hx2 ⟨xid, xl,  .open_, 5, (xps.map clT).filter fun y => !eqP name y⟩ rfl rfl  rfl rfl n hp
 generalize ((xps.map clT).filter fun y => !eqP name y) = F at *
 simp only [List.length_map, Vx.cl, tagC] at hqp
 simp only [growd, Gr.c, Gr.cl, Vl.c, Vl.cs_map] at hcl hck ⊢
 simp only [zce, List.length_map, zen, vBlk, eBlk, bxB] at hp
 refine W_eq (g24 rfl ?_)
 (repeat' (first | with_reducible refine zab ?_ | simp -implicitDefEqProofs only [go_sem, J0, reduceIte, reduceCtorEq, Ja, Jb, Jc, Jd, Je, Jf, Jg, Jh, Ji, Jj, Jk, Jl, Jm, Jn, Jo, Jp, Jq, Jr, Js, a24, s1000011, hcl, s7, hck, List.length_map, hvl, hel, hv0, he0, zdv (ty := 45) (sz := 5), zcb (ty := 45) (sz := 5), hp, hi37, hlt, hx, hx2, RE.b, RE.r, Vx.re, Vx.cl, s63, hdel, List.length_set, hqp, zqd, zez, bl]))
theorem znn {g : Gr} (h : g.ok) {name s : List UInt8} {n : Int} {kk : SK} {z : Nat} {ll : List (List AV)} {i : Nat} {x : Lk} (hc : okG g.p = true) (hi : idxJ (isE n) (g.es.map Lk.cl) 0 = (i : Int)) (hx : g.es[i]? = some x) (hxo : x.ok) (hm : idxJ (eqP name) (x.props.map clT) 0 = -1) :
   acall S 24 [.agg g.c, .agg [.i .i64 7, .i .i64 n, .str s, .sl kk z ll], .str name] = some (.tup [.agg { g.cl with es := g.cl.es.set i x.cl }.c, .b false, .i .i64 0], []) := by
 have hcl := e1000011 g h
 have hck := e7 g.cl (Gr.cl_ok h)
 rw [Gr.cl_p, hc] at hck
 have hvl := h.vl
 have hel := h.el
 have hv0 := zdo (zch g.vs)
 have he0 := zdl (zcg g.es)
 have hx2 : (g.es.map Lk.cl)[i]? = some x.cl := by rw [List.getElem?_map, hx]; rfl
 have hlt : i < g.es.length := (List.getElem?_eq_some_iff.1 hx).1
 have hp := fun hp hh => zcc (hp := hp) (kv := 832) (ke := 833) (Kv := 833000000000000000) (Ke := 834000000000000000) (last := g.last) (s := s) (y := .sl kk z ll) hh (zcm h (by omega) (by omega) (by omega) (by omega)) hi hx2
 have hi37 : i < 137438953472 := by omega
 have hpl : x.props.length ≤ 137438953472 := hxo.ps.len
 obtain ⟨xid, xl, xo, xi, xpk, xpz, xps⟩ := x
 simp only at hpl hm
 have hdel := zqy name (l := xps.map clT) (by rw [List.length_map]; exact hpl) hm
 have hqp := fun n hp => hi_e (K := 834000000000000000) (k := 2240) (zcg g.es) hx2 ⟨xid, xl, xo, xi, .open_, 5, xps.map clT⟩ rfl rfl rfl rfl rfl rfl rfl (by omega) n hp
 simp only [List.length_map, Lk.cl, tagC] at hqp
 simp only [growd, Gr.c, Gr.cl, Vl.c, Vl.cs_map] at hcl hck ⊢
 simp only [zce, List.length_map, zen, vBlk, eBlk, bxB] at hp
 refine W_eq (g24 rfl ?_)
 (repeat' (first | with_reducible refine zab ?_ | simp -implicitDefEqProofs only [go_sem, J0, reduceIte, reduceCtorEq, Ja, Jb, Jc, Jd, Je, Jf, Jg, Jh, Ji, Jj, Jk, Jl, Jm, Jn, Jo, Jp, Jq, Jr, Js, a24, s1000011, hcl, s7, hck, List.length_map, hvl, hel, hv0, he0, zdv (ty := 45) (sz := 5), zcb (ty := 45) (sz := 5), hp, hi37, hlt, hx, hx2, RE.b, RE.r, Lk.re, Lk.cl, s63, hdel, List.length_set, hqp, zqd, zez, Int.lt_irrefl, decide_false]))
theorem zoi {g : Gr} (h : g.ok) {name s : List UInt8} {n : Int} {kk : SK} {z : Nat} {ll : List (List AV)} {i : Nat} {x : Lk} (hc : okG g.p = true) (hi : idxJ (isE n) (g.es.map Lk.cl) 0 = (i : Int)) (hx : g.es[i]? = some x) (hxo : x.ok) {m : Nat} (hm : idxJ (eqP name) (x.props.map clT) 0 = (m : Int)) :
   acall S 24 [.agg g.c, .agg [.i .i64 7, .i .i64 n, .str s, .sl kk z ll], .str name] = some (.tup [.agg { g.cl with es := g.cl.es.set i { x.cl with props := (x.props.map clT).filter fun y => !eqP name y } }.c, .b true, .i .i64 0], []) := by
 have hcl := e1000011 g h
 have hck := e7 g.cl (Gr.cl_ok h)
 rw [Gr.cl_p, hc] at hck
 have hvl := h.vl
 have hel := h.el
 have hv0 := zdo (zch g.vs)
 have he0 := zdl (zcg g.es)
 have hx2 : (g.es.map Lk.cl)[i]? = some x.cl := by rw [List.getElem?_map, hx]; rfl
 have hlt : i < g.es.length := (List.getElem?_eq_some_iff.1 hx).1
 have hp := fun hp hh => zcc (hp := hp) (kv := 832) (ke := 833) (Kv := 833000000000000000) (Ke := 834000000000000000) (last := g.last) (s := s) (y := .sl kk z ll) hh (zcm h (by omega) (by omega) (by omega) (by omega)) hi hx2
 have hi37 : i < 137438953472 := by omega
 have hpl : x.props.length ≤ 137438953472 := hxo.ps.len
 obtain ⟨xid, xl, xo, xi, xpk, xpz, xps⟩ := x
 simp only at hpl hm
 have hdel := zp4 name (l := xps.map clT) (by rw [List.length_map]; exact hpl) hm
 have hless : ((xps.map clT).filter fun y => !eqP name y).length < xps.length := by
   obtain ⟨y, h1, h2, h3⟩ := zbh hm
   have := List.length_filter_lt_length_iff_exists (p := fun y => !eqP name y) (l := xps.map clT)
   rw [List.length_map] at this
   exact this.2 ⟨y, List.mem_of_getElem? h1, by rw [h2]; decide⟩
 have bl : decide ((((xps.map clT).filter fun y => !eqP name y).length : Int) < (xps.length : Int)) = true := decide_eq_true (by omega)
 have hqp := fun n hp => hf_e (K := 834000000000000000) (zcg g.es) hx2 ⟨xid, xl, xo, xi, .open_, 5, (xps.map clT).filter fun y => !eqP name y⟩ rfl rfl rfl rfl rfl rfl n hp
 generalize ((xps.map clT).filter fun y => !eqP name y) = F at *
 simp only [List.length_map, Lk.cl, tagC] at hqp
 simp only [growd, Gr.c, Gr.cl, Vl.c, Vl.cs_map] at hcl hck ⊢
 simp only [zce, List.length_map, zen, vBlk, eBlk, bxB] at hp
 refine W_eq (g24 rfl ?_)
 (repeat' (first | with_reducible refine zab ?_ | simp -implicitDefEqProofs only [go_sem, J0, reduceIte, reduceCtorEq, Ja, Jb, Jc, Jd, Je, Jf, Jg, Jh, Ji, Jj, Jk, Jl, Jm, Jn, Jo, Jp, Jq, Jr, Js, a24, s1000011, hcl, s7, hck, List.length_map, hvl, hel, hv0, he0, zdv (ty := 45) (sz := 5), zcb (ty := 45) (sz := 5), hp, hi37, hlt, hx, hx2, RE.b, RE.r, Lk.re, Lk.cl, s63, hdel, List.length_set, hqp, zqd, zez, bl]))
end
section
def Vl0 : Vl := .mk 0 0 [] .nil 0 []
def propV (nm : List UInt8) (l : List Pp) : AV := match l.find? (eqP nm) with
 | some x => .tup [.agg x.2.c, .b true]
 | none => .tup [.agg Vl0.c, .b false]
end
section
theorem zhv {α β : Type} {q : β → Bool} {f : α → β} : ∀ (l : List α) (k : Nat), idxJ q (l.map f) k = idxJ (fun x => q (f x)) l k
 | [], _ => rfl
 | x :: r, k => by simp only [List.map_cons, idxJ, zhv r]
theorem zhz {α : Type} {q : α → Bool} : ∀ {l : List α} {k : Nat}, ¬ 0 ≤ idxJ q l k → idxJ q l k = -1
 | [], _, _ => rfl
 | x :: r, k, h => by
   simp only [idxJ] at h ⊢
   split at h
   · omega
   · rename_i hq
     rw [if_neg hq]
     exact zhz h
theorem zjs {nm : List UInt8} {y : Pp} (h : geP nm y = false) : Op.bytesLess y.1 nm = true := by simpa [geP] using h
theorem zw7 {nm : List UInt8} {y : Pp} (h : geP nm y = true) : ¬ Op.bytesLess y.1 nm = true := by simpa [geP] using h
theorem znm {nm : List UInt8} {w : Vl} (v : Vl) : ∀ {ps : List Pp} {m : Nat}, ps[m]? = some (nm, w) → (∀ y ∈ ps.take m, geP nm y = false) → (ps.set m (nm, v)).map tagP = putP nm v.p (ps.map tagP)
 | [], m, h, _ => by simp at h
 | x :: r, 0, h, _ => by
   obtain rfl : x = (nm, w) := by simpa using h
   simp only [List.set_cons_zero, List.map_cons, putP, tagP]
   rw [if_neg (by rw [zx7]; decide), if_pos trivial]
 | x :: r, m + 1, h, hb => by
   have hx := zjs (hb x (by simp))
   simp only [List.set_cons_succ, List.map_cons, putP]
   rw [if_pos (show Op.bytesLess (tagP x).1 nm = true from hx), znm v (by simpa using h) fun y hy => hb y (by simp [hy])]
theorem zm7 {nm : List UInt8} (v : Vl) : ∀ {ps : List Pp} {m : Nat} {y : Pp}, ps[m]? = some y → geP nm y = true → ¬ y.1 = nm → (∀ y ∈ ps.take m, geP nm y = false) → (ps.take m ++ (nm, v) :: ps.drop m).map tagP = putP nm v.p (ps.map tagP)
 | [], m, _, h, _, _, _ => by simp at h
 | x :: r, 0, y, h, hg, hn, _ => by
   obtain rfl : x = y := by simpa using h
   simp only [List.take_zero, List.drop_zero, List.nil_append, List.map_cons, putP]
   rw [if_neg (show ¬ Op.bytesLess (tagP x).1 nm = true from zw7 hg), if_neg (show ¬ (tagP x).1 = nm from hn)]
   rfl
 | x :: r, m + 1, y, h, hg, hn, hb => by
   have hx := zjs (hb x (by simp))
   simp only [List.take_succ_cons, List.drop_succ_cons, List.cons_append, List.map_cons, putP]
   rw [if_pos (show Op.bytesLess (tagP x).1 nm = true from hx), zm7 v (by simpa using h) hg hn fun y hy => hb y (by simp [hy])]
theorem zmw {nm : List UInt8} (v : Vl) : ∀ {ps : List Pp}, (∀ y ∈ ps, geP nm y = false) → (ps.take ps.length ++ (nm, v) :: ps.drop ps.length).map tagP = putP nm v.p (ps.map tagP)
 | [], _ => rfl
 | x :: r, hb => by
   have hx := zjs (hb x (by simp))
   have := zmw (nm := nm) v (ps := r) fun y hy => hb y (by simp [hy])
   simp only [List.length_cons, List.take_succ_cons, List.drop_succ_cons, List.cons_append, List.map_cons, putP]
   rw [if_pos (show Op.bytesLess (tagP x).1 nm = true from hx), this]
theorem zyr {ps : List Pp} {nm : List UInt8} : idxJ (geP nm) ps 0 = -1 ∨ ∃ m : Nat, idxJ (geP nm) ps 0 = (m : Int) := by
 by_cases h : 0 ≤ idxJ (geP nm) ps 0
 · exact .inr ⟨(idxJ (geP nm) ps 0).toNat, by omega⟩
 · exact .inl (zhz h)
theorem zd4 (g : Gr) (kd n : Int) : zee g.p kd n = plOf kd (idxJ (isV n) g.vs 0) (idxJ (isE n) g.es 0) := by
 unfold zee Gr.p
 rw [zhv, zhv]
 rfl
theorem zm6 (g : Gr) (n : Int) : idxJ (isV n) (g.vs.map Vx.cl) 0 = idxJ (isV n) g.vs 0 := by rw [zhv]; rfl
theorem zmy (g : Gr) (n : Int) : idxJ (isE n) (g.es.map Lk.cl) 0 = idxJ (isE n) g.es 0 := by rw [zhv]; rfl
theorem zks {kd a b : Int} (h : plOf kd a b = none) : (kd = 6 → ¬ 0 ≤ a) ∧ (kd = 7 → ¬ 0 ≤ b) := by
 unfold plOf at h
 split at h
 · rename_i h6
   split at h
   · cases h
   · rename_i h0
     exact ⟨fun _ => h0, fun h7 => by omega⟩
 · rename_i h6
   split at h
   · split at h
     · cases h
     · rename_i h0
       exact ⟨fun h => absurd h h6, fun _ => h0⟩
   · rename_i h7
     exact ⟨fun h => absurd h h6, fun h => absurd h h7⟩
theorem zjl {kd a b : Int} {p : Pl} (h : plOf kd a b = some p) : (kd = 6 ∧ ∃ i : Nat, a = (i : Int) ∧ p = .v i) ∨ (kd = 7 ∧ ∃ i : Nat, b = (i : Int) ∧ p = .e i) := by
 unfold plOf at h
 split at h
 · rename_i h6
   split at h
   · rename_i h0
     refine .inl ⟨h6, a.toNat, by omega, ?_⟩
     simpa using h.symm
   · cases h
 · split at h
   · rename_i h7
     split at h
     · rename_i h0
       refine .inr ⟨h7, b.toNat, by omega, ?_⟩
       simpa using h.symm
     · cases h
   · cases h
theorem OkS.setl {α : Type} {k : SK} {z n : Nat} {l : List α} {i : Nat} {x : α} (h : OkS k z n l) : OkS k z n (l.set i x) := by
 obtain ⟨h1, h2⟩ := h
 refine ⟨h1.imp id (fun e => by rw [e]; rfl), fun e => ?_⟩
 rw [h2 e]; rfl
noncomputable def Gr.putV (g : Gr) (i : Nat) (x : Vx) (P : List Pp) : Gr := { g.cl with vs := g.cl.vs.set i { x.cl with props := P } }
theorem zko {g : Gr} (h : g.ok) {i : Nat} {x : Vx} (hx : g.vs[i]? = some x) {P : List Pp} (hP : PsOk .open_ 5 P) : (g.putV i x P).ok := by
 obtain ⟨h1, h2, h3, h4, h5, h6⟩ := Gr.cl_ok h
 have hxo := h.va x (List.mem_of_getElem? hx)
 have hl : (g.cl.vs.set i { x.cl with props := P }).length = g.cl.vs.length := List.length_set
 have hall : ∀ y ∈ g.cl.vs.set i { x.cl with props := P }, y.ok := by
   intro y hy
   rcases List.mem_or_eq_of_mem_set hy with h | rfl
   · exact h5 y h
   · exact ⟨hxo.lab, hP⟩
 exact ⟨OkS.setl h1, h2, by simp only [Gr.putV]; rw [hl]; exact h3, h4, hall, h6⟩
theorem zos {g : Gr} {i : Nat} {x : Vx} (hx : g.vs[i]? = some x) (P : List Pp) : (g.putV i x P).p = g.p.put (.v i) (P.map tagP) := by
 have h1 := zq0 (vs := []) { x.cl with props := P } (P.map tagP) rfl (l := g.cl.vs) (i := i) (x := x.cl) (by simp only [Gr.cl, List.getElem?_map, hx, Option.map_some]) ⟨rfl, rfl⟩
 have h2 := Gr.cl_p g
 have h3 : (g.putV i x P).p = { g.cl.p with v := (g.cl.vs.set i { x.cl with props := P }).map Vx.p } := rfl
 rw [h3, h1, show g.cl.vs.map Vx.p = g.cl.p.v from rfl, h2]
 rfl
theorem z41 {g : Gr} {i : Nat} {x : Vx} (hx : g.vs[i]? = some x) : g.p.at (.v i) = (x.props.map clT).map tagP := by
 rw [zp9]
 simp only [PG.at, Gr.p, List.getElem?_map, hx, Option.map_some, Option.getD_some, Vx.p]
theorem z42 {g : Gr} (h : g.ok) {v : Vl} (hv : v.ok) {name s : List UInt8} (hn : name.length ≤ 137438953472) {n : Int} {kk : SK} {z : Nat} {ll : List (List AV)} (hc : okG g.p = true) {i : Nat} (hi : idxJ (isV n) g.vs 0 = (i : Int)) :
   ∃ (q : Gr) (e : Int), acall S 22 [.agg g.c, .agg [.i .i64 6, .i .i64 n, .str s, .sl kk z ll], .str name, .agg v.c] = some (.tup [.agg q.c, .i .i64 e], []) ∧ q.ok ∧ (q.p, e) = setG g.p 6 n name v.p := by
 have hpl : zee g.p 6 n = some (.v i) := by
   rw [zd4]
   unfold plOf
   simp only [hi, Int.reduceEq, if_true, if_false, Int.natCast_nonneg, Int.toNat_natCast]
 obtain ⟨x, hx, -, -⟩ := zbh hi
 have hxo : x.ok := h.va x (List.mem_of_getElem? hx)
 have hi2 := hi
 rw [← zm6] at hi2
 have hat := z41 hx
 have hbp := zql hc (zho hpl)
 obtain ⟨-, hl16⟩ := zdg.1 hbp
 rw [hat, List.length_map, List.length_map] at hl16
 have hps := hxo.ps.cl
 unfold setG
 rw [if_pos hc, hpl]
 simp only
 rw [hat]
 cases hq : nameB name with
 | false => exact ⟨g.cl, 100, zry h hv hn hc hi2 hx hq, Gr.cl_ok h, by rw [if_neg (by decide), Gr.cl_p]⟩
 | true =>
   rw [if_pos rfl]
   cases hw : mayV v.p 0 with
   | false => exact ⟨g.cl, 20, zu8 h hv hn hc hi2 hx hq hw, Gr.cl_ok h, by rw [if_neg (by decide), Gr.cl_p]⟩
   | true =>
     rw [if_pos rfl]
     have hnew : zgq (name, clV v) := ⟨hn, zt9 hv⟩
     have hvp := z0k v
     rcases zyr (ps := x.props.map clT) (nm := name) with hm | ⟨m, hm⟩
     · have hb := ze7 hm
       have he := zmw (clV v) hb
       rw [hvp, List.length_map] at he
       have hln : (putP name v.p ((x.props.map clT).map tagP)).length = x.props.length + 1 := by
         rw [← he]
         simp only [List.length_map, List.length_append, List.length_cons, List.length_take, List.length_drop]
         omega
       by_cases h16 : 16 ≤ x.props.length
       · exact ⟨g.cl, 102, zo3 h hv hn hc hi2 hx hq hw hm hxo h16, Gr.cl_ok h, by rw [if_neg (by omega), Gr.cl_p]⟩
       · refine ⟨g.putV i x ((x.props.map clT).take x.props.length ++ (name, clV v) :: (x.props.map clT).drop x.props.length), 0, zrx h hv hn hc hi2 hx hq hw hm hxo (by omega), zko h hx ⟨OkS.open_ 5 _, ?_, ?_⟩, ?_⟩
         · simp only [List.length_map, List.length_append, List.length_cons, List.length_take, List.length_drop]
           omega
         · intro y hy
           rcases List.mem_append.1 hy with hy | hy
           · exact hps.all y (List.mem_of_mem_take hy)
           · rcases List.mem_cons.1 hy with rfl | hy
             · exact hnew
             · exact hps.all y (List.mem_of_mem_drop hy)
         · rw [if_pos (by omega), zos hx, he]
     · obtain ⟨⟨nm, w⟩, hy, hg, hb⟩ := zbh hm
       by_cases hne : nm = name
       · subst hne
         have he := znm (clV v) hy hb
         rw [hvp] at he
         have hln : (putP nm v.p ((x.props.map clT).map tagP)).length = x.props.length := by
           rw [← he]
           simp only [List.length_map, List.length_set]
         refine ⟨g.putV i x ((x.props.map clT).set m (nm, clV v)), 0, zu4 h hv hn hc hi2 hx hq hw hm hy hxo, zko h hx ⟨OkS.open_ 5 _, ?_, ?_⟩, ?_⟩
         · rw [List.length_set]; exact hps.len
         · intro y hy
           rcases List.mem_or_eq_of_mem_set hy with h | rfl
           · exact hps.all y h
           · exact hnew
         · rw [if_pos (by omega), zos hx, he]
       · have he := zm7 (clV v) hy hg hne hb
         rw [hvp] at he
         have hml := zbi hy
         rw [List.length_map] at hml
         have hln : (putP name v.p ((x.props.map clT).map tagP)).length = x.props.length + 1 := by
           rw [← he]
           simp only [List.length_map, List.length_append, List.length_cons, List.length_take, List.length_drop]
           omega
         by_cases h16 : 16 ≤ x.props.length
         · exact ⟨g.cl, 102, zpf h hv hn hc hi2 hx hq hw hm hy hne hxo h16, Gr.cl_ok h, by rw [if_neg (by omega), Gr.cl_p]⟩
         · refine ⟨g.putV i x ((x.props.map clT).take m ++ (name, clV v) :: (x.props.map clT).drop m), 0, zsb h hv hn hc hi2 hx hq hw hm hy hne hxo (by omega), zko h hx ⟨OkS.open_ 5 _, ?_, ?_⟩, ?_⟩
           · simp only [List.length_map, List.length_append, List.length_cons, List.length_take, List.length_drop]
             omega
           · intro y hy
             rcases List.mem_append.1 hy with hy | hy
             · exact hps.all y (List.mem_of_mem_take hy)
             · rcases List.mem_cons.1 hy with rfl | hy
               · exact hnew
               · exact hps.all y (List.mem_of_mem_drop hy)
           · rw [if_pos (by omega), zos hx, he]
theorem zxk {g : Gr} (h : g.ok) {name s : List UInt8} {n : Int} {kk : SK} {z : Nat} {ll : List (List AV)} (hc : okG g.p = true) {i : Nat} (hi : idxJ (isV n) g.vs 0 = (i : Int)) :
   ∃ (q : Gr) (b : Bool) (e : Int), acall S 24 [.agg g.c, .agg [.i .i64 6, .i .i64 n, .str s, .sl kk z ll], .str name] = some (.tup [.agg q.c, .b b, .i .i64 e], []) ∧ q.ok ∧ (q.p, b, e) = zgu g.p 6 n name := by
 have hpl : zee g.p 6 n = some (.v i) := by
   rw [zd4]
   unfold plOf
   simp only [hi, Int.reduceEq, if_true, if_false, Int.natCast_nonneg, Int.toNat_natCast]
 obtain ⟨x, hx, -, -⟩ := zbh hi
 have hxo : x.ok := h.va x (List.mem_of_getElem? hx)
 have hi2 := hi
 rw [← zm6] at hi2
 have hat := z41 hx
 have hps := hxo.ps.cl
 unfold zgu
 rw [if_pos hc, hpl]
 simp only
 rw [hat]
 have hdel : delP name ((x.props.map clT).map tagP) = ((x.props.map clT).filter fun y => !eqP name y).map tagP := by
   unfold delP
   rw [List.filter_map]
   rfl
 by_cases h0 : 0 ≤ idxJ (eqP name) (x.props.map clT) 0
 · obtain ⟨m, hm⟩ : ∃ m : Nat, idxJ (eqP name) (x.props.map clT) 0 = (m : Int) := ⟨(idxJ (eqP name) (x.props.map clT) 0).toNat, by omega⟩
   obtain ⟨y, hy, hyq, -⟩ := zbh hm
   refine ⟨g.putV i x ((x.props.map clT).filter fun y => !eqP name y), true, 0, zou h hc hi2 hx hxo hm, zko h hx ⟨OkS.open_ 5 _, Nat.le_trans (List.length_filter_le ..) hps.len, fun y hy => hps.all y (List.mem_filter.1 hy).1⟩, ?_⟩
   rw [zos hx, hdel]
   simp only [Prod.mk.injEq, true_and, and_true, List.length_map]
   refine (decide_eq_true ?_).symm
   have := List.length_filter_lt_length_iff_exists (p := fun y => !eqP name y) (l := x.props.map clT)
   rw [List.length_map] at this
   exact this.2 ⟨y, List.mem_of_getElem? hy, by rw [hyq]; decide⟩
 · have hm := zhz h0
   have hb := ze7 hm
   have hf : ((x.props.map clT).filter fun y => !eqP name y) = x.props.map clT := List.filter_eq_self.2 fun y hy => by rw [hb y hy]; rfl
   refine ⟨g.putV i x (x.props.map clT), false, 0, znp h hc hi2 hx hxo hm, zko h hx hps, ?_⟩
   rw [zos hx, hdel, hf]
   simp only [Prod.mk.injEq, true_and, and_true]
   exact (decide_eq_false (Nat.lt_irrefl _)).symm
noncomputable def Gr.putE (g : Gr) (i : Nat) (x : Lk) (P : List Pp) : Gr := { g.cl with es := g.cl.es.set i { x.cl with props := P } }
theorem zjr {g : Gr} (h : g.ok) {i : Nat} {x : Lk} (hx : g.es[i]? = some x) {P : List Pp} (hP : PsOk .open_ 5 P) : (g.putE i x P).ok := by
 obtain ⟨h1, h2, h3, h4, h5, h6⟩ := Gr.cl_ok h
 have hxo := h.ea x (List.mem_of_getElem? hx)
 have hl : (g.cl.es.set i { x.cl with props := P }).length = g.cl.es.length := List.length_set
 have hall : ∀ y ∈ g.cl.es.set i { x.cl with props := P }, y.ok := by
   intro y hy
   rcases List.mem_or_eq_of_mem_set hy with h | rfl
   · exact h6 y h
   · exact ⟨hxo.lab, hP⟩
 exact ⟨h1, OkS.setl h2, h3, by simp only [Gr.putE]; rw [hl]; exact h4, h5, hall⟩
theorem zom {g : Gr} {i : Nat} {x : Lk} (hx : g.es[i]? = some x) (P : List Pp) : (g.putE i x P).p = g.p.put (.e i) (P.map tagP) := by
 have h1 := zqk (es := []) { x.cl with props := P } (P.map tagP) rfl (l := g.cl.es) (i := i) (x := x.cl) (by simp only [Gr.cl, List.getElem?_map, hx, Option.map_some]) ⟨rfl, rfl, rfl, rfl⟩
 have h2 := Gr.cl_p g
 have h3 : (g.putE i x P).p = { g.cl.p with e := (g.cl.es.set i { x.cl with props := P }).map Lk.p } := rfl
 rw [h3, h1, show g.cl.es.map Lk.p = g.cl.p.e from rfl, h2]
 rfl
theorem z4v {g : Gr} {i : Nat} {x : Lk} (hx : g.es[i]? = some x) : g.p.at (.e i) = (x.props.map clT).map tagP := by
 rw [zp9]
 simp only [PG.at, Gr.p, List.getElem?_map, hx, Option.map_some, Option.getD_some, Lk.p]
theorem z3t {g : Gr} (h : g.ok) {v : Vl} (hv : v.ok) {name s : List UInt8} (hn : name.length ≤ 137438953472) {n : Int} {kk : SK} {z : Nat} {ll : List (List AV)} (hc : okG g.p = true) {i : Nat} (hi : idxJ (isE n) g.es 0 = (i : Int)) :
   ∃ (q : Gr) (e : Int), acall S 22 [.agg g.c, .agg [.i .i64 7, .i .i64 n, .str s, .sl kk z ll], .str name, .agg v.c] = some (.tup [.agg q.c, .i .i64 e], []) ∧ q.ok ∧ (q.p, e) = setG g.p 7 n name v.p := by
 have hpl : zee g.p 7 n = some (.e i) := by
   rw [zd4]
   unfold plOf
   simp only [hi, Int.reduceEq, if_true, if_false, Int.natCast_nonneg, Int.toNat_natCast]
 obtain ⟨x, hx, -, -⟩ := zbh hi
 have hxo : x.ok := h.ea x (List.mem_of_getElem? hx)
 have hi2 := hi
 rw [← zmy] at hi2
 have hat := z4v hx
 have hbp := zql hc (zho hpl)
 obtain ⟨-, hl16⟩ := zdg.1 hbp
 rw [hat, List.length_map, List.length_map] at hl16
 have hps := hxo.ps.cl
 unfold setG
 rw [if_pos hc, hpl]
 simp only
 rw [hat]
 cases hq : nameB name with
 | false => exact ⟨g.cl, 100, zr0 h hv hn hc hi2 hx hq, Gr.cl_ok h, by rw [if_neg (by decide), Gr.cl_p]⟩
 | true =>
   rw [if_pos rfl]
   cases hw : mayV v.p 0 with
   | false => exact ⟨g.cl, 20, zur h hv hn hc hi2 hx hq hw, Gr.cl_ok h, by rw [if_neg (by decide), Gr.cl_p]⟩
   | true =>
     rw [if_pos rfl]
     have hnew : zgq (name, clV v) := ⟨hn, zt9 hv⟩
     have hvp := z0k v
     rcases zyr (ps := x.props.map clT) (nm := name) with hm | ⟨m, hm⟩
     · have hb := ze7 hm
       have he := zmw (clV v) hb
       rw [hvp, List.length_map] at he
       have hln : (putP name v.p ((x.props.map clT).map tagP)).length = x.props.length + 1 := by
         rw [← he]
         simp only [List.length_map, List.length_append, List.length_cons, List.length_take, List.length_drop]
         omega
       by_cases h16 : 16 ≤ x.props.length
       · exact ⟨g.cl, 102, zpn h hv hn hc hi2 hx hq hw hm hxo h16, Gr.cl_ok h, by rw [if_neg (by omega), Gr.cl_p]⟩
       · refine ⟨g.putE i x ((x.props.map clT).take x.props.length ++ (name, clV v) :: (x.props.map clT).drop x.props.length), 0, zsa h hv hn hc hi2 hx hq hw hm hxo (by omega), zjr h hx ⟨OkS.open_ 5 _, ?_, ?_⟩, ?_⟩
         · simp only [List.length_map, List.length_append, List.length_cons, List.length_take, List.length_drop]
           omega
         · intro y hy
           rcases List.mem_append.1 hy with hy | hy
           · exact hps.all y (List.mem_of_mem_take hy)
           · rcases List.mem_cons.1 hy with rfl | hy
             · exact hnew
             · exact hps.all y (List.mem_of_mem_drop hy)
         · rw [if_pos (by omega), zom hx, he]
     · obtain ⟨⟨nm, w⟩, hy, hg, hb⟩ := zbh hm
       by_cases hne : nm = name
       · subst hne
         have he := znm (clV v) hy hb
         rw [hvp] at he
         have hln : (putP nm v.p ((x.props.map clT).map tagP)).length = x.props.length := by
           rw [← he]
           simp only [List.length_map, List.length_set]
         refine ⟨g.putE i x ((x.props.map clT).set m (nm, clV v)), 0, ztb h hv hn hc hi2 hx hq hw hm hy hxo, zjr h hx ⟨OkS.open_ 5 _, ?_, ?_⟩, ?_⟩
         · rw [List.length_set]; exact hps.len
         · intro y hy
           rcases List.mem_or_eq_of_mem_set hy with h | rfl
           · exact hps.all y h
           · exact hnew
         · rw [if_pos (by omega), zom hx, he]
       · have he := zm7 (clV v) hy hg hne hb
         rw [hvp] at he
         have hml := zbi hy
         rw [List.length_map] at hml
         have hln : (putP name v.p ((x.props.map clT).map tagP)).length = x.props.length + 1 := by
           rw [← he]
           simp only [List.length_map, List.length_append, List.length_cons, List.length_take, List.length_drop]
           omega
         by_cases h16 : 16 ≤ x.props.length
         · exact ⟨g.cl, 102, zps h hv hn hc hi2 hx hq hw hm hy hne hxo h16, Gr.cl_ok h, by rw [if_neg (by omega), Gr.cl_p]⟩
         · refine ⟨g.putE i x ((x.props.map clT).take m ++ (name, clV v) :: (x.props.map clT).drop m), 0, zsk h hv hn hc hi2 hx hq hw hm hy hne hxo (by omega), zjr h hx ⟨OkS.open_ 5 _, ?_, ?_⟩, ?_⟩
           · simp only [List.length_map, List.length_append, List.length_cons, List.length_take, List.length_drop]
             omega
           · intro y hy
             rcases List.mem_append.1 hy with hy | hy
             · exact hps.all y (List.mem_of_mem_take hy)
             · rcases List.mem_cons.1 hy with rfl | hy
               · exact hnew
               · exact hps.all y (List.mem_of_mem_drop hy)
           · rw [if_pos (by omega), zom hx, he]
theorem zxh {g : Gr} (h : g.ok) {name s : List UInt8} {n : Int} {kk : SK} {z : Nat} {ll : List (List AV)} (hc : okG g.p = true) {i : Nat} (hi : idxJ (isE n) g.es 0 = (i : Int)) :
   ∃ (q : Gr) (b : Bool) (e : Int), acall S 24 [.agg g.c, .agg [.i .i64 7, .i .i64 n, .str s, .sl kk z ll], .str name] = some (.tup [.agg q.c, .b b, .i .i64 e], []) ∧ q.ok ∧ (q.p, b, e) = zgu g.p 7 n name := by
 have hpl : zee g.p 7 n = some (.e i) := by
   rw [zd4]
   unfold plOf
   simp only [hi, Int.reduceEq, if_true, if_false, Int.natCast_nonneg, Int.toNat_natCast]
 obtain ⟨x, hx, -, -⟩ := zbh hi
 have hxo : x.ok := h.ea x (List.mem_of_getElem? hx)
 have hi2 := hi
 rw [← zmy] at hi2
 have hat := z4v hx
 have hps := hxo.ps.cl
 unfold zgu
 rw [if_pos hc, hpl]
 simp only
 rw [hat]
 have hdel : delP name ((x.props.map clT).map tagP) = ((x.props.map clT).filter fun y => !eqP name y).map tagP := by
   unfold delP
   rw [List.filter_map]
   rfl
 by_cases h0 : 0 ≤ idxJ (eqP name) (x.props.map clT) 0
 · obtain ⟨m, hm⟩ : ∃ m : Nat, idxJ (eqP name) (x.props.map clT) 0 = (m : Int) := ⟨(idxJ (eqP name) (x.props.map clT) 0).toNat, by omega⟩
   obtain ⟨y, hy, hyq, -⟩ := zbh hm
   refine ⟨g.putE i x ((x.props.map clT).filter fun y => !eqP name y), true, 0, zoi h hc hi2 hx hxo hm, zjr h hx ⟨OkS.open_ 5 _, Nat.le_trans (List.length_filter_le ..) hps.len, fun y hy => hps.all y (List.mem_filter.1 hy).1⟩, ?_⟩
   rw [zom hx, hdel]
   simp only [Prod.mk.injEq, true_and, and_true, List.length_map]
   refine (decide_eq_true ?_).symm
   have := List.length_filter_lt_length_iff_exists (p := fun y => !eqP name y) (l := x.props.map clT)
   rw [List.length_map] at this
   exact this.2 ⟨y, List.mem_of_getElem? hy, by rw [hyq]; decide⟩
 · have hm := zhz h0
   have hb := ze7 hm
   have hf : ((x.props.map clT).filter fun y => !eqP name y) = x.props.map clT := List.filter_eq_self.2 fun y hy => by rw [hb y hy]; rfl
   refine ⟨g.putE i x (x.props.map clT), false, 0, znn h hc hi2 hx hxo hm, zjr h hx hps, ?_⟩
   rw [zom hx, hdel, hf]
   simp only [Prod.mk.injEq, true_and, and_true]
   exact (decide_eq_false (Nat.lt_irrefl _)).symm
theorem setX {g : Gr} (h : g.ok) {ec v : Vl} (hv : v.ok) {name : List UInt8} (hn : name.length ≤ 137438953472) {kd n : Int} {s : List UInt8} {kk : SK} {z : Nat} {l : List Vl} (hec : ec = .mk kd n s kk z l) :
   ∃ (q : Gr) (e : Int), acall S 22 [.agg g.c, .agg ec.c, .str name, .agg v.c] = some (.tup [.agg q.c, .i .i64 e], []) ∧ q.ok ∧ (q.p, e) = setG g.p kd n name v.p := by
 cases hc : okG g.p with
 | false => exact ⟨g.cl, 103, z0p h hc, Gr.cl_ok h, by unfold setG; rw [hc, if_neg (by decide), Gr.cl_p]⟩
 | true =>
   subst hec
   simp only [Vl.c]
   cases hp : zee g.p kd n with
   | none =>
     obtain ⟨h6, h7⟩ := zks ((zd4 g kd n) ▸ hp)
     exact ⟨g.cl, 101, zzb h hc (by rw [zm6]; exact h6) (by rw [zmy]; exact h7), Gr.cl_ok h, by unfold setG; rw [hc, if_pos rfl, hp, Gr.cl_p]⟩
   | some p =>
     rcases zjl ((zd4 g kd n) ▸ hp) with ⟨rfl, i, hi, -⟩ | ⟨rfl, i, hi, -⟩
     · exact z42 h hv hn hc hi
     · exact z3t h hv hn hc hi
theorem z5k {g : Gr} (h : g.ok) {ec : Vl} {name : List UInt8} {kd n : Int} {s : List UInt8} {kk : SK} {z : Nat} {l : List Vl} (hec : ec = .mk kd n s kk z l) :
   ∃ (q : Gr) (b : Bool) (e : Int), acall S 24 [.agg g.c, .agg ec.c, .str name] = some (.tup [.agg q.c, .b b, .i .i64 e], []) ∧ q.ok ∧ (q.p, b, e) = zgu g.p kd n name := by
 cases hc : okG g.p with
 | false => exact ⟨g.cl, false, 103, ztw h hc, Gr.cl_ok h, by unfold zgu; rw [hc, if_neg (by decide), Gr.cl_p]⟩
 | true =>
   subst hec
   simp only [Vl.c]
   cases hp : zee g.p kd n with
   | none =>
     obtain ⟨h6, h7⟩ := zks ((zd4 g kd n) ▸ hp)
     exact ⟨g.cl, false, 101, zti h hc (by rw [zm6]; exact h6) (by rw [zmy]; exact h7), Gr.cl_ok h, by unfold zgu; rw [hc, if_pos rfl, hp, Gr.cl_p]⟩
   | some p =>
     rcases zjl ((zd4 g kd n) ▸ hp) with ⟨rfl, i, hi, -⟩ | ⟨rfl, i, hi, -⟩
     · exact zxk h hc hi
     · exact zxh h hc hi
end
section
theorem fn_1 (x : Lk) {kd n : Int} {s : List UInt8} {kk : SK} {z : Nat} {ll : List (List AV)} : acall S 47 [.agg x.c, .ip [.i .i64 kd, .i .i64 n, .str s, .sl kk z ll]] = some (.b (isE n x), []) := by
 obtain ⟨xid, xl, xo, xi, xpk, xpz, xps⟩ := x
 refine W_eq (g47 rfl ?_)
 simp only [isE]
 (repeat' (first | with_reducible refine zab ?_ | simp only [go_sem, J0, reduceIte, reduceCtorEq, Ja, Jb, Jc, Jd, Je, Jf, Jg, Jh, Ji, Jj, Jk, Jl, Jm, Jn, Jo, Jp, Jq, Jr, Js, a47, Lk.c]))
theorem fn_2 (x : Vx) {kd n : Int} {s : List UInt8} {kk : SK} {z : Nat} {ll : List (List AV)} : acall S 49 [.agg x.c, .ip [.i .i64 kd, .i .i64 n, .str s, .sl kk z ll]] = some (.b (isV n x), []) := by
 obtain ⟨xid, xl, xpk, xpz, xps⟩ := x
 refine W_eq (g49 rfl ?_)
 simp only [isV]
 (repeat' (first | with_reducible refine zab ?_ | simp only [go_sem, J0, reduceIte, reduceCtorEq, Ja, Jb, Jc, Jd, Je, Jf, Jg, Jh, Ji, Jj, Jk, Jl, Jm, Jn, Jo, Jp, Jq, Jr, Js, a49, Vx.c]))
theorem fn_3 (x : Lk) {kd n : Int} {s : List UInt8} {kk : SK} {z : Nat} {ll : List (List AV)} : acall S 50 [.agg x.c, .ip [.i .i64 kd, .i .i64 n, .str s, .sl kk z ll]] = some (.b (decide (x.out = n) || decide (x.inn = n)), []) := by
 obtain ⟨xid, xl, xo, xi, xpk, xpz, xps⟩ := x
 refine W_eq (g50 rfl ?_)
 cases h1 : decide (xo = n) with
 | true => (repeat' (first | with_reducible refine zab ?_ | simp only [go_sem, J0, reduceIte, reduceCtorEq, Ja, Jb, Jc, Jd, Je, Jf, Jg, Jh, Ji, Jj, Jk, Jl, Jm, Jn, Jo, Jp, Jq, Jr, Js, a50, Lk.c, h1, Bool.true_or]))
 | false => (repeat' (first | with_reducible refine zab ?_ | simp only [go_sem, J0, reduceIte, reduceCtorEq, Ja, Jb, Jc, Jd, Je, Jf, Jg, Jh, Ji, Jj, Jk, Jl, Jm, Jn, Jo, Jp, Jq, Jr, Js, a50, Lk.c, h1, Bool.false_or]))
theorem pw_v {g : Gr} (h : g.ok) {s : List UInt8} {n : Int} {kk : SK} {z : Nat} {ll : List (List AV)} {i : Nat} {x : Vx} (hi : idxJ (isV n) g.vs 0 = (i : Int)) (hx : g.vs[i]? = some x) :
   acall S 39 [.agg g.c, .agg [.i .i64 6, .i .i64 n, .str s, .sl kk z ll]] = some (.ip [], []) := by
 have hv1 := h.v.1
 have he1 := h.e.1
 have ev := e41 n (.sl g.ek g.ez (g.es.map Lk.c)) (.i .i64 g.last) h.v h.vl rfl rfl
 have ee := e71 n (.sl g.vk g.vz (g.vs.map Vx.c)) (.i .i64 g.last) h.e h.el rfl rfl
 have hi0 : decide ((0 : Int) ≤ (i : Int)) = true := decide_eq_true (by omega)
 rw [hi, hi0] at ev
 have b1 : (0 : Int) ≤ (i : Int) := by omega
 have hlt := zbi hx
 have b2 : (i : Int) < (g.vs.length : Int) := by omega
 refine W_eq (g39 rfl ?_)
 unfold Gr.c
 obtain ⟨xid, xl,  xpk, xpz, xps⟩ := x
 (repeat' (first | with_reducible refine zab ?_ | simp only [go_sem, J0, reduceIte, reduceCtorEq, Ja, Jb, Jc, Jd, Je, Jf, Jg, Jh, Ji, Jj, Jk, Jl, Jm, Jn, Jo, Jp, Jq, Jr, Js, a39, s41, s71, ev, ee, b1, b2, hlt, hx, hv1, he1, List.length_map, Vx.c, Lk.c]))
theorem pw_e {g : Gr} (h : g.ok) {s : List UInt8} {n : Int} {kk : SK} {z : Nat} {ll : List (List AV)} {i : Nat} {x : Lk} (hi : idxJ (isE n) g.es 0 = (i : Int)) (hx : g.es[i]? = some x) :
   acall S 39 [.agg g.c, .agg [.i .i64 7, .i .i64 n, .str s, .sl kk z ll]] = some (.ip [], []) := by
 have hv1 := h.v.1
 have he1 := h.e.1
 have ev := e41 n (.sl g.ek g.ez (g.es.map Lk.c)) (.i .i64 g.last) h.v h.vl rfl rfl
 have ee := e71 n (.sl g.vk g.vz (g.vs.map Vx.c)) (.i .i64 g.last) h.e h.el rfl rfl
 have hi0 : decide ((0 : Int) ≤ (i : Int)) = true := decide_eq_true (by omega)
 rw [hi, hi0] at ee
 have b1 : (0 : Int) ≤ (i : Int) := by omega
 have hlt := zbi hx
 have b2 : (i : Int) < (g.es.length : Int) := by omega
 refine W_eq (g39 rfl ?_)
 unfold Gr.c
 obtain ⟨xid, xl, xo, xi, xpk, xpz, xps⟩ := x
 (repeat' (first | with_reducible refine zab ?_ | simp only [go_sem, J0, reduceIte, reduceCtorEq, Ja, Jb, Jc, Jd, Je, Jf, Jg, Jh, Ji, Jj, Jk, Jl, Jm, Jn, Jo, Jp, Jq, Jr, Js, a39, s41, s71, ev, ee, b1, b2, hlt, hx, hv1, he1, List.length_map, Vx.c, Lk.c]))
theorem z5a {g : Gr} (h : g.ok) {s : List UInt8} {kd n : Int} {kk : SK} {z : Nat} {ll : List (List AV)} (h6 : kd = 6 → ¬ 0 ≤ idxJ (isV n) g.vs 0) (h7 : kd = 7 → ¬ 0 ≤ idxJ (isE n) g.es 0) :
   acall S 39 [.agg g.c, .agg [.i .i64 kd, .i .i64 n, .str s, .sl kk z ll]] = some (.nilp, []) := by
 have ev := e41 n (.sl g.ek g.ez (g.es.map Lk.c)) (.i .i64 g.last) h.v h.vl rfl rfl
 have ee := e71 n (.sl g.vk g.vz (g.vs.map Vx.c)) (.i .i64 g.last) h.e h.el rfl rfl
 refine W_eq (g39 rfl ?_)
 unfold Gr.c
 by_cases k6 : kd = 6
 · subst k6
   have hi0 : decide ((0 : Int) ≤ idxJ (isV n) g.vs 0) = false := decide_eq_false (h6 rfl)
   rw [hi0] at ev
   (repeat' (first | with_reducible refine zab ?_ | simp only [go_sem, J0, reduceIte, reduceCtorEq, Ja, Jb, Jc, Jd, Je, Jf, Jg, Jh, Ji, Jj, Jk, Jl, Jm, Jn, Jo, Jp, Jq, Jr, Js, a39, s41, s71, ev, ee]))
 · by_cases k7 : kd = 7
   · subst k7
     have hi0 : decide ((0 : Int) ≤ idxJ (isE n) g.es 0) = false := decide_eq_false (h7 rfl)
     rw [hi0] at ee
     (repeat' (first | with_reducible refine zab ?_ | simp only [go_sem, J0, reduceIte, reduceCtorEq, Ja, Jb, Jc, Jd, Je, Jf, Jg, Jh, Ji, Jj, Jk, Jl, Jm, Jn, Jo, Jp, Jq, Jr, Js, a39, s41, s71, ev, ee]))
   · (repeat' (first | with_reducible refine zab ?_ | simp only [go_sem, J0, reduceIte, reduceCtorEq, Ja, Jb, Jc, Jd, Je, Jf, Jg, Jh, Ji, Jj, Jk, Jl, Jm, Jn, Jo, Jp, Jq, Jr, Js, a39, k6, k7, decide_false]))
theorem zzr {g : Gr} (h : g.ok) {kd n : Int} {s : List UInt8} {kk : SK} {z : Nat} {ll : List (List AV)} :
   ∃ (q : Gr) (e : Int), acall S 18 [.agg g.c, .agg [.i .i64 kd, .i .i64 n, .str s, .sl kk z ll]] = some (.tup [.agg q.c, .i .i64 e], []) ∧ q.ok ∧ (okG g.p = true → okG q.p = true ∧ g.last ≤ q.last) := by
 have hcl := e11 g h
 have hck := e7 g.cl (Gr.cl_ok h)
 have hvl := h.vl
 have hel := h.el
 have hL : LIM = 274877906944 := rfl
 rw [Gr.cl_p] at hck
 have hcp := Gr.cl_p g
 have hco := Gr.cl_ok h
 have hcb : okG g.p = true → okG g.cl.p = true ∧ g.last ≤ g.cl.last := fun e => ⟨by rw [hcp]; exact e, Int.le_refl _⟩
 have nv : decide (g.vs = []) = true → g.vs.map Vx.cl = [] := fun e => by rw [of_decide_eq_true e]; rfl
 have ne : decide (g.es = []) = true → g.es.map Lk.cl = [] := fun e => by rw [of_decide_eq_true e]; rfl
 have hvl' : (g.vs.map Vx.cl).length ≤ 137438953472 := by rw [List.length_map]; exact hvl
 have hel' : (g.es.map Lk.cl).length ≤ 137438953472 := by rw [List.length_map]; exact hel
 cases hc : okG g.p with
 | false =>
   rw [hc] at hck
   refine ⟨g.cl, 103, ?_, hco, fun e => by cases e⟩
   simp only [grow, Gr.c, Gr.cl] at hcl hck ⊢
   refine W_eq (g18 rfl ?_)
   (repeat' (first | with_reducible refine zab ?_ | simp only [go_sem, J0, reduceIte, reduceCtorEq, Ja, Jb, Jc, Jd, Je, Jf, Jg, Jh, Ji, Jj, Jk, Jl, Jm, Jn, Jo, Jp, Jq, Jr, Js, a18, s11, hcl, s7, hck, List.length_map, hvl, hel]))
 | true =>
   rw [hc] at hck
   cases hp : zee g.cl.p kd n with
   | none =>
     obtain ⟨h6, h7⟩ := zks ((zd4 g.cl kd n) ▸ hp)
     have hpw := z5a hco (s := s) (kk := kk) (z := z) (ll := ll) h6 h7
     refine ⟨g.cl, 101, ?_, hco, fun _ => hcb hc⟩
     simp only [grow, Gr.c, Gr.cl] at hcl hck hpw ⊢
     refine W_eq (g18 rfl ?_)
     (repeat' (first | with_reducible refine zab ?_ | simp only [go_sem, J0, reduceIte, reduceCtorEq, Ja, Jb, Jc, Jd, Je, Jf, Jg, Jh, Ji, Jj, Jk, Jl, Jm, Jn, Jo, Jp, Jq, Jr, Js, a18, s11, hcl, s7, hck, s39, hpw, List.length_map, hvl, hel]))
   | some p =>
     rcases zjl ((zd4 g.cl kd n) ▸ hp) with ⟨rfl, i, hi, -⟩ | ⟨rfl, i, hi, -⟩
     · obtain ⟨x, hx, -, -⟩ := zbh hi
       have hpw := pw_v hco (s := s) (kk := kk) (z := z) (ll := ll) hi hx
       have fv : decide (g.vs = []) = false := decide_eq_false fun e => by
         simp only [Gr.cl, e, List.map_nil] at hx; simp at hx
       have hd1 := zve (clo := 49) (kd := 6) (n := n) (s := s) (kk := kk) (z := z) (ll := ll) rfl (fun x => fn_2 x) hvl' hi
       obtain ⟨k1, k2, k3, k4, k5, k6⟩ := hco
       have okp := zuz (n := n) (hcb hc).1
       by_cases h0 : 0 ≤ idxJ (fun e : Lk => decide (e.out = n) || decide (e.inn = n)) (g.es.map Lk.cl) 0
       · have fe : decide (g.es = []) = false := decide_eq_false fun e => by
           rw [e] at h0; simp only [List.map_nil, idxJ] at h0; omega
         have hd2 := zo2 (clo := 50) (kd := 6) (n := n) (s := s) (kk := kk) (z := z) (ll := ll) rfl (fun x => fn_3 x) hel' (i := (idxJ (fun e : Lk => decide (e.out = n) || decide (e.inn = n)) (g.es.map Lk.cl) 0).toNat) (by omega)
         refine ⟨⟨.open_, 3, (g.vs.map Vx.cl).filter fun x => !isV n x, .open_, 5, (g.es.map Lk.cl).filter fun e => !(decide (e.out = n) || decide (e.inn = n)), g.last⟩, 0, ?_, ⟨OkS.open_ 3 _, OkS.open_ 5 _, Nat.le_trans (List.length_filter_le ..) hvl', Nat.le_trans (List.length_filter_le ..) hel', fun x hx => k5 x (List.mem_filter.1 hx).1, fun x hx => k6 x (List.mem_filter.1 hx).1⟩, fun _ => ⟨?_, Int.le_refl _⟩⟩
         · simp only [grow, Gr.c, Gr.cl, fv, fe, za3] at hcl hck hpw ⊢
           refine W_eq (g18 rfl ?_)
           (repeat' (first | with_reducible refine zab ?_ | simp only [go_sem, J0, reduceIte, reduceCtorEq, Ja, Jb, Jc, Jd, Je, Jf, Jg, Jh, Ji, Jj, Jk, Jl, Jm, Jn, Jo, Jp, Jq, Jr, Js, a18, s11, hcl, s7, hck, s39, hpw, List.length_map, hvl, hel, za3, s48, hd1, s46, hd2]))
         · simp only [Gr.p, Gr.cl, List.filter_map] at okp ⊢
           exact okp
       · have hm := zhz h0
         have hd2 := zux (clo := 50) (kd := 6) (n := n) (s := s) (kk := kk) (z := z) (ll := ll) rfl (fun x => fn_3 x) ne hel' hm
         have hb := ze7 hm
         have hf : ((g.es.map Lk.cl).filter fun e => !(decide (e.out = n) || decide (e.inn = n))) = g.es.map Lk.cl := List.filter_eq_self.2 fun y hy => by rw [hb y hy]; rfl
         refine ⟨⟨.open_, 3, (g.vs.map Vx.cl).filter fun x => !isV n x, skOf (decide (g.es = [])), 5, g.es.map Lk.cl, g.last⟩, 0, ?_, ⟨OkS.open_ 3 _, k2, Nat.le_trans (List.length_filter_le ..) hvl', hel', fun x hx => k5 x (List.mem_filter.1 hx).1, k6⟩, fun _ => ⟨?_, Int.le_refl _⟩⟩
         · simp only [grow, Gr.c, Gr.cl, fv, za3] at hcl hck hpw ⊢
           refine W_eq (g18 rfl ?_)
           (repeat' (first | with_reducible refine zab ?_ | simp only [go_sem, J0, reduceIte, reduceCtorEq, Ja, Jb, Jc, Jd, Je, Jf, Jg, Jh, Ji, Jj, Jk, Jl, Jm, Jn, Jo, Jp, Jq, Jr, Js, a18, s11, hcl, s7, hck, s39, hpw, List.length_map, hvl, hel, za3, s48, hd1, s46, hd2]))
         · have hf' := congrArg (List.map Lk.p) hf
           simp only [Gr.p, Gr.cl, List.filter_map] at okp hf' ⊢
           rw [← hf']
           exact okp
     · obtain ⟨x, hx, -, -⟩ := zbh hi
       have hpw := pw_e hco (s := s) (kk := kk) (z := z) (ll := ll) hi hx
       have fe : decide (g.es = []) = false := decide_eq_false fun e => by
         simp only [Gr.cl, e, List.map_nil] at hx; simp at hx
       have hd2 := zo2 (clo := 47) (kd := 7) (n := n) (s := s) (kk := kk) (z := z) (ll := ll) rfl (fun x => fn_1 x) hel' hi
       obtain ⟨k1, k2, k3, k4, k5, k6⟩ := hco
       refine ⟨⟨skOf (decide (g.vs = [])), 3, g.vs.map Vx.cl, .open_, 5, (g.es.map Lk.cl).filter fun x => !isE n x, g.last⟩, 0, ?_, ⟨k1, OkS.open_ 5 _, hvl', Nat.le_trans (List.length_filter_le ..) hel', k5, fun x hx => k6 x (List.mem_filter.1 hx).1⟩, fun _ => ⟨?_, Int.le_refl _⟩⟩
       · simp only [grow, Gr.c, Gr.cl, fe, za3] at hcl hck hpw ⊢
         refine W_eq (g18 rfl ?_)
         (repeat' (first | with_reducible refine zab ?_ | simp only [go_sem, J0, reduceIte, reduceCtorEq, Ja, Jb, Jc, Jd, Je, Jf, Jg, Jh, Ji, Jj, Jk, Jl, Jm, Jn, Jo, Jp, Jq, Jr, Js, a18, s11, hcl, s7, hck, s39, hpw, List.length_map, hvl, hel, za3, s46, hd2]))
       · have okp := zuh (p := fun x => !decide (x.id = n)) (hcb hc).1
         simp only [Gr.p, Gr.cl, List.filter_map] at okp ⊢
         exact okp
end
section
theorem zcn {α : Type} {l : List α} (h : skOf l.isEmpty = SK.nil) : l = [] := by cases l with | nil => rfl | cons a r => cases h
theorem e66' : ∀ (m : Nat) (v : Vl), v.size ≤ m → v.ok → ∃ u : Vl, acall S 66 [.agg v.c] = some (.agg u.c, []) ∧ u.p = v.p ∧ u.ok
 | 0, .mk kd n s k z l, hm, _ => by simp [Vl.size] at hm
 | m + 1, .mk kd n s k z l, hm, hv => by
   obtain ⟨hs, hl, hok, hall⟩ := hv
   have hL : LIM = 274877906944 := rfl
   simp only [Vl.size] at hm
   suffices hW : W (acall S 66 [.agg (Vl.mk kd n s k z l).c]) (fun x => ∃ u : Vl, x = (.agg u.c, []) ∧ u.p = (Vl.mk kd n s k z l).p ∧ u.ok) by
     obtain ⟨x, h1, u, rfl, h2⟩ := hW
     exact ⟨u, h1, h2⟩
   refine g66 rfl ?_
   (repeat' (first | with_reducible refine zab ?_ | simp only [go_sem, J0, reduceIte, reduceCtorEq, Ja, Jb, Jc, Jd, Je, Jf, Jg, Jh, Ji, Jj, Jk, Jl, Jm, Jn, Jo, Jp, Jq, Jr, Js, a66, Vl.c, Vl.cs_map]))
   refine zag (ι := List Vl) (fun es => [.bx [.i .i64 kd, .i .i64 n, .str s, .sl k z (l.map Vl.c)], .bx [.i .i64 0, .i .i64 0, .str [], .sl .nil 0 []], .ow 30 4 es.isEmpty (es.map Vl.c), .i .i64 es.length])
     (fun es => es.length ≤ l.length ∧ es.map Vl.p = (l.take es.length).map Vl.p ∧ ∀ x ∈ es, x.ok) (fun es => l.length - es.length) [] rfl ⟨by simp, rfl, by simp⟩ ?_
   rintro es ⟨k1, k2, k3⟩
   by_cases hlt : es.length < l.length
   · obtain ⟨c, gc⟩ := zbe hlt
     have hw := wrap_succ (k := es.length) (by omega)
     have hbt : decide ((es.length : Int) < (l.length : Int)) = true := decide_eq_true (by omega)
     have glim : es.length + 1 ≤ LIM := by omega
     have b1 : (0 : Int) ≤ (es.length : Int) := by omega
     have hcs := Vl.size_get gc
     obtain ⟨d, ed, hdp, hdo⟩ := e66' m c (by omega) (Vl.oks_get hall gc)
     have hnext : (es ++ [d]).map Vl.p = (l.take (es.length + 1)).map Vl.p := by
       rw [zdu gc, List.map_append, List.map_append, k2]; simp [hdp]
     obtain ⟨ck, cn, cs, ckk, cz, cl⟩ := c
     obtain ⟨dk, dn, ds, dkk, dz, dl⟩ := d
     simp only [Vl.c, Vl.cs_map] at ed
     (repeat' (first | with_reducible refine zab ?_ | simp only [go_sem, J0, reduceIte, reduceCtorEq, Ja, Jb, Jc, Jd, Je, Jf, Jg, Jh, Ji, Jj, Jk, Jl, Jm, Jn, Jo, Jp, Jq, Jr, Js, hbt, hok.1, b1, gc, Vl.c, Vl.cs_map, s66, ed, hw, glim]))
     refine ⟨es ++ [.mk dk dn ds dkk dz dl], ?_, ⟨by simp; omega, by simpa using hnext, ?_⟩, by simp; omega⟩
     · simp [Vl.c, Vl.cs_map]
     · intro x hx
       rcases List.mem_append.1 hx with h | h
       · exact k3 x h
       · simp only [List.mem_singleton] at h; rw [h]; exact hdo
   have hbf : decide ((es.length : Int) < (l.length : Int)) = false := decide_eq_false (by omega)
   have hpp : es.map Vl.p = l.map Vl.p := by rw [k2, List.take_of_length_le (by omega)]
   (repeat' (first | with_reducible refine zab ?_ | simp only [go_sem, J0, reduceIte, reduceCtorEq, Ja, Jb, Jc, Jd, Je, Jf, Jg, Jh, Ji, Jj, Jk, Jl, Jm, Jn, Jo, Jp, Jq, Jr, Js, hbf]))
   refine ⟨.mk kd n s (skOf es.isEmpty) 4 es, ?_, ?_, ⟨hs, by omega, ⟨.inl rfl, zcn⟩, (Vl.oks_iff es).2 k3⟩⟩
   · simp [Vl.c, Vl.cs_map]
   · simp only [Vl.p, Vl.ps_map, hpp]
theorem e66 (v : Vl) (h : v.ok) : ∃ u : Vl, acall S 66 [.agg v.c] = some (.agg u.c, []) ∧ u.p = v.p ∧ u.ok := e66' v.size v (Nat.le_refl _) h
end
section
theorem zk5 {k : SK} {z : Nat} {l : List Pp} (h : PsOk k z l) : ∃ m : List Pp, acall S 29 [.sl k z (l.map tagC)] = some (.sl (skOf m.isEmpty) 5 (m.map tagC), []) ∧ m.map tagP = l.map tagP ∧ PsOk (skOf m.isEmpty) 5 m := by
 have hlen := h.len
 have hL : LIM = 274877906944 := rfl
 suffices hW : W (acall S 29 [.sl k z (l.map tagC)]) (fun x => ∃ m : List Pp, x = (.sl (skOf m.isEmpty) 5 (m.map tagC), []) ∧ m.map tagP = l.map tagP ∧ PsOk (skOf m.isEmpty) 5 m) by
   obtain ⟨x, h1, m, rfl, h2⟩ := hW
   exact ⟨m, h1, h2⟩
 refine g29 rfl ?_
 (repeat' (first | with_reducible refine zab ?_ | simp only [go_sem, J0, reduceIte, reduceCtorEq, Ja, Jb, Jc, Jd, Je, Jf, Jg, Jh, Ji, Jj, Jk, Jl, Jm, Jn, Jo, Jp, Jq, Jr, Js, a29]))
 refine zag (ι := List Pp) (fun es => [.sl k z (l.map tagC), .ow 45 5 es.isEmpty (es.map tagC), .i .i64 es.length])
   (fun es => es.length ≤ l.length ∧ es.map tagP = (l.take es.length).map tagP ∧ ∀ x ∈ es, zgq x) (fun es => l.length - es.length) [] rfl ⟨by simp, rfl, by simp⟩ ?_
 rintro es ⟨k1, k2, k3⟩
 by_cases hlt : es.length < l.length
 · obtain ⟨c, gc⟩ := zbe hlt
   have hw := wrap_succ (k := es.length) (by omega)
   have hbt : decide ((es.length : Int) < (l.length : Int)) = true := decide_eq_true (by omega)
   have glim : es.length + 1 ≤ LIM := by omega
   have b1 : (0 : Int) ≤ (es.length : Int) := by omega
   have hc := h.get gc
   obtain ⟨d, ed, hdp, hdo⟩ := e66 c.2 hc.2
   have hnext : (es ++ [(c.1, d)]).map tagP = (l.take (es.length + 1)).map tagP := by
     rw [zdu gc, List.map_append, List.map_append, k2]; simp [tagP, hdp]
   obtain ⟨cn, cv⟩ := c
   obtain ⟨ck, cm, cs, ckk, cz, cl⟩ := cv
   obtain ⟨dk, dm, ds, dkk, dz, dl⟩ := d
   simp only [Vl.c, Vl.cs_map] at ed
   (repeat' (first | with_reducible refine zab ?_ | simp only [go_sem, J0, reduceIte, reduceCtorEq, Ja, Jb, Jc, Jd, Je, Jf, Jg, Jh, Ji, Jj, Jk, Jl, Jm, Jn, Jo, Jp, Jq, Jr, Js, hbt, h.s.1, b1, gc, tagC, Vl.c, Vl.cs_map, s66, ed, hw, glim, List.length_map]))
   refine ⟨es ++ [(cn, .mk dk dm ds dkk dz dl)], ?_, ⟨by simp; omega, by simpa using hnext, ?_⟩, by simp; omega⟩
   · simp [tagC, Vl.c, Vl.cs_map]
   · intro x hx
     rcases List.mem_append.1 hx with h | h
     · exact k3 x h
     · simp only [List.mem_singleton] at h; rw [h]; exact ⟨hc.1, hdo⟩
 have hbf : decide ((es.length : Int) < (l.length : Int)) = false := decide_eq_false (by omega)
 have hpp : es.map tagP = l.map tagP := by rw [k2, List.take_of_length_le (by omega)]
 (repeat' (first | with_reducible refine zab ?_ | simp only [go_sem, J0, reduceIte, reduceCtorEq, Ja, Jb, Jc, Jd, Je, Jf, Jg, Jh, Ji, Jj, Jk, Jl, Jm, Jn, Jo, Jp, Jq, Jr, Js, hbf, List.length_map]))
 exact ⟨es, rfl, hpp, ⟨.inl rfl, zcn⟩, by omega, k3⟩
theorem zva {g : Gr} (h : g.ok) : ∃ (vs : List Vx) (es : List Lk), acall S 8 [.agg g.c] = some (grow vs.isEmpty es.isEmpty vs es g.last, []) ∧ vs.map Vx.p = g.vs.map Vx.p ∧ es.map Lk.p = g.es.map Lk.p ∧ (∀ x ∈ vs, x.ok) ∧ ∀ x ∈ es, x.ok := by
 have hL : LIM = 274877906944 := rfl
 suffices hW : W (acall S 8 [.agg g.c]) (fun x => ∃ (vs : List Vx) (es : List Lk), x = (grow vs.isEmpty es.isEmpty vs es g.last, []) ∧ vs.map Vx.p = g.vs.map Vx.p ∧ es.map Lk.p = g.es.map Lk.p ∧ (∀ x ∈ vs, x.ok) ∧ ∀ x ∈ es, x.ok) by
   obtain ⟨x, h1, vs, es, rfl, h2⟩ := hW
   exact ⟨vs, es, h1, h2⟩
 have hv1 := h.v.1
 have he1 := h.e.1
 have hvl := h.vl
 have hel := h.el
 have hva := h.va
 have hea := h.ea
 obtain ⟨vk, vz, vs, ek, ez, es, last⟩ := g
 simp only at hv1 he1 hvl hel hva hea ⊢
 refine g8 rfl ?_
 (repeat' (first | with_reducible refine zab ?_ | simp only [go_sem, J0, reduceIte, reduceCtorEq, Ja, Jb, Jc, Jd, Je, Jf, Jg, Jh, Ji, Jj, Jk, Jl, Jm, Jn, Jo, Jp, Jq, Jr, Js, a8, Gr.c]))
 refine zag (ι := List Vx) (fun us => [.bx [.sl vk vz (vs.map Vx.c), .sl ek ez (es.map Lk.c), .i .i64 last], .bx [.sl .nil 0 [], .sl .nil 0 [], .i .i64 0], .bx [.ow 43 3 us.isEmpty (us.map Vx.c), .sl .nil 0 [], .i .i64 last], .i .i64 us.length])
   (fun us => us.length ≤ vs.length ∧ us.map Vx.p = (vs.take us.length).map Vx.p ∧ ∀ x ∈ us, x.ok) (fun us => vs.length - us.length) [] rfl ⟨by simp, rfl, by simp⟩ ?_
 rintro us ⟨k1, k2, k3⟩
 by_cases hlt : us.length < vs.length
 · obtain ⟨c, gc⟩ := zbe hlt
   have hw := wrap_succ (k := us.length) (by omega)
   have hbt : decide ((us.length : Int) < (vs.length : Int)) = true := decide_eq_true (by omega)
   have glim : us.length + 1 ≤ LIM := by omega
   have b1 : (0 : Int) ≤ (us.length : Int) := by omega
   have hc := hva c (List.mem_of_getElem? gc)
   obtain ⟨m, em, hmp, hmo⟩ := zk5 hc.ps
   have hnext : (us ++ [(⟨c.id, c.label, skOf m.isEmpty, 5, m⟩ : Vx)]).map Vx.p = (vs.take (us.length + 1)).map Vx.p := by
     rw [zdu gc, List.map_append, List.map_append, k2]; simp [Vx.p, hmp]
   obtain ⟨cid, cl, cpk, cpz, cps⟩ := c
   simp only at em
   (repeat' (first | with_reducible refine zab ?_ | simp only [go_sem, J0, reduceIte, reduceCtorEq, Ja, Jb, Jc, Jd, Je, Jf, Jg, Jh, Ji, Jj, Jk, Jl, Jm, Jn, Jo, Jp, Jq, Jr, Js, hbt, hv1, b1, gc, Vx.c, s29, em, hw, glim, List.length_map]))
   refine ⟨us ++ [⟨cid, cl, skOf m.isEmpty, 5, m⟩], ?_, ⟨by simp; omega, by simpa using hnext, ?_⟩, by simp; omega⟩
   · simp [Vx.c]
   · intro x hx
     rcases List.mem_append.1 hx with h | h
     · exact k3 x h
     · simp only [List.mem_singleton] at h; rw [h]; exact ⟨hc.lab, hmo⟩
 have hbf : decide ((us.length : Int) < (vs.length : Int)) = false := decide_eq_false (by omega)
 have hpp : us.map Vx.p = vs.map Vx.p := by rw [k2, List.take_of_length_le (by omega)]
 (repeat' (first | with_reducible refine zab ?_ | simp only [go_sem, J0, reduceIte, reduceCtorEq, Ja, Jb, Jc, Jd, Je, Jf, Jg, Jh, Ji, Jj, Jk, Jl, Jm, Jn, Jo, Jp, Jq, Jr, Js, hbf, List.length_map]))
 refine zag (ι := List Lk) (fun ws => [.bx [.sl vk vz (vs.map Vx.c), .sl ek ez (es.map Lk.c), .i .i64 last], .bx [.sl .nil 0 [], .sl .nil 0 [], .i .i64 0], .bx [.ow 43 3 us.isEmpty (us.map Vx.c), .ow 47 5 ws.isEmpty (ws.map Lk.c), .i .i64 last], .i .i64 ws.length])
   (fun ws => ws.length ≤ es.length ∧ ws.map Lk.p = (es.take ws.length).map Lk.p ∧ ∀ x ∈ ws, x.ok) (fun ws => es.length - ws.length) [] rfl ⟨by simp, rfl, by simp⟩ ?_
 rintro ws ⟨j1, j2, j3⟩
 by_cases hlt : ws.length < es.length
 · obtain ⟨c, gc⟩ := zbe hlt
   have hw := wrap_succ (k := ws.length) (by omega)
   have hbt : decide ((ws.length : Int) < (es.length : Int)) = true := decide_eq_true (by omega)
   have glim : ws.length + 1 ≤ LIM := by omega
   have b1 : (0 : Int) ≤ (ws.length : Int) := by omega
   have hc := hea c (List.mem_of_getElem? gc)
   obtain ⟨m, em, hmp, hmo⟩ := zk5 hc.ps
   have hnext : (ws ++ [(⟨c.id, c.label, c.out, c.inn, skOf m.isEmpty, 5, m⟩ : Lk)]).map Lk.p = (es.take (ws.length + 1)).map Lk.p := by
     rw [zdu gc, List.map_append, List.map_append, j2]; simp [Lk.p, hmp]
   obtain ⟨cid, cl, co, ci, cpk, cpz, cps⟩ := c
   simp only at em
   (repeat' (first | with_reducible refine zab ?_ | simp only [go_sem, J0, reduceIte, reduceCtorEq, Ja, Jb, Jc, Jd, Je, Jf, Jg, Jh, Ji, Jj, Jk, Jl, Jm, Jn, Jo, Jp, Jq, Jr, Js, hbt, he1, b1, gc, Lk.c, s29, em, hw, glim, List.length_map]))
   refine ⟨ws ++ [⟨cid, cl, co, ci, skOf m.isEmpty, 5, m⟩], ?_, ⟨by simp; omega, by simpa using hnext, ?_⟩, by simp; omega⟩
   · simp [Lk.c]
   · intro x hx
     rcases List.mem_append.1 hx with h | h
     · exact j3 x h
     · simp only [List.mem_singleton] at h; rw [h]; exact ⟨hc.lab, hmo⟩
 have hbf : decide ((ws.length : Int) < (es.length : Int)) = false := decide_eq_false (by omega)
 have hpe : ws.map Lk.p = es.map Lk.p := by rw [j2, List.take_of_length_le (by omega)]
 (repeat' (first | with_reducible refine zab ?_ | simp only [go_sem, J0, reduceIte, reduceCtorEq, Ja, Jb, Jc, Jd, Je, Jf, Jg, Jh, Ji, Jj, Jk, Jl, Jm, Jn, Jo, Jp, Jq, Jr, Js, hbf, List.length_map]))
 exact ⟨us, ws, rfl, hpp, hpe, k3, j3⟩
end
section
theorem e78 (c : Int) : acall S 78 [.i .u8 c] = some (.b (zg8 c), []) := by
 refine W_eq (g78 rfl ?_)
 unfold zg8
 (simp only [go_sem, J0, reduceIte, reduceCtorEq, Ja, Jb, Jc, Jd, Je, Jf, Jg, Jh, Ji, Jj, Jk, Jl, Jm, Jn, Jo, Jp, Jq, Jr, Js, a78]; repeat' (first | (first | refine zbc (fun hh => ?_) (fun hh => ?_) | refine zbp (fun hh => ?_) (fun hh => ?_) | refine zbs (fun hh => ?_) (fun hh => ?_) | refine zco (fun hh => ?_) (fun hh => ?_) | refine za9 (fun hh => ?_) (fun hh => ?_) | refine zbr (fun hh => ?_) (fun hh => ?_) | refine zbt (fun hh => ?_) (fun hh => ?_) | refine zbb (fun hh => ?_) (fun hh => ?_) | refine za7 (fun hh => ?_) (fun hh => ?_) | refine za1 (fun hh => ?_) (fun hh => ?_)) <;> (try simp only [go_sem, J0, reduceIte, reduceCtorEq, Ja, Jb, Jc, Jd, Je, Jf, Jg, Jh, Ji, Jj, Jk, Jl, Jm, Jn, Jo, Jp, Jq, Jr, Js, a78, hh]) | (first | refine zbd (by omega) ?_ | refine za0 (by omega) ?_ | refine zaq (by omega) ?_ | refine zao (by omega) ?_ | refine zbo (by omega) ?_ | refine zba (by omega) ?_ | refine za8 (by omega) ?_ | refine zaz (by omega) ?_ | refine zbq (by omega) ?_ | refine zab ?_ | refine zan ?_ | refine zap ?_ | refine zak ?_) <;> (try simp only [go_sem, J0, reduceIte, reduceCtorEq, Ja, Jb, Jc, Jd, Je, Jf, Jg, Jh, Ji, Jj, Jk, Jl, Jm, Jn, Jo, Jp, Jq, Jr, Js, a78]) | (show @Eq Nat _ _; omega) | (show @LE.le Nat _ _ _; omega)))
 all_goals (first | (refine leafb ?_; simp only [decide_eq_true_eq, decide_eq_false_iff_not, Bool.or_eq_true, Bool.and_eq_true, Bool.or_eq_false_iff, Bool.and_eq_false_iff, Bool.not_eq_true', Bool.not_eq_false', Bool.not_eq_true, Bool.not_eq_false, Bool.false_eq_true, Bool.true_eq_false, iff_true, true_iff, iff_false, false_iff, not_false_eq_true, not_true_eq_false, decide_not] at *; omega) | (simp_all; done) | (simp_all <;> omega))
theorem e52 (s : List UInt8) (hs : s.length ≤ LIM) : acall S 52 [.str s] = some (.b (zox s), []) := by
 have hL : LIM = 274877906944 := rfl
 refine W_eq (g52 rfl ?_)
 unfold zox
 cases s with
 | nil => (repeat' (first | with_reducible refine zab ?_ | simp only [go_sem, J0, reduceIte, reduceCtorEq, Ja, Jb, Jc, Jd, Je, Jf, Jg, Jh, Ji, Jj, Jk, Jl, Jm, Jn, Jo, Jp, Jq, Jr, Js, a52]))
 | cons c0 r =>
   have el := e78 (c0.toNat : Int)
   cases h1 : decide ((24 : Int) < (((c0 :: r).length : Nat) : Int)) with
   | true =>
     simp only [List.length_cons] at h1
     (repeat' (first | with_reducible refine zab ?_ | simp only [go_sem, J0, reduceIte, reduceCtorEq, Ja, Jb, Jc, Jd, Je, Jf, Jg, Jh, Ji, Jj, Jk, Jl, Jm, Jn, Jo, Jp, Jq, Jr, Js, a52, h1]))
   | false =>
   cases h2 : zg8 (c0.toNat : Int) with
   | false =>
     rw [h2] at el
     simp only [List.length_cons] at h1
     (repeat' (first | with_reducible refine zab ?_ | simp only [go_sem, J0, reduceIte, reduceCtorEq, Ja, Jb, Jc, Jd, Je, Jf, Jg, Jh, Ji, Jj, Jk, Jl, Jm, Jn, Jo, Jp, Jq, Jr, Js, a52, h1, el, s78, h2]))
   | true =>
   rw [h2] at el
   have h1' := h1
   simp only [List.length_cons] at h1'
   have hfin : (!(decide ((c0 :: r : List UInt8) = []) || false || !zg8 (((c0 :: r : List UInt8).headD 0).toNat : Int)) && zi3 (c0 :: r)) = zi3 (c0 :: r) := by simp [h2]
   rw [hfin]
   (repeat' (first | with_reducible refine zab ?_ | simp only [go_sem, J0, reduceIte, reduceCtorEq, Ja, Jb, Jc, Jd, Je, Jf, Jg, Jh, Ji, Jj, Jk, Jl, Jm, Jn, Jo, Jp, Jq, Jr, Js, a52, h1', el, s78]))
   clear hfin h1 h1' el h2
   generalize (c0 :: r : List UInt8) = s at hs ⊢
   refine zag (ι := Nat) (fun i => [.str s, .i .i64 i]) (fun i => i ≤ s.length ∧ zi3 (s.drop i) = zi3 s) (fun i => s.length - i) 0 rfl ⟨by omega, rfl⟩ ?_
   rintro i ⟨hi, hT⟩
   by_cases hlt : i < s.length
   · obtain ⟨c, gc⟩ := zbj hlt
     rw [za4 gc] at hT
     have hT' : (zlb (c.toNat : Int) && zi3 (s.drop (i + 1))) = zi3 s := by simpa [zi3] using hT
     have g1 : decide ((i : Int) < (s.length : Int)) = true := decide_eq_true (by omega)
     have b1 : (0 : Int) ≤ (i : Int) := by omega
     have hw := wrap_succ (k := i) (by omega)
     have ec := e78 (c.toNat : Int)
     cases h3 : zg8 (c.toNat : Int) with
     | true =>
       rw [h3] at ec
       rw [show zlb (c.toNat : Int) = true by simp [zlb, h3], Bool.true_and] at hT'
       (repeat' (first | with_reducible refine zab ?_ | simp only [go_sem, J0, reduceIte, reduceCtorEq, Ja, Jb, Jc, Jd, Je, Jf, Jg, Jh, Ji, Jj, Jk, Jl, Jm, Jn, Jo, Jp, Jq, Jr, Js, g1, b1, gc, ec, s78, hw]))
       exact ⟨i + 1, rfl, ⟨by omega, hT'⟩, by omega⟩
     | false =>
       rw [h3] at ec
       by_cases h4 : (48 : Int) ≤ (c.toNat : Int)
       case neg =>
         have g4 : decide ((c.toNat : Int) < 48) = true := decide_eq_true (by omega)
         rw [show zlb (c.toNat : Int) = false by simp only [zlb, h3, decide_eq_false h4, Bool.false_and, Bool.or_false], Bool.false_and] at hT'
         (repeat' (first | with_reducible refine zab ?_ | simp only [go_sem, J0, reduceIte, reduceCtorEq, Ja, Jb, Jc, Jd, Je, Jf, Jg, Jh, Ji, Jj, Jk, Jl, Jm, Jn, Jo, Jp, Jq, Jr, Js, g1, b1, gc, ec, s78, g4]))
         rw [← hT']
       case pos =>
         have g4 : decide ((c.toNat : Int) < 48) = false := decide_eq_false (by omega)
         by_cases h5 : (c.toNat : Int) ≤ 57
         · have g5 : decide ((57 : Int) < (c.toNat : Int)) = false := decide_eq_false (by omega)
           rw [show zlb (c.toNat : Int) = true by simp only [zlb, h3, decide_eq_true h4, decide_eq_true h5, Bool.true_and, Bool.or_true], Bool.true_and] at hT'
           (repeat' (first | with_reducible refine zab ?_ | simp only [go_sem, J0, reduceIte, reduceCtorEq, Ja, Jb, Jc, Jd, Je, Jf, Jg, Jh, Ji, Jj, Jk, Jl, Jm, Jn, Jo, Jp, Jq, Jr, Js, g1, b1, gc, ec, s78, g4, g5, hw]))
           exact ⟨i + 1, rfl, ⟨by omega, hT'⟩, by omega⟩
         · have g5 : decide ((57 : Int) < (c.toNat : Int)) = true := decide_eq_true (by omega)
           rw [show zlb (c.toNat : Int) = false by simp only [zlb, h3, decide_eq_true h4, decide_eq_false h5, Bool.true_and, Bool.or_false], Bool.false_and] at hT'
           (repeat' (first | with_reducible refine zab ?_ | simp only [go_sem, J0, reduceIte, reduceCtorEq, Ja, Jb, Jc, Jd, Je, Jf, Jg, Jh, Ji, Jj, Jk, Jl, Jm, Jn, Jo, Jp, Jq, Jr, Js, g1, b1, gc, ec, s78, g4, g5]))
           rw [← hT']
   · have g1 : decide ((i : Int) < (s.length : Int)) = false := decide_eq_false (by omega)
     rw [show i = s.length by omega, List.drop_length] at hT
     (repeat' (first | with_reducible refine zab ?_ | simp only [go_sem, J0, reduceIte, reduceCtorEq, Ja, Jb, Jc, Jd, Je, Jf, Jg, Jh, Ji, Jj, Jk, Jl, Jm, Jn, Jo, Jp, Jq, Jr, Js, g1]))
     rw [← hT]; rfl
end
section
theorem z58 {k : SK} {z : Nat} {l : List Pp} (h : PsOk k z l) : ∃ b, acall S 77 [.sl k z (l.map tagC)] = some (.b b, []) := by
 have h1 := h.s.1
 have hlen := h.len
 suffices hW : W (acall S 77 [.sl k z (l.map tagC)]) (fun x => ∃ b, x = (.b b, [])) by
   obtain ⟨x, h1, b, rfl⟩ := hW
   exact ⟨b, h1⟩
 refine g77 rfl ?_
 cases h16 : decide ((16 : Int) < (l.length : Int)) with
 | true =>
   (repeat' (first | with_reducible refine zab ?_ | simp only [go_sem, J0, reduceIte, reduceCtorEq, Ja, Jb, Jc, Jd, Je, Jf, Jg, Jh, Ji, Jj, Jk, Jl, Jm, Jn, Jo, Jp, Jq, Jr, Js, a77, List.length_map, h16]))
   exact ⟨_, rfl⟩
 | false =>
 (repeat' (first | with_reducible refine zab ?_ | simp only [go_sem, J0, reduceIte, reduceCtorEq, Ja, Jb, Jc, Jd, Je, Jf, Jg, Jh, Ji, Jj, Jk, Jl, Jm, Jn, Jo, Jp, Jq, Jr, Js, a77, List.length_map, h16]))
 refine zag (ι := Nat) (fun i => [.sl k z (l.map tagC), .i .i64 i]) (fun i => i ≤ l.length) (fun i => l.length - i) 0 rfl (Nat.zero_le _) ?_
 intro i hi
 by_cases hlt : i < l.length
 · obtain ⟨x, gx⟩ := zbe hlt
   have hx := h.get gx
   have hw := wrap_succ (k := i) (by omega)
   have hbt : decide ((i : Int) < (l.length : Int)) = true := decide_eq_true (by omega)
   have b1 : (0 : Int) ≤ (i : Int) := by omega
   have hLL : x.1.length ≤ LIM := by have := hx.1; simp [LIM]; omega
   have en := e52 x.1 hLL
   have ec := e60 x.2 hx.2
   obtain ⟨xn, xv⟩ := x
   simp only at en ec
   generalize zox xn = cn at en
   generalize (if mayV xv.p 0 = true then (0 : Int) else 20) = cv at ec
   cases cn with
   | false =>
     obtain ⟨xk, xm, xs, xkk, xz, xl⟩ := xv
     (repeat' (first | with_reducible refine zab ?_ | simp only [go_sem, J0, reduceIte, reduceCtorEq, Ja, Jb, Jc, Jd, Je, Jf, Jg, Jh, Ji, Jj, Jk, Jl, Jm, Jn, Jo, Jp, Jq, Jr, Js, hbt, h1, b1, gx, tagC, Vl.c, Vl.cs_map, s52, en, hw, List.length_map]))
     exact ⟨_, rfl⟩
   | true =>
     have hm : ∀ b : Bool, decide (¬ cv = 0) = b → (b = true ∨ b = false) := fun b _ => by cases b <;> simp
     by_cases hi0 : i = 0
     · have g0 : decide ((0 : Int) < (i : Int)) = false := decide_eq_false (by omega)
       obtain ⟨xk, xm, xs, xkk, xz, xl⟩ := xv
       simp only [Vl.c, Vl.cs_map] at ec
       cases hv : decide (¬ cv = 0) with
       | true =>
         (repeat' (first | with_reducible refine zab ?_ | simp only [go_sem, J0, reduceIte, reduceCtorEq, Ja, Jb, Jc, Jd, Je, Jf, Jg, Jh, Ji, Jj, Jk, Jl, Jm, Jn, Jo, Jp, Jq, Jr, Js, hbt, h1, b1, gx, tagC, Vl.c, Vl.cs_map, s52, en, hw, g0, s60, ec, hv, List.length_map]))
         exact ⟨_, rfl⟩
       | false =>
         (repeat' (first | with_reducible refine zab ?_ | simp only [go_sem, J0, reduceIte, reduceCtorEq, Ja, Jb, Jc, Jd, Je, Jf, Jg, Jh, Ji, Jj, Jk, Jl, Jm, Jn, Jo, Jp, Jq, Jr, Js, hbt, h1, b1, gx, tagC, Vl.c, Vl.cs_map, s52, en, hw, g0, s60, ec, hv, List.length_map]))
         exact ⟨i + 1, rfl, by omega, by omega⟩
     · have g0 : decide ((0 : Int) < (i : Int)) = true := decide_eq_true (by omega)
       obtain ⟨j, rfl⟩ : ∃ j, i = j + 1 := ⟨i - 1, by omega⟩
       obtain ⟨y, gy⟩ := zbe (show j < l.length by omega)
       have hws : IntKind.i64.wrap (((j + 1 : Nat) : Int) - 1) = (j : Int) := by rw [wrap_i64 (by omega) (by omega)]; omega
       have b2 : (0 : Int) ≤ (j : Int) := by omega
       obtain ⟨yn, yv⟩ := y
       obtain ⟨yk, ym, ys, ykk, yz, yl⟩ := yv
       obtain ⟨xk, xm, xs, xkk, xz, xl⟩ := xv
       simp only [Vl.c, Vl.cs_map] at ec
       cases hle : (Op.bytesLess xn yn || decide (xn = yn)) with
       | true =>
         (repeat' (first | with_reducible refine zab ?_ | simp only [go_sem, J0, reduceIte, reduceCtorEq, Ja, Jb, Jc, Jd, Je, Jf, Jg, Jh, Ji, Jj, Jk, Jl, Jm, Jn, Jo, Jp, Jq, Jr, Js, hbt, h1, b1, gx, gy, hws, b2, tagC, Vl.c, Vl.cs_map, s52, en, hw, g0, s60, ec, hle, List.length_map]))
         exact ⟨_, rfl⟩
       | false =>
         cases hv : decide (¬ cv = 0) with
         | true =>
           (repeat' (first | with_reducible refine zab ?_ | simp only [go_sem, J0, reduceIte, reduceCtorEq, Ja, Jb, Jc, Jd, Je, Jf, Jg, Jh, Ji, Jj, Jk, Jl, Jm, Jn, Jo, Jp, Jq, Jr, Js, hbt, h1, b1, gx, gy, hws, b2, tagC, Vl.c, Vl.cs_map, s52, en, hw, g0, s60, ec, hle, hv, List.length_map]))
           exact ⟨_, rfl⟩
         | false =>
           (repeat' (first | with_reducible refine zab ?_ | simp only [go_sem, J0, reduceIte, reduceCtorEq, Ja, Jb, Jc, Jd, Je, Jf, Jg, Jh, Ji, Jj, Jk, Jl, Jm, Jn, Jo, Jp, Jq, Jr, Js, hbt, h1, b1, gx, gy, hws, b2, tagC, Vl.c, Vl.cs_map, s52, en, hw, g0, s60, ec, hle, hv, List.length_map]))
           exact ⟨j + 1 + 1, rfl, by omega, by omega⟩
 · have hbf : decide ((i : Int) < (l.length : Int)) = false := decide_eq_false (by omega)
   (repeat' (first | with_reducible refine zab ?_ | simp only [go_sem, J0, reduceIte, reduceCtorEq, Ja, Jb, Jc, Jd, Je, Jf, Jg, Jh, Ji, Jj, Jk, Jl, Jm, Jn, Jo, Jp, Jq, Jr, Js, hbf, List.length_map]))
   exact ⟨_, rfl⟩
theorem r_V {g : Gr} (h : g.ok) (id : Int) : ∃ (x : Vx) (b : Bool), acall S 53 [.agg g.c, .i .i64 id] = some (.tup [.agg x.c, .b b], []) := by
 suffices hW : W (acall S 53 [.agg g.c, .i .i64 id]) (fun r => ∃ (x : Vx) (b : Bool), r = (.tup [.agg x.c, .b b], [])) by
   obtain ⟨r, h1, x, b, rfl⟩ := hW
   exact ⟨x, b, h1⟩
 have hv1 := h.v.1
 have hvl := h.vl
 obtain ⟨vk, vz, vs, ek, ez, es, last⟩ := g
 simp only at hv1 hvl
 unfold Gr.c
 refine g53 rfl ?_
 (repeat' (first | with_reducible refine zab ?_ | simp only [go_sem, J0, reduceIte, reduceCtorEq, Ja, Jb, Jc, Jd, Je, Jf, Jg, Jh, Ji, Jj, Jk, Jl, Jm, Jn, Jo, Jp, Jq, Jr, Js, a53, List.length_map]))
 refine zag (ι := Nat) (fun i => [.i .i64 id, .bx [.sl vk vz (vs.map Vx.c), .sl ek ez (es.map Lk.c), .i .i64 last], .bx [.i .i64 0, .str [], .sl .nil 0 []], .i .i64 i]) (fun i => i ≤ vs.length) (fun i => vs.length - i) 0 rfl (Nat.zero_le _) ?_
 intro i hi
 by_cases hlt : i < vs.length
 · obtain ⟨x, gx⟩ := zbe hlt
   have hw := wrap_succ (k := i) (by omega)
   have hbt : decide ((i : Int) < (vs.length : Int)) = true := decide_eq_true (by omega)
   have b1 : (0 : Int) ≤ (i : Int) := by omega
   obtain ⟨xid, xl, xpk, xpz, xps⟩ := x
   cases hq : decide (xid = id) with
   | true =>
     (repeat' (first | with_reducible refine zab ?_ | simp only [go_sem, J0, reduceIte, reduceCtorEq, Ja, Jb, Jc, Jd, Je, Jf, Jg, Jh, Ji, Jj, Jk, Jl, Jm, Jn, Jo, Jp, Jq, Jr, Js, hbt, hv1, b1, gx, Vx.c, hq, List.length_map]))
     exact ⟨⟨xid, xl, xpk, xpz, xps⟩, true, rfl⟩
   | false =>
     (repeat' (first | with_reducible refine zab ?_ | simp only [go_sem, J0, reduceIte, reduceCtorEq, Ja, Jb, Jc, Jd, Je, Jf, Jg, Jh, Ji, Jj, Jk, Jl, Jm, Jn, Jo, Jp, Jq, Jr, Js, hbt, hv1, b1, gx, Vx.c, hq, hw, List.length_map]))
     exact ⟨i + 1, rfl, by omega, by omega⟩
 · have hbf : decide ((i : Int) < (vs.length : Int)) = false := decide_eq_false (by omega)
   (repeat' (first | with_reducible refine zab ?_ | simp only [go_sem, J0, reduceIte, reduceCtorEq, Ja, Jb, Jc, Jd, Je, Jf, Jg, Jh, Ji, Jj, Jk, Jl, Jm, Jn, Jo, Jp, Jq, Jr, Js, hbf, List.length_map]))
   exact ⟨⟨0, [], .nil, 0, []⟩, false, rfl⟩
end
end Go.Proofs.YtgeaibhgaihobaaGreatDoor
