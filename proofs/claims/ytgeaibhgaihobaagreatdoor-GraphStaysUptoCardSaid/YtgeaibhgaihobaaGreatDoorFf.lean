/-
 Own work. An abstract machine for the loaded programs, and that it is sound: many texts, merged by program.
-/
import Derived.Test.YtgeaibhgaihobaaGreatDoorFd
set_option linter.unusedSimpArgs false
set_option linter.unusedVariables false
section
set_option linter.unusedSimpArgs false
set_option linter.unusedVariables false
namespace Go.Abs
inductive SC where
 | i (k : IntKind) (n : Int)
 | s (l : List UInt8)
 | b (c : Bool)
@[go_sem] def SC.a : SC → AV
 | .i k n => .i k n
 | .s l => .str l
 | .b c => .b c
structure RE where
 pre : List SC
 nl : Bool
 es : List (List AV)
def RE.o (ty sz : Nat) (x : RE) : List AV := x.pre.map SC.a ++ [.ow ty sz x.nl x.es]
def RE.s (sz : Nat) (x : RE) : List AV := x.pre.map SC.a ++ [.sl (skOf x.nl) sz x.es]
def RE.r (k : Nat) (x : RE) : List AV := x.pre.map SC.a ++ [.ms k 0 0 x.es.length]
def RE.b (ty sz : Nat) (x : RE) : Blk := { ver := 0, row := true, nl := x.nl, ty, sz, es := x.es }
def zct : Nat → List RE → List (List AV)
 | _, [] => []
 | K, x :: l => x.r K :: zct (K + 64) l
def layR (ty sz : Nat) : Nat → List RE → Hp → Hp
 | _, [], hp => hp
 | K, x :: l, hp => layR ty sz (K + 64) l ((K, .live (x.b ty sz)) :: hp)
def zd8 : Nat → Nat → List Nat
 | _, 0 => []
 | K, n + 1 => K :: zd8 (K + 64) n
def Under : Hp → Nat → Prop
 | [], _ => True
 | e :: r, K => e.1 < K ∧ Under r K
theorem Under.ver : ∀ {hp : Hp} {K : Nat}, Under hp K → ∀ t, K ≤ t → zad hp t = 0
 | [], K, _, t, _ => rfl
 | (k, e) :: r, K, h, t, ht => by
   have h1 : k < K := h.1
   have := Under.ver h.2 t ht
   cases e <;> simp only [zad] <;> rw [if_neg (by omega)] <;> exact this
theorem Under.mono : ∀ {hp : Hp} {K K' : Nat}, Under hp K → K ≤ K' → Under hp K'
 | [], _, _, _, _ => trivial
 | _ :: r, K, K', h, hk => ⟨Nat.lt_of_lt_of_le h.1 hk, Under.mono h.2 hk⟩
def Laid (hp : Hp) (ty sz K : Nat) (L : List RE) : Prop := ∀ j x, L[j]? = some x → look hp (64 * j + K) = some (x.b ty sz)
def zet (hp : Hp) (ty sz K : Nat) (L : List RE) (i : Nat) : Prop := ∀ j x, j ≠ i → L[j]? = some x → look hp (64 * j + K) = some (x.b ty sz)
theorem zj5 : ∀ (p : List SC) (r : List AV) (k : Nat) (hp : Hp), unpacks (p.map SC.a ++ r) k hp = (p.map SC.a ++ (unpacks r k hp).1, (unpacks r k hp).2)
 | [], r, k, hp => rfl
 | c :: p, r, k, hp => by
   have h : unpack (SC.a c) k hp = (SC.a c, k, hp) := by cases c <;> simp only [SC.a, unpack]
   simp only [List.map_cons, List.cons_append, unpacks, h, zj5 p r k hp]
@[go_sem] theorem zrq {hp : Hp} {K k : Nat} {e : Ent} : Under ((k, e) :: hp) K ↔ k < K ∧ Under hp K := Iff.rfl
@[go_sem] theorem z6m (K : Nat) : Under [] K ↔ True := Iff.rfl
theorem zs2 {ty sz : Nat} : ∀ {L : List RE} {K : Nat} {hp : Hp}, Under hp K → zaw (L.map (RE.o ty sz)) K hp = (zct K L, layR ty sz K L hp)
 | [], K, hp, h => by simp only [List.map_nil, zaw, zct, layR]
 | x :: l, K, hp, h => by
   have e : unpacks (RE.o ty sz x) K hp = (x.r K, K + 1, (K, .live (x.b ty sz)) :: hp) := by
     unfold RE.o
     rw [zj5]
     simp only [unpacks, unpack, h.ver K (Nat.le_refl _)]
     rfl
   have h2 : Under ((K, .live (x.b ty sz)) :: hp) (K + 64) := ⟨by show K < K + 64; omega, h.mono (by omega)⟩
   simp only [List.map_cons, zaw, e, zs2 h2, zct, layR]
theorem zk7 : ∀ (L : List RE) (K : Nat), (zct K L).length = L.length
 | [], _ => rfl
 | x :: l, K => by simp only [zct, List.length_cons, zk7 l]
theorem zoa : ∀ (L : List RE) (K i : Nat), (zct K L)[i]? = (L[i]?).map (RE.r (64 * i + K))
 | [], _, _ => rfl
 | x :: l, K, 0 => by simp [zct]
 | x :: l, K, i + 1 => by
   simp only [zct, List.getElem?_cons_succ, zoa l]
   rw [show 64 * i + (K + 64) = 64 * (i + 1) + K by omega]
theorem zjp : ∀ (L : List RE) (K i : Nat) (x y : RE), L[i]? = some x → x.pre = y.pre → x.es.length = y.es.length → zct K (L.set i y) = zct K L
 | [], _, _, _, _, _, _, _ => rfl
 | z :: l, K, 0, x, y, h, h1, h2 => by
   simp only [List.getElem?_cons_zero, Option.some.injEq] at h
   subst h
   simp only [List.set_cons_zero, zct, RE.r, h1, h2]
 | z :: l, K, i + 1, x, y, h, h1, h2 => by
   simp only [List.getElem?_cons_succ] at h
   simp only [List.set_cons_succ, zct, zjp l (K + 64) i x y h h1 h2]
theorem zcq {ty sz : Nat} : ∀ (L : List RE) (K : Nat) (hp : Hp) (t : Nat), (t < K ∨ K + 64 * L.length ≤ t) → look (layR ty sz K L hp) t = look hp t ∧ zad (layR ty sz K L hp) t = zad hp t
 | [], K, hp, t, h => ⟨rfl, rfl⟩
 | x :: l, K, hp, t, h => by
   simp only [List.length_cons] at h
   obtain ⟨h1, h2⟩ := zcq (ty := ty) (sz := sz) l (K + 64) ((K, .live (x.b ty sz)) :: hp) t (by omega)
   simp only [layR]
   have : ¬ t = K := by omega
   rw [h1, h2]
   simp only [look, zad, if_neg this, and_self]
theorem laid_layR {ty sz : Nat} : ∀ {L : List RE} {K : Nat} {hp : Hp}, Laid (layR ty sz K L hp) ty sz K L
 | [], K, hp => fun j x h => by simp at h
 | y :: l, K, hp => by
   intro j x h
   simp only [layR]
   cases j with
   | zero =>
     simp only [List.getElem?_cons_zero, Option.some.injEq] at h
     subst h
     rw [(zcq l (K + 64) _ (64 * 0 + K) (.inl (by omega))).1]
     simp only [look, Nat.mul_zero, Nat.zero_add, if_true]
   | succ j =>
     simp only [List.getElem?_cons_succ] at h
     have := laid_layR (ty := ty) (sz := sz) (L := l) (K := K + 64) (hp := (K, .live (y.b ty sz)) :: hp) j x h
     rwa [show 64 * j + (K + 64) = 64 * (j + 1) + K by omega] at this
theorem Laid.x {hp : Hp} {ty sz K : Nat} {L : List RE} (h : Laid hp ty sz K L) (i : Nat) : zet hp ty sz K L i := fun j x _ hj => h j x hj
theorem zbi {α : Type} {L : List α} {j : Nat} {x : α} (h : L[j]? = some x) : j < L.length := (List.getElem?_eq_some_iff.1 h).1
theorem zcd {hp : Hp} {k t : Nat} {e : Ent} (h : t ≠ k) : look ((k, e) :: hp) t = look hp t := by cases e <;> simp only [look, if_neg h]
theorem laidX_at {hp : Hp} {ty sz K i : Nat} {L : List RE} {e : Ent} (h0 : zet hp ty sz K L i) : zet ((64 * i + K, e) :: hp) ty sz K L i := fun j x hn hj => by rw [zcd (by omega)]; exact h0 j x hn hj
theorem laid_set {hp : Hp} {ty sz K i : Nat} {L : List RE} {y : RE} (h0 : Laid hp ty sz K L) : Laid ((64 * i + K, .live (y.b ty sz)) :: hp) ty sz K (L.set i y) := by
 intro j x hj
 by_cases e : j = i
 · subst e
   have hl := zbi hj
   rw [List.length_set] at hl
   rw [List.getElem?_set_self hl, Option.some.injEq] at hj
   subst hj
   simp only [look, if_true]
 · rw [List.getElem?_set_ne (Ne.symm e)] at hj
   rw [zcd (by omega)]
   exact h0 j x hj
theorem zln {ty sz : Nat} : ∀ {L : List RE} {K K' : Nat} {hp : Hp}, K + 64 * L.length ≤ K' → (Under (layR ty sz K L hp) K' ↔ Under hp K')
 | [], K, K', hp, h => Iff.rfl
 | x :: l, K, K', hp, h => by
   simp only [List.length_cons] at h
   simp only [layR]
   rw [zln (by omega), zrq]
   exact ⟨fun h => h.2, fun h' => ⟨by omega, h'⟩⟩
theorem zbw : ∀ (ks : List Nat) (hp : Hp) (t : Nat), t ∉ ks → look (drops ks hp) t = look hp t ∧ zad (drops ks hp) t = zad hp t
 | [], hp, t, h => ⟨rfl, rfl⟩
 | k :: ks, hp, t, h => by
   simp only [List.mem_cons, not_or] at h
   obtain ⟨h1, h2⟩ := zbw ks (drop hp k) t h.2
   simp only [drops]
   rw [h1, h2, zbl, zea, if_neg h.1]
   exact ⟨rfl, rfl⟩
theorem zja : ∀ (a b : List Nat) (hp : Hp), drops (a ++ b) hp = drops b (drops a hp)
 | [], b, hp => rfl
 | k :: a, b, hp => by simp only [List.cons_append, drops, zja a b]
theorem zd9 : ∀ {n K t : Nat}, t ∈ zd8 K n → K ≤ t ∧ t < K + 64 * n
 | 0, K, t, h => by simp [zd8] at h
 | n + 1, K, t, h => by
   simp only [zd8, List.mem_cons] at h
   rcases h with rfl | h
   · omega
   · have := zd9 h
     omega
theorem zp2 {hp : Hp} {n : Nat} : ∀ (p : List SC) (r : List AV), zbm (snap hp (n + 1)) (p.map SC.a ++ r) = bnd (zbm (snap hp (n + 1)) r) fun y => some (p.map SC.a ++ y.1, y.2)
 | [], r => by simp only [List.map_nil, List.nil_append]; cases zbm (snap hp (n + 1)) r <;> rfl
 | c :: p, r => by
   have h : snap hp (n + 1) (SC.a c) = some (SC.a c, []) := by cases c <;> rfl
   simp only [List.map_cons, List.cons_append, zbm, h, zai, zp2 p r]
   cases zbm (snap hp (n + 1)) r <;> rfl
theorem zjg {own : Bool} {n : Nat} : ∀ (p : List SC) (r : List AV) (hp : Hp), zax (pack own (n + 1)) [] (p.map SC.a ++ r) hp = bnd (zax (pack own (n + 1)) [] r hp) fun y => some (p.map SC.a ++ y.1, y.2.1, y.2.2)
 | [], r, hp => by simp only [List.map_nil, List.nil_append]; cases zax (pack own (n + 1)) [] r hp <;> rfl
 | c :: p, r, hp => by
   have h : pack own (n + 1) .none (SC.a c) hp = some (SC.a c, [], hp) := by cases c <;> rfl
   simp only [List.map_cons, List.cons_append, zax, List.headD_nil, List.tail_nil, h, zai, zjg p r hp]
   cases zax (pack own (n + 1)) [] r hp <;> rfl
theorem z0q {hp : Hp} {n k ty sz : Nat} {x : RE} (h : look hp k = some (x.b ty sz)) : zbm (snap hp (n + 1)) (x.r k) = some (x.s sz, [k]) := by
 unfold RE.r
 rw [zp2]
 simp only [zbm, snap, znk, h, zai, RE.b, zd3, zbk, Nat.zero_add, Nat.le_refl, and_self, List.drop_zero, List.take_length, List.append_nil]
 rfl
theorem z1b {hp : Hp} {n k ty sz : Nat} {x : RE} (h : look hp k = some (x.b ty sz)) : zax (pack true (n + 1)) [] (x.r k) hp = some (x.o ty sz, [k], drop hp k) := by
 unfold RE.r
 rw [zjg]
 simp only [zax, pack, znk, h, zai, RE.b, zd3, zbk, Nat.zero_add, Nat.le_refl, and_self, List.drop_zero, List.take_length, List.append_nil, if_true]
 rfl
theorem zdv {hp : Hp} {n ty sz : Nat} : ∀ {L : List RE} {K : Nat}, Laid hp ty sz K L → zb3 (snap hp (n + 1)) (zct K L) = some (L.map (RE.s sz), zd8 K L.length)
 | [], K, h => rfl
 | x :: l, K, h => by
   have h0 := z0q (n := n) (by simpa using h 0 x rfl : look hp K = some (x.b ty sz))
   have h1 := zdv (n := n) (L := l) (K := K + 64) (fun j y hj => by have := h (j + 1) y (by simpa using hj); rwa [show 64 * j + (K + 64) = 64 * (j + 1) + K by omega])
   simp only [zct, zb3, h0, h1, zai, List.map_cons, List.length_cons, zd8, List.cons_append, List.nil_append]
theorem zrv {n ty sz : Nat} : ∀ {L : List RE} {K : Nat} {hp : Hp}, Laid hp ty sz K L → zaf (pack true (n + 1)) (zct K L) hp = some (L.map (RE.o ty sz), zd8 K L.length, drops (zd8 K L.length) hp)
 | [], K, hp, h => rfl
 | x :: l, K, hp, h => by
   have h0 := z1b (n := n) (by simpa using h 0 x rfl : look hp K = some (x.b ty sz))
   have h1 := zrv (n := n) (L := l) (K := K + 64) (hp := drop hp K) (fun j y hj => by
     have := h (j + 1) y (by simpa using hj)
     rw [zbl, if_neg (by omega)]
     rwa [show 64 * j + (K + 64) = 64 * (j + 1) + K by omega])
   simp only [zct, zaf, h0, h1, zai, List.map_cons, List.length_cons, zd8, List.cons_append, List.nil_append, drops]
theorem zh7 {hp : Hp} {n k ty sz : Nat} {x : RE} (h : look hp k = some (x.b ty sz)) : zax (pack false (n + 1)) [] (x.r k) hp = some (x.s sz, [k], drop hp k) := by
 unfold RE.r
 rw [zjg]
 simp only [zax, pack, znk, h, zai, RE.b, zd3, zbk, Nat.zero_add, Nat.le_refl, and_self, List.drop_zero, List.take_length, List.append_nil, Bool.false_eq_true, false_and, if_false]
 rfl
theorem zcb {n ty sz : Nat} : ∀ {L : List RE} {K : Nat} {hp : Hp}, Laid hp ty sz K L → zaf (pack false (n + 1)) (zct K L) hp = some (L.map (RE.s sz), zd8 K L.length, drops (zd8 K L.length) hp)
 | [], K, hp, h => rfl
 | x :: l, K, hp, h => by
   have h0 := zh7 (n := n) (by simpa using h 0 x rfl : look hp K = some (x.b ty sz))
   have h1 := zcb (n := n) (L := l) (K := K + 64) (hp := drop hp K) (fun j y hj => by
     have := h (j + 1) y (by simpa using hj)
     rw [zbl, if_neg (by omega)]
     rwa [show 64 * j + (K + 64) = 64 * (j + 1) + K by omega])
   simp only [zct, zaf, h0, h1, zai, List.map_cons, List.length_cons, zd8, List.cons_append, List.nil_append, drops]
theorem zrj {n ty sz : Nat} {y : List AV} {ys : List AV} {ks : List Nat} : ∀ {L : List RE} {K i : Nat} {hp : Hp} (H : Hp → Prop), i < L.length → zet hp ty sz K L i → H hp → (∀ hp k, K ≤ k → k < K + 64 * L.length → H hp → H (drop hp k)) → (∀ hp, H hp → zax (pack false (n + 1)) [] y hp = some (ys, ks, drops ks hp)) → (∀ k ∈ ks, k < K ∨ K + 64 * L.length ≤ k) →
   ∃ kk, zaf (pack false (n + 1)) ((zct K L).set i y) hp = some ((L.map (RE.s sz)).set i ys, kk, drops kk hp) ∧ ∀ k ∈ kk, k ∈ ks ∨ K ≤ k ∧ k < K + 64 * L.length
 | [], K, i, hp, H, hi, _, _, _, _, _ => by simp at hi
 | x :: l, K, 0, hp, H, hi, h, hH, hd, hy, hks => by
   have h0 := hy hp hH
   have h1 := zcb (n := n) (ty := ty) (sz := sz) (L := l) (K := K + 64) (hp := drops ks hp) (fun j z hj => by
     have := h (j + 1) z (by omega) (by simpa using hj)
     have hlt := zbi hj
     rw [(zbw ks hp _ (fun hm => by have := hks _ hm; simp only [List.length_cons] at this; omega)).1]
     rwa [show 64 * j + (K + 64) = 64 * (j + 1) + K by omega])
   refine ⟨ks ++ zd8 (K + 64) l.length, ?_, fun k hk => ?_⟩
   · simp only [zct, List.set_cons_zero, zaf, h0, h1, zai, List.map_cons, zja]
   · rcases List.mem_append.1 hk with h | h
     · exact .inl h
     · have := zd9 h
       simp only [List.length_cons]
       exact .inr (by omega)
 | x :: l, K, i + 1, hp, H, hi, h, hH, hd, hy, hks => by
   have h0 := zh7 (n := n) (by simpa using h 0 x (by omega) rfl : look hp K = some (x.b ty sz))
   simp only [List.length_cons] at hi hd hks
   obtain ⟨kk, h1, h2⟩ := zrj (n := n) (ty := ty) (sz := sz) (L := l) (K := K + 64) (i := i) (hp := drop hp K) H (by omega) (fun j z hn hj => by
     have := h (j + 1) z (by omega) (by simpa using hj)
     rw [zbl, if_neg (by omega)]
     rwa [show 64 * j + (K + 64) = 64 * (j + 1) + K by omega]) (hd hp K (by omega) (by omega) hH) (fun hp k h1 h2 h3 => hd hp k (by omega) (by omega) h3) hy (fun k hk => by have := hks k hk; omega)
   refine ⟨K :: kk, ?_, fun k hk => ?_⟩
   · simp only [zct, List.set_cons_succ, zaf, h0, h1, zai, List.map_cons, List.cons_append, List.nil_append, drops]
   · simp only [List.length_cons]
     rcases List.mem_cons.1 hk with rfl | hk
     · exact .inr (by omega)
     · rcases h2 k hk with h | h
       · exact .inl h
       · exact .inr (by omega)
theorem zfs {f : H → AV → Hp → Option (AV × List Nat × Hp)} : ∀ (a b : List (List AV)) (hp : Hp), zaf f (a ++ b) hp = bnd (zaf f a hp) fun x => bnd (zaf f b x.2.2) fun y => some (x.1 ++ y.1, x.2.1 ++ y.2.1, y.2.2)
 | [], b, hp => by simp only [List.nil_append, zaf, zai]; cases zaf f b hp <;> rfl
 | e :: a, b, hp => by
   simp only [List.cons_append, zaf]
   cases zax f [] e hp with
   | none => rfl
   | some x =>
     simp only [zai, zfs a b]
     cases zaf f a x.2.2 with
     | none => rfl
     | some y =>
       simp only [zai]
       cases zaf f b y.2.2 <;> simp only [zai, zmv, List.append_assoc, List.cons_append]
section
variable {hp hp' : Hp} {ty sz ty' sz' K K' k i n : Nat} {L L' : List RE} {e : Ent}
attribute [go_sem] zk7 zoa zs2 zdv zrv
theorem zfh (h : ∀ j, j < L.length → look hp (64 * j + K) = look hp' (64 * j + K)) : Laid hp ty sz K L ↔ Laid hp' ty sz K L :=
 ⟨fun h0 j x hj => by rw [← h j (zbi hj)]; exact h0 j x hj, fun h0 j x hj => by rw [h j (zbi hj)]; exact h0 j x hj⟩
@[go_sem] theorem z5e : Laid (layR ty sz K L hp) ty sz K L ↔ True := ⟨fun _ => trivial, fun _ => laid_layR⟩
@[go_sem] theorem laid_lt (h : k < K) : Laid ((k, e) :: hp) ty sz K L ↔ Laid hp ty sz K L := zfh fun j _ => zcd (by omega)
@[go_sem] theorem z5p (hl : L.length ≤ 137438953472) (hk : K + 8796093022208 ≤ K') : Under (layR ty sz K L hp) K' ↔ Under hp K' := zln (by omega)
@[go_sem] theorem zyc {t : Nat} (h : t < K) : look (layR ty sz K L hp) t = look hp t := (zcq L K hp t (.inl h)).1
@[go_sem] theorem zto {t : Nat} (h : t < K) : zad (layR ty sz K L hp) t = zad hp t := (zcq L K hp t (.inl h)).2
@[go_sem] theorem zym (h : i < L.length) : look (layR ty sz K L hp) (64 * i + K) = (L[i]?).map (RE.b ty sz) := by
 obtain ⟨x, hx⟩ := zbe h
 rw [laid_layR i x hx, hx]
 rfl
@[go_sem] theorem zws (hi : i < 137438953472) (hk : K' + 8796093022208 ≤ K) : look (layR ty sz K L hp) (64 * i + K') = look hp (64 * i + K') := (zcq L K hp _ (.inl (by omega))).1
@[go_sem] theorem laid_far (hl : L.length ≤ 137438953472) (hk : K + 8796093022208 ≤ K') : Laid (layR ty' sz' K' L' hp) ty sz K L ↔ Laid hp ty sz K L := zfh fun j hj => (zcq L' K' hp _ (by omega)).1
@[go_sem] theorem zzl (hi : i < 137438953472) (hk : K' + 8796093022208 ≤ K) : Laid ((64 * i + K', e) :: hp) ty sz K L ↔ Laid hp ty sz K L := zfh fun j _ => zcd (by omega)
@[go_sem] theorem zxv (hl : L.length ≤ 137438953472) (hk : K + 8796093022208 ≤ K') : Laid ((64 * i + K', e) :: hp) ty sz K L ↔ Laid hp ty sz K L := zfh fun j hj => zcd (by omega)
@[go_sem] theorem z0s (hn : n ≤ 137438953472) (hk : K' + 8796093022208 ≤ K) : Laid (drops (zd8 K' n) hp) ty sz K L ↔ Laid hp ty sz K L := zfh fun j hj => (zbw _ _ _ (fun hm => by have := zd9 hm; omega)).1
@[go_sem] theorem zvu {t : Nat} (h : t < K) : look (drops (zd8 K n) hp) t = look hp t := (zbw _ _ _ (fun hm => by have := zd9 hm; omega)).1
@[go_sem] theorem zr1 {t : Nat} (h : t < K) : zad (drops (zd8 K n) hp) t = zad hp t := (zbw _ _ _ (fun hm => by have := zd9 hm; omega)).2
theorem ziu {x : List AV} (h : Laid hp ty sz K L) : zaf (pack true (n + 1)) (zct K L ++ [x]) hp = bnd (zax (pack true (n + 1)) [] x (drops (zd8 K L.length) hp)) fun y => some (L.map (RE.o ty sz) ++ [y.1], zd8 K L.length ++ y.2.1, y.2.2) := by
 rw [zfs, zrv h, zai]
 simp only [zaf]
 cases zax (pack true (n + 1)) [] x (drops (zd8 K L.length) hp) <;> simp only [zai, zmv, List.append_nil]
attribute [go_sem] ziu zcb
end
section
variable {hp hp' : Hp} {ty sz ty' sz' K K' k i n : Nat} {L L' : List RE} {e : Ent}
theorem zhp (h : ∀ j, j ≠ i → j < L.length → look hp (64 * j + K) = look hp' (64 * j + K)) : zet hp ty sz K L i ↔ zet hp' ty sz K L i :=
 ⟨fun h0 j x hn hj => by rw [← h j hn (zbi hj)]; exact h0 j x hn hj, fun h0 j x hn hj => by rw [h j hn (zbi hj)]; exact h0 j x hn hj⟩
@[go_sem] theorem z2o : zet (layR ty sz K L hp) ty sz K L i ↔ True := ⟨fun _ => trivial, fun _ => laid_layR.x i⟩
@[go_sem] theorem laidX_lt (h : k < K) : zet ((k, e) :: hp) ty sz K L i ↔ zet hp ty sz K L i := zhp fun j _ _ => zcd (by omega)
@[go_sem] theorem z2z : zet ((64 * i + K, e) :: hp) ty sz K L i ↔ zet hp ty sz K L i := zhp fun j hn _ => zcd (by omega)
@[go_sem] theorem z4w (hl : L.length ≤ 137438953472) (hk : K + 8796093022208 ≤ K') : zet (layR ty' sz' K' L' hp) ty sz K L i ↔ zet hp ty sz K L i := zhp fun j _ hj => (zcq L' K' hp _ (by omega)).1
@[go_sem] theorem zys {p : List SC} {nl : Bool} {es : List (List AV)} : Laid ((64 * i + K, .live { ver := 0, row := true, nl := nl, ty := ty, sz := sz, es := es }) :: hp) ty sz K (L.set i ⟨p, nl, es⟩) ↔ zet hp ty sz K L i := by
 constructor
 · intro h j x hn hj
   have := h j x (by rw [List.getElem?_set_ne (Ne.symm hn)]; exact hj)
   rwa [zcd (by omega)] at this
 · intro h j x hj
   by_cases e : j = i
   · subst e
     have hl := zbi hj
     rw [List.length_set] at hl
     rw [List.getElem?_set_self hl, Option.some.injEq] at hj
     subst hj
     simp only [look, if_true, RE.b]
   · rw [List.getElem?_set_ne (Ne.symm e)] at hj
     rw [zcd (by omega)]
     exact h j x e hj
end
def zgp : Nat → Nat → Nat → Nat → List Nat
 | _, 0, _, _ => []
 | K, n + 1, 0, k => k :: zd8 (K + 64) n
 | K, n + 1, i + 1, k => K :: zgp (K + 64) n i k
theorem zh0 : ∀ {n K i k t : Nat}, t ∈ zgp K n i k → t = k ∨ K ≤ t ∧ t < K + 64 * n
 | 0, K, i, k, t, h => by simp [zgp] at h
 | n + 1, K, 0, k, t, h => by
   simp only [zgp, List.mem_cons] at h
   rcases h with h | h
   · exact .inl h
   · have := zd9 h
     exact .inr (by omega)
 | n + 1, K, i + 1, k, t, h => by
   simp only [zgp, List.mem_cons] at h
   rcases h with h | h
   · exact .inr (by omega)
   · rcases zh0 h with h | h
     · exact .inl h
     · exact .inr (by omega)
section
variable {hp hp' : Hp} {ty sz ty' sz' K K' k i n : Nat} {L L' : List RE} {e : Ent}
theorem zkm {x : RE} : ∀ {L : List RE} {K i : Nat} {hp : Hp}, i < L.length → k < K → zet hp ty sz K L i → look hp k = some (x.b ty sz) →
   zaf (pack false (n + 1)) ((zct K L).set i (x.r k)) hp = some ((L.map (RE.s sz)).set i (x.s sz), zgp K L.length i k, drops (zgp K L.length i k) hp)
 | [], K, i, hp, hi, _, _, _ => by simp at hi
 | z :: l, K, 0, hp, hi, hk, h, hx => by
   have h0 := zh7 (n := n) hx
   have h1 := zcb (n := n) (ty := ty) (sz := sz) (L := l) (K := K + 64) (hp := drop hp k) (fun j y hj => by
     have := h (j + 1) y (by omega) (by simpa using hj)
     rw [zbl, if_neg (by omega)]
     rwa [show 64 * j + (K + 64) = 64 * (j + 1) + K by omega])
   simp only [zct, List.set_cons_zero, zaf, h0, h1, zai, List.map_cons, List.length_cons, zgp, List.cons_append, List.nil_append, drops]
 | z :: l, K, i + 1, hp, hi, hk, h, hx => by
   have h0 := zh7 (n := n) (by simpa using h 0 z (by omega) rfl : look hp K = some (z.b ty sz))
   simp only [List.length_cons] at hi
   have h1 := zkm (x := x) (L := l) (K := K + 64) (i := i) (hp := drop hp K) (by omega) (by omega) (fun j y hn hj => by
     have := h (j + 1) y (by omega) (by simpa using hj)
     rw [zbl, if_neg (by omega)]
     rwa [show 64 * j + (K + 64) = 64 * (j + 1) + K by omega]) (by rw [zbl, if_neg (by omega)]; exact hx)
   simp only [zct, List.set_cons_succ, zaf, h0, h1, zai, List.map_cons, List.length_cons, zgp, List.cons_append, List.nil_append, drops]
@[go_sem] theorem z1a (hn : n ≤ 137438953472) (hk : K' + 8796093022208 ≤ K) (h : k < K) : Laid (drops (zgp K' n i k) hp) ty sz K L ↔ Laid hp ty sz K L := zfh fun j hj => (zbw _ _ _ (fun hm => by have := zh0 hm; omega)).1
@[go_sem] theorem zvq {t : Nat} (h : t < K) (hn : ¬ t = k) : look (drops (zgp K n i k) hp) t = look hp t := (zbw _ _ _ (fun hm => by have := zh0 hm; omega)).1
@[go_sem] theorem zsj {t : Nat} (h : t < K) (hn : ¬ t = k) : zad (drops (zgp K n i k) hp) t = zad hp t := (zbw _ _ _ (fun hm => by have := zh0 hm; omega)).2
@[go_sem] theorem zyx (hn : n ≤ 137438953472) (hk : K' + 8796093022208 ≤ K) : zet (drops (zd8 K' n) hp) ty sz K L i ↔ zet hp ty sz K L i := zhp fun j _ hj => (zbw _ _ _ (fun hm => by have := zd9 hm; omega)).1
end
def zg3 : Nat → Nat → Nat → List Nat
 | _, 0, _ => []
 | K, n + 1, 0 => zd8 (K + 64) n
 | K, n + 1, i + 1 => K :: zg3 (K + 64) n i
theorem zhu : ∀ {n K i t : Nat}, t ∈ zg3 K n i → K ≤ t ∧ t < K + 64 * n
 | 0, K, i, t, h => by simp [zg3] at h
 | n + 1, K, 0, t, h => by
   have := zd9 h
   omega
 | n + 1, K, i + 1, t, h => by
   simp only [zg3, List.mem_cons] at h
   rcases h with h | h
   · omega
   · have := zhu h
     omega
section
variable {hp hp' : Hp} {ty sz ty' sz' K K' k i n : Nat} {L L' : List RE} {e : Ent}
theorem zj4 {p : List SC} {z : Nat} {es : List (List AV)} : ∀ {L : List RE} {K i : Nat} {hp : Hp}, i < L.length → zet hp ty sz K L i →
   zaf (pack false (n + 1)) ((zct K L).set i (p.map SC.a ++ [.sl .open_ z es])) hp = some ((L.map (RE.s sz)).set i (p.map SC.a ++ [.sl .open_ z es]), zg3 K L.length i, drops (zg3 K L.length i) hp)
 | [], K, i, hp, hi, _ => by simp at hi
 | x :: l, K, 0, hp, hi, h => by
   have h0 : zax (pack false (n + 1)) [] (p.map SC.a ++ [.sl .open_ z es]) hp = some (p.map SC.a ++ [.sl .open_ z es], [], hp) := by
     rw [zjg]
     simp only [zax, List.headD_nil, List.tail_nil, zth, zai, List.append_nil]
   have h1 := zcb (n := n) (ty := ty) (sz := sz) (L := l) (K := K + 64) (hp := hp) (fun j y hj => by
     have := h (j + 1) y (by omega) (by simpa using hj)
     rwa [show 64 * j + (K + 64) = 64 * (j + 1) + K by omega])
   simp only [zct, List.set_cons_zero, zaf, h0, h1, zai, List.map_cons, List.length_cons, zg3, List.nil_append]
 | x :: l, K, i + 1, hp, hi, h => by
   have h0 := zh7 (n := n) (by simpa using h 0 x (by omega) rfl : look hp K = some (x.b ty sz))
   simp only [List.length_cons] at hi
   have h1 := zj4 (p := p) (z := z) (es := es) (L := l) (K := K + 64) (i := i) (hp := drop hp K) (by omega) (fun j y hn hj => by
     have := h (j + 1) y (by omega) (by simpa using hj)
     rw [zbl, if_neg (by omega)]
     rwa [show 64 * j + (K + 64) = 64 * (j + 1) + K by omega])
   simp only [zct, List.set_cons_succ, zaf, h0, h1, zai, List.map_cons, List.length_cons, zg3, List.cons_append, List.nil_append, drops]
@[go_sem] theorem zzm (hn : n ≤ 137438953472) (hk : K' + 8796093022208 ≤ K) : Laid (drops (zg3 K' n i) hp) ty sz K L ↔ Laid hp ty sz K L := zfh fun j hj => (zbw _ _ _ (fun hm => by have := zhu hm; omega)).1
@[go_sem] theorem zvn {t : Nat} (h : t < K) : look (drops (zg3 K n i) hp) t = look hp t := (zbw _ _ _ (fun hm => by have := zhu hm; omega)).1
@[go_sem] theorem zrs {t : Nat} (h : t < K) : zad (drops (zg3 K n i) hp) t = zad hp t := (zbw _ _ _ (fun hm => by have := zhu hm; omega)).2
end
@[go_sem] theorem zvo (a : List Nat) : zbx a [] = true := by simp [zbx]
section
variable (cx : Cx)
def lkont : List KF → (AExit → St → Prop) → AExit × St → Prop
 | [], P, r => P r.1 r.2
 | .code c :: ks, P, r => W (andThen (za5 cx c) r) (lkont ks P)
 | .norm c :: ks, P, r => W (zc0 (za5 cx c) r) (lkont ks P)
 | .out id :: ks, P, r => W (outOf id r) (lkont ks P)
def lkexec (c : ACode) (ks : List KF) (P : AExit → St → Prop) (st : St) : Prop := W (za5 cx c st) (lkont cx ks P)
def lkreg (l : List AIns) (ks : List KF) (P : AExit → St → Prop) (st : St) : Prop := W (zf9 cx l st) fun st => lkont cx ks P (.normal, st)
def lkop (x : Option Fx) (d : Option Nat) (l : List AIns) (ks : List KF) (P : AExit → St → Prop) (s : Sl) : Prop := W x fun fx => lkreg cx l ks P ⟨put s d fx.val, fx.hp⟩
def lkcond (v : AV) (a b : ACode) (ks : List KF) (P : AExit → St → Prop) (st : St) : Prop := W (zib (za5 cx a st) (za5 cx b st) v) (lkont cx ks P)
def lkway (c : Bool) (a b : ACode) (ks : List KF) (P : AExit → St → Prop) (st : St) : Prop := match c with | true => lkexec cx a ks P st | false => lkexec cx b ks P st
end
section
variable {cx : Cx} {s : Sl} {hp : Hp} {ks : List KF} {P : AExit → St → Prop}
@[go_sem] theorem z6t (e : AExit) (st : St) : lkont cx [] P (e, st) ↔ P e st := Iff.rfl
theorem ze8 {c : ACode} {st : St} (h : lkexec cx c ks P st) : lkont cx (.code c :: ks) P (.normal, st) := h
@[go_sem] theorem zvr (c : ACode) (st : St) : lkont cx (.code c :: ks) P (.ret, st) ↔ lkont cx ks P (.ret, st) := by simp [lkont, andThen, W]
@[go_sem] theorem z5v (id : Nat) (st : St) : lkont cx (.out id :: ks) P (.normal, st) ↔ lkont cx ks P (.normal, st) := by simp [lkont, outOf, W]
@[go_sem] theorem zxl (id : Nat) (st : St) : lkont cx (.out id :: ks) P (.ret, st) ↔ lkont cx ks P (.ret, st) := by simp [lkont, outOf, W]
@[go_sem] theorem zzd (st : St) : lkexec cx .skip ks P st ↔ lkont cx ks P (.normal, st) := by simp [lkexec, za5, W]
@[go_sem] theorem z2i (st : St) : lkexec cx .ret ks P st ↔ lkont cx ks P (.ret, st) := by simp [lkexec, za5, W]
@[go_sem] theorem z24 (l : List AIns) : lkexec cx (.reg l) ks P ⟨s, hp⟩ ↔ lkreg cx l ks P ⟨s, hp⟩ := by simp only [lkexec, za5, zfg, zcu, lkreg]
@[go_sem] theorem z3a (a b : ACode) (st : St) : lkexec cx (.seq a b) ks P st ↔ lkexec cx a (.code b :: ks) P st := by
 simp only [lkexec, za5, zfg]
 have : (fun a : AExit × St => W (andThen (za5 cx b) a) (lkont cx ks P)) = lkont cx (.code b :: ks) P := by funext a; rfl
 rw [this]
@[go_sem] theorem zy0 (id : Nat) (c : ACode) (st : St) : lkexec cx (.block id c) ks P st ↔ lkexec cx c (.out id :: ks) P st := by
 simp only [lkexec, za5, zfg]
 have : (fun a : AExit × St => W (outOf id a) (lkont cx ks P)) = lkont cx (.out id :: ks) P := by funext a; rfl
 rw [this]
@[go_sem] theorem zzg (c : Opd) (a b : ACode) : lkexec cx (.cond c a b) ks P ⟨s, hp⟩ ↔ lkcond cx (ev s c) a b ks P ⟨s, hp⟩ := by simp only [lkexec, za5, lkcond]
@[go_sem] theorem lkcond_b (c : Bool) (a b : ACode) (st : St) : lkcond cx (.b c) a b ks P st ↔ lkway cx c a b ks P st := by cases c <;> rfl
@[go_sem] theorem z12 (a b : ACode) (st : St) : lkway cx true a b ks P st ↔ lkexec cx a ks P st := Iff.rfl
@[go_sem] theorem zzv (a b : ACode) (st : St) : lkway cx false a b ks P st ↔ lkexec cx b ks P st := Iff.rfl
@[go_sem] theorem z4j (st : St) : lkreg cx [] ks P st ↔ lkont cx ks P (.normal, st) := by simp only [lkreg, zf9, zcu]
@[go_sem] theorem z1e (d : Option Nat) (op : AOp) (l : List AIns) : lkreg cx (⟨d, op, none⟩ :: l) ks P ⟨s, hp⟩ ↔ lkop cx (aop cx op (700000 + d.getD 0) s hp) d l ks P s := by
 simp only [lkreg, zf9, zhb, wanted, zai, zbu, zfg, zcu, lkop]
@[go_sem] theorem z4b (v : AV) (hp' : Hp) (rd wr : List Nat) (d : Option Nat) (l : List AIns) : lkop cx (some ⟨v, hp', rd, wr⟩) d l ks P s ↔ lkreg cx l ks P ⟨put s d v, hp'⟩ := by simp only [lkop, zcu]
def lfin (res : List ARes) (Φ : AV × Hp → Prop) (e : AExit) (st : St) : Prop := W (bnd (zc1 (e, st)) fun st => bnd (zc3 st res) fun vs => some (one vs, st.hp)) Φ
@[go_sem] theorem lfin_ret (res Φ) : lfin res Φ .ret ⟨s, hp⟩ ↔ W (bnd (zc3 ⟨s, hp⟩ res) fun vs => some (one vs, hp)) Φ := by simp only [lfin, zc1, zai]
theorem lkinl {S : Sys} {f : Nat} {fn : AFun} {args : List AV} {Φ : AV × Hp → Prop} (hf : S.fs f = some fn) (hpm : (S.spec f).pm = []) (hl : args.length = fn.nparams)
   (h : lkexec (cx0 S (acall S)) fn.body [] (lfin fn.res Φ) ⟨zfz 0 args [], hp⟩) : W (inlF S (acall S) f args hp) Φ := by
 rw [z6x hf hpm hl, zfg]
 refine zqc h fun x hx => ?_
 exact hx
end
attribute [go_sem] zfz
end Go.Abs
end
