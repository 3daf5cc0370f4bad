import Derived.Test.YtgeaibhgaihobaaDoorFd
set_option linter.unusedSimpArgs false
set_option linter.unusedVariables false
section
set_option linter.unusedSimpArgs false
set_option linter.unusedVariables false
namespace Go.Abs
inductive SC where
  | i (k : IntKind) (n : Int)
  | s (l : List UInt8)
  | b (c : Bool)
@[go_sem] def SC.a : SC → AV
  | .i k n => .i k n
  | .s l => .str l
  | .b c => .b c
structure RE where
  pre : List SC
  nl : Bool
  es : List (List AV)
def RE.o (ty sz : Nat) (x : RE) : List AV := x.pre.map SC.a ++ [.ow ty sz x.nl x.es]
def RE.s (sz : Nat) (x : RE) : List AV := x.pre.map SC.a ++ [.sl (skOf x.nl) sz x.es]
def RE.r (k : Nat) (x : RE) : List AV := x.pre.map SC.a ++ [.ms k 0 0 x.es.length]
def RE.b (ty sz : Nat) (x : RE) : Blk := { ver := 0, row := true, nl := x.nl, ty, sz, es := x.es }
def refsR : Nat → List RE → List (List AV)
  | _, [] => []
  | K, x :: l => x.r K :: refsR (K + 64) l
def layR (ty sz : Nat) : Nat → List RE → Hp → Hp
  | _, [], hp => hp
  | K, x :: l, hp => layR ty sz (K + 64) l ((K, .live (x.b ty sz)) :: hp)
def keysR : Nat → Nat → List Nat
  | _, 0 => []
  | K, n + 1 => K :: keysR (K + 64) n
def Under : Hp → Nat → Prop
  | [], _ => True
  | e :: r, K => e.1 < K ∧ Under r K
theorem Under.ver : ∀ {hp : Hp} {K : Nat}, Under hp K → ∀ t, K ≤ t → nextVer hp t = 0
  | [], K, _, t, _ => rfl
  | (k, e) :: r, K, h, t, ht => by
    have h1 : k < K := h.1
    have := Under.ver h.2 t ht
    cases e <;> simp only [nextVer] <;> rw [if_neg (by omega)] <;> exact this
theorem Under.mono : ∀ {hp : Hp} {K K' : Nat}, Under hp K → K ≤ K' → Under hp K'
  | [], _, _, _, _ => trivial
  | _ :: r, K, K', h, hk => ⟨Nat.lt_of_lt_of_le h.1 hk, Under.mono h.2 hk⟩
def Laid (hp : Hp) (ty sz K : Nat) (L : List RE) : Prop := ∀ j x, L[j]? = some x → look hp (64 * j + K) = some (x.b ty sz)
def LaidX (hp : Hp) (ty sz K : Nat) (L : List RE) (i : Nat) : Prop := ∀ j x, j ≠ i → L[j]? = some x → look hp (64 * j + K) = some (x.b ty sz)
theorem unpacks_pre : ∀ (p : List SC) (r : List AV) (k : Nat) (hp : Hp), unpacks (p.map SC.a ++ r) k hp = (p.map SC.a ++ (unpacks r k hp).1, (unpacks r k hp).2)
  | [], r, k, hp => rfl
  | c :: p, r, k, hp => by
    have h : unpack (SC.a c) k hp = (SC.a c, k, hp) := by cases c <;> simp only [SC.a, unpack]
    simp only [List.map_cons, List.cons_append, unpacks, h, unpacks_pre p r k hp]
@[go_sem] theorem under_cons {hp : Hp} {K k : Nat} {e : Ent} : Under ((k, e) :: hp) K ↔ k < K ∧ Under hp K := Iff.rfl
@[go_sem] theorem under_nil (K : Nat) : Under [] K ↔ True := Iff.rfl
theorem unpackR {ty sz : Nat} : ∀ {L : List RE} {K : Nat} {hp : Hp}, Under hp K → unpackEs (L.map (RE.o ty sz)) K hp = (refsR K L, layR ty sz K L hp)
  | [], K, hp, h => by simp only [List.map_nil, unpackEs, refsR, layR]
  | x :: l, K, hp, h => by
    have e : unpacks (RE.o ty sz x) K hp = (x.r K, K + 1, (K, .live (x.b ty sz)) :: hp) := by
      unfold RE.o
      rw [unpacks_pre]
      simp only [unpacks, unpack, h.ver K (Nat.le_refl _)]
      rfl
    have h2 : Under ((K, .live (x.b ty sz)) :: hp) (K + 64) := ⟨by show K < K + 64; omega, h.mono (by omega)⟩
    simp only [List.map_cons, unpackEs, e, unpackR h2, refsR, layR]
theorem refsR_len : ∀ (L : List RE) (K : Nat), (refsR K L).length = L.length
  | [], _ => rfl
  | x :: l, K => by simp only [refsR, List.length_cons, refsR_len l]
theorem refsR_get : ∀ (L : List RE) (K i : Nat), (refsR K L)[i]? = (L[i]?).map (RE.r (64 * i + K))
  | [], _, _ => rfl
  | x :: l, K, 0 => by simp [refsR]
  | x :: l, K, i + 1 => by
    simp only [refsR, List.getElem?_cons_succ, refsR_get l]
    rw [show 64 * i + (K + 64) = 64 * (i + 1) + K by omega]
theorem refsR_set : ∀ (L : List RE) (K i : Nat) (x y : RE), L[i]? = some x → x.pre = y.pre → x.es.length = y.es.length → refsR K (L.set i y) = refsR K L
  | [], _, _, _, _, _, _, _ => rfl
  | z :: l, K, 0, x, y, h, h1, h2 => by
    simp only [List.getElem?_cons_zero, Option.some.injEq] at h
    subst h
    simp only [List.set_cons_zero, refsR, RE.r, h1, h2]
  | z :: l, K, i + 1, x, y, h, h1, h2 => by
    simp only [List.getElem?_cons_succ] at h
    simp only [List.set_cons_succ, refsR, refsR_set l (K + 64) i x y h h1 h2]
theorem look_layR_out {ty sz : Nat} : ∀ (L : List RE) (K : Nat) (hp : Hp) (t : Nat), (t < K ∨ K + 64 * L.length ≤ t) → look (layR ty sz K L hp) t = look hp t ∧ nextVer (layR ty sz K L hp) t = nextVer hp t
  | [], K, hp, t, h => ⟨rfl, rfl⟩
  | x :: l, K, hp, t, h => by
    simp only [List.length_cons] at h
    obtain ⟨h1, h2⟩ := look_layR_out (ty := ty) (sz := sz) l (K + 64) ((K, .live (x.b ty sz)) :: hp) t (by omega)
    simp only [layR]
    have : ¬ t = K := by omega
    rw [h1, h2]
    simp only [look, nextVer, if_neg this, and_self]
theorem laid_layR {ty sz : Nat} : ∀ {L : List RE} {K : Nat} {hp : Hp}, Laid (layR ty sz K L hp) ty sz K L
  | [], K, hp => fun j x h => by simp at h
  | y :: l, K, hp => by
    intro j x h
    simp only [layR]
    cases j with
    | zero =>
      simp only [List.getElem?_cons_zero, Option.some.injEq] at h
      subst h
      rw [(look_layR_out l (K + 64) _ (64 * 0 + K) (.inl (by omega))).1]
      simp only [look, Nat.mul_zero, Nat.zero_add, if_true]
    | succ j =>
      simp only [List.getElem?_cons_succ] at h
      have := laid_layR (ty := ty) (sz := sz) (L := l) (K := K + 64) (hp := (K, .live (y.b ty sz)) :: hp) j x h
      rwa [show 64 * j + (K + 64) = 64 * (j + 1) + K by omega] at this
theorem Laid.x {hp : Hp} {ty sz K : Nat} {L : List RE} (h : Laid hp ty sz K L) (i : Nat) : LaidX hp ty sz K L i := fun j x _ hj => h j x hj
theorem lt_of_get {α : Type} {L : List α} {j : Nat} {x : α} (h : L[j]? = some x) : j < L.length := (List.getElem?_eq_some_iff.1 h).1
theorem look_cons_ne {hp : Hp} {k t : Nat} {e : Ent} (h : t ≠ k) : look ((k, e) :: hp) t = look hp t := by cases e <;> simp only [look, if_neg h]
theorem laidX_at {hp : Hp} {ty sz K i : Nat} {L : List RE} {e : Ent} (h0 : LaidX hp ty sz K L i) : LaidX ((64 * i + K, e) :: hp) ty sz K L i := fun j x hn hj => by rw [look_cons_ne (by omega)]; exact h0 j x hn hj
theorem laid_set {hp : Hp} {ty sz K i : Nat} {L : List RE} {y : RE} (h0 : Laid hp ty sz K L) : Laid ((64 * i + K, .live (y.b ty sz)) :: hp) ty sz K (L.set i y) := by
  intro j x hj
  by_cases e : j = i
  · subst e
    have hl := lt_of_get hj
    rw [List.length_set] at hl
    rw [List.getElem?_set_self hl, Option.some.injEq] at hj
    subst hj
    simp only [look, if_true]
  · rw [List.getElem?_set_ne (Ne.symm e)] at hj
    rw [look_cons_ne (by omega)]
    exact h0 j x hj
theorem laid_layR_out {hp : Hp} {ty sz ty' sz' K K' : Nat} {L L' : List RE} (h : K + 64 * L.length ≤ K' ∨ K' + 64 * L'.length ≤ K) (h0 : Laid hp ty sz K L) : Laid (layR ty' sz' K' L' hp) ty sz K L := fun j x hj => by
  have := lt_of_get hj
  rw [(look_layR_out L' K' hp _ (by omega)).1]
  exact h0 j x hj
theorem laidX_layR_out {hp : Hp} {ty sz ty' sz' K K' i : Nat} {L L' : List RE} (h : K + 64 * L.length ≤ K' ∨ K' + 64 * L'.length ≤ K) (h0 : LaidX hp ty sz K L i) : LaidX (layR ty' sz' K' L' hp) ty sz K L i := fun j x hn hj => by
  have := lt_of_get hj
  rw [(look_layR_out L' K' hp _ (by omega)).1]
  exact h0 j x hn hj
theorem under_layR {ty sz : Nat} : ∀ {L : List RE} {K K' : Nat} {hp : Hp}, K + 64 * L.length ≤ K' → (Under (layR ty sz K L hp) K' ↔ Under hp K')
  | [], K, K', hp, h => Iff.rfl
  | x :: l, K, K', hp, h => by
    simp only [List.length_cons] at h
    simp only [layR]
    rw [under_layR (by omega), under_cons]
    exact ⟨fun h => h.2, fun h' => ⟨by omega, h'⟩⟩
theorem look_dropsN : ∀ (ks : List Nat) (hp : Hp) (t : Nat), t ∉ ks → look (drops ks hp) t = look hp t ∧ nextVer (drops ks hp) t = nextVer hp t
  | [], hp, t, h => ⟨rfl, rfl⟩
  | k :: ks, hp, t, h => by
    simp only [List.mem_cons, not_or] at h
    obtain ⟨h1, h2⟩ := look_dropsN ks (drop hp k) t h.2
    simp only [drops]
    rw [h1, h2, look_drop, nextVer_drop, if_neg h.1]
    exact ⟨rfl, rfl⟩
theorem drops_append : ∀ (a b : List Nat) (hp : Hp), drops (a ++ b) hp = drops b (drops a hp)
  | [], b, hp => rfl
  | k :: a, b, hp => by simp only [List.cons_append, drops, drops_append a b]
theorem mem_keysR : ∀ {n K t : Nat}, t ∈ keysR K n → K ≤ t ∧ t < K + 64 * n
  | 0, K, t, h => by simp [keysR] at h
  | n + 1, K, t, h => by
    simp only [keysR, List.mem_cons] at h
    rcases h with rfl | h
    · omega
    · have := mem_keysR h
      omega
theorem laid_drops {hp : Hp} {ty sz K : Nat} {L : List RE} {ks : List Nat} (h : ∀ k ∈ ks, k < K ∨ K + 64 * L.length ≤ k) (h0 : Laid hp ty sz K L) : Laid (drops ks hp) ty sz K L := fun j x hj => by
  have := lt_of_get hj
  rw [(look_dropsN ks hp _ (fun hm => by have := h _ hm; omega)).1]
  exact h0 j x hj
theorem snap_pre {hp : Hp} {n : Nat} : ∀ (p : List SC) (r : List AV), mapSnap (snap hp (n + 1)) (p.map SC.a ++ r) = bnd (mapSnap (snap hp (n + 1)) r) fun y => some (p.map SC.a ++ y.1, y.2)
  | [], r => by simp only [List.map_nil, List.nil_append]; cases mapSnap (snap hp (n + 1)) r <;> rfl
  | c :: p, r => by
    have h : snap hp (n + 1) (SC.a c) = some (SC.a c, []) := by cases c <;> rfl
    simp only [List.map_cons, List.cons_append, mapSnap, h, bnd_some, snap_pre p r]
    cases mapSnap (snap hp (n + 1)) r <;> rfl
theorem pack_pre {own : Bool} {n : Nat} : ∀ (p : List SC) (r : List AV) (hp : Hp), mapPack (pack own (n + 1)) [] (p.map SC.a ++ r) hp = bnd (mapPack (pack own (n + 1)) [] r hp) fun y => some (p.map SC.a ++ y.1, y.2.1, y.2.2)
  | [], r, hp => by simp only [List.map_nil, List.nil_append]; cases mapPack (pack own (n + 1)) [] r hp <;> rfl
  | c :: p, r, hp => by
    have h : pack own (n + 1) .none (SC.a c) hp = some (SC.a c, [], hp) := by cases c <;> rfl
    simp only [List.map_cons, List.cons_append, mapPack, List.headD_nil, List.tail_nil, h, bnd_some, pack_pre p r hp]
    cases mapPack (pack own (n + 1)) [] r hp <;> rfl
theorem snap_re {hp : Hp} {n k ty sz : Nat} {x : RE} (h : look hp k = some (x.b ty sz)) : mapSnap (snap hp (n + 1)) (x.r k) = some (x.s sz, [k]) := by
  unfold RE.r
  rw [snap_pre]
  simp only [mapSnap, snap, blkAt_ev, h, bnd_some, RE.b, ask_true, way_false, Nat.zero_add, Nat.le_refl, and_self, List.drop_zero, List.take_length, List.append_nil]
  rfl
theorem pack_re {hp : Hp} {n k ty sz : Nat} {x : RE} (h : look hp k = some (x.b ty sz)) : mapPack (pack true (n + 1)) [] (x.r k) hp = some (x.o ty sz, [k], drop hp k) := by
  unfold RE.r
  rw [pack_pre]
  simp only [mapPack, pack, blkAt_ev, h, bnd_some, RE.b, ask_true, way_false, Nat.zero_add, Nat.le_refl, and_self, List.drop_zero, List.take_length, List.append_nil, if_true]
  rfl
theorem snapR {hp : Hp} {n ty sz : Nat} : ∀ {L : List RE} {K : Nat}, Laid hp ty sz K L → mapSnapEs (snap hp (n + 1)) (refsR K L) = some (L.map (RE.s sz), keysR K L.length)
  | [], K, h => rfl
  | x :: l, K, h => by
    have h0 := snap_re (n := n) (by simpa using h 0 x rfl : look hp K = some (x.b ty sz))
    have h1 := snapR (n := n) (L := l) (K := K + 64) (fun j y hj => by have := h (j + 1) y (by simpa using hj); rwa [show 64 * j + (K + 64) = 64 * (j + 1) + K by omega])
    simp only [refsR, mapSnapEs, h0, h1, bnd_some, List.map_cons, List.length_cons, keysR, List.cons_append, List.nil_append]
theorem packR {n ty sz : Nat} : ∀ {L : List RE} {K : Nat} {hp : Hp}, Laid hp ty sz K L → mapPackEs (pack true (n + 1)) (refsR K L) hp = some (L.map (RE.o ty sz), keysR K L.length, drops (keysR K L.length) hp)
  | [], K, hp, h => rfl
  | x :: l, K, hp, h => by
    have h0 := pack_re (n := n) (by simpa using h 0 x rfl : look hp K = some (x.b ty sz))
    have h1 := packR (n := n) (L := l) (K := K + 64) (hp := drop hp K) (fun j y hj => by
      have := h (j + 1) y (by simpa using hj)
      rw [look_drop, if_neg (by omega)]
      rwa [show 64 * j + (K + 64) = 64 * (j + 1) + K by omega])
    simp only [refsR, mapPackEs, h0, h1, bnd_some, List.map_cons, List.length_cons, keysR, List.cons_append, List.nil_append, drops]
theorem pack_reF {hp : Hp} {n k ty sz : Nat} {x : RE} (h : look hp k = some (x.b ty sz)) : mapPack (pack false (n + 1)) [] (x.r k) hp = some (x.s sz, [k], drop hp k) := by
  unfold RE.r
  rw [pack_pre]
  simp only [mapPack, pack, blkAt_ev, h, bnd_some, RE.b, ask_true, way_false, Nat.zero_add, Nat.le_refl, and_self, List.drop_zero, List.take_length, List.append_nil, Bool.false_eq_true, false_and, if_false]
  rfl
theorem packRF {n ty sz : Nat} : ∀ {L : List RE} {K : Nat} {hp : Hp}, Laid hp ty sz K L → mapPackEs (pack false (n + 1)) (refsR K L) hp = some (L.map (RE.s sz), keysR K L.length, drops (keysR K L.length) hp)
  | [], K, hp, h => rfl
  | x :: l, K, hp, h => by
    have h0 := pack_reF (n := n) (by simpa using h 0 x rfl : look hp K = some (x.b ty sz))
    have h1 := packRF (n := n) (L := l) (K := K + 64) (hp := drop hp K) (fun j y hj => by
      have := h (j + 1) y (by simpa using hj)
      rw [look_drop, if_neg (by omega)]
      rwa [show 64 * j + (K + 64) = 64 * (j + 1) + K by omega])
    simp only [refsR, mapPackEs, h0, h1, bnd_some, List.map_cons, List.length_cons, keysR, List.cons_append, List.nil_append, drops]
theorem packRF_set {n ty sz : Nat} {y : List AV} {ys : List AV} {ks : List Nat} : ∀ {L : List RE} {K i : Nat} {hp : Hp} (H : Hp → Prop), i < L.length → LaidX hp ty sz K L i → H hp → (∀ hp k, K ≤ k → k < K + 64 * L.length → H hp → H (drop hp k)) → (∀ hp, H hp → mapPack (pack false (n + 1)) [] y hp = some (ys, ks, drops ks hp)) → (∀ k ∈ ks, k < K ∨ K + 64 * L.length ≤ k) →
    ∃ kk, mapPackEs (pack false (n + 1)) ((refsR K L).set i y) hp = some ((L.map (RE.s sz)).set i ys, kk, drops kk hp) ∧ ∀ k ∈ kk, k ∈ ks ∨ K ≤ k ∧ k < K + 64 * L.length
  | [], K, i, hp, H, hi, _, _, _, _, _ => by simp at hi
  | x :: l, K, 0, hp, H, hi, h, hH, hd, hy, hks => by
    have h0 := hy hp hH
    have h1 := packRF (n := n) (ty := ty) (sz := sz) (L := l) (K := K + 64) (hp := drops ks hp) (fun j z hj => by
      have := h (j + 1) z (by omega) (by simpa using hj)
      have hlt := lt_of_get hj
      rw [(look_dropsN ks hp _ (fun hm => by have := hks _ hm; simp only [List.length_cons] at this; omega)).1]
      rwa [show 64 * j + (K + 64) = 64 * (j + 1) + K by omega])
    refine ⟨ks ++ keysR (K + 64) l.length, ?_, fun k hk => ?_⟩
    · simp only [refsR, List.set_cons_zero, mapPackEs, h0, h1, bnd_some, List.map_cons, drops_append]
    · rcases List.mem_append.1 hk with h | h
      · exact .inl h
      · have := mem_keysR h
        simp only [List.length_cons]
        exact .inr (by omega)
  | x :: l, K, i + 1, hp, H, hi, h, hH, hd, hy, hks => by
    have h0 := pack_reF (n := n) (by simpa using h 0 x (by omega) rfl : look hp K = some (x.b ty sz))
    simp only [List.length_cons] at hi hd hks
    obtain ⟨kk, h1, h2⟩ := packRF_set (n := n) (ty := ty) (sz := sz) (L := l) (K := K + 64) (i := i) (hp := drop hp K) H (by omega) (fun j z hn hj => by
      have := h (j + 1) z (by omega) (by simpa using hj)
      rw [look_drop, if_neg (by omega)]
      rwa [show 64 * j + (K + 64) = 64 * (j + 1) + K by omega]) (hd hp K (by omega) (by omega) hH) (fun hp k h1 h2 h3 => hd hp k (by omega) (by omega) h3) hy (fun k hk => by have := hks k hk; omega)
    refine ⟨K :: kk, ?_, fun k hk => ?_⟩
    · simp only [refsR, List.set_cons_succ, mapPackEs, h0, h1, bnd_some, List.map_cons, List.cons_append, List.nil_append, drops]
    · simp only [List.length_cons]
      rcases List.mem_cons.1 hk with rfl | hk
      · exact .inr (by omega)
      · rcases h2 k hk with h | h
        · exact .inl h
        · exact .inr (by omega)
theorem mapPackEs_append {f : H → AV → Hp → Option (AV × List Nat × Hp)} : ∀ (a b : List (List AV)) (hp : Hp), mapPackEs f (a ++ b) hp = bnd (mapPackEs f a hp) fun x => bnd (mapPackEs f b x.2.2) fun y => some (x.1 ++ y.1, x.2.1 ++ y.2.1, y.2.2)
  | [], b, hp => by simp only [List.nil_append, mapPackEs, bnd_some]; cases mapPackEs f b hp <;> rfl
  | e :: a, b, hp => by
    simp only [List.cons_append, mapPackEs]
    cases mapPack f [] e hp with
    | none => rfl
    | some x =>
      simp only [bnd_some, mapPackEs_append a b]
      cases mapPackEs f a x.2.2 with
      | none => rfl
      | some y =>
        simp only [bnd_some]
        cases mapPackEs f b y.2.2 <;> simp only [bnd_some, bnd_none, List.append_assoc, List.cons_append]
section
variable {hp hp' : Hp} {ty sz ty' sz' K K' k i n : Nat} {L L' : List RE} {e : Ent}
attribute [go_sem] refsR_len refsR_get unpackR snapR packR
theorem laid_iff (h : ∀ j, j < L.length → look hp (64 * j + K) = look hp' (64 * j + K)) : Laid hp ty sz K L ↔ Laid hp' ty sz K L :=
  ⟨fun h0 j x hj => by rw [← h j (lt_of_get hj)]; exact h0 j x hj, fun h0 j x hj => by rw [h j (lt_of_get hj)]; exact h0 j x hj⟩
@[go_sem] theorem laid_self : Laid (layR ty sz K L hp) ty sz K L ↔ True := ⟨fun _ => trivial, fun _ => laid_layR⟩
@[go_sem] theorem laid_lt (h : k < K) : Laid ((k, e) :: hp) ty sz K L ↔ Laid hp ty sz K L := laid_iff fun j _ => look_cons_ne (by omega)
@[go_sem] theorem under_far (hl : L.length ≤ 137438953472) (hk : K + 8796093022208 ≤ K') : Under (layR ty sz K L hp) K' ↔ Under hp K' := under_layR (by omega)
@[go_sem] theorem look_layR_lt {t : Nat} (h : t < K) : look (layR ty sz K L hp) t = look hp t := (look_layR_out L K hp t (.inl h)).1
@[go_sem] theorem nextVer_layR_lt {t : Nat} (h : t < K) : nextVer (layR ty sz K L hp) t = nextVer hp t := (look_layR_out L K hp t (.inl h)).2
@[go_sem] theorem look_layR_at (h : i < L.length) : look (layR ty sz K L hp) (64 * i + K) = (L[i]?).map (RE.b ty sz) := by
  obtain ⟨x, hx⟩ := get_lt h
  rw [laid_layR i x hx, hx]
  rfl
@[go_sem] theorem look_layR_far (hi : i < 137438953472) (hk : K' + 8796093022208 ≤ K) : look (layR ty sz K L hp) (64 * i + K') = look hp (64 * i + K') := (look_layR_out L K hp _ (.inl (by omega))).1
@[go_sem] theorem laid_far (hl : L.length ≤ 137438953472) (hk : K + 8796093022208 ≤ K') : Laid (layR ty' sz' K' L' hp) ty sz K L ↔ Laid hp ty sz K L := laid_iff fun j hj => (look_layR_out L' K' hp _ (by omega)).1
@[go_sem] theorem laid_at_far (hi : i < 137438953472) (hk : K' + 8796093022208 ≤ K) : Laid ((64 * i + K', e) :: hp) ty sz K L ↔ Laid hp ty sz K L := laid_iff fun j _ => look_cons_ne (by omega)
@[go_sem] theorem laid_at_far' (hl : L.length ≤ 137438953472) (hk : K + 8796093022208 ≤ K') : Laid ((64 * i + K', e) :: hp) ty sz K L ↔ Laid hp ty sz K L := laid_iff fun j hj => look_cons_ne (by omega)
@[go_sem] theorem laid_dropsR (hn : n ≤ 137438953472) (hk : K' + 8796093022208 ≤ K) : Laid (drops (keysR K' n) hp) ty sz K L ↔ Laid hp ty sz K L := laid_iff fun j hj => (look_dropsN _ _ _ (fun hm => by have := mem_keysR hm; omega)).1
@[go_sem] theorem look_dropsR_lt {t : Nat} (h : t < K) : look (drops (keysR K n) hp) t = look hp t := (look_dropsN _ _ _ (fun hm => by have := mem_keysR hm; omega)).1
@[go_sem] theorem nextVer_dropsR_lt {t : Nat} (h : t < K) : nextVer (drops (keysR K n) hp) t = nextVer hp t := (look_dropsN _ _ _ (fun hm => by have := mem_keysR hm; omega)).2
theorem packR_snoc {x : List AV} (h : Laid hp ty sz K L) : mapPackEs (pack true (n + 1)) (refsR K L ++ [x]) hp = bnd (mapPack (pack true (n + 1)) [] x (drops (keysR K L.length) hp)) fun y => some (L.map (RE.o ty sz) ++ [y.1], keysR K L.length ++ y.2.1, y.2.2) := by
  rw [mapPackEs_append, packR h, bnd_some]
  simp only [mapPackEs]
  cases mapPack (pack true (n + 1)) [] x (drops (keysR K L.length) hp) <;> simp only [bnd_some, bnd_none, List.append_nil]
attribute [go_sem] packR_snoc packRF
end
section
variable {hp hp' : Hp} {ty sz ty' sz' K K' k i n : Nat} {L L' : List RE} {e : Ent}
theorem laidX_iff (h : ∀ j, j ≠ i → j < L.length → look hp (64 * j + K) = look hp' (64 * j + K)) : LaidX hp ty sz K L i ↔ LaidX hp' ty sz K L i :=
  ⟨fun h0 j x hn hj => by rw [← h j hn (lt_of_get hj)]; exact h0 j x hn hj, fun h0 j x hn hj => by rw [h j hn (lt_of_get hj)]; exact h0 j x hn hj⟩
@[go_sem] theorem laidX_self : LaidX (layR ty sz K L hp) ty sz K L i ↔ True := ⟨fun _ => trivial, fun _ => laid_layR.x i⟩
@[go_sem] theorem laidX_lt (h : k < K) : LaidX ((k, e) :: hp) ty sz K L i ↔ LaidX hp ty sz K L i := laidX_iff fun j _ _ => look_cons_ne (by omega)
@[go_sem] theorem laidX_here : LaidX ((64 * i + K, e) :: hp) ty sz K L i ↔ LaidX hp ty sz K L i := laidX_iff fun j hn _ => look_cons_ne (by omega)
@[go_sem] theorem laidX_far (hl : L.length ≤ 137438953472) (hk : K + 8796093022208 ≤ K') : LaidX (layR ty' sz' K' L' hp) ty sz K L i ↔ LaidX hp ty sz K L i := laidX_iff fun j _ hj => (look_layR_out L' K' hp _ (by omega)).1
@[go_sem] theorem laid_set_iff {p : List SC} {nl : Bool} {es : List (List AV)} : Laid ((64 * i + K, .live { ver := 0, row := true, nl := nl, ty := ty, sz := sz, es := es }) :: hp) ty sz K (L.set i ⟨p, nl, es⟩) ↔ LaidX hp ty sz K L i := by
  constructor
  · intro h j x hn hj
    have := h j x (by rw [List.getElem?_set_ne (Ne.symm hn)]; exact hj)
    rwa [look_cons_ne (by omega)] at this
  · intro h j x hj
    by_cases e : j = i
    · subst e
      have hl := lt_of_get hj
      rw [List.length_set] at hl
      rw [List.getElem?_set_self hl, Option.some.injEq] at hj
      subst hj
      simp only [look, if_true, RE.b]
    · rw [List.getElem?_set_ne (Ne.symm e)] at hj
      rw [look_cons_ne (by omega)]
      exact h j x e hj
end
def keysI : Nat → Nat → Nat → Nat → List Nat
  | _, 0, _, _ => []
  | K, n + 1, 0, k => k :: keysR (K + 64) n
  | K, n + 1, i + 1, k => K :: keysI (K + 64) n i k
theorem mem_keysI : ∀ {n K i k t : Nat}, t ∈ keysI K n i k → t = k ∨ K ≤ t ∧ t < K + 64 * n
  | 0, K, i, k, t, h => by simp [keysI] at h
  | n + 1, K, 0, k, t, h => by
    simp only [keysI, List.mem_cons] at h
    rcases h with h | h
    · exact .inl h
    · have := mem_keysR h
      exact .inr (by omega)
  | n + 1, K, i + 1, k, t, h => by
    simp only [keysI, List.mem_cons] at h
    rcases h with h | h
    · exact .inr (by omega)
    · rcases mem_keysI h with h | h
      · exact .inl h
      · exact .inr (by omega)
section
variable {hp hp' : Hp} {ty sz ty' sz' K K' k i n : Nat} {L L' : List RE} {e : Ent}
theorem packRF_at {x : RE} : ∀ {L : List RE} {K i : Nat} {hp : Hp}, i < L.length → k < K → LaidX hp ty sz K L i → look hp k = some (x.b ty sz) →
    mapPackEs (pack false (n + 1)) ((refsR K L).set i (x.r k)) hp = some ((L.map (RE.s sz)).set i (x.s sz), keysI K L.length i k, drops (keysI K L.length i k) hp)
  | [], K, i, hp, hi, _, _, _ => by simp at hi
  | z :: l, K, 0, hp, hi, hk, h, hx => by
    have h0 := pack_reF (n := n) hx
    have h1 := packRF (n := n) (ty := ty) (sz := sz) (L := l) (K := K + 64) (hp := drop hp k) (fun j y hj => by
      have := h (j + 1) y (by omega) (by simpa using hj)
      rw [look_drop, if_neg (by omega)]
      rwa [show 64 * j + (K + 64) = 64 * (j + 1) + K by omega])
    simp only [refsR, List.set_cons_zero, mapPackEs, h0, h1, bnd_some, List.map_cons, List.length_cons, keysI, List.cons_append, List.nil_append, drops]
  | z :: l, K, i + 1, hp, hi, hk, h, hx => by
    have h0 := pack_reF (n := n) (by simpa using h 0 z (by omega) rfl : look hp K = some (z.b ty sz))
    simp only [List.length_cons] at hi
    have h1 := packRF_at (x := x) (L := l) (K := K + 64) (i := i) (hp := drop hp K) (by omega) (by omega) (fun j y hn hj => by
      have := h (j + 1) y (by omega) (by simpa using hj)
      rw [look_drop, if_neg (by omega)]
      rwa [show 64 * j + (K + 64) = 64 * (j + 1) + K by omega]) (by rw [look_drop, if_neg (by omega)]; exact hx)
    simp only [refsR, List.set_cons_succ, mapPackEs, h0, h1, bnd_some, List.map_cons, List.length_cons, keysI, List.cons_append, List.nil_append, drops]
@[go_sem] theorem laid_dropsI (hn : n ≤ 137438953472) (hk : K' + 8796093022208 ≤ K) (h : k < K) : Laid (drops (keysI K' n i k) hp) ty sz K L ↔ Laid hp ty sz K L := laid_iff fun j hj => (look_dropsN _ _ _ (fun hm => by have := mem_keysI hm; omega)).1
@[go_sem] theorem look_dropsI_lt {t : Nat} (h : t < K) (hn : ¬ t = k) : look (drops (keysI K n i k) hp) t = look hp t := (look_dropsN _ _ _ (fun hm => by have := mem_keysI hm; omega)).1
@[go_sem] theorem nextVer_dropsI_lt {t : Nat} (h : t < K) (hn : ¬ t = k) : nextVer (drops (keysI K n i k) hp) t = nextVer hp t := (look_dropsN _ _ _ (fun hm => by have := mem_keysI hm; omega)).2
@[go_sem] theorem laidX_dropsR (hn : n ≤ 137438953472) (hk : K' + 8796093022208 ≤ K) : LaidX (drops (keysR K' n) hp) ty sz K L i ↔ LaidX hp ty sz K L i := laidX_iff fun j _ hj => (look_dropsN _ _ _ (fun hm => by have := mem_keysR hm; omega)).1
end
def keysF : Nat → Nat → Nat → List Nat
  | _, 0, _ => []
  | K, n + 1, 0 => keysR (K + 64) n
  | K, n + 1, i + 1 => K :: keysF (K + 64) n i
theorem mem_keysF : ∀ {n K i t : Nat}, t ∈ keysF K n i → K ≤ t ∧ t < K + 64 * n
  | 0, K, i, t, h => by simp [keysF] at h
  | n + 1, K, 0, t, h => by
    have := mem_keysR h
    omega
  | n + 1, K, i + 1, t, h => by
    simp only [keysF, List.mem_cons] at h
    rcases h with h | h
    · omega
    · have := mem_keysF h
      omega
section
variable {hp hp' : Hp} {ty sz ty' sz' K K' k i n : Nat} {L L' : List RE} {e : Ent}
theorem packRF_fl {p : List SC} {z : Nat} {es : List (List AV)} : ∀ {L : List RE} {K i : Nat} {hp : Hp}, i < L.length → LaidX hp ty sz K L i →
    mapPackEs (pack false (n + 1)) ((refsR K L).set i (p.map SC.a ++ [.sl .open_ z es])) hp = some ((L.map (RE.s sz)).set i (p.map SC.a ++ [.sl .open_ z es]), keysF K L.length i, drops (keysF K L.length i) hp)
  | [], K, i, hp, hi, _ => by simp at hi
  | x :: l, K, 0, hp, hi, h => by
    have h0 : mapPack (pack false (n + 1)) [] (p.map SC.a ++ [.sl .open_ z es]) hp = some (p.map SC.a ++ [.sl .open_ z es], [], hp) := by
      rw [pack_pre]
      simp only [mapPack, List.headD_nil, List.tail_nil, pack_open, bnd_some, List.append_nil]
    have h1 := packRF (n := n) (ty := ty) (sz := sz) (L := l) (K := K + 64) (hp := hp) (fun j y hj => by
      have := h (j + 1) y (by omega) (by simpa using hj)
      rwa [show 64 * j + (K + 64) = 64 * (j + 1) + K by omega])
    simp only [refsR, List.set_cons_zero, mapPackEs, h0, h1, bnd_some, List.map_cons, List.length_cons, keysF, List.nil_append]
  | x :: l, K, i + 1, hp, hi, h => by
    have h0 := pack_reF (n := n) (by simpa using h 0 x (by omega) rfl : look hp K = some (x.b ty sz))
    simp only [List.length_cons] at hi
    have h1 := packRF_fl (p := p) (z := z) (es := es) (L := l) (K := K + 64) (i := i) (hp := drop hp K) (by omega) (fun j y hn hj => by
      have := h (j + 1) y (by omega) (by simpa using hj)
      rw [look_drop, if_neg (by omega)]
      rwa [show 64 * j + (K + 64) = 64 * (j + 1) + K by omega])
    simp only [refsR, List.set_cons_succ, mapPackEs, h0, h1, bnd_some, List.map_cons, List.length_cons, keysF, List.cons_append, List.nil_append, drops]
@[go_sem] theorem laid_dropsF (hn : n ≤ 137438953472) (hk : K' + 8796093022208 ≤ K) : Laid (drops (keysF K' n i) hp) ty sz K L ↔ Laid hp ty sz K L := laid_iff fun j hj => (look_dropsN _ _ _ (fun hm => by have := mem_keysF hm; omega)).1
@[go_sem] theorem look_dropsF_lt {t : Nat} (h : t < K) : look (drops (keysF K n i) hp) t = look hp t := (look_dropsN _ _ _ (fun hm => by have := mem_keysF hm; omega)).1
@[go_sem] theorem nextVer_dropsF_lt {t : Nat} (h : t < K) : nextVer (drops (keysF K n i) hp) t = nextVer hp t := (look_dropsN _ _ _ (fun hm => by have := mem_keysF hm; omega)).2
end
@[go_sem] theorem apartKeys_nilR (a : List Nat) : apartKeys a [] = true := by simp [apartKeys]
section
variable (cx : Cx)
def lkont : List KF → (AExit → St → Prop) → AExit × St → Prop
  | [], P, r => P r.1 r.2
  | .code c :: ks, P, r => W (andThen (aexecL cx c) r) (lkont ks P)
  | .norm c :: ks, P, r => W (andNorm (aexecL cx c) r) (lkont ks P)
  | .out id :: ks, P, r => W (outOf id r) (lkont ks P)
def lkexec (c : ACode) (ks : List KF) (P : AExit → St → Prop) (st : St) : Prop := W (aexecL cx c st) (lkont cx ks P)
def lkreg (l : List AIns) (ks : List KF) (P : AExit → St → Prop) (st : St) : Prop := W (aregL cx l st) fun st => lkont cx ks P (.normal, st)
def lkop (x : Option Fx) (d : Option Nat) (l : List AIns) (ks : List KF) (P : AExit → St → Prop) (s : Sl) : Prop := W x fun fx => lkreg cx l ks P ⟨put s d fx.val, fx.hp⟩
def lkcond (v : AV) (a b : ACode) (ks : List KF) (P : AExit → St → Prop) (st : St) : Prop := W (condV (aexecL cx a st) (aexecL cx b st) v) (lkont cx ks P)
def lkway (c : Bool) (a b : ACode) (ks : List KF) (P : AExit → St → Prop) (st : St) : Prop := match c with | true => lkexec cx a ks P st | false => lkexec cx b ks P st
end
section
variable {cx : Cx} {s : Sl} {hp : Hp} {ks : List KF} {P : AExit → St → Prop}
@[go_sem] theorem lkont_nil (e : AExit) (st : St) : lkont cx [] P (e, st) ↔ P e st := Iff.rfl
theorem lkont_next {c : ACode} {st : St} (h : lkexec cx c ks P st) : lkont cx (.code c :: ks) P (.normal, st) := h
@[go_sem] theorem lkont_code_ret (c : ACode) (st : St) : lkont cx (.code c :: ks) P (.ret, st) ↔ lkont cx ks P (.ret, st) := by simp [lkont, andThen, W]
@[go_sem] theorem lkont_out (id : Nat) (st : St) : lkont cx (.out id :: ks) P (.normal, st) ↔ lkont cx ks P (.normal, st) := by simp [lkont, outOf, W]
@[go_sem] theorem lkont_out_ret (id : Nat) (st : St) : lkont cx (.out id :: ks) P (.ret, st) ↔ lkont cx ks P (.ret, st) := by simp [lkont, outOf, W]
@[go_sem] theorem lkexec_skip (st : St) : lkexec cx .skip ks P st ↔ lkont cx ks P (.normal, st) := by simp [lkexec, aexecL, W]
@[go_sem] theorem lkexec_ret (st : St) : lkexec cx .ret ks P st ↔ lkont cx ks P (.ret, st) := by simp [lkexec, aexecL, W]
@[go_sem] theorem lkexec_reg (l : List AIns) : lkexec cx (.reg l) ks P ⟨s, hp⟩ ↔ lkreg cx l ks P ⟨s, hp⟩ := by simp only [lkexec, aexecL, W_bnd, W_some, lkreg]
@[go_sem] theorem lkexec_seq (a b : ACode) (st : St) : lkexec cx (.seq a b) ks P st ↔ lkexec cx a (.code b :: ks) P st := by
  simp only [lkexec, aexecL, W_bnd]
  have : (fun a : AExit × St => W (andThen (aexecL cx b) a) (lkont cx ks P)) = lkont cx (.code b :: ks) P := by funext a; rfl
  rw [this]
@[go_sem] theorem lkexec_block (id : Nat) (c : ACode) (st : St) : lkexec cx (.block id c) ks P st ↔ lkexec cx c (.out id :: ks) P st := by
  simp only [lkexec, aexecL, W_bnd]
  have : (fun a : AExit × St => W (outOf id a) (lkont cx ks P)) = lkont cx (.out id :: ks) P := by funext a; rfl
  rw [this]
@[go_sem] theorem lkexec_cond (c : Opd) (a b : ACode) : lkexec cx (.cond c a b) ks P ⟨s, hp⟩ ↔ lkcond cx (ev s c) a b ks P ⟨s, hp⟩ := by simp only [lkexec, aexecL, lkcond]
@[go_sem] theorem lkcond_b (c : Bool) (a b : ACode) (st : St) : lkcond cx (.b c) a b ks P st ↔ lkway cx c a b ks P st := by cases c <;> rfl
@[go_sem] theorem lkway_true (a b : ACode) (st : St) : lkway cx true a b ks P st ↔ lkexec cx a ks P st := Iff.rfl
@[go_sem] theorem lkway_false (a b : ACode) (st : St) : lkway cx false a b ks P st ↔ lkexec cx b ks P st := Iff.rfl
@[go_sem] theorem lkreg_nil (st : St) : lkreg cx [] ks P st ↔ lkont cx ks P (.normal, st) := by simp only [lkreg, aregL, W_some]
@[go_sem] theorem lkreg_plain (d : Option Nat) (op : AOp) (l : List AIns) : lkreg cx (⟨d, op, none⟩ :: l) ks P ⟨s, hp⟩ ↔ lkop cx (aop cx op (700000 + d.getD 0) s hp) d l ks P s := by
  simp only [lkreg, aregL, ainsL, wanted, bnd_some, way_true, W_bnd, W_some, lkop]
@[go_sem] theorem lkop_some (v : AV) (hp' : Hp) (rd wr : List Nat) (d : Option Nat) (l : List AIns) : lkop cx (some ⟨v, hp', rd, wr⟩) d l ks P s ↔ lkreg cx l ks P ⟨put s d v, hp'⟩ := by simp only [lkop, W_some]
def lfin (res : List ARes) (Φ : AV × Hp → Prop) (e : AExit) (st : St) : Prop := W (bnd (notExit (e, st)) fun st => bnd (resVals st res) fun vs => some (one vs, st.hp)) Φ
@[go_sem] theorem lfin_normal (res Φ) : lfin res Φ .normal ⟨s, hp⟩ ↔ W (bnd (resVals ⟨s, hp⟩ res) fun vs => some (one vs, hp)) Φ := by simp only [lfin, notExit, bnd_some]
@[go_sem] theorem lfin_ret (res Φ) : lfin res Φ .ret ⟨s, hp⟩ ↔ W (bnd (resVals ⟨s, hp⟩ res) fun vs => some (one vs, hp)) Φ := by simp only [lfin, notExit, bnd_some]
theorem lkinl {S : Sys} {f : Nat} {fn : AFun} {args : List AV} {Φ : AV × Hp → Prop} (hf : S.fs f = some fn) (hpm : (S.spec f).pm = []) (hl : args.length = fn.nparams)
    (h : lkexec (cx0 S (acall S)) fn.body [] (lfin fn.res Φ) ⟨paramS 0 args [], hp⟩) : W (inlF S (acall S) f args hp) Φ := by
  rw [inl_eq hf hpm hl, W_bnd]
  refine W_mono h fun x hx => ?_
  exact hx
end
attribute [go_sem] paramS
end Go.Abs
end
