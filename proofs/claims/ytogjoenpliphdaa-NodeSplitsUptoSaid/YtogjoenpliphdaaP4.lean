/-
  Plain: a node's bytes are read as the node; what is read has those bytes.
-/
import Derived.Test.YtogjoenpliphdaaP3
set_option linter.unusedSimpArgs false
set_option linter.unusedVariables false
set_option maxHeartbeats 4000000
namespace Go.Proofs.Ytogjoenpliphdaa
open Go.Abs

theorem u8_of (n : Nat) (h : n < 256) : (UInt8.ofNat n).toNat = n := by rw [UInt8.toNat_ofNat']; exact Nat.mod_eq_of_lt h
theorem takeG_leb : ∀ (u n i acc : Nat) (r : List UInt8), n + i = 10 → u * 128 ^ i < 18446744073709551616 → (0 < i → 0 < u) → takeG n i acc (leb u ++ r) = (acc + u * 128 ^ i, i + (leb u).length, 0) := by
  intro u
  induction u using Nat.strongRecOn with
  | ind u ih =>
    intro n i acc r hn hu h0
    have hi : i ≤ 9 := by
      by_cases h : i = 0
      · omega
      · have := h0 (by omega)
        by_cases h10 : i ≤ 9
        · exact h10
        · have h1 : 128 ^ 10 ≤ 128 ^ i := Nat.pow_le_pow_right (by omega) (by omega)
          have h2 : 1 * 128 ^ i ≤ u * 128 ^ i := Nat.mul_le_mul_right _ this
          simp only [Nat.reducePow] at h1; omega
    obtain ⟨n', rfl⟩ : ∃ n', n = n' + 1 := ⟨9 - i, by omega⟩
    by_cases h : u < 128
    · rw [leb_small h]
      have hc := u8_of u (by omega)
      rw [List.cons_append, List.nil_append, takeG_cons, hc, if_neg (by omega), if_neg]
      · simp
      · rintro (⟨h1, h2⟩ | ⟨h1, h2⟩)
        · have := h0 h1; omega
        · subst h1
          have : 2 * 128 ^ 9 ≤ u * 128 ^ 9 := Nat.mul_le_mul_right _ h2
          simp only [Nat.reducePow] at *; omega
    · rw [leb_great h]
      have hc := u8_of (u % 128 + 128) (by omega)
      have hpow : u / 128 * 128 ^ (i + 1) + (u % 128) * 128 ^ i = u * 128 ^ i := by
        rw [Nat.pow_succ, Nat.mul_comm (128 ^ i) 128, ← Nat.mul_assoc, ← Nat.add_mul]
        congr 1
        omega
      rw [List.cons_append, takeG_cons, hc, if_pos (by omega), ih (u / 128) (by omega) n' (i + 1) _ r (by omega) (by omega) (by omega)]
      rw [show (u % 128 + 128) % 128 = u % 128 by omega]
      refine Prod.ext ?_ (Prod.ext ?_ rfl)
      · simp only; omega
      · simp only [List.length_cons]; omega
theorem takeS_leb {u : Nat} (r : List UInt8) (h : u < 18446744073709551616) : takeS (leb u ++ r) = (u, (leb u).length, 0) := by
  unfold takeS
  rw [takeG_leb u 10 0 0 r rfl (by simpa using h) (by omega)]
  simp
theorem takeG_inv : ∀ (n i acc : Nat) (l : List UInt8) (u k : Nat), takeG n i acc l = (u, k, 0) → ∃ v r, u = acc + v * 128 ^ i ∧ l = leb v ++ r ∧ k = i + (leb v).length ∧ (0 < i → 0 < v)
  | 0, i, acc, l, u, k, h => by simp [takeG] at h
  | n + 1, i, acc, [], u, k, h => by simp [takeG] at h
  | n + 1, i, acc, c :: l, u, k, h => by
    have hc := UInt8.toNat_lt c
    rw [takeG_cons] at h
    split at h
    · rename_i h1
      obtain ⟨v, r, e1, e2, e3, e4⟩ := takeG_inv n (i + 1) _ l u k h
      have hv := e4 (by omega)
      refine ⟨c.toNat % 128 + 128 * v, r, ?_, ?_, ?_, fun _ => by omega⟩
      · rw [e1, Nat.pow_succ, Nat.add_mul, Nat.mul_comm 128 v, Nat.mul_assoc v 128, Nat.mul_comm 128 (128 ^ i)]; omega
      · rw [leb_great (by omega), e2]
        rw [show (c.toNat % 128 + 128 * v) % 128 + 128 = c.toNat by omega, show (c.toNat % 128 + 128 * v) / 128 = v by omega]
        simp
      · rw [leb_great (by omega), e3]
        rw [show (c.toNat % 128 + 128 * v) / 128 = v by omega]
        simp; omega
    · rename_i h1
      split at h
      · simp at h
      · rename_i h2
        injection h with h3 h4
        injection h4 with h4 h5
        refine ⟨c.toNat, l, by omega, ?_, ?_, fun h => by omega⟩
        · rw [leb_small (by omega)]; simp
        · rw [leb_small (by omega), ← h4]; simp
theorem takeS_inv {l : List UInt8} {u k : Nat} (h : takeS l = (u, k, 0)) : ∃ r, l = leb u ++ r ∧ k = (leb u).length := by
  obtain ⟨v, r, e1, e2, e3, _⟩ := takeG_inv 10 0 0 l u k h
  obtain rfl : u = v := by simpa using e1
  exact ⟨r, e2, by omega⟩

theorem num_back {most u : Nat} (r : List UInt8) (h : u ≤ most) (hm : most < 18446744073709551616) : numP most (leb u ++ r, false) = (u, (r, false)) := by
  have ht := takeS_leb r (show u < 18446744073709551616 by omega)
  rw [num_ok (by rw [ht]) (by rw [ht]; exact h), ht]
  simp
theorem num_inv {most n : Nat} {l l' : List UInt8} {bad : Bool} (h : numP most (l, bad) = (n, (l', false))) : bad = false ∧ l = leb n ++ l' ∧ n ≤ most := by
  cases bad with
  | true => rw [num_bad] at h; simp at h
  | false =>
    have hle := num_le most (l, false)
    by_cases h1 : (takeS l).2.2 ≠ 0 ∨ (takeS l).1 > most
    · rw [num_no h1] at h; simp at h
    · have h2 : (takeS l).2.2 = 0 := by omega
      rw [num_ok h2 (by omega)] at h
      injection h with h3 h4
      injection h4 with h4 _
      obtain ⟨r, e1, e2⟩ := takeS_inv (l := l) (u := (takeS l).1) (k := (takeS l).2.1) (Prod.ext rfl (Prod.ext rfl h2))
      rw [h3] at e1 e2
      refine ⟨rfl, ?_, by omega⟩
      rw [← h4, e2]
      rw [e1]; simp
theorem flag_inv {c : UInt8} {l l' : List UInt8} {bad : Bool} (h : flagP (l, bad) = (c, (l', false))) : bad = false ∧ l = c :: l' := by
  cases l <;> cases bad <;> simp [flagP] at h ⊢
  exact h
theorem bytes_back {x : List UInt8} (r : List UInt8) (h : x.length ≤ 448) : bytesP (fb x ++ r, false) = (x, (r, false)) := by
  unfold bytesP fb
  rw [List.append_assoc, num_back (x ++ r) h (by omega)]
  unfold takeP
  rw [if_neg (by simp)]
  simp
theorem take_inv {n : Nat} {l l' x : List UInt8} {bad : Bool} (h : takeP n (l, bad) = (x, (l', false))) : bad = false ∧ l = x ++ l' ∧ x.length = n := by
  unfold takeP at h
  split at h
  · simp at h
  · rename_i h1
    simp only [not_or, Nat.not_lt] at h1
    injection h with h2 h3
    injection h3 with h3 _
    subst h2
    subst h3
    refine ⟨by cases bad; rfl; exact absurd rfl h1.1, by simp, by have h2 : n ≤ l.length := h1.2; rw [List.length_take]; exact Nat.min_eq_left h2⟩
theorem bytes_inv {l l' x : List UInt8} {bad : Bool} (h : bytesP (l, bad) = (x, (l', false))) : bad = false ∧ l = fb x ++ l' ∧ x.length ≤ 448 := by
  unfold bytesP at h
  obtain ⟨⟨n, l1, b1⟩, hx⟩ : ∃ y, y = numP 448 (l, bad) := ⟨_, rfl⟩
  rw [← hx] at h
  obtain ⟨rfl, h2, h3⟩ := take_inv h
  obtain ⟨h4, h5, h6⟩ := num_inv hx.symm
  refine ⟨h4, ?_, by omega⟩
  rw [h5, h2]
  simp [fb, h3]
def cellBP (c : PC) : List UInt8 := fb c.key ++ (if c.over = 0 then 0 :: fb c.val else 1 :: (leb (u64 c.len) ++ leb (u64 c.over)))
def formP (n : PN) : List UInt8 :=
  if n.leaf then [1] ++ leb n.cells.length ++ n.cells.flatMap cellBP
  else [2] ++ leb n.keys.length ++ (n.keys.flatMap fb ++ n.kids.flatMap fun k => leb (u64 k))
theorem formP_eq (n : Nd) : formP n.p = formB n := by
  simp only [formP, formB, Nd.p, List.length_map, List.flatMap_map]
  rfl
theorem cellP_0 {s s1 s2 : Ps} {k : List UInt8} {f : UInt8} (h1 : bytesP s = (k, s1)) (h2 : flagP s1 = (f, s2)) (hf : f.toNat = 0) : cellP s = (⟨k, (bytesP s2).1, 0, 0⟩, (bytesP s2).2) := by
  unfold cellP
  rw [h1]
  simp only
  rw [h2]
  exact if_pos hf
theorem cellP_1 {s s1 s2 : Ps} {k : List UInt8} {f : UInt8} (h1 : bytesP s = (k, s1)) (h2 : flagP s1 = (f, s2)) (hf : f.toNat = 1) : cellP s = (⟨k, [], (numP 2048 (numP 1099511627776 s2).2).1, (numP 1099511627776 s2).1⟩, ((numP 2048 (numP 1099511627776 s2).2).2.1, (numP 2048 (numP 1099511627776 s2).2).2.2 || decide ((numP 2048 (numP 1099511627776 s2).2).1 = 0))) := by
  unfold cellP
  rw [h1]
  simp only
  rw [h2]
  exact (if_neg (by simp only [hf]; decide)).trans (if_pos hf)
theorem rawP_1 {b : List UInt8} {s : Ps} {f : UInt8} (h : flagP (b, false) = (f, s)) (hf : f.toNat = 1) : rawP b = (⟨true, (manyP cellP (numP 448 s).1 (numP 448 s).2).1, [], []⟩, (manyP cellP (numP 448 s).1 (numP 448 s).2).2) := by
  unfold rawP
  rw [h]
  exact if_pos hf
theorem rawP_2 {b : List UInt8} {s : Ps} {f : UInt8} (h : flagP (b, false) = (f, s)) (hf : f.toNat = 2) : rawP b = (⟨false, [], (manyP bytesP (numP 448 s).1 (numP 448 s).2).1,
      (manyP (numP 2048) ((numP 448 s).1 + 1) (manyP bytesP (numP 448 s).1 (numP 448 s).2).2).1.map fun n : Nat => (n : Int)⟩,
      (manyP (numP 2048) ((numP 448 s).1 + 1) (manyP bytesP (numP 448 s).1 (numP 448 s).2).2).2) := by
  unfold rawP
  rw [h]
  exact (if_neg (by simp only [hf]; decide)).trans (if_pos hf)
theorem cell_back {c : PC} (r : List UInt8) (h : badCellP c = false) : cellP (cellBP c ++ r, false) = (c, (r, false)) := by
  unfold badCellP badKeyB at h
  simp only [Bool.or_eq_false_iff, decide_eq_false_iff_not, Nat.not_lt, Int.not_lt, ge_iff_le, gt_iff_lt, Int.not_le] at h
  obtain ⟨⟨⟨⟨⟨k1, k2⟩, k3⟩, k4⟩, k5⟩, k6⟩ := h
  obtain ⟨key, val, over, len⟩ := c
  simp only at k1 k2 k3 k4 k5 k6
  unfold cellBP
  simp only
  rw [List.append_assoc]
  by_cases h0 : over = 0
  · subst h0
    rw [if_pos rfl] at k6 ⊢
    have k6 : len = 0 := by simpa using k6
    subst k6
    rw [List.cons_append, cellP_0 (bytes_back _ (by omega)) rfl rfl, bytes_back _ (by omega)]
  · rw [if_neg h0] at k6 ⊢
    simp only [Bool.or_eq_false_iff, decide_eq_false_iff_not, Nat.not_lt, Int.not_le, Int.not_lt] at k6
    obtain ⟨⟨k7, k8⟩, k9⟩ := k6
    have hval : val = [] := List.eq_nil_of_length_eq_zero (by omega)
    subst hval
    rw [List.cons_append, List.append_assoc, cellP_1 (bytes_back _ (by omega)) rfl rfl, num_back _ (by unfold u64; omega) (by omega)]
    simp only
    rw [num_back _ (by unfold u64; omega) (by omega)]
    simp only
    have e1 : ((u64 over : Nat) : Int) = over := by unfold u64; omega
    have e2 : ((u64 len : Nat) : Int) = len := by unfold u64; omega
    have e3 : u64 over ≠ 0 := by omega
    rw [e1, e2]
    simp [e3]
theorem cell_inv {c : PC} {l l' : List UInt8} {bad : Bool} (h : cellP (l, bad) = (c, (l', false))) : bad = false ∧ l = cellBP c ++ l' := by
  unfold cellP at h
  obtain ⟨⟨k, l1, b1⟩, hx⟩ : ∃ y, y = bytesP (l, bad) := ⟨_, rfl⟩
  rw [← hx] at h
  simp only at h
  obtain ⟨⟨f, l2, b2⟩, hy⟩ : ∃ y, y = flagP (l1, b1) := ⟨_, rfl⟩
  rw [← hy] at h
  simp only at h
  split at h
  · rename_i h0
    obtain ⟨⟨v, l3, b3⟩, hz⟩ : ∃ y, y = bytesP (l2, b2) := ⟨_, rfl⟩
    rw [← hz] at h
    simp only [Prod.mk.injEq] at h
    obtain ⟨rfl, rfl, rfl⟩ := h
    obtain ⟨rfl, e1, _⟩ := bytes_inv hz.symm
    obtain ⟨rfl, e2⟩ := flag_inv hy.symm
    obtain ⟨e3, e4, _⟩ := bytes_inv hx.symm
    refine ⟨e3, ?_⟩
    have hf : f = 0 := UInt8.toNat_inj.1 h0
    subst hf
    rw [e4, e2, e1]
    simp [cellBP]
  · rename_i h0
    split at h
    · rename_i h1
      obtain ⟨⟨n, l3, b3⟩, hz⟩ : ∃ y, y = numP 1099511627776 (l2, b2) := ⟨_, rfl⟩
      rw [← hz] at h
      simp only at h
      obtain ⟨⟨o, l4, b4⟩, hw⟩ : ∃ y, y = numP 2048 (l3, b3) := ⟨_, rfl⟩
      rw [← hw] at h
      simp only [Prod.mk.injEq, Bool.or_eq_false_iff, decide_eq_false_iff_not] at h
      obtain ⟨rfl, rfl, rfl, ho⟩ := h
      obtain ⟨rfl, e0, e0'⟩ := num_inv hw.symm
      obtain ⟨rfl, e1, e1'⟩ := num_inv hz.symm
      obtain ⟨rfl, e2⟩ := flag_inv hy.symm
      obtain ⟨e3, e4, _⟩ := bytes_inv hx.symm
      refine ⟨e3, ?_⟩
      have hf : f = 1 := UInt8.toNat_inj.1 h1
      subst hf
      have ho' : ¬ (o : Int) = 0 := by omega
      rw [e4, e2, e1, e0]
      simp only [cellBP, if_neg ho', u64_nat n (by omega), u64_nat o (by omega)]
      simp
    · simp at h
theorem many_back {α : Type} {f : Ps → α × Ps} {g : α → List UInt8} : ∀ (xs : List α) (r : List UInt8), (∀ x ∈ xs, ∀ r, f (g x ++ r, false) = (x, (r, false))) → manyP f xs.length (xs.flatMap g ++ r, false) = (xs, (r, false))
  | [], r, _ => rfl
  | x :: xs, r, h => by
    rw [List.length_cons, many_step, List.flatMap_cons, List.append_assoc, h x (by simp)]
    simp only
    rw [many_back xs r (fun y hy => h y (by simp [hy]))]
theorem many_inv {α : Type} {f : Ps → α × Ps} {g : α → List UInt8} (hf : ∀ l bad x l', f (l, bad) = (x, (l', false)) → bad = false ∧ l = g x ++ l') : ∀ (n : Nat) (l : List UInt8) (bad : Bool) (xs : List α) (l' : List UInt8), manyP f n (l, bad) = (xs, (l', false)) → bad = false ∧ l = xs.flatMap g ++ l' ∧ xs.length = n
  | 0, l, bad, xs, l', h => by
    simp only [manyP, Prod.mk.injEq] at h
    obtain ⟨rfl, rfl, rfl⟩ := h
    exact ⟨rfl, rfl, rfl⟩
  | n + 1, l, bad, xs, l', h => by
    cases bad with
    | true => rw [many_bad] at h; simp at h
    | false =>
      rw [many_step] at h
      obtain ⟨⟨x, l1, b1⟩, hx⟩ : ∃ y, y = f (l, false) := ⟨_, rfl⟩
      rw [← hx] at h
      simp only at h
      obtain ⟨⟨ys, l2, b2⟩, hy⟩ : ∃ y, y = manyP f n (l1, b1) := ⟨_, rfl⟩
      rw [← hy] at h
      simp only [Prod.mk.injEq] at h
      obtain ⟨rfl, rfl, rfl⟩ := h
      obtain ⟨rfl, e1, e2⟩ := many_inv hf n l1 b1 ys _ hy.symm
      obtain ⟨_, e3⟩ := hf _ _ _ _ hx.symm
      refine ⟨rfl, ?_, by simp [e2]⟩
      rw [e3, e1]; simp
theorem flatMap_same {α β : Type} {f g : α → List β} : ∀ {l : List α}, (∀ x ∈ l, f x = g x) → l.flatMap f = l.flatMap g
  | [], _ => rfl
  | x :: r, h => by rw [List.flatMap_cons, List.flatMap_cons, h x (by simp), flatMap_same (l := r) fun y hy => h y (by simp [hy])]
theorem cellBP_pos (c : PC) : 0 < (cellBP c).length := by
  have := fb_pos c.key
  simp only [cellBP, List.length_append]; omega
theorem any_false {α : Type} {p : α → Bool} {l : List α} (h : ¬ l.any p = true) {x : α} (hx : x ∈ l) : p x = false := by
  cases hp : p x with
  | false => rfl
  | true => exact absurd (List.any_eq_true.2 ⟨x, hx, hp⟩) h
theorem key_len {ks : List (List UInt8)} (h : ¬ BadKeys ks) {x : List UInt8} (hx : x ∈ ks) : x.length ≤ 96 := by
  obtain ⟨i, hi, rfl⟩ := List.mem_iff_getElem.1 hx
  by_cases hl : ks[i].length ≤ 96
  · exact hl
  · exact absurd ⟨i, ks[i], List.getElem?_eq_getElem hi, .inl (by unfold badKeyB; simp; omega)⟩ h
theorem parse_form {n : PN} (hb : ¬ BadP n) (hl : (formP n).length ≤ 448) : parseP (formP n) = (n, 0) := by
  obtain ⟨leaf, cells, keys, kids⟩ := n
  have hraw : rawP (formP ⟨leaf, cells, keys, kids⟩) = (⟨leaf, cells, keys, kids⟩, ([], false)) := by
    cases leaf with
    | true =>
      have h1 : ¬ (keys.length + kids.length > 0) := fun h => hb (.inl ⟨rfl, .inl h⟩)
      have h2 : ¬ cells.any badCellP = true := fun h => hb (.inl ⟨rfl, .inr (.inl h)⟩)
      have hk : keys = [] := List.eq_nil_of_length_eq_zero (by omega)
      have hi : kids = [] := List.eq_nil_of_length_eq_zero (by omega)
      subst hk
      subst hi
      have hf : formP ⟨true, cells, [], []⟩ = 1 :: (leb cells.length ++ (cells.flatMap cellBP ++ [])) := by simp [formP]
      have hlen := flat_ge cellBP cellBP_pos cells
      rw [hf] at hl ⊢
      simp only [List.length_cons, List.length_append] at hl
      rw [rawP_1 (f := 1) (s := (leb cells.length ++ (cells.flatMap cellBP ++ []), false)) rfl rfl, num_back _ (by omega) (by omega)]
      simp only
      rw [many_back cells [] (fun x hx r => cell_back r (any_false h2 hx))]
    | false =>
      have h1 : ¬ (cells.length > 0) := fun h => hb (.inr ⟨rfl, .inl h⟩)
      have h2 : kids.length = keys.length + 1 := by
        by_cases h : kids.length = keys.length + 1
        · exact h
        · exact absurd (.inr ⟨rfl, .inr (.inl h)⟩) hb
      have h3 : ¬ kids.any badKid = true := fun h => hb (.inr ⟨rfl, .inr (.inr (.inl h))⟩)
      have h4 : ¬ BadKeys keys := fun h => hb (.inr ⟨rfl, .inr (.inr (.inr h))⟩)
      have hk : cells = [] := List.eq_nil_of_length_eq_zero (by omega)
      subst hk
      have hkid : ∀ k ∈ kids, 1 ≤ k ∧ k < 2048 := fun k hk => by
        have := any_false h3 hk
        unfold badKid at this
        simp only [Bool.or_eq_false_iff, decide_eq_false_iff_not] at this
        omega
      have hkm : kids = (kids.map Int.toNat).map fun n : Nat => (n : Int) := by
        rw [List.map_map]
        conv => lhs; rw [← List.map_id kids]
        refine List.map_congr_left fun k hk => ?_
        have := hkid k hk
        simp only [Function.comp, id]; omega
      have hkf : kids.flatMap (fun k => leb (u64 k)) = (kids.map Int.toNat).flatMap leb := by
        rw [List.flatMap_map]
        refine flatMap_same fun k hk => ?_
        have := hkid k hk
        congr 1
        unfold u64; omega
      have hf : formP ⟨false, [], keys, kids⟩ = 2 :: (leb keys.length ++ (keys.flatMap fb ++ ((kids.map Int.toNat).flatMap leb ++ []))) := by simp [formP, hkf]
      have hlen := flat_ge fb fb_pos keys
      rw [hf] at hl ⊢
      simp only [List.length_cons, List.length_append] at hl
      rw [rawP_2 (f := 2) (s := (leb keys.length ++ (keys.flatMap fb ++ ((kids.map Int.toNat).flatMap leb ++ [])), false)) rfl rfl, num_back _ (by omega) (by omega)]
      simp only
      rw [many_back keys _ (fun x hx r => bytes_back r (by have := key_len h4 hx; omega))]
      have hml : keys.length + 1 = (kids.map Int.toNat).length := by simp [h2]
      simp only
      rw [hml, many_back (kids.map Int.toNat) [] (fun x hx r => by
        obtain ⟨k, hk, rfl⟩ := List.mem_map.1 hx
        have := hkid k hk
        exact num_back r (by omega) (by omega))]
      simp only
      rw [← hkm]
  rw [parse_ok hl (by rw [hraw]) (by rw [hraw]) (by rw [hraw]; exact hb), hraw]
theorem form_parse {b : List UInt8} {n : PN} (h : parseP b = (n, 0)) : ¬ BadP n ∧ formP n = b ∧ b.length ≤ 448 := by
  unfold parseP at h
  split at h
  · simp at h
  · rename_i h0
    simp only [not_or, Nat.not_lt, ne_eq, Decidable.not_not, Bool.not_eq_true] at h0
    obtain ⟨h1, h2, h3, h4⟩ := h0
    simp only [Prod.mk.injEq, and_true] at h
    refine ⟨h ▸ h4, ?_, h1⟩
    rw [← h]
    have hraw : rawP b = ((rawP b).1, ([], false)) := Prod.ext rfl (Prod.ext h3 h2)
    obtain ⟨p, hp⟩ : ∃ p, p = (rawP b).1 := ⟨_, rfl⟩
    rw [← hp] at hraw ⊢
    unfold rawP at hraw
    obtain ⟨⟨c, l1, b1⟩, hx⟩ : ∃ y, y = flagP (b, false) := ⟨_, rfl⟩
    rw [← hx] at hraw
    simp only at hraw
    obtain ⟨⟨n1, l2, b2⟩, hy⟩ : ∃ y, y = numP 448 (l1, b1) := ⟨_, rfl⟩
    rw [← hy] at hraw
    simp only at hraw
    split at hraw
    · rename_i c1
      obtain ⟨⟨cs, l3, b3⟩, hz⟩ : ∃ y, y = manyP cellP n1 (l2, b2) := ⟨_, rfl⟩
      rw [← hz] at hraw
      simp only [Prod.mk.injEq] at hraw
      obtain ⟨rfl, rfl, rfl⟩ := hraw
      obtain ⟨rfl, e1, e2⟩ := many_inv (g := cellBP) (fun l bad x l' h => cell_inv h) _ _ _ _ _ hz.symm
      obtain ⟨rfl, e3, _⟩ := num_inv hy.symm
      obtain ⟨_, e4⟩ := flag_inv hx.symm
      have hc : c = 1 := UInt8.toNat_inj.1 c1
      subst hc
      rw [e4, e3, e1, ← e2]
      simp [formP]
    · split at hraw
      · rename_i c2
        obtain ⟨⟨ks, l3, b3⟩, hz⟩ : ∃ y, y = manyP bytesP n1 (l2, b2) := ⟨_, rfl⟩
        rw [← hz] at hraw
        simp only at hraw
        obtain ⟨⟨kd, l4, b4⟩, hw⟩ : ∃ y, y = manyP (numP 2048) (n1 + 1) (l3, b3) := ⟨_, rfl⟩
        rw [← hw] at hraw
        simp only [Prod.mk.injEq] at hraw
        obtain ⟨rfl, rfl, rfl⟩ := hraw
        have hkd : ∀ k ∈ kd, u64 (k : Int) = k := by
          have : ∀ (n : Nat) (l : List UInt8) (bad : Bool), ∀ k ∈ (manyP (numP 2048) n (l, bad)).1, k ≤ 2048 := by
            intro n
            induction n with
            | zero => intro l bad k hk; simp [manyP] at hk
            | succ n ih =>
              intro l bad k hk
              cases bad with
              | true => rw [many_bad] at hk; simp at hk
              | false =>
                rw [many_step] at hk
                rcases List.mem_cons.1 hk with rfl | hk
                · exact num_le 2048 _
                · exact ih _ _ k hk
          intro k hk
          have := this (n1 + 1) l3 b3 k (by rw [← hw]; exact hk)
          exact u64_nat k (by omega)
        obtain ⟨rfl, e0, e0'⟩ := many_inv (g := leb) (fun l bad x l' h => by have := num_inv h; exact ⟨this.1, this.2.1⟩) _ _ _ _ _ hw.symm
        obtain ⟨rfl, e1, e2⟩ := many_inv (g := fb) (fun l bad x l' h => by have := bytes_inv h; exact ⟨this.1, this.2.1⟩) _ _ _ _ _ hz.symm
        obtain ⟨rfl, e3, _⟩ := num_inv hy.symm
        obtain ⟨_, e4⟩ := flag_inv hx.symm
        have hc : c = 2 := UInt8.toNat_inj.1 c2
        subst hc
        have hfm : (kd.map fun n : Nat => (n : Int)).flatMap (fun k => leb (u64 k)) = kd.flatMap leb := by
          rw [List.flatMap_map]
          exact flatMap_same fun k hk => by rw [hkd k hk]
        rw [e4, e3, e1, e0, ← e2]
        simp [formP, hfm]
      · simp at hraw
end Go.Proofs.Ytogjoenpliphdaa
