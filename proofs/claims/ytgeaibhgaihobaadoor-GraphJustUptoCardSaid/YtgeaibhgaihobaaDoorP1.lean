import Derived.Test.YtgeaibhgaihobaaDoorFd
set_option linter.unusedSimpArgs false
set_option linter.unusedVariables false
namespace Go.Proofs.YtgeaibhgaihobaaDoor
open Go.Abs
def idxI {α : Type} (p : α → Bool) : List α → Int
  | [] => -1
  | a :: r => if p a then 0 else if idxI p r = -1 then -1 else idxI p r + 1
theorem idxI_ge {α : Type} (p : α → Bool) : ∀ l : List α, -1 ≤ idxI p l
  | [] => by simp [idxI]
  | a :: r => by
    have := idxI_ge p r
    simp only [idxI]
    split
    · omega
    · split <;> omega
theorem idx_none {α : Type} {p : α → Bool} : ∀ {l : List α}, l.any p = false → idxI p l = -1
  | [], _ => rfl
  | a :: r, h => by
    simp only [List.any_cons, Bool.or_eq_false_iff] at h
    simp only [idxI, h.1, idx_none h.2]
    rfl
theorem idx_any' {α : Type} (p : α → Bool) : ∀ l : List α, 0 ≤ idxI p l ↔ l.any p = true
  | [] => by simp [idxI]
  | a :: r => by
    have ih := idx_any' p r
    have hg := idxI_ge p r
    simp only [idxI, List.any_cons, Bool.or_eq_true, ← ih]
    by_cases h : p a = true
    · simp [h]
    · rw [if_neg h]
      by_cases hm : idxI p r = -1
      · rw [if_pos hm, hm]; simp [h]
      · rw [if_neg hm]
        constructor
        · intro; exact .inr (by omega)
        · rintro (h' | h')
          · exact absurd h' h
          · omega
theorem idx_any {α : Type} (p : α → Bool) (l : List α) : decide (0 ≤ idxI p l) = l.any p := by
  apply Bool.eq_iff_iff.2
  rw [decide_eq_true_eq, idx_any']
theorem idx_hit {α : Type} {p : α → Bool} : ∀ {l : List α} {k : Nat} {c : α}, l[k]? = some c → p c = true → (l.take k).any p = false → idxI p l = k
  | [], k, c, h, _, _ => by simp at h
  | a :: r, 0, c, h, hp, _ => by
    simp at h
    subst h
    simp [idxI, hp]
  | a :: r, k + 1, c, h, hp, hn => by
    simp only [List.take_succ_cons, List.any_cons, Bool.or_eq_false_iff] at hn
    have := idx_hit (l := r) (k := k) (c := c) (by simpa using h) hp hn.2
    simp only [idxI, hn.1, this, Bool.false_eq_true, if_false]
    rw [if_neg (by omega)]
    simp
theorem any_take {α : Type} {p : α → Bool} {l : List α} {k : Nat} {c : α} (h : l[k]? = some c) : (l.take (k + 1)).any p = ((l.take k).any p || p c) := by
  rw [take_get h]; simp
def badKeyB (l : List UInt8) : Bool := decide (l.length < 1) || decide (l.length > 96)
def BadAt (ks : List (List UInt8)) (i : Nat) : Prop := ∃ b, ks[i]? = some b ∧ (badKeyB b = true ∨ ∃ j a, i = j + 1 ∧ ks[j]? = some a ∧ 0 ≤ Go.Lib.compareBytes a b)
def BadKeys (ks : List (List UInt8)) : Prop := ∃ i, BadAt ks i
theorem bad_lt {ks : List (List UInt8)} {i : Nat} (h : BadAt ks i) : i < ks.length := by
  obtain ⟨b, hb, _⟩ := h
  exact (List.getElem?_eq_some_iff.1 hb).1
end Go.Proofs.YtgeaibhgaihobaaDoor
