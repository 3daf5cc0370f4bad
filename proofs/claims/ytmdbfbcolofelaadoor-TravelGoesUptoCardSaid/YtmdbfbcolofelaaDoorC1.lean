/-
  Plain: which traversers may be.
-/
import Derived.Test.YtmdbfbcolofelaaDoorV4
import Derived.Test.YtmdbfbcolofelaaDoorR2
set_option linter.unusedSimpArgs false
set_option linter.unusedVariables false
set_option maxHeartbeats 8000000
set_option maxRecDepth 100000
namespace Go.Proofs.YtmdbfbcolofelaaDoor
open Go.Abs

/-! ### names: the program's and the reference's -/
theorem set_sign (c : UInt8) : nameSet.contains c = signI (c.toNat : Int) := by
  have h : ∀ n : Fin 256, nameSet.contains (UInt8.ofNat n.val) = signI ((UInt8.ofNat n.val).toNat : Int) := by decide +kernel
  have := h ⟨c.toNat, UInt8.toNat_lt c⟩
  simpa using this
theorem trim_all (s : List UInt8) : Go.Lib.trimS s nameSet = [] ↔ signsR s = true := by
  have hd : ∀ (p : UInt8 → Bool) (l : List UInt8), l.dropWhile p = [] ↔ ∀ x ∈ l, p x = true := by
    intro p l
    induction l with
    | nil => simp
    | cons a r ih =>
      simp only [List.dropWhile_cons]
      cases h : p a with
      | true => simp [ih, h]
      | false => simp [h]
  have hs : signsR s = true ↔ ∀ x ∈ s, nameSet.contains x = true := by
    simp only [signsR, List.all_eq_true, ← set_sign]
  rw [hs]
  unfold Go.Lib.trimS Go.Lib.trimLeftS
  rw [hd]
  constructor
  · intro h
    by_cases hr : Go.Lib.trimRightS s nameSet = []
    · unfold Go.Lib.trimRightS at hr
      rw [List.reverse_eq_nil_iff, hd] at hr
      exact fun x hx => hr x (by simpa using hx)
    · exfalso
      unfold Go.Lib.trimRightS at h hr
      have hne : s.reverse.dropWhile (nameSet.contains ·) ≠ [] := by simpa using hr
      obtain ⟨a, r, e⟩ := List.exists_cons_of_ne_nil hne
      have h1 : nameSet.contains a = true := h a (by rw [e]; simp)
      have h2 := List.head_dropWhile_not (p := (nameSet.contains ·)) (l := s.reverse) (by rw [e]; simp)
      simp only [e, List.head_cons] at h2
      rw [h1] at h2
      cases h2
  · intro h x hx
    unfold Go.Lib.trimRightS at hx
    have hx' : x ∈ s.reverse.dropWhile (nameSet.contains ·) := by simpa using hx
    exact h x (by simpa using (List.dropWhile_suffix _).subset hx')
theorem nameB_eq (s : List UInt8) : nameB s = nameR s := by
  unfold nameB nameR
  cases s with
  | nil => rfl
  | cons c r =>
    have ht : decide (Go.Lib.trimS (c :: r) nameSet = []) = signsR (c :: r) := by
      apply Bool.eq_iff_iff.2
      rw [decide_eq_true_eq]
      exact trim_all _
    rw [ht]
    cases hs : signsR (c :: r) with
    | false => simp
    | true =>
      have hc : signI (c.toNat : Int) = true := by
        simp only [signsR, List.all_cons, Bool.and_eq_true] at hs
        exact hs.1
      simp only [List.headD_cons, Bool.and_true]
      have key : (decide ((48 : Int) ≤ (c.toNat : Int)) && decide ((c.toNat : Int) ≤ 57)) = !letterI (c.toNat : Int) := by
        simp only [signI, letterI] at hc ⊢
        by_cases h1 : (c.toNat : Int) = 95 <;> by_cases h2 : (97 : Int) ≤ (c.toNat : Int) <;> by_cases h3 : (c.toNat : Int) ≤ 122 <;> by_cases h4 : (65 : Int) ≤ (c.toNat : Int) <;> by_cases h5 : (c.toNat : Int) ≤ 90 <;>
          by_cases h6 : (48 : Int) ≤ (c.toNat : Int) <;> by_cases h7 : (c.toNat : Int) ≤ 57 <;> simp [h1, h2, h3, h4, h5, h6, h7] at hc ⊢ <;> omega
      exact congrArg (fun b => !(decide ((c :: r : List UInt8) = []) || decide ((24 : Int) < (((c :: r : List UInt8)).length : Int)) || b)) key

/-! ### traversers -/
/-- tags that may be, none of a name that was seen -/
def tagsOk : List (List UInt8) → List (List UInt8 × PV) → Bool
  | _, [] => true
  | seen, x :: r => nameR x.1 && !seen.contains x.1 && mayV x.2 0 && tagsOk (seen ++ [x.1]) r
def mayT (t : PT) : Bool := mayV t.v 0 && decide ((t.path.length : Int) ≤ 256) && decide ((t.tags.length : Int) ≤ 32) && decide (0 ≤ t.loops) && (t.path.all fun x => mayV x 0) && tagsOk [] t.tags

/-! ### names that were seen, in a map -/
def seenM (l : List (List UInt8 × Vl)) : List (List AV) := l.map fun x => [.str x.1, .b true]
theorem find_seen (nm : List UInt8) : ∀ (l : List (List UInt8 × Vl)) (i : Nat), (nm ∉ l.map Prod.fst → findM .str (.str nm) (seenM l) i = some none) ∧ (nm ∈ l.map Prod.fst → ∃ j, findM .str (.str nm) (seenM l) i = some (some (j, .b true)))
  | [], i => ⟨fun _ => rfl, fun h => by simp at h⟩
  | x :: r, i => by
    obtain ⟨h1, h2⟩ := find_seen nm r (i + 1)
    have e : findM .str (.str nm) (seenM (x :: r)) i = bnd (some (nm == x.1)) fun c => way c (some (some (i, .b true))) (findM .str (.str nm) (seenM r) (i + 1)) := rfl
    rw [e]
    by_cases hx : nm = x.1
    · subst hx
      refine ⟨fun h => absurd (by simp) h, fun _ => ⟨i, by simp⟩⟩
    · have hb : (nm == x.1) = false := by simpa using hx
      simp only [bnd_some, hb, way_false]
      refine ⟨fun h => h1 (fun hm => h (by simp at hm ⊢; exact .inr hm)), fun h => h2 ?_⟩
      simp only [List.map_cons, List.mem_cons] at h
      exact h.resolve_left hx
end Go.Proofs.YtmdbfbcolofelaaDoor
