/-
  GraphBoth: the plain law: each edge is told by one vertex' Out and by one vertex' In.
-/
import Derived.Test.YtgeaibhgaihobaaDoorG9
set_option linter.unusedSimpArgs false
set_option linter.unusedVariables false
set_option maxHeartbeats 8000000
set_option maxRecDepth 100000
namespace Go.Proofs.YtgeaibhgaihobaaDoor
open Go.Abs

theorem badVs_false {top : Int} : ∀ {l : List PVx} {last : Int}, badVs top last l = false → (∀ v ∈ l, last < v.id) ∧ l.Pairwise (fun a b => a.id < b.id)
  | [], _, _ => ⟨by simp, List.Pairwise.nil⟩
  | v :: r, last, h => by
    simp only [badVs, Bool.or_eq_false_iff] at h
    obtain ⟨h1, h2⟩ := h
    unfold badVx bvx at h1
    simp only [Bool.or_eq_false_iff] at h1
    have hv : last < v.id := by have := of_decide_eq_false h1.1; omega
    obtain ⟨i1, i2⟩ := badVs_false h2
    refine ⟨fun w hw => ?_, List.Pairwise.cons i1 i2⟩
    rcases List.mem_cons.1 hw with rfl | hw
    · exact hv
    · have := i1 w hw
      omega
theorem badEs_false {ids : Int → Bool} {top : Int} : ∀ {l : List PLk} {last : Int}, badEs ids top last l = false → ∀ e ∈ l, ids e.out = true ∧ ids e.inn = true
  | [], _, _ => by simp
  | v :: r, last, h => by
    simp only [badEs, Bool.or_eq_false_iff] at h
    obtain ⟨h1, h2⟩ := h
    unfold badLk blk at h1
    simp only [Bool.or_eq_false_iff, Bool.not_eq_false'] at h1
    intro e he
    rcases List.mem_cons.1 he with rfl | he
    · exact ⟨h1.2.2.2.2.2.1, h1.2.2.2.2.2.2⟩
    · exact badEs_false h2 e he
theorem two_filters {α : Type} {p q : α → Bool} (h : ∀ x, p x = true → q x = false) : ∀ l : List α, (l.filter p).length + (l.filter q).length = (l.filter fun x => p x || q x).length
  | [] => rfl
  | x :: l => by
    have ih := two_filters h l
    have hx := h x
    cases hp : p x with
    | true =>
      have hq := hx hp
      simp only [List.filter_cons, hp, hq, Bool.true_or, if_true, Bool.false_eq_true, if_false, List.length_cons]
      omega
    | false =>
      cases hq : q x with
      | true =>
        simp only [List.filter_cons, hp, hq, Bool.false_or, if_true, Bool.false_eq_true, if_false, List.length_cons]
        omega
      | false =>
        simp only [List.filter_cons, hp, hq, Bool.false_or, Bool.false_eq_true, if_false]
        exact ih
/-- how often a place is among the vertices', all edges together -/
def sumV (f : PLk → Int) (es : List Lk) : List Vx → Nat
  | [] => 0
  | v :: r => (es.filter fun e => decide (f e.p = v.id)).length + sumV f es r
theorem sumV_eq (f : PLk → Int) (es : List Lk) : ∀ (vs : List Vx), (vs.map Vx.p).Pairwise (fun a b => a.id < b.id) → sumV f es vs = (es.filter fun e => idsOf (vs.map Vx.p) (f e.p)).length
  | [], _ => by
    have : (es.filter fun e => idsOf (([] : List Vx).map Vx.p) (f e.p)) = [] := List.filter_eq_nil_iff.2 fun e _ => by simp [idsOf]
    rw [this]
    rfl
  | v :: r, h => by
    rw [List.map_cons, List.pairwise_cons] at h
    rw [sumV, sumV_eq f es r h.2, two_filters]
    · congr 1
      refine List.filter_congr fun e _ => ?_
      simp only [idsOf, List.map_cons, List.any_cons, Vx.p]
      congr 1
      by_cases hx : f e.p = v.id
      · simp [hx]
      · simp [hx, Ne.symm hx]
    · intro e he
      have he := of_decide_eq_true he
      simp only [idsOf]
      rw [List.any_eq_false]
      intro w hw
      have := h.1 w hw
      simp only [Vx.p] at this
      simp only [beq_iff_eq]
      omega
theorem outsOf_nil (g : Gr) (id : Int) : (outsOf g id []).length = (g.es.filter fun e => decide (e.p.out = id)).length := by
  unfold outsOf
  rw [List.length_map]
  congr 1
  exact List.filter_congr fun e _ => by simp only [outB, atB, labB_nil, Bool.and_true]
theorem insOf_nil (g : Gr) (id : Int) : (insOf g id []).length = (g.es.filter fun e => decide (e.p.inn = id)).length := by
  unfold insOf
  rw [List.length_map]
  congr 1
  exact List.filter_congr fun e _ => by simp only [inB, atB, labB_nil, Bool.and_true]
theorem cnt_sum (g : Gr) : ∀ vs : List Vx, cnt g vs = sumV PLk.out g.es vs + sumV PLk.inn g.es vs
  | [] => rfl
  | v :: r => by
    simp only [cnt, sumV, cnt_sum g r, outsOf_nil, insOf_nil]
    omega
theorem both_plain (g : Gr) (h : okG g.p = true) : cnt g g.vs = 2 * g.es.length := by
  unfold okG at h
  simp only [Bool.and_eq_true, Bool.not_eq_true'] at h
  obtain ⟨_, hv, he⟩ := h
  have h1 := (badVs_false hv).2
  have h2 := badEs_false he
  simp only [Gr.p] at h1 h2
  have all : ∀ f : PLk → Int, (∀ e ∈ g.es, idsOf (g.vs.map Vx.p) (f e.p) = true) → sumV f g.es g.vs = g.es.length := fun f hf => by
    rw [sumV_eq f g.es g.vs h1, List.filter_eq_self.2 hf]
  have ho := all PLk.out fun e he => (h2 e.p (List.mem_map.2 ⟨e, he, rfl⟩)).1
  have hi := all PLk.inn fun e he => (h2 e.p (List.mem_map.2 ⟨e, he, rfl⟩)).2
  rw [cnt_sum, ho, hi]
  omega
theorem graphBoth_true (g : Gr) (hg : g.ok) : acall S 3 [.agg g.c] = some (.b true, []) := e3 g hg fun h _ _ => both_plain g h
end Go.Proofs.YtgeaibhgaihobaaDoor
