/-
  Readings of bags: as they lie.
-/
import Derived.Test.YtabbjdclfmeipaaT0
import Derived.Test.YtabbjdclfmeipaaB5
import Derived.Test.YtabbjdclfmeipaaRows
set_option linter.unusedSimpArgs false
set_option linter.unusedVariables false
set_option maxHeartbeats 4000000
namespace Go.Proofs.Ytabbjdclfmeipaa
open Go.Abs

theorem wC : Try.prog.cellsOf 67 = 5 := by kernel_rfl
def tys : List TypeId := [2, 3, 5, 9, 32, 34, 22, 67]
theorem fine : fineL Try.prog tys = true := by kernel_rfl
theorem countc_pos (x : Vl × Int) : 0 < bulkAs (cC x) := by
  obtain ⟨⟨k, n, s, sk, z, l⟩, m⟩ := x
  simp only [cC, bulkAs, bulkA]; omega
theorem ty_count {m : Nat} {cs : List AV} (h : Ty Try.prog m 67 cs) (hb : bulkAs cs ≤ 1048576) : ∃ x : Vl × Int, cs = cC x ∧ x.1.ok := by
  obtain ⟨hl, n, rfl, hf⟩ := h.struct Try.underlying67
  simp only [wC] at hl
  obtain ⟨a, b, c, d, e, rfl⟩ := list5 hl
  simp only [List.forall_mem_cons, List.not_mem_nil, false_implies, implies_true, and_true] at hf
  obtain ⟨h1, h2⟩ := hf
  simp only [w2, wV, List.drop_zero, List.drop_succ_cons, List.take_succ_cons, List.take_zero] at h1 h2
  obtain ⟨i, h2, _⟩ := h2.int Try.underlying2
  have h2 := (List.cons.inj h2).1
  subst h2
  simp only [bulkAs, bulkA] at hb
  obtain ⟨v, hv, ho⟩ := ty_val n [a, b, c, d] h1 (by simp only [bulkAs]; omega)
  refine ⟨(v, i), ?_, ho⟩
  rw [cC_eq, ← hv]
  rfl
theorem ty_bag {m : Nat} {cs : List AV} (h : Ty Try.prog m 22 cs) (hb : bulkAs cs ≤ 1048576) : ∃ (k : SK) (l : List (Vl × Int)), cs = [.sl k 5 (l.map cC)] ∧ OkL k 5 l := by
  obtain ⟨k, es, n, rfl, hk, hn, he⟩ := ty_slE h Try.underlying22 wC
  simp only [bulkAs, bulkA] at hb
  obtain ⟨l, rfl, hlo⟩ := exists_mapP (l := es) (f := cC) (Q := fun x => x.1.ok) (fun x hx => ty_count (he x hx) (by have := bulkEs_memV hx; omega))
  have hlen := bulkEs_len countc_pos l
  exact ⟨k, l, rfl, ⟨.inl rfl, fun h => by simpa using hk h⟩, by omega, hlo⟩
end Go.Proofs.Ytabbjdclfmeipaa
