import Derived.Test.YtogjoenpliphdaaF25
import Derived.Test.YtogjoenpliphdaaF19
import Derived.Test.YtogjoenpliphdaaF10
set_option linter.unusedSimpArgs false
set_option linter.unusedVariables false
set_option maxHeartbeats 8000000
set_option maxRecDepth 100000
namespace Go.Proofs.Ytogjoenpliphdaa
open Go.Abs

theorem few_of {n : Nd} (h : CellsP n.p) : Few n := h.cells.f
theorem splitP_ok {p : PN} (h : CellsP p) : CellsP (splitP p).1 ∧ CellsP (splitP p).2.2 := by
  unfold splitP
  split
  · exact ⟨h, ⟨by simp [emptyP], by simp [emptyP], by simp [emptyP], by simp [emptyP], by simp [emptyP]⟩⟩
  · exact ⟨h.partA _, h.partB _⟩
theorem e17 (n : Nd) : acall S 17 [n.v] = some (.b (decide ((n.cells.length : Int) ≤ 300) && decide ((n.keys.length : Int) ≤ 300)), []) := by
  refine W_eq (g17 rfl ?_)
  cases h1 : decide ((n.cells.length : Int) ≤ 300) with
  | true => (simp only [go_sem, Nat.add_assoc, reduceIte, reduceCtorEq, Nat.reduceEqDiff, Nat.reduceAdd, Nat.reduceMul, Nat.reduceSub, Nat.reduceLeDiff, Nat.reduceLT, Nat.reduceBEq, Nat.reduceBNe, Int.reduceLE, Int.reduceLT, Int.reduceToNat, Int.reduceEq, Int.reduceNe, Int.reduceNeg, Nat.reduceEqDiff, Int.reduceAdd, Int.reduceSub, Int.reduceMul, Int.cast_ofNat_Int, Int.natCast_zero, a17, Nd.v, Nd.cs, h1]; repeat' (refine kont_next ?_ <;> (try simp only [go_sem, Nat.add_assoc, reduceIte, reduceCtorEq, Nat.reduceEqDiff, Nat.reduceAdd, Nat.reduceMul, Nat.reduceSub, Nat.reduceLeDiff, Nat.reduceLT, Nat.reduceBEq, Nat.reduceBNe, Int.reduceLE, Int.reduceLT, Int.reduceToNat, Int.reduceEq, Int.reduceNe, Int.reduceNeg, Nat.reduceEqDiff, Int.reduceAdd, Int.reduceSub, Int.reduceMul, Int.cast_ofNat_Int, Int.natCast_zero, a17, Nd.v, Nd.cs, h1])))
  | false => (simp only [go_sem, Nat.add_assoc, reduceIte, reduceCtorEq, Nat.reduceEqDiff, Nat.reduceAdd, Nat.reduceMul, Nat.reduceSub, Nat.reduceLeDiff, Nat.reduceLT, Nat.reduceBEq, Nat.reduceBNe, Int.reduceLE, Int.reduceLT, Int.reduceToNat, Int.reduceEq, Int.reduceNe, Int.reduceNeg, Nat.reduceEqDiff, Int.reduceAdd, Int.reduceSub, Int.reduceMul, Int.cast_ofNat_Int, Int.natCast_zero, a17, Nd.v, Nd.cs, h1]; repeat' (refine kont_next ?_ <;> (try simp only [go_sem, Nat.add_assoc, reduceIte, reduceCtorEq, Nat.reduceEqDiff, Nat.reduceAdd, Nat.reduceMul, Nat.reduceSub, Nat.reduceLeDiff, Nat.reduceLT, Nat.reduceBEq, Nat.reduceBNe, Int.reduceLE, Int.reduceLT, Int.reduceToNat, Int.reduceEq, Int.reduceNe, Int.reduceNeg, Nat.reduceEqDiff, Int.reduceAdd, Int.reduceSub, Int.reduceMul, Int.cast_ofNat_Int, Int.natCast_zero, a17, Nd.v, Nd.cs, h1])))
theorem e4 (n : Nd) (hC : CellsP n.p) (hl : (formB n).length + 200 ≤ LIM) : acall S 4 [n.v] = some (.b true, []) := by
  have h11 := e11
  have h17 := e17 n
  obtain ⟨a, b, y, ex, ha, hy, hb⟩ := e18 n hC hl
  obtain ⟨c, d, z, ey, hc, hz, hd⟩ := e19 n hC hl
  obtain ⟨s1, s2⟩ := splitP_ok hC
  have q1 := e20 a c (few_of (by rw [ha]; exact s1)) (few_of (by rw [hc]; exact s1))
  have q2 := e20 b d (few_of (by rw [hb]; exact s2)) (few_of (by rw [hd]; exact s2))
  rw [decide_eq_true (ha.trans hc.symm)] at q1
  rw [decide_eq_true (hb.trans hd.symm)] at q2
  have q3 := e16 y.ok z.ok
  rw [decide_eq_true (hy.trans hz.symm)] at q3
  simp only [Nd.v, Nd.cs, By.v] at h17 ex ey q1 q2 q3
  refine W_eq (g4 rfl ?_)
  cases hf : (decide ((n.cells.length : Int) ≤ 300) && decide ((n.keys.length : Int) ≤ 300)) with
  | false =>
    rw [hf] at h17
    (simp only [go_sem, Nat.add_assoc, reduceIte, reduceCtorEq, Nat.reduceEqDiff, Nat.reduceAdd, Nat.reduceMul, Nat.reduceSub, Nat.reduceLeDiff, Nat.reduceLT, Nat.reduceBEq, Nat.reduceBNe, Int.reduceLE, Int.reduceLT, Int.reduceToNat, Int.reduceEq, Int.reduceNe, Int.reduceNeg, Nat.reduceEqDiff, Int.reduceAdd, Int.reduceSub, Int.reduceMul, Int.cast_ofNat_Int, Int.natCast_zero, a4, Nd.v, Nd.cs, s17, h17]; repeat' (refine kont_next ?_ <;> (try simp only [go_sem, Nat.add_assoc, reduceIte, reduceCtorEq, Nat.reduceEqDiff, Nat.reduceAdd, Nat.reduceMul, Nat.reduceSub, Nat.reduceLeDiff, Nat.reduceLT, Nat.reduceBEq, Nat.reduceBNe, Int.reduceLE, Int.reduceLT, Int.reduceToNat, Int.reduceEq, Int.reduceNe, Int.reduceNeg, Nat.reduceEqDiff, Int.reduceAdd, Int.reduceSub, Int.reduceMul, Int.cast_ofNat_Int, Int.natCast_zero, a4, Nd.v, Nd.cs, s17, h17])))
  | true =>
    rw [hf] at h17
    (simp only [go_sem, Nat.add_assoc, reduceIte, reduceCtorEq, Nat.reduceEqDiff, Nat.reduceAdd, Nat.reduceMul, Nat.reduceSub, Nat.reduceLeDiff, Nat.reduceLT, Nat.reduceBEq, Nat.reduceBNe, Int.reduceLE, Int.reduceLT, Int.reduceToNat, Int.reduceEq, Int.reduceNe, Int.reduceNeg, Nat.reduceEqDiff, Int.reduceAdd, Int.reduceSub, Int.reduceMul, Int.cast_ofNat_Int, Int.natCast_zero, a4, Nd.v, Nd.cs, s17, h17, s18, ex, s19, ey, s11, h11, s20, q1, s16, q3, q2]; repeat' (refine kont_next ?_ <;> (try simp only [go_sem, Nat.add_assoc, reduceIte, reduceCtorEq, Nat.reduceEqDiff, Nat.reduceAdd, Nat.reduceMul, Nat.reduceSub, Nat.reduceLeDiff, Nat.reduceLT, Nat.reduceBEq, Nat.reduceBNe, Int.reduceLE, Int.reduceLT, Int.reduceToNat, Int.reduceEq, Int.reduceNe, Int.reduceNeg, Nat.reduceEqDiff, Int.reduceAdd, Int.reduceSub, Int.reduceMul, Int.cast_ofNat_Int, Int.natCast_zero, a4, Nd.v, Nd.cs, s17, h17, s18, ex, s19, ey, s11, h11, s20, q1, s16, q3, q2])))
end Go.Proofs.Ytogjoenpliphdaa
