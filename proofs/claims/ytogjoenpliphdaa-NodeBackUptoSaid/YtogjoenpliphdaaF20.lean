import Derived.Test.YtogjoenpliphdaaF18
import Derived.Test.YtogjoenpliphdaaF19
import Derived.Test.YtogjoenpliphdaaF10
set_option linter.unusedSimpArgs false
set_option linter.unusedVariables false
set_option maxHeartbeats 8000000
set_option maxRecDepth 100000
namespace Go.Proofs.Ytogjoenpliphdaa
open Go.Abs

theorem few_p {n : Nd} (h1 : n.p.cells.length < 137438953472) (h2 : n.p.keys.length < 137438953472) (h3 : n.p.kids.length < 137438953472) : Few n := by
  simp only [Nd.p, List.length_map] at h1 h2 h3
  exact ⟨h1, h2, h3⟩
theorem raw_few (l : List UInt8) : (rawP l).1.cells.length ≤ 448 ∧ (rawP l).1.keys.length ≤ 448 ∧ (rawP l).1.kids.length ≤ 449 := by
  have h0 := num_le 448 (flagP (l, false)).2
  have h1 := many_len cellP (numP 448 (flagP (l, false)).2).1 (numP 448 (flagP (l, false)).2).2
  have h2 := many_len bytesP (numP 448 (flagP (l, false)).2).1 (numP 448 (flagP (l, false)).2).2
  have h3 := many_len (numP 2048) ((numP 448 (flagP (l, false)).2).1 + 1) (manyP bytesP (numP 448 (flagP (l, false)).2).1 (numP 448 (flagP (l, false)).2).2).2
  unfold rawP
  split
  · exact ⟨Nat.le_trans h1 h0, by simp, by simp⟩
  · split
    · exact ⟨by simp, Nat.le_trans h2 h0, by simp only [List.length_map]; omega⟩
    · simp [emptyP]
theorem parse_few {l : List UInt8} {n : Nd} (h : n.p = (parseP l).1) : Few n := by
  obtain ⟨h1, h2, h3⟩ := raw_few l
  have : (parseP l).1 = emptyP ∨ (parseP l).1 = (rawP l).1 := by unfold parseP; split; exact .inl rfl; exact .inr rfl
  apply few_p <;> rw [h] <;> rcases this with e | e <;> rw [e] <;> first | (simp [emptyP]; done) | omega

theorem e5 {k : SK} {z : Nat} {l : List UInt8} (h : OkS k z 1 l) (hl : l.length ≤ LIM) : acall S 5 [.sl k z (ofU8s l)] = some (.b true, []) := by
  obtain ⟨x, ex, hx⟩ := e21 h hl
  obtain ⟨y, ey, hy⟩ := e22 h hl
  have hs := e20 x y (parse_few hx) (parse_few hy)
  rw [decide_eq_true (hx.trans hy.symm)] at hs
  have h11 := e11
  simp only [Nd.v, Nd.cs] at ex ey hs
  refine W_eq (g5 rfl ?_)
  (simp only [go_sem, Nat.add_assoc, reduceIte, reduceCtorEq, Nat.reduceEqDiff, Nat.reduceAdd, Nat.reduceMul, Nat.reduceSub, Nat.reduceLeDiff, Nat.reduceLT, Nat.reduceBEq, Nat.reduceBNe, Int.reduceLE, Int.reduceLT, Int.reduceToNat, Int.reduceEq, Int.reduceNe, Int.reduceNeg, Nat.reduceEqDiff, Int.reduceAdd, Int.reduceSub, Int.reduceMul, Int.cast_ofNat_Int, Int.natCast_zero, a5, s21, s22, s20, s11, ex, ey, hs, h11]; repeat' (refine kont_next ?_ <;> (try simp only [go_sem, Nat.add_assoc, reduceIte, reduceCtorEq, Nat.reduceEqDiff, Nat.reduceAdd, Nat.reduceMul, Nat.reduceSub, Nat.reduceLeDiff, Nat.reduceLT, Nat.reduceBEq, Nat.reduceBNe, Int.reduceLE, Int.reduceLT, Int.reduceToNat, Int.reduceEq, Int.reduceNe, Int.reduceNeg, Nat.reduceEqDiff, Int.reduceAdd, Int.reduceSub, Int.reduceMul, Int.cast_ofNat_Int, Int.natCast_zero, a5, s21, s22, s20, s11, ex, ey, hs, h11])))
end Go.Proofs.Ytogjoenpliphdaa
