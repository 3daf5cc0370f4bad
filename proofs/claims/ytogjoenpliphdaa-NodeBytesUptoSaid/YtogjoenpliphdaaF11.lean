import Derived.Test.YtogjoenpliphdaaF10
set_option linter.unusedSimpArgs false
set_option linter.unusedVariables false
set_option maxHeartbeats 8000000
namespace Go.Proofs.Ytogjoenpliphdaa
open Go.Abs

theorem e3 (n : Nd) (hf : Few n) (hl : (formB n).length + 100 ≤ LIM) : acall S 3 [n.v] = some (.b true, []) := by
  have h9 := e9 n hf hl
  have h10 := e10 n hf hl
  have h12 := e12 n hf
  have h13 := e13 n hf
  have h14 := e14 n hl
  have h15 := e15 n hl
  have h11 := e11
  obtain ⟨k, z, b, e, hT, hok⟩ : ∃ k z b e, bytesT n = [.sl k z (ofU8s b), .i .i64 e] ∧ OkS k z 1 b := by
    unfold bytesT
    split
    · exact ⟨.nil, 0, [], 80, rfl, .inr rfl, fun _ => rfl⟩
    · split
      · exact ⟨.nil, 0, [], 3, rfl, .inr rfl, fun _ => rfl⟩
      · exact ⟨.open_, 1, formB n, 0, rfl, OkS.open_ 1 _⟩
  rw [hT] at h9 h10
  have h16 := e16 hok hok
  refine W_eq (g3 rfl ?_)
  simp only [Nd.v, Nd.cs] at h9 h10 h12 h13 h14 h15 ⊢
  simp only [go_sem, Nat.add_assoc, reduceIte, reduceCtorEq, Nat.reduceEqDiff, Nat.reduceAdd, Nat.reduceMul, Nat.reduceSub, Nat.reduceLeDiff, Nat.reduceLT, Nat.reduceBEq, Nat.reduceBNe, Int.reduceLE, Int.reduceLT, Int.reduceToNat, Int.reduceEq, Int.reduceNe, Int.reduceNeg, Nat.reduceEqDiff, a3, s9, s10, s11, s12, s13, s14, s15, s16, h9, h10, h11, h12, h13, h14, h15, h16]; repeat' (first | (first | refine kway_sp (fun hh => ?_) (fun hh => ?_) | refine kgdn_sp (fun hh => ?_) (fun hh => ?_) | refine kgd_sp (fun hh => ?_) (fun hh => ?_) | refine kgddn_sp (fun hh => ?_) (fun hh => ?_) | refine kgdd_sp (fun hh => ?_) (fun hh => ?_) | refine kop_way (fun hh => ?_) (fun hh => ?_) | refine kop_bway (fun hh => ?_) (fun hh => ?_) | refine kopd_way (fun hh => ?_) (fun hh => ?_) | refine kopd_bway (fun hh => ?_) (fun hh => ?_)) <;> (try simp only [go_sem, Nat.add_assoc, reduceIte, reduceCtorEq, Nat.reduceEqDiff, Nat.reduceAdd, Nat.reduceMul, Nat.reduceSub, Nat.reduceLeDiff, Nat.reduceLT, Nat.reduceBEq, Nat.reduceBNe, Int.reduceLE, Int.reduceLT, Int.reduceToNat, Int.reduceEq, Int.reduceNe, Int.reduceNeg, Nat.reduceEqDiff, a3, s9, s10, s11, s12, s13, s14, s15, s16, h9, h10, h11, h12, h13, h14, h15, h16, hh]) | (first | refine kop_ask (by omega) ?_ | refine kopd_ask (by omega) ?_ | refine kans_ask (by omega) ?_ | refine kpack_ask (by omega) ?_ | refine kpk_ask (by omega) ?_ | refine kont_next ?_) <;> (try simp only [go_sem, Nat.add_assoc, reduceIte, reduceCtorEq, Nat.reduceEqDiff, Nat.reduceAdd, Nat.reduceMul, Nat.reduceSub, Nat.reduceLeDiff, Nat.reduceLT, Nat.reduceBEq, Nat.reduceBNe, Int.reduceLE, Int.reduceLT, Int.reduceToNat, Int.reduceEq, Int.reduceNe, Int.reduceNeg, Nat.reduceEqDiff, a3, s9, s10, s11, s12, s13, s14, s15, s16, h9, h10, h11, h12, h13, h14, h15, h16]) | (show @Eq Nat _ _; omega) | (show @LE.le Nat _ _ _; omega))
end Go.Proofs.Ytogjoenpliphdaa
