import Derived.Test.YtogjoenpliphdaaF9
set_option linter.unusedSimpArgs false
set_option linter.unusedVariables false
set_option maxHeartbeats 8000000
namespace Go.Proofs.Ytogjoenpliphdaa
open Go.Abs

theorem e11 : acall S 11 [] = some (.b true, []) := by
  have e1 := e9 nd1 ⟨by decide, by decide, by decide⟩ (by rw [form1]; decide)
  have e2 := e9 nd2 ⟨by decide, by decide, by decide⟩ (by rw [form2]; decide)
  rw [nd1_t] at e1
  rw [nd2_t] at e2
  have e3 := e16 (l := [1, 1, 1, 97, 0, 1, 7]) (l' := [1, 1, 1, 97, 0, 1, 7]) (OkS.open_ 1 _) (OkS.open_ 1 _)
  have e4 := e16 (l := [2, 1, 1, 109, 3, 4]) (l' := [2, 1, 1, 109, 3, 4]) (OkS.open_ 1 _) (OkS.open_ 1 _)
  have e1' : acall S 9 [.agg [.b true, .sl .open_ 4 [[.sl .open_ 1 [[.i .u8 97]], .sl .open_ 1 [[.i .u8 7]], .i .i64 0, .i .i64 0]], .sl .nil 0 [], .sl .nil 0 []]] = _ := e1
  have e2' : acall S 9 [.agg [.b false, .sl .nil 0 [], .sl .open_ 1 [[.sl .open_ 1 [[.i .u8 109]]]], .sl .open_ 1 [[.i .i64 3], [.i .i64 4]]]] = _ := e2
  have e3' : acall S 16 [.sl .open_ 1 (ofU8s [1, 1, 1, 97, 0, 1, 7]), .sl .open_ 1 [[.i .u8 1], [.i .u8 1], [.i .u8 1], [.i .u8 97], [.i .u8 0], [.i .u8 1], [.i .u8 7]]] = some (.b true, []) := e3
  have e4' : acall S 16 [.sl .open_ 1 (ofU8s [2, 1, 1, 109, 3, 4]), .sl .open_ 1 [[.i .u8 2], [.i .u8 1], [.i .u8 1], [.i .u8 109], [.i .u8 3], [.i .u8 4]]] = some (.b true, []) := e4
  refine W_eq (g11 rfl ?_)
  simp only [go_sem, Nat.add_assoc, reduceIte, reduceCtorEq, Nat.reduceEqDiff, Nat.reduceAdd, Nat.reduceMul, Nat.reduceSub, Nat.reduceLeDiff, Nat.reduceLT, Nat.reduceBEq, Nat.reduceBNe, Int.reduceLE, Int.reduceLT, Int.reduceToNat, Int.reduceEq, Int.reduceNe, Int.reduceNeg, Nat.reduceEqDiff, a11, s9, s16, e1', e2', e3', e4']; repeat' (refine kont_next ?_ <;> (try simp only [go_sem, Nat.add_assoc, reduceIte, reduceCtorEq, Nat.reduceEqDiff, Nat.reduceAdd, Nat.reduceMul, Nat.reduceSub, Nat.reduceLeDiff, Nat.reduceLT, Nat.reduceBEq, Nat.reduceBNe, Int.reduceLE, Int.reduceLT, Int.reduceToNat, Int.reduceEq, Int.reduceNe, Int.reduceNeg, Nat.reduceEqDiff, a11, s9, s16, e1', e2', e3', e4']))
end Go.Proofs.Ytogjoenpliphdaa
