import Derived.Test.YtogjoenpliphdaaF8
set_option linter.unusedSimpArgs false
set_option linter.unusedVariables false
set_option maxHeartbeats 8000000
namespace Go.Proofs.Ytogjoenpliphdaa
open Go.Abs

open Classical in
/-- what Bytes tells -/
noncomputable def bytesT (n : Nd) : List AV := if BadN n then [.sl .nil 0 [], .i .i64 80] else if (formB n).length > 448 then [.sl .nil 0 [], .i .i64 3] else [.sl .open_ 1 (ofU8s (formB n)), .i .i64 0]

theorem e9 (n : Nd) (hf : Few n) (hl : (formB n).length + 100 ≤ LIM) : acall S 9 [n.v] = some (.tup (bytesT n), []) := by
  have e1 := e12 n hf
  have e2 := e30 n hl
  refine W_eq (g9 rfl ?_)
  unfold bytesT
  by_cases hb : BadN n
  · rw [if_pos hb]
    rw [check_bad hb] at e1
    simp only [Nd.v, Nd.cs] at e1 e2 ⊢
    simp only [go_sem, Nat.add_assoc, reduceIte, reduceCtorEq, Nat.reduceEqDiff, Nat.reduceAdd, Nat.reduceMul, Nat.reduceSub, Nat.reduceLeDiff, Nat.reduceLT, Nat.reduceBEq, Nat.reduceBNe, Int.reduceLE, Int.reduceLT, Int.reduceToNat, Int.reduceEq, Int.reduceNe, Int.reduceNeg, Nat.reduceEqDiff, a9, s12, s30, e1, e2]; repeat' (first | (first | refine kway_sp (fun hh => ?_) (fun hh => ?_) | refine kgdn_sp (fun hh => ?_) (fun hh => ?_) | refine kgd_sp (fun hh => ?_) (fun hh => ?_) | refine kgddn_sp (fun hh => ?_) (fun hh => ?_) | refine kgdd_sp (fun hh => ?_) (fun hh => ?_) | refine kop_way (fun hh => ?_) (fun hh => ?_) | refine kop_bway (fun hh => ?_) (fun hh => ?_) | refine kopd_way (fun hh => ?_) (fun hh => ?_) | refine kopd_bway (fun hh => ?_) (fun hh => ?_)) <;> (try simp only [go_sem, Nat.add_assoc, reduceIte, reduceCtorEq, Nat.reduceEqDiff, Nat.reduceAdd, Nat.reduceMul, Nat.reduceSub, Nat.reduceLeDiff, Nat.reduceLT, Nat.reduceBEq, Nat.reduceBNe, Int.reduceLE, Int.reduceLT, Int.reduceToNat, Int.reduceEq, Int.reduceNe, Int.reduceNeg, Nat.reduceEqDiff, a9, s12, s30, e1, e2, hh]) | (first | refine kop_ask (by omega) ?_ | refine kopd_ask (by omega) ?_ | refine kans_ask (by omega) ?_ | refine kpack_ask (by omega) ?_ | refine kpk_ask (by omega) ?_ | refine kont_next ?_) <;> (try simp only [go_sem, Nat.add_assoc, reduceIte, reduceCtorEq, Nat.reduceEqDiff, Nat.reduceAdd, Nat.reduceMul, Nat.reduceSub, Nat.reduceLeDiff, Nat.reduceLT, Nat.reduceBEq, Nat.reduceBNe, Int.reduceLE, Int.reduceLT, Int.reduceToNat, Int.reduceEq, Int.reduceNe, Int.reduceNeg, Nat.reduceEqDiff, a9, s12, s30, e1, e2]) | (show @Eq Nat _ _; omega) | (show @LE.le Nat _ _ _; omega))
  · rw [if_neg hb]
    rw [check_ok hb] at e1
    by_cases hL : (formB n).length > 448
    · rw [if_pos hL]
      have h1 : decide ((448 : Int) < ((formB n).length : Int)) = true := decide_eq_true (by omega)
      simp only [Nd.v, Nd.cs] at e1 e2 ⊢
      simp only [go_sem, Nat.add_assoc, reduceIte, reduceCtorEq, Nat.reduceEqDiff, Nat.reduceAdd, Nat.reduceMul, Nat.reduceSub, Nat.reduceLeDiff, Nat.reduceLT, Nat.reduceBEq, Nat.reduceBNe, Int.reduceLE, Int.reduceLT, Int.reduceToNat, Int.reduceEq, Int.reduceNe, Int.reduceNeg, Nat.reduceEqDiff, a9, s12, s30, e1, e2, h1]; repeat' (first | (first | refine kway_sp (fun hh => ?_) (fun hh => ?_) | refine kgdn_sp (fun hh => ?_) (fun hh => ?_) | refine kgd_sp (fun hh => ?_) (fun hh => ?_) | refine kgddn_sp (fun hh => ?_) (fun hh => ?_) | refine kgdd_sp (fun hh => ?_) (fun hh => ?_) | refine kop_way (fun hh => ?_) (fun hh => ?_) | refine kop_bway (fun hh => ?_) (fun hh => ?_) | refine kopd_way (fun hh => ?_) (fun hh => ?_) | refine kopd_bway (fun hh => ?_) (fun hh => ?_)) <;> (try simp only [go_sem, Nat.add_assoc, reduceIte, reduceCtorEq, Nat.reduceEqDiff, Nat.reduceAdd, Nat.reduceMul, Nat.reduceSub, Nat.reduceLeDiff, Nat.reduceLT, Nat.reduceBEq, Nat.reduceBNe, Int.reduceLE, Int.reduceLT, Int.reduceToNat, Int.reduceEq, Int.reduceNe, Int.reduceNeg, Nat.reduceEqDiff, a9, s12, s30, e1, e2, h1, hh]) | (first | refine kop_ask (by omega) ?_ | refine kopd_ask (by omega) ?_ | refine kans_ask (by omega) ?_ | refine kpack_ask (by omega) ?_ | refine kpk_ask (by omega) ?_ | refine kont_next ?_) <;> (try simp only [go_sem, Nat.add_assoc, reduceIte, reduceCtorEq, Nat.reduceEqDiff, Nat.reduceAdd, Nat.reduceMul, Nat.reduceSub, Nat.reduceLeDiff, Nat.reduceLT, Nat.reduceBEq, Nat.reduceBNe, Int.reduceLE, Int.reduceLT, Int.reduceToNat, Int.reduceEq, Int.reduceNe, Int.reduceNeg, Nat.reduceEqDiff, a9, s12, s30, e1, e2, h1]) | (show @Eq Nat _ _; omega) | (show @LE.le Nat _ _ _; omega))
    · rw [if_neg hL]
      have h1 : decide ((448 : Int) < ((formB n).length : Int)) = false := decide_eq_false (by omega)
      simp only [Nd.v, Nd.cs] at e1 e2 ⊢
      simp only [go_sem, Nat.add_assoc, reduceIte, reduceCtorEq, Nat.reduceEqDiff, Nat.reduceAdd, Nat.reduceMul, Nat.reduceSub, Nat.reduceLeDiff, Nat.reduceLT, Nat.reduceBEq, Nat.reduceBNe, Int.reduceLE, Int.reduceLT, Int.reduceToNat, Int.reduceEq, Int.reduceNe, Int.reduceNeg, Nat.reduceEqDiff, a9, s12, s30, e1, e2, h1]; repeat' (first | (first | refine kway_sp (fun hh => ?_) (fun hh => ?_) | refine kgdn_sp (fun hh => ?_) (fun hh => ?_) | refine kgd_sp (fun hh => ?_) (fun hh => ?_) | refine kgddn_sp (fun hh => ?_) (fun hh => ?_) | refine kgdd_sp (fun hh => ?_) (fun hh => ?_) | refine kop_way (fun hh => ?_) (fun hh => ?_) | refine kop_bway (fun hh => ?_) (fun hh => ?_) | refine kopd_way (fun hh => ?_) (fun hh => ?_) | refine kopd_bway (fun hh => ?_) (fun hh => ?_)) <;> (try simp only [go_sem, Nat.add_assoc, reduceIte, reduceCtorEq, Nat.reduceEqDiff, Nat.reduceAdd, Nat.reduceMul, Nat.reduceSub, Nat.reduceLeDiff, Nat.reduceLT, Nat.reduceBEq, Nat.reduceBNe, Int.reduceLE, Int.reduceLT, Int.reduceToNat, Int.reduceEq, Int.reduceNe, Int.reduceNeg, Nat.reduceEqDiff, a9, s12, s30, e1, e2, h1, hh]) | (first | refine kop_ask (by omega) ?_ | refine kopd_ask (by omega) ?_ | refine kans_ask (by omega) ?_ | refine kpack_ask (by omega) ?_ | refine kpk_ask (by omega) ?_ | refine kont_next ?_) <;> (try simp only [go_sem, Nat.add_assoc, reduceIte, reduceCtorEq, Nat.reduceEqDiff, Nat.reduceAdd, Nat.reduceMul, Nat.reduceSub, Nat.reduceLeDiff, Nat.reduceLT, Nat.reduceBEq, Nat.reduceBNe, Int.reduceLE, Int.reduceLT, Int.reduceToNat, Int.reduceEq, Int.reduceNe, Int.reduceNeg, Nat.reduceEqDiff, a9, s12, s30, e1, e2, h1]) | (show @Eq Nat _ _; omega) | (show @LE.le Nat _ _ _; omega))
theorem e10 (n : Nd) (hf : Few n) (hl : (formB n).length + 100 ≤ LIM) : acall S 10 [n.v] = some (.tup (bytesT n), []) := by
  have e1 := e13 n hf
  have e2 := e31 n hl
  have e3 := e15 n hl
  refine W_eq (g10 rfl ?_)
  unfold bytesT
  by_cases hb : BadN n
  · rw [if_pos hb]
    rw [check_bad hb] at e1
    simp only [Nd.v, Nd.cs] at e1 e2 e3 ⊢
    simp only [go_sem, Nat.add_assoc, reduceIte, reduceCtorEq, Nat.reduceEqDiff, Nat.reduceAdd, Nat.reduceMul, Nat.reduceSub, Nat.reduceLeDiff, Nat.reduceLT, Nat.reduceBEq, Nat.reduceBNe, Int.reduceLE, Int.reduceLT, Int.reduceToNat, Int.reduceEq, Int.reduceNe, Int.reduceNeg, Nat.reduceEqDiff, a10, s13, s31, s15, e1, e2, e3]; repeat' (first | (first | refine kway_sp (fun hh => ?_) (fun hh => ?_) | refine kgdn_sp (fun hh => ?_) (fun hh => ?_) | refine kgd_sp (fun hh => ?_) (fun hh => ?_) | refine kgddn_sp (fun hh => ?_) (fun hh => ?_) | refine kgdd_sp (fun hh => ?_) (fun hh => ?_) | refine kop_way (fun hh => ?_) (fun hh => ?_) | refine kop_bway (fun hh => ?_) (fun hh => ?_) | refine kopd_way (fun hh => ?_) (fun hh => ?_) | refine kopd_bway (fun hh => ?_) (fun hh => ?_)) <;> (try simp only [go_sem, Nat.add_assoc, reduceIte, reduceCtorEq, Nat.reduceEqDiff, Nat.reduceAdd, Nat.reduceMul, Nat.reduceSub, Nat.reduceLeDiff, Nat.reduceLT, Nat.reduceBEq, Nat.reduceBNe, Int.reduceLE, Int.reduceLT, Int.reduceToNat, Int.reduceEq, Int.reduceNe, Int.reduceNeg, Nat.reduceEqDiff, a10, s13, s31, s15, e1, e2, e3, hh]) | (first | refine kop_ask (by omega) ?_ | refine kopd_ask (by omega) ?_ | refine kans_ask (by omega) ?_ | refine kpack_ask (by omega) ?_ | refine kpk_ask (by omega) ?_ | refine kont_next ?_) <;> (try simp only [go_sem, Nat.add_assoc, reduceIte, reduceCtorEq, Nat.reduceEqDiff, Nat.reduceAdd, Nat.reduceMul, Nat.reduceSub, Nat.reduceLeDiff, Nat.reduceLT, Nat.reduceBEq, Nat.reduceBNe, Int.reduceLE, Int.reduceLT, Int.reduceToNat, Int.reduceEq, Int.reduceNe, Int.reduceNeg, Nat.reduceEqDiff, a10, s13, s31, s15, e1, e2, e3]) | (show @Eq Nat _ _; omega) | (show @LE.le Nat _ _ _; omega))
  · rw [if_neg hb]
    rw [check_ok hb] at e1
    by_cases hL : (formB n).length > 448
    · rw [if_pos hL]
      have h1 : decide ((448 : Int) < ((formB n).length : Int)) = true := decide_eq_true (by omega)
      simp only [Nd.v, Nd.cs] at e1 e2 e3 ⊢
      simp only [go_sem, Nat.add_assoc, reduceIte, reduceCtorEq, Nat.reduceEqDiff, Nat.reduceAdd, Nat.reduceMul, Nat.reduceSub, Nat.reduceLeDiff, Nat.reduceLT, Nat.reduceBEq, Nat.reduceBNe, Int.reduceLE, Int.reduceLT, Int.reduceToNat, Int.reduceEq, Int.reduceNe, Int.reduceNeg, Nat.reduceEqDiff, a10, s13, s31, s15, e1, e2, e3, h1]; repeat' (first | (first | refine kway_sp (fun hh => ?_) (fun hh => ?_) | refine kgdn_sp (fun hh => ?_) (fun hh => ?_) | refine kgd_sp (fun hh => ?_) (fun hh => ?_) | refine kgddn_sp (fun hh => ?_) (fun hh => ?_) | refine kgdd_sp (fun hh => ?_) (fun hh => ?_) | refine kop_way (fun hh => ?_) (fun hh => ?_) | refine kop_bway (fun hh => ?_) (fun hh => ?_) | refine kopd_way (fun hh => ?_) (fun hh => ?_) | refine kopd_bway (fun hh => ?_) (fun hh => ?_)) <;> (try simp only [go_sem, Nat.add_assoc, reduceIte, reduceCtorEq, Nat.reduceEqDiff, Nat.reduceAdd, Nat.reduceMul, Nat.reduceSub, Nat.reduceLeDiff, Nat.reduceLT, Nat.reduceBEq, Nat.reduceBNe, Int.reduceLE, Int.reduceLT, Int.reduceToNat, Int.reduceEq, Int.reduceNe, Int.reduceNeg, Nat.reduceEqDiff, a10, s13, s31, s15, e1, e2, e3, h1, hh]) | (first | refine kop_ask (by omega) ?_ | refine kopd_ask (by omega) ?_ | refine kans_ask (by omega) ?_ | refine kpack_ask (by omega) ?_ | refine kpk_ask (by omega) ?_ | refine kont_next ?_) <;> (try simp only [go_sem, Nat.add_assoc, reduceIte, reduceCtorEq, Nat.reduceEqDiff, Nat.reduceAdd, Nat.reduceMul, Nat.reduceSub, Nat.reduceLeDiff, Nat.reduceLT, Nat.reduceBEq, Nat.reduceBNe, Int.reduceLE, Int.reduceLT, Int.reduceToNat, Int.reduceEq, Int.reduceNe, Int.reduceNeg, Nat.reduceEqDiff, a10, s13, s31, s15, e1, e2, e3, h1]) | (show @Eq Nat _ _; omega) | (show @LE.le Nat _ _ _; omega))
    · rw [if_neg hL]
      have h1 : decide ((448 : Int) < ((formB n).length : Int)) = false := decide_eq_false (by omega)
      simp only [Nd.v, Nd.cs] at e1 e2 e3 ⊢
      simp only [go_sem, Nat.add_assoc, reduceIte, reduceCtorEq, Nat.reduceEqDiff, Nat.reduceAdd, Nat.reduceMul, Nat.reduceSub, Nat.reduceLeDiff, Nat.reduceLT, Nat.reduceBEq, Nat.reduceBNe, Int.reduceLE, Int.reduceLT, Int.reduceToNat, Int.reduceEq, Int.reduceNe, Int.reduceNeg, Nat.reduceEqDiff, a10, s13, s31, s15, e1, e2, e3, h1]; repeat' (first | (first | refine kway_sp (fun hh => ?_) (fun hh => ?_) | refine kgdn_sp (fun hh => ?_) (fun hh => ?_) | refine kgd_sp (fun hh => ?_) (fun hh => ?_) | refine kgddn_sp (fun hh => ?_) (fun hh => ?_) | refine kgdd_sp (fun hh => ?_) (fun hh => ?_) | refine kop_way (fun hh => ?_) (fun hh => ?_) | refine kop_bway (fun hh => ?_) (fun hh => ?_) | refine kopd_way (fun hh => ?_) (fun hh => ?_) | refine kopd_bway (fun hh => ?_) (fun hh => ?_)) <;> (try simp only [go_sem, Nat.add_assoc, reduceIte, reduceCtorEq, Nat.reduceEqDiff, Nat.reduceAdd, Nat.reduceMul, Nat.reduceSub, Nat.reduceLeDiff, Nat.reduceLT, Nat.reduceBEq, Nat.reduceBNe, Int.reduceLE, Int.reduceLT, Int.reduceToNat, Int.reduceEq, Int.reduceNe, Int.reduceNeg, Nat.reduceEqDiff, a10, s13, s31, s15, e1, e2, e3, h1, hh]) | (first | refine kop_ask (by omega) ?_ | refine kopd_ask (by omega) ?_ | refine kans_ask (by omega) ?_ | refine kpack_ask (by omega) ?_ | refine kpk_ask (by omega) ?_ | refine kont_next ?_) <;> (try simp only [go_sem, Nat.add_assoc, reduceIte, reduceCtorEq, Nat.reduceEqDiff, Nat.reduceAdd, Nat.reduceMul, Nat.reduceSub, Nat.reduceLeDiff, Nat.reduceLT, Nat.reduceBEq, Nat.reduceBNe, Int.reduceLE, Int.reduceLT, Int.reduceToNat, Int.reduceEq, Int.reduceNe, Int.reduceNeg, Nat.reduceEqDiff, a10, s13, s31, s15, e1, e2, e3, h1]) | (show @Eq Nat _ _; omega) | (show @LE.le Nat _ _ _; omega))

/-! ### the two nodes of begun -/
def by1 (c : UInt8) : By := ⟨.open_, 1, [c], OkS.open_ 1 _⟩
def nd1 : Nd := ⟨true, .open_, 4, [⟨by1 97, by1 7, 0, 0⟩], OkS.open_ 4 _, .nil, 0, [], ⟨.inr rfl, fun _ => rfl⟩, .nil, 0, [], ⟨.inr rfl, fun _ => rfl⟩⟩
def nd2 : Nd := ⟨false, .nil, 0, [], ⟨.inr rfl, fun _ => rfl⟩, .open_, 1, [by1 109], OkS.open_ 1 _, .open_, 1, [3, 4], OkS.open_ 1 _⟩
theorem form1 : formB nd1 = [1, 1, 1, 97, 0, 1, 7] := by
  have l1 : leb 1 = [1] := leb_small (by decide)
  simp [formB, nd1, cellB, by1, fb, l1]
theorem form2 : formB nd2 = [2, 1, 1, 109, 3, 4] := by
  have l1 : leb 1 = [1] := leb_small (by decide)
  have l3 : leb 3 = [3] := leb_small (by decide)
  have l4 : leb 4 = [4] := leb_small (by decide)
  have u3 : u64 3 = 3 := rfl
  have u4 : u64 4 = 4 := rfl
  simp [formB, nd2, by1, fb, l1, l3, l4, u3, u4]
theorem badKeys_one {l : List UInt8} (h : badKeyB l = false) : ¬ BadKeys [l] := by
  rintro ⟨i, b, hb, h1⟩
  cases i with
  | succ i => simp at hb
  | zero =>
    simp at hb
    subst hb
    rcases h1 with h1 | ⟨j, a, h1, _⟩
    · rw [h] at h1; cases h1
    · omega
theorem nd1_ok : ¬ BadN nd1 := by
  rintro (⟨_, h | h | h⟩ | ⟨h, _⟩)
  · simp [nd1] at h
  · simp [nd1, by1, badCellB, badKeyB] at h
  · exact badKeys_one (l := [97]) rfl h
  · cases h
theorem nd2_ok : ¬ BadN nd2 := by
  rintro (⟨h, _⟩ | ⟨_, h | h | h | h⟩)
  · cases h
  · simp [nd2] at h
  · simp [nd2] at h
  · simp [nd2, badKid] at h
  · exact badKeys_one (l := [109]) rfl h
theorem nd1_t : bytesT nd1 = [.sl .open_ 1 (ofU8s [1, 1, 1, 97, 0, 1, 7]), .i .i64 0] := by
  unfold bytesT
  rw [if_neg nd1_ok, form1, if_neg (by simp)]
theorem nd2_t : bytesT nd2 = [.sl .open_ 1 (ofU8s [2, 1, 1, 109, 3, 4]), .i .i64 0] := by
  unfold bytesT
  rw [if_neg nd2_ok, form2, if_neg (by simp)]
end Go.Proofs.Ytogjoenpliphdaa
