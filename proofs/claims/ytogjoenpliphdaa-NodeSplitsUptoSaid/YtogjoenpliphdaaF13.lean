import Derived.Test.YtogjoenpliphdaaF12
set_option linter.unusedSimpArgs false
set_option linter.unusedVariables false
set_option maxHeartbeats 4000000
namespace Go.Proofs.Ytogjoenpliphdaa
open Go.Abs

/-- the number that the first bytes are -/
def pre (l : List UInt8) : Nat → Nat
  | 0 => 0
  | i + 1 => pre l i + ((l.getD i 0).toNat % 128) * 128 ^ i
theorem pre_succ (l : List UInt8) (i : Nat) : pre l (i + 1) = pre l i + ((l.getD i 0).toNat % 128) * 128 ^ i := rfl
theorem getD_of {l : List UInt8} {i : Nat} {c : UInt8} (h : l[i]? = some c) : l.getD i 0 = c := by simp [List.getD, h]
theorem tmod128' (v : Nat) : (v : Int).tmod 128 = ((v % 128 : Nat) : Int) := by rw [Int.tmod_eq_emod_of_nonneg (by omega)]; simp

theorem e70 {k : SK} {z : Nat} {l : List UInt8} (h : OkS k z 1 l) : acall S 70 [.sl k z (ofU8s l)] = some (take3 (takeS l), []) := by
  have h1 := h.1
  refine W_eq (g70 rfl ?_)
  simp only [go_sem, Nat.add_assoc, reduceIte, reduceCtorEq, Nat.reduceEqDiff, Nat.reduceAdd, Nat.reduceMul, Nat.reduceSub, Nat.reduceLeDiff, Nat.reduceLT, Nat.reduceBEq, Nat.reduceBNe, Int.reduceLE, Int.reduceLT, Int.reduceToNat, Int.reduceEq, Int.reduceNe, Int.reduceNeg, Nat.reduceEqDiff, a70]; repeat' (refine kont_next ?_ <;> (try simp only [go_sem, Nat.add_assoc, reduceIte, reduceCtorEq, Nat.reduceEqDiff, Nat.reduceAdd, Nat.reduceMul, Nat.reduceSub, Nat.reduceLeDiff, Nat.reduceLT, Nat.reduceBEq, Nat.reduceBNe, Int.reduceLE, Int.reduceLT, Int.reduceToNat, Int.reduceEq, Int.reduceNe, Int.reduceNeg, Nat.reduceEqDiff, a70]))
  refine kloop_inv (ι := Nat) (fun i => [.sl k z (ofU8s l), .i .i64 i]) (fun i => i ≤ 10 ∧ i ≤ l.length ∧ takeG (10 - i) i (pre l i) (l.drop i) = takeS l) (fun i => 10 - i) 0 rfl ⟨by simp, by simp, rfl⟩ ?_
  rintro i ⟨hi, hil, hT⟩
  by_cases h10 : i = 10
  · subst h10
    have hT' : takeS l = (0, 0, 12) := hT.symm
    have hb' : decide (((10 : Nat) : Int) < 10) = false := by decide
    simp only [go_sem, Nat.add_assoc, reduceIte, reduceCtorEq, Nat.reduceEqDiff, Nat.reduceAdd, Nat.reduceMul, Nat.reduceSub, Nat.reduceLeDiff, Nat.reduceLT, Nat.reduceBEq, Nat.reduceBNe, Int.reduceLE, Int.reduceLT, Int.reduceToNat, Int.reduceEq, Int.reduceNe, Int.reduceNeg, Nat.reduceEqDiff, hb']; repeat' (refine kont_next ?_ <;> (try simp only [go_sem, Nat.add_assoc, reduceIte, reduceCtorEq, Nat.reduceEqDiff, Nat.reduceAdd, Nat.reduceMul, Nat.reduceSub, Nat.reduceLeDiff, Nat.reduceLT, Nat.reduceBEq, Nat.reduceBNe, Int.reduceLE, Int.reduceLT, Int.reduceToNat, Int.reduceEq, Int.reduceNe, Int.reduceNeg, Nat.reduceEqDiff, hb']))
    rw [hT']; rfl
  have hlt : i < 10 := by omega
  have hb : decide ((i : Int) < 10) = true := decide_eq_true (by omega)
  obtain ⟨m, hm⟩ : ∃ m, 10 - i = m + 1 := ⟨9 - i, by omega⟩
  rw [hm] at hT
  by_cases hl : i = l.length
  · have he : decide ((l.length : Int) ≤ (i : Int)) = true := decide_eq_true (by omega)
    have hT' : takeS l = (0, 0, 11) := by rw [← hT, hl, List.drop_length]; rfl
    simp only [go_sem, Nat.add_assoc, reduceIte, reduceCtorEq, Nat.reduceEqDiff, Nat.reduceAdd, Nat.reduceMul, Nat.reduceSub, Nat.reduceLeDiff, Nat.reduceLT, Nat.reduceBEq, Nat.reduceBNe, Int.reduceLE, Int.reduceLT, Int.reduceToNat, Int.reduceEq, Int.reduceNe, Int.reduceNeg, Nat.reduceEqDiff, hb, he]; repeat' (refine kont_next ?_ <;> (try simp only [go_sem, Nat.add_assoc, reduceIte, reduceCtorEq, Nat.reduceEqDiff, Nat.reduceAdd, Nat.reduceMul, Nat.reduceSub, Nat.reduceLeDiff, Nat.reduceLT, Nat.reduceBEq, Nat.reduceBNe, Int.reduceLE, Int.reduceLT, Int.reduceToNat, Int.reduceEq, Int.reduceNe, Int.reduceNeg, Nat.reduceEqDiff, hb, he]))
    rw [hT']; rfl
  have he : decide ((l.length : Int) ≤ (i : Int)) = false := decide_eq_false (by omega)
  obtain ⟨c, hc⟩ := get_lt (show i < l.length by omega)
  rw [drop_get hc, takeG_cons] at hT
  have hc256 := UInt8.toNat_lt c
  have hw : IntKind.i64.wrap ((i : Int) + 1) = ((i + 1 : Nat) : Int) := wrap_succ (by omega)
  by_cases h127 : c.toNat > 127
  · rw [if_pos h127] at hT
    have hg : decide ((128 : Int) ≤ (c.toNat : Int)) = true := decide_eq_true (by omega)
    simp only [go_sem, Nat.add_assoc, reduceIte, reduceCtorEq, Nat.reduceEqDiff, Nat.reduceAdd, Nat.reduceMul, Nat.reduceSub, Nat.reduceLeDiff, Nat.reduceLT, Nat.reduceBEq, Nat.reduceBNe, Int.reduceLE, Int.reduceLT, Int.reduceToNat, Int.reduceEq, Int.reduceNe, Int.reduceNeg, Nat.reduceEqDiff, hb, he, h1, hc, hg, hw]; repeat' (refine kont_next ?_ <;> (try simp only [go_sem, Nat.add_assoc, reduceIte, reduceCtorEq, Nat.reduceEqDiff, Nat.reduceAdd, Nat.reduceMul, Nat.reduceSub, Nat.reduceLeDiff, Nat.reduceLT, Nat.reduceBEq, Nat.reduceBNe, Int.reduceLE, Int.reduceLT, Int.reduceToNat, Int.reduceEq, Int.reduceNe, Int.reduceNeg, Nat.reduceEqDiff, hb, he, h1, hc, hg, hw]))
    refine ⟨i + 1, rfl, ⟨by omega, by omega, ?_⟩, by omega⟩
    rw [show 10 - (i + 1) = m by omega, pre_succ, getD_of hc]; exact hT
  · rw [if_neg h127] at hT
    have hg : decide ((128 : Int) ≤ (c.toNat : Int)) = false := decide_eq_false (by omega)
    by_cases hbad : (0 < i ∧ c.toNat = 0) ∨ (i = 9 ∧ 1 < c.toNat)
    · rw [if_pos hbad] at hT
      by_cases hz : 0 < i ∧ c.toNat = 0
      · have g1 : decide ((0 : Int) < (i : Int)) = true := decide_eq_true (by omega)
        have g2 : decide ((c.toNat : Int) = 0) = true := decide_eq_true (by omega)
        simp only [go_sem, Nat.add_assoc, reduceIte, reduceCtorEq, Nat.reduceEqDiff, Nat.reduceAdd, Nat.reduceMul, Nat.reduceSub, Nat.reduceLeDiff, Nat.reduceLT, Nat.reduceBEq, Nat.reduceBNe, Int.reduceLE, Int.reduceLT, Int.reduceToNat, Int.reduceEq, Int.reduceNe, Int.reduceNeg, Nat.reduceEqDiff, hb, he, h1, hc, hg, g1, g2]; repeat' (refine kont_next ?_ <;> (try simp only [go_sem, Nat.add_assoc, reduceIte, reduceCtorEq, Nat.reduceEqDiff, Nat.reduceAdd, Nat.reduceMul, Nat.reduceSub, Nat.reduceLeDiff, Nat.reduceLT, Nat.reduceBEq, Nat.reduceBNe, Int.reduceLE, Int.reduceLT, Int.reduceToNat, Int.reduceEq, Int.reduceNe, Int.reduceNeg, Nat.reduceEqDiff, hb, he, h1, hc, hg, g1, g2]))
        rw [← hT]; rfl
      · have g3 : decide ((i : Int) = 9) = true := decide_eq_true (by omega)
        have g4 : decide ((1 : Int) < (c.toNat : Int)) = true := decide_eq_true (by omega)
        have g1 : decide ((0 : Int) < (i : Int)) = true := decide_eq_true (by omega)
        have g2 : decide ((c.toNat : Int) = 0) = false := decide_eq_false (by omega)
        simp only [go_sem, Nat.add_assoc, reduceIte, reduceCtorEq, Nat.reduceEqDiff, Nat.reduceAdd, Nat.reduceMul, Nat.reduceSub, Nat.reduceLeDiff, Nat.reduceLT, Nat.reduceBEq, Nat.reduceBNe, Int.reduceLE, Int.reduceLT, Int.reduceToNat, Int.reduceEq, Int.reduceNe, Int.reduceNeg, Nat.reduceEqDiff, hb, he, h1, hc, hg, g1, g2, g3, g4]; repeat' (refine kont_next ?_ <;> (try simp only [go_sem, Nat.add_assoc, reduceIte, reduceCtorEq, Nat.reduceEqDiff, Nat.reduceAdd, Nat.reduceMul, Nat.reduceSub, Nat.reduceLeDiff, Nat.reduceLT, Nat.reduceBEq, Nat.reduceBNe, Int.reduceLE, Int.reduceLT, Int.reduceToNat, Int.reduceEq, Int.reduceNe, Int.reduceNeg, Nat.reduceEqDiff, hb, he, h1, hc, hg, g1, g2, g3, g4]))
        rw [← hT]; rfl
    · rw [if_neg hbad] at hT
      have hpr : pre l (i + 1) = pre l i + c.toNat * 128 ^ i := by rw [pre_succ, getD_of hc, Nat.mod_eq_of_lt (by omega)]
      have hlt64 : pre l (i + 1) < 18446744073709551616 := by
        have := takeS_lt l
        rw [← hT] at this
        rw [hpr]; exact this
      have fin : take3 (takeS l) = .tup [.i .u64 (pre l (i + 1) : Int), .i .i64 ((i + 1 : Nat) : Int), .i .i64 0] := by rw [← hT, hpr]; rfl
      have inner : ∀ (P : AExit → St → Prop) (ks : List KF), (∀ hp, kont cx ks P (.exit 2, ⟨[(43, .b false), (42, .i .i64 (-1)), (7, .i .i64 (-1)), (6, .i .u64 (pre l (i + 1) : Int)), (5, .i .i64 i), (0, .sl k z (ofU8s l))], hp⟩)) →
          kloop cx [(0, .none), (5, .none), (6, .none), (7, .none)] (.seq (.seq (.reg [⟨some 42, .mov (.tmp 7), none⟩, ⟨some 43, .bin .geq (.tmp 42) (.con (.i .i64 (0))), none⟩])
 (.cond (.tmp 43) .skip (.exit 2)))
 (.seq (.block 3 (.reg [⟨some 46, .mov (.tmp 6), none⟩, ⟨some 47, .bin .mul (.tmp 46) (.con (.i .u64 (128))), none⟩, ⟨some 48, .mov (.tmp 0), none⟩, ⟨some 49, .mov (.tmp 7), none⟩, ⟨some 50, .iaddr 1 (.tmp 48) (.tmp 49), none⟩, ⟨some 51, .load false 1 (.tmp 50), none⟩, ⟨some 52, .bin .rem (.tmp 51) (.con (.i .u8 (128))), none⟩, ⟨some 53, .conv (.int .u64) (.tmp 52), none⟩, ⟨some 54, .bin .add (.tmp 47) (.tmp 53), none⟩, ⟨some 6, .mov (.tmp 54), none⟩]))
 (.reg [⟨some 44, .mov (.tmp 7), none⟩, ⟨some 45, .bin .sub (.tmp 44) (.con (.i .i64 (1))), none⟩, ⟨some 7, .mov (.tmp 45), none⟩]))) [.sl k z (ofU8s l), .i .i64 i, .i .u64 0, .i .i64 i] ks P := by
        intro P ks hk
        refine kloop_inv (ι := Nat × Nat) (fun x => [.sl k z (ofU8s l), .i .i64 i, .i .u64 x.1, .i .i64 ((x.2 : Int) - 1)]) (fun x => x.2 ≤ i + 1 ∧ x.1 * 128 ^ x.2 + pre l x.2 = pre l (i + 1)) (fun x => x.2) (0, i + 1) (by simp) ⟨by simp, by simp⟩ ?_
        rintro ⟨u, j⟩ ⟨hj, hu⟩
        simp only at hj hu
        cases j with
        | zero =>
          have hu' : pre l (i + 1) = u := by simpa [pre] using hu.symm
          (simp only [go_sem, Nat.add_assoc, reduceIte, reduceCtorEq, Nat.reduceEqDiff, Nat.reduceAdd, Nat.reduceMul, Nat.reduceSub, Nat.reduceLeDiff, Nat.reduceLT, Nat.reduceBEq, Nat.reduceBNe, Int.reduceLE, Int.reduceLT, Int.reduceToNat, Int.reduceEq, Int.reduceNe, Int.reduceNeg, Nat.reduceEqDiff, Int.reduceAdd, Int.reduceSub, Int.reduceMul, Int.cast_ofNat_Int, Int.natCast_zero]; repeat' (refine kont_next ?_ <;> (try simp only [go_sem, Nat.add_assoc, reduceIte, reduceCtorEq, Nat.reduceEqDiff, Nat.reduceAdd, Nat.reduceMul, Nat.reduceSub, Nat.reduceLeDiff, Nat.reduceLT, Nat.reduceBEq, Nat.reduceBNe, Int.reduceLE, Int.reduceLT, Int.reduceToNat, Int.reduceEq, Int.reduceNe, Int.reduceNeg, Nat.reduceEqDiff, Int.reduceAdd, Int.reduceSub, Int.reduceMul, Int.cast_ofNat_Int, Int.natCast_zero])))
          have := hk []
          rw [hu'] at this
          exact this
        | succ j =>
          have hj0 : ((j + 1 : Nat) : Int) - 1 = (j : Int) := by omega
          obtain ⟨d, hd⟩ := get_lt (show j < l.length by omega)
          have g0 : decide ((0 : Int) ≤ (j : Int)) = true := decide_eq_true (by omega)
          have hd256 := UInt8.toNat_lt d
          have hpj : pre l (j + 1) = pre l j + (d.toNat % 128) * 128 ^ j := by rw [pre_succ, getD_of hd]
          have hst : (u * 128 + d.toNat % 128) * 128 ^ j + pre l j = pre l (i + 1) := by
            rw [← hu, hpj, Nat.pow_succ, Nat.add_mul, Nat.mul_assoc u 128, Nat.mul_comm 128]; omega
          have hb1 : u * 128 + d.toNat % 128 ≤ pre l (i + 1) := by
            have : u * 128 + d.toNat % 128 ≤ (u * 128 + d.toNat % 128) * 128 ^ j := Nat.le_mul_of_pos_right _ (Nat.pow_pos (by omega))
            omega
          have w1 : IntKind.u64.wrap ((u : Int) * 128) = ((u * 128 : Nat) : Int) := by
            have := wrap_u64 (u * 128) (by omega)
            rw [← this]; push_cast; rfl
          have w2 : IntKind.u64.wrap ((d.toNat % 128 : Nat) : Int) = ((d.toNat % 128 : Nat) : Int) := wrap_u64 _ (by omega)
          have w3 : IntKind.u64.wrap (((u * 128 : Nat) : Int) + ((d.toNat % 128 : Nat) : Int)) = ((u * 128 + d.toNat % 128 : Nat) : Int) := by
            have := wrap_u64 (u * 128 + d.toNat % 128) (by omega)
            rw [← this]; push_cast; rfl
          have w4 : IntKind.i64.wrap ((j : Int) - 1) = (j : Int) - 1 := wrap_i64 (by omega) (by omega)
          simp only [go_sem, Nat.add_assoc, reduceIte, reduceCtorEq, Nat.reduceEqDiff, Nat.reduceAdd, Nat.reduceMul, Nat.reduceSub, Nat.reduceLeDiff, Nat.reduceLT, Nat.reduceBEq, Nat.reduceBNe, Int.reduceLE, Int.reduceLT, Int.reduceToNat, Int.reduceEq, Int.reduceNe, Int.reduceNeg, Nat.reduceEqDiff, hj0, g0, h1, hd, tmod128', w1, w2, w3, w4]; repeat' (refine kont_next ?_ <;> (try simp only [go_sem, Nat.add_assoc, reduceIte, reduceCtorEq, Nat.reduceEqDiff, Nat.reduceAdd, Nat.reduceMul, Nat.reduceSub, Nat.reduceLeDiff, Nat.reduceLT, Nat.reduceBEq, Nat.reduceBNe, Int.reduceLE, Int.reduceLT, Int.reduceToNat, Int.reduceEq, Int.reduceNe, Int.reduceNeg, Nat.reduceEqDiff, hj0, g0, h1, hd, tmod128', w1, w2, w3, w4]))
          exact ⟨(u * 128 + d.toNat % 128, j), rfl, ⟨by simp only; omega, hst⟩, by simp only; omega⟩
      by_cases g0 : 0 < i
      · have g1 : decide ((0 : Int) < (i : Int)) = true := decide_eq_true (by omega)
        have g2 : decide ((c.toNat : Int) = 0) = false := decide_eq_false (by omega)
        by_cases g9 : i = 9
        · have g3 : decide ((i : Int) = 9) = true := decide_eq_true (by omega)
          have g4 : decide ((1 : Int) < (c.toNat : Int)) = false := decide_eq_false (by omega)
          simp only [go_sem, Nat.add_assoc, reduceIte, reduceCtorEq, Nat.reduceEqDiff, Nat.reduceAdd, Nat.reduceMul, Nat.reduceSub, Nat.reduceLeDiff, Nat.reduceLT, Nat.reduceBEq, Nat.reduceBNe, Int.reduceLE, Int.reduceLT, Int.reduceToNat, Int.reduceEq, Int.reduceNe, Int.reduceNeg, Nat.reduceEqDiff, hb, he, h1, hc, hg, g1, g2, g3, g4]; repeat' (refine kont_next ?_ <;> (try simp only [go_sem, Nat.add_assoc, reduceIte, reduceCtorEq, Nat.reduceEqDiff, Nat.reduceAdd, Nat.reduceMul, Nat.reduceSub, Nat.reduceLeDiff, Nat.reduceLT, Nat.reduceBEq, Nat.reduceBNe, Int.reduceLE, Int.reduceLT, Int.reduceToNat, Int.reduceEq, Int.reduceNe, Int.reduceNeg, Nat.reduceEqDiff, hb, he, h1, hc, hg, g1, g2, g3, g4]))
          refine inner _ _ fun hp => ?_
          simp only [go_sem, Nat.add_assoc, reduceIte, reduceCtorEq, Nat.reduceEqDiff, Nat.reduceAdd, Nat.reduceMul, Nat.reduceSub, Nat.reduceLeDiff, Nat.reduceLT, Nat.reduceBEq, Nat.reduceBNe, Int.reduceLE, Int.reduceLT, Int.reduceToNat, Int.reduceEq, Int.reduceNe, Int.reduceNeg, Nat.reduceEqDiff, hw, fin]; repeat' (refine kont_next ?_ <;> (try simp only [go_sem, Nat.add_assoc, reduceIte, reduceCtorEq, Nat.reduceEqDiff, Nat.reduceAdd, Nat.reduceMul, Nat.reduceSub, Nat.reduceLeDiff, Nat.reduceLT, Nat.reduceBEq, Nat.reduceBNe, Int.reduceLE, Int.reduceLT, Int.reduceToNat, Int.reduceEq, Int.reduceNe, Int.reduceNeg, Nat.reduceEqDiff, hw, fin]))
        · have g3 : decide ((i : Int) = 9) = false := decide_eq_false (by omega)
          simp only [go_sem, Nat.add_assoc, reduceIte, reduceCtorEq, Nat.reduceEqDiff, Nat.reduceAdd, Nat.reduceMul, Nat.reduceSub, Nat.reduceLeDiff, Nat.reduceLT, Nat.reduceBEq, Nat.reduceBNe, Int.reduceLE, Int.reduceLT, Int.reduceToNat, Int.reduceEq, Int.reduceNe, Int.reduceNeg, Nat.reduceEqDiff, hb, he, h1, hc, hg, g1, g2, g3]; repeat' (refine kont_next ?_ <;> (try simp only [go_sem, Nat.add_assoc, reduceIte, reduceCtorEq, Nat.reduceEqDiff, Nat.reduceAdd, Nat.reduceMul, Nat.reduceSub, Nat.reduceLeDiff, Nat.reduceLT, Nat.reduceBEq, Nat.reduceBNe, Int.reduceLE, Int.reduceLT, Int.reduceToNat, Int.reduceEq, Int.reduceNe, Int.reduceNeg, Nat.reduceEqDiff, hb, he, h1, hc, hg, g1, g2, g3]))
          refine inner _ _ fun hp => ?_
          simp only [go_sem, Nat.add_assoc, reduceIte, reduceCtorEq, Nat.reduceEqDiff, Nat.reduceAdd, Nat.reduceMul, Nat.reduceSub, Nat.reduceLeDiff, Nat.reduceLT, Nat.reduceBEq, Nat.reduceBNe, Int.reduceLE, Int.reduceLT, Int.reduceToNat, Int.reduceEq, Int.reduceNe, Int.reduceNeg, Nat.reduceEqDiff, hw, fin]; repeat' (refine kont_next ?_ <;> (try simp only [go_sem, Nat.add_assoc, reduceIte, reduceCtorEq, Nat.reduceEqDiff, Nat.reduceAdd, Nat.reduceMul, Nat.reduceSub, Nat.reduceLeDiff, Nat.reduceLT, Nat.reduceBEq, Nat.reduceBNe, Int.reduceLE, Int.reduceLT, Int.reduceToNat, Int.reduceEq, Int.reduceNe, Int.reduceNeg, Nat.reduceEqDiff, hw, fin]))
      · have g1 : decide ((0 : Int) < (i : Int)) = false := decide_eq_false (by omega)
        have g3 : decide ((i : Int) = 9) = false := decide_eq_false (by omega)
        simp only [go_sem, Nat.add_assoc, reduceIte, reduceCtorEq, Nat.reduceEqDiff, Nat.reduceAdd, Nat.reduceMul, Nat.reduceSub, Nat.reduceLeDiff, Nat.reduceLT, Nat.reduceBEq, Nat.reduceBNe, Int.reduceLE, Int.reduceLT, Int.reduceToNat, Int.reduceEq, Int.reduceNe, Int.reduceNeg, Nat.reduceEqDiff, hb, he, h1, hc, hg, g1, g3]; repeat' (refine kont_next ?_ <;> (try simp only [go_sem, Nat.add_assoc, reduceIte, reduceCtorEq, Nat.reduceEqDiff, Nat.reduceAdd, Nat.reduceMul, Nat.reduceSub, Nat.reduceLeDiff, Nat.reduceLT, Nat.reduceBEq, Nat.reduceBNe, Int.reduceLE, Int.reduceLT, Int.reduceToNat, Int.reduceEq, Int.reduceNe, Int.reduceNeg, Nat.reduceEqDiff, hb, he, h1, hc, hg, g1, g3]))
        refine inner _ _ fun hp => ?_
        simp only [go_sem, Nat.add_assoc, reduceIte, reduceCtorEq, Nat.reduceEqDiff, Nat.reduceAdd, Nat.reduceMul, Nat.reduceSub, Nat.reduceLeDiff, Nat.reduceLT, Nat.reduceBEq, Nat.reduceBNe, Int.reduceLE, Int.reduceLT, Int.reduceToNat, Int.reduceEq, Int.reduceNe, Int.reduceNeg, Nat.reduceEqDiff, hw, fin]; repeat' (refine kont_next ?_ <;> (try simp only [go_sem, Nat.add_assoc, reduceIte, reduceCtorEq, Nat.reduceEqDiff, Nat.reduceAdd, Nat.reduceMul, Nat.reduceSub, Nat.reduceLeDiff, Nat.reduceLT, Nat.reduceBEq, Nat.reduceBNe, Int.reduceLE, Int.reduceLT, Int.reduceToNat, Int.reduceEq, Int.reduceNe, Int.reduceNeg, Nat.reduceEqDiff, hw, fin]))
end Go.Proofs.Ytogjoenpliphdaa
