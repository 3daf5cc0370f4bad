import Derived.Test.YtogjoenpliphdaaP2
set_option linter.unusedSimpArgs false
set_option linter.unusedVariables false
set_option maxHeartbeats 4000000
namespace Go.Proofs.Ytogjoenpliphdaa
open Go.Abs

def take3 (x : Nat × Nat × Nat) : AV := .tup [.i .u64 (x.1 : Int), .i .i64 (x.2.1 : Int), .i .i64 (x.2.2 : Int)]
theorem e67 {k : SK} {z : Nat} {l : List UInt8} (h : OkS k z 1 l) : acall S 67 [.sl k z (ofU8s l)] = some (take3 (takeS l), []) := by
  have h1 := h.1
  refine W_eq (g67 rfl ?_)
  simp only [go_sem, Nat.add_assoc, reduceIte, reduceCtorEq, Nat.reduceEqDiff, Nat.reduceAdd, Nat.reduceMul, Nat.reduceSub, Nat.reduceLeDiff, Nat.reduceLT, Nat.reduceBEq, Nat.reduceBNe, Int.reduceLE, Int.reduceLT, Int.reduceToNat, Int.reduceEq, Int.reduceNe, Int.reduceNeg, Nat.reduceEqDiff, a67]; repeat' (refine kont_next ?_ <;> (try simp only [go_sem, Nat.add_assoc, reduceIte, reduceCtorEq, Nat.reduceEqDiff, Nat.reduceAdd, Nat.reduceMul, Nat.reduceSub, Nat.reduceLeDiff, Nat.reduceLT, Nat.reduceBEq, Nat.reduceBNe, Int.reduceLE, Int.reduceLT, Int.reduceToNat, Int.reduceEq, Int.reduceNe, Int.reduceNeg, Nat.reduceEqDiff, a67]))
  refine kloop_inv (ι := Int × Nat) (fun x => [.sl k z (ofU8s l), .i .u64 x.1, .i .i64 x.2]) (fun x => x.2 ≤ 10 ∧ x.2 ≤ l.length ∧ ∃ n : Nat, (x.2 < 10 → x.1 = n ∧ n < 128 ^ x.2) ∧ takeG (10 - x.2) x.2 n (l.drop x.2) = takeS l) (fun x => 10 - x.2) (0, 0) rfl ⟨by simp, by simp, 0, by simp, rfl⟩ ?_
  rintro ⟨u, i⟩ ⟨hi, hil, n, hn, hT⟩
  simp only at hi hil hn hT
  by_cases h10 : i = 10
  · subst h10
    have hT' : takeS l = (0, 0, 12) := hT.symm
    have hb' : decide (((10 : Nat) : Int) < 10) = false := by decide
    simp only [go_sem, Nat.add_assoc, reduceIte, reduceCtorEq, Nat.reduceEqDiff, Nat.reduceAdd, Nat.reduceMul, Nat.reduceSub, Nat.reduceLeDiff, Nat.reduceLT, Nat.reduceBEq, Nat.reduceBNe, Int.reduceLE, Int.reduceLT, Int.reduceToNat, Int.reduceEq, Int.reduceNe, Int.reduceNeg, Nat.reduceEqDiff, hb']; repeat' (refine kont_next ?_ <;> (try simp only [go_sem, Nat.add_assoc, reduceIte, reduceCtorEq, Nat.reduceEqDiff, Nat.reduceAdd, Nat.reduceMul, Nat.reduceSub, Nat.reduceLeDiff, Nat.reduceLT, Nat.reduceBEq, Nat.reduceBNe, Int.reduceLE, Int.reduceLT, Int.reduceToNat, Int.reduceEq, Int.reduceNe, Int.reduceNeg, Nat.reduceEqDiff, hb']))
    rw [hT']; rfl
  have hlt : i < 10 := by omega
  obtain ⟨rfl, hu⟩ := hn hlt
  have hb : decide ((i : Int) < 10) = true := decide_eq_true (by omega)
  obtain ⟨m, hm⟩ : ∃ m, 10 - i = m + 1 := ⟨9 - i, by omega⟩
  rw [hm] at hT
  by_cases hl : i = l.length
  · have he : decide ((i : Int) = (l.length : Int)) = true := decide_eq_true (by omega)
    have hT' : takeS l = (0, 0, 11) := by rw [← hT, hl, List.drop_length]; rfl
    simp only [go_sem, Nat.add_assoc, reduceIte, reduceCtorEq, Nat.reduceEqDiff, Nat.reduceAdd, Nat.reduceMul, Nat.reduceSub, Nat.reduceLeDiff, Nat.reduceLT, Nat.reduceBEq, Nat.reduceBNe, Int.reduceLE, Int.reduceLT, Int.reduceToNat, Int.reduceEq, Int.reduceNe, Int.reduceNeg, Nat.reduceEqDiff, hb, he]; repeat' (refine kont_next ?_ <;> (try simp only [go_sem, Nat.add_assoc, reduceIte, reduceCtorEq, Nat.reduceEqDiff, Nat.reduceAdd, Nat.reduceMul, Nat.reduceSub, Nat.reduceLeDiff, Nat.reduceLT, Nat.reduceBEq, Nat.reduceBNe, Int.reduceLE, Int.reduceLT, Int.reduceToNat, Int.reduceEq, Int.reduceNe, Int.reduceNeg, Nat.reduceEqDiff, hb, he]))
    rw [hT']; rfl
  have he : decide ((i : Int) = (l.length : Int)) = false := decide_eq_false (by omega)
  obtain ⟨c, hc⟩ := get_lt (show i < l.length by omega)
  rw [drop_get hc, takeG_cons] at hT
  have hc256 := UInt8.toNat_lt c
  have hand := and127 c.toNat hc256
  have hconv : IntKind.u64.wrap ((c.toNat % 128 : Nat) : Int) = ((c.toNat % 128 : Nat) : Int) := wrap_u64 _ (by omega)
  have h7 : IntKind.i64.wrap (7 * (i : Int)) = ((7 * i : Nat) : Int) := by rw [wrap_i64 (by omega) (by omega)]; simp
  have h70 : (0 : Int) ≤ ((7 * i : Nat) : Int) := by omega
  have hw : IntKind.i64.wrap ((i : Int) + 1) = ((i + 1 : Nat) : Int) := wrap_succ (by omega)
  by_cases h127 : c.toNat > 127
  · rw [if_pos h127] at hT
    have hg : decide ((127 : Int) < (c.toNat : Int)) = true := decide_eq_true (by omega)
    simp only [go_sem, Nat.add_assoc, reduceIte, reduceCtorEq, Nat.reduceEqDiff, Nat.reduceAdd, Nat.reduceMul, Nat.reduceSub, Nat.reduceLeDiff, Nat.reduceLT, Nat.reduceBEq, Nat.reduceBNe, Int.reduceLE, Int.reduceLT, Int.reduceToNat, Int.reduceEq, Int.reduceNe, Int.reduceNeg, Nat.reduceEqDiff, hb, he, h1, hc, hand, hconv, h7, h70, hg, hw]; repeat' (refine kont_next ?_ <;> (try simp only [go_sem, Nat.add_assoc, reduceIte, reduceCtorEq, Nat.reduceEqDiff, Nat.reduceAdd, Nat.reduceMul, Nat.reduceSub, Nat.reduceLeDiff, Nat.reduceLT, Nat.reduceBEq, Nat.reduceBNe, Int.reduceLE, Int.reduceLT, Int.reduceToNat, Int.reduceEq, Int.reduceNe, Int.reduceNeg, Nat.reduceEqDiff, hb, he, h1, hc, hand, hconv, h7, h70, hg, hw]))
    refine ⟨(_, i + 1), rfl, ⟨by omega, by simp only; omega, n + (c.toNat % 128) * 128 ^ i, fun hi' => ⟨?_, ?_⟩, ?_⟩, by simp only; omega⟩
    · exact or_shl hu (by omega) hlt (by simp only at hi'; omega)
    · have : (c.toNat % 128) * 128 ^ i ≤ 127 * 128 ^ i := Nat.mul_le_mul_right _ (by omega)
      simp only; rw [Nat.pow_succ]; omega
    · simp only
      rw [show 10 - (i + 1) = m by omega]; exact hT
  · rw [if_neg h127] at hT
    have hg : decide ((127 : Int) < (c.toNat : Int)) = false := decide_eq_false (by omega)
    by_cases hbad : (0 < i ∧ c.toNat = 0) ∨ (i = 9 ∧ 1 < c.toNat)
    · rw [if_pos hbad] at hT
      by_cases hz : 0 < i ∧ c.toNat = 0
      · have g1 : decide ((0 : Int) < (i : Int)) = true := decide_eq_true (by omega)
        have g2 : decide ((c.toNat : Int) = 0) = true := decide_eq_true (by omega)
        simp only [go_sem, Nat.add_assoc, reduceIte, reduceCtorEq, Nat.reduceEqDiff, Nat.reduceAdd, Nat.reduceMul, Nat.reduceSub, Nat.reduceLeDiff, Nat.reduceLT, Nat.reduceBEq, Nat.reduceBNe, Int.reduceLE, Int.reduceLT, Int.reduceToNat, Int.reduceEq, Int.reduceNe, Int.reduceNeg, Nat.reduceEqDiff, hb, he, h1, hc, hand, hconv, h7, h70, hg, g1, g2]; repeat' (refine kont_next ?_ <;> (try simp only [go_sem, Nat.add_assoc, reduceIte, reduceCtorEq, Nat.reduceEqDiff, Nat.reduceAdd, Nat.reduceMul, Nat.reduceSub, Nat.reduceLeDiff, Nat.reduceLT, Nat.reduceBEq, Nat.reduceBNe, Int.reduceLE, Int.reduceLT, Int.reduceToNat, Int.reduceEq, Int.reduceNe, Int.reduceNeg, Nat.reduceEqDiff, hb, he, h1, hc, hand, hconv, h7, h70, hg, g1, g2]))
        rw [← hT]; rfl
      · have g3 : decide ((i : Int) = 9) = true := decide_eq_true (by omega)
        have g4 : decide ((1 : Int) < (c.toNat : Int)) = true := decide_eq_true (by omega)
        have g1 : decide ((0 : Int) < (i : Int)) = true := decide_eq_true (by omega)
        have g2 : decide ((c.toNat : Int) = 0) = false := decide_eq_false (by omega)
        simp only [go_sem, Nat.add_assoc, reduceIte, reduceCtorEq, Nat.reduceEqDiff, Nat.reduceAdd, Nat.reduceMul, Nat.reduceSub, Nat.reduceLeDiff, Nat.reduceLT, Nat.reduceBEq, Nat.reduceBNe, Int.reduceLE, Int.reduceLT, Int.reduceToNat, Int.reduceEq, Int.reduceNe, Int.reduceNeg, Nat.reduceEqDiff, hb, he, h1, hc, hand, hconv, h7, h70, hg, g1, g2, g3, g4]; repeat' (refine kont_next ?_ <;> (try simp only [go_sem, Nat.add_assoc, reduceIte, reduceCtorEq, Nat.reduceEqDiff, Nat.reduceAdd, Nat.reduceMul, Nat.reduceSub, Nat.reduceLeDiff, Nat.reduceLT, Nat.reduceBEq, Nat.reduceBNe, Int.reduceLE, Int.reduceLT, Int.reduceToNat, Int.reduceEq, Int.reduceNe, Int.reduceNeg, Nat.reduceEqDiff, hb, he, h1, hc, hand, hconv, h7, h70, hg, g1, g2, g3, g4]))
        rw [← hT]; rfl
    · rw [if_neg hbad] at hT
      have hor := or_shl (c := c.toNat % 128) hu (by omega) hlt (by omega)
      rw [Nat.mod_eq_of_lt (by omega)] at hor hand hconv
      have fin : take3 (takeS l) = .tup [.i .u64 ((n + c.toNat * 128 ^ i : Nat) : Int), .i .i64 ((i + 1 : Nat) : Int), .i .i64 0] := by rw [← hT]; rfl
      by_cases g0 : 0 < i
      · have g1 : decide ((0 : Int) < (i : Int)) = true := decide_eq_true (by omega)
        have g2 : decide ((c.toNat : Int) = 0) = false := decide_eq_false (by omega)
        by_cases g9 : i = 9
        · have g3 : decide ((i : Int) = 9) = true := decide_eq_true (by omega)
          have g4 : decide ((1 : Int) < (c.toNat : Int)) = false := decide_eq_false (by omega)
          simp only [go_sem, Nat.add_assoc, reduceIte, reduceCtorEq, Nat.reduceEqDiff, Nat.reduceAdd, Nat.reduceMul, Nat.reduceSub, Nat.reduceLeDiff, Nat.reduceLT, Nat.reduceBEq, Nat.reduceBNe, Int.reduceLE, Int.reduceLT, Int.reduceToNat, Int.reduceEq, Int.reduceNe, Int.reduceNeg, Nat.reduceEqDiff, hb, he, h1, hc, hand, hconv, h7, h70, hg, g1, g2, g3, g4, hw, hor, fin]; repeat' (refine kont_next ?_ <;> (try simp only [go_sem, Nat.add_assoc, reduceIte, reduceCtorEq, Nat.reduceEqDiff, Nat.reduceAdd, Nat.reduceMul, Nat.reduceSub, Nat.reduceLeDiff, Nat.reduceLT, Nat.reduceBEq, Nat.reduceBNe, Int.reduceLE, Int.reduceLT, Int.reduceToNat, Int.reduceEq, Int.reduceNe, Int.reduceNeg, Nat.reduceEqDiff, hb, he, h1, hc, hand, hconv, h7, h70, hg, g1, g2, g3, g4, hw, hor, fin]))
        · have g3 : decide ((i : Int) = 9) = false := decide_eq_false (by omega)
          simp only [go_sem, Nat.add_assoc, reduceIte, reduceCtorEq, Nat.reduceEqDiff, Nat.reduceAdd, Nat.reduceMul, Nat.reduceSub, Nat.reduceLeDiff, Nat.reduceLT, Nat.reduceBEq, Nat.reduceBNe, Int.reduceLE, Int.reduceLT, Int.reduceToNat, Int.reduceEq, Int.reduceNe, Int.reduceNeg, Nat.reduceEqDiff, hb, he, h1, hc, hand, hconv, h7, h70, hg, g1, g2, g3, hw, hor, fin]; repeat' (refine kont_next ?_ <;> (try simp only [go_sem, Nat.add_assoc, reduceIte, reduceCtorEq, Nat.reduceEqDiff, Nat.reduceAdd, Nat.reduceMul, Nat.reduceSub, Nat.reduceLeDiff, Nat.reduceLT, Nat.reduceBEq, Nat.reduceBNe, Int.reduceLE, Int.reduceLT, Int.reduceToNat, Int.reduceEq, Int.reduceNe, Int.reduceNeg, Nat.reduceEqDiff, hb, he, h1, hc, hand, hconv, h7, h70, hg, g1, g2, g3, hw, hor, fin]))
      · have g1 : decide ((0 : Int) < (i : Int)) = false := decide_eq_false (by omega)
        have g3 : decide ((i : Int) = 9) = false := decide_eq_false (by omega)
        simp only [go_sem, Nat.add_assoc, reduceIte, reduceCtorEq, Nat.reduceEqDiff, Nat.reduceAdd, Nat.reduceMul, Nat.reduceSub, Nat.reduceLeDiff, Nat.reduceLT, Nat.reduceBEq, Nat.reduceBNe, Int.reduceLE, Int.reduceLT, Int.reduceToNat, Int.reduceEq, Int.reduceNe, Int.reduceNeg, Nat.reduceEqDiff, hb, he, h1, hc, hand, hconv, h7, h70, hg, g1, g3, hw, hor, fin]; repeat' (refine kont_next ?_ <;> (try simp only [go_sem, Nat.add_assoc, reduceIte, reduceCtorEq, Nat.reduceEqDiff, Nat.reduceAdd, Nat.reduceMul, Nat.reduceSub, Nat.reduceLeDiff, Nat.reduceLT, Nat.reduceBEq, Nat.reduceBNe, Int.reduceLE, Int.reduceLT, Int.reduceToNat, Int.reduceEq, Int.reduceNe, Int.reduceNeg, Nat.reduceEqDiff, hb, he, h1, hc, hand, hconv, h7, h70, hg, g1, g3, hw, hor, fin]))
end Go.Proofs.Ytogjoenpliphdaa
