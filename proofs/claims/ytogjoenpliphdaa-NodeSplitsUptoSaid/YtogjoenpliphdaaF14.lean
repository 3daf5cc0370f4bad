import Derived.Test.YtogjoenpliphdaaF13
import Derived.Test.YtogjoenpliphdaaF8
set_option linter.unusedSimpArgs false
set_option linter.unusedVariables false
set_option maxHeartbeats 4000000
namespace Go.Proofs.Ytogjoenpliphdaa
open Go.Abs

/-! ### readers -/
structure Rd where
  b : By
  bad : Bool
def Rd.v (r : Rd) : AV := .bx [r.b.v, .b r.bad]
abbrev Ps := List UInt8 × Bool
def Rd.p (r : Rd) : Ps := (r.b.l, r.bad)
def numP (most : Nat) (s : Ps) : Nat × Ps :=
  if s.2 = true ∨ (takeS s.1).2.2 ≠ 0 ∨ (takeS s.1).1 > most then (0, (s.1, true)) else ((takeS s.1).1, (s.1.drop (takeS s.1).2.1, false))
def flagP (s : Ps) : UInt8 × Ps := match s with
  | (c :: r, false) => (c, (r, false))
  | (l, _) => (0, (l, true))
def takeP (n : Nat) (s : Ps) : List UInt8 × Ps := if s.2 = true ∨ n > s.1.length then ([], (s.1, true)) else (s.1.take n, (s.1.drop n, false))
def takeZ (n : Nat) (s : Ps) : Nat := if s.2 = true ∨ n > s.1.length then 0 else 1
def bytesP (s : Ps) : List UInt8 × Ps := takeP (numP 448 s).1 (numP 448 s).2
theorem sk_keep (k : SK) : (if k = .nil then SK.nil else if k = .full then .full else .open_) = k := by cases k <;> rfl
theorem num_bad {most : Nat} {l : List UInt8} : numP most (l, true) = (0, (l, true)) := by simp [numP]
theorem num_no {most : Nat} {l : List UInt8} (h : (takeS l).2.2 ≠ 0 ∨ (takeS l).1 > most) : numP most (l, false) = (0, (l, true)) := by unfold numP; rw [if_pos (.inr h)]
theorem num_ok {most : Nat} {l : List UInt8} (h : (takeS l).2.2 = 0) (h' : (takeS l).1 ≤ most) : numP most (l, false) = ((takeS l).1, (l.drop (takeS l).2.1, false)) := by
  unfold numP
  rw [if_neg (by simp [h]; omega)]
theorem num_le (most : Nat) (s : Ps) : (numP most s).1 ≤ most := by
  unfold numP
  split
  · simp
  · rename_i h
    simp only [not_or, Nat.not_lt] at h
    exact h.2.2

theorem e44 {k : SK} {z : Nat} {l : List UInt8} {bad : Bool} (h : OkS k z 1 l) (most : Nat) (hm : most < 4611686018427387904) :
    acall S 44 [.bx [.sl k z (ofU8s l), .b bad], .i .i64 most] = some (.i .i64 ((numP most (l, bad)).1 : Int), [.bx [.sl k z (ofU8s (numP most (l, bad)).2.1), .b (numP most (l, bad)).2.2]]) := by
  have e := e67 h
  unfold take3 at e
  have h1 := h.1
  have hle := takeS_le l
  have w1 : IntKind.u64.wrap (most : Int) = (most : Int) := wrap_u64 _ (by omega)
  refine W_eq (g44 rfl ?_)
  cases bad with
  | true => (simp only [go_sem, Nat.add_assoc, reduceIte, reduceCtorEq, Nat.reduceEqDiff, Nat.reduceAdd, Nat.reduceMul, Nat.reduceSub, Nat.reduceLeDiff, Nat.reduceLT, Nat.reduceBEq, Nat.reduceBNe, Int.reduceLE, Int.reduceLT, Int.reduceToNat, Int.reduceEq, Int.reduceNe, Int.reduceNeg, Nat.reduceEqDiff, Int.reduceAdd, Int.reduceSub, Int.reduceMul, Int.cast_ofNat_Int, Int.natCast_zero, a44, s67, e, num_bad]; repeat' (refine kont_next ?_ <;> (try simp only [go_sem, Nat.add_assoc, reduceIte, reduceCtorEq, Nat.reduceEqDiff, Nat.reduceAdd, Nat.reduceMul, Nat.reduceSub, Nat.reduceLeDiff, Nat.reduceLT, Nat.reduceBEq, Nat.reduceBNe, Int.reduceLE, Int.reduceLT, Int.reduceToNat, Int.reduceEq, Int.reduceNe, Int.reduceNeg, Nat.reduceEqDiff, Int.reduceAdd, Int.reduceSub, Int.reduceMul, Int.cast_ofNat_Int, Int.natCast_zero, a44, s67, e, num_bad])))
  | false =>
    by_cases h0 : (takeS l).2.2 = 0
    · have g0 : decide ((((takeS l).2.2 : Nat) : Int) = 0) = true := decide_eq_true (by omega)
      by_cases h2 : (takeS l).1 ≤ most
      · have g1 : decide ((most : Int) < ((takeS l).1 : Int)) = false := decide_eq_false (by omega)
        have w2 : IntKind.i64.wrap ((takeS l).1 : Int) = ((takeS l).1 : Int) := wrap_i64 (by omega) (by omega)
        have w3 : (0 : Int) ≤ ((takeS l).2.1 : Int) := by omega
        have hz := (OkS.drop h (takeS l).2.1).1
        (simp only [go_sem, Nat.add_assoc, reduceIte, reduceCtorEq, Nat.reduceEqDiff, Nat.reduceAdd, Nat.reduceMul, Nat.reduceSub, Nat.reduceLeDiff, Nat.reduceLT, Nat.reduceBEq, Nat.reduceBNe, Int.reduceLE, Int.reduceLT, Int.reduceToNat, Int.reduceEq, Int.reduceNe, Int.reduceNeg, Nat.reduceEqDiff, Int.reduceAdd, Int.reduceSub, Int.reduceMul, Int.cast_ofNat_Int, Int.natCast_zero, a44, s67, e, h0, w1, g1, h1, w3, hle, w2, num_ok h0 h2, sk_keep]; repeat' (refine kont_next ?_ <;> (try simp only [go_sem, Nat.add_assoc, reduceIte, reduceCtorEq, Nat.reduceEqDiff, Nat.reduceAdd, Nat.reduceMul, Nat.reduceSub, Nat.reduceLeDiff, Nat.reduceLT, Nat.reduceBEq, Nat.reduceBNe, Int.reduceLE, Int.reduceLT, Int.reduceToNat, Int.reduceEq, Int.reduceNe, Int.reduceNeg, Nat.reduceEqDiff, Int.reduceAdd, Int.reduceSub, Int.reduceMul, Int.cast_ofNat_Int, Int.natCast_zero, a44, s67, e, h0, w1, g1, h1, w3, hle, w2, num_ok h0 h2, sk_keep])))
      · have g1 : decide ((most : Int) < ((takeS l).1 : Int)) = true := decide_eq_true (by omega)
        (simp only [go_sem, Nat.add_assoc, reduceIte, reduceCtorEq, Nat.reduceEqDiff, Nat.reduceAdd, Nat.reduceMul, Nat.reduceSub, Nat.reduceLeDiff, Nat.reduceLT, Nat.reduceBEq, Nat.reduceBNe, Int.reduceLE, Int.reduceLT, Int.reduceToNat, Int.reduceEq, Int.reduceNe, Int.reduceNeg, Nat.reduceEqDiff, Int.reduceAdd, Int.reduceSub, Int.reduceMul, Int.cast_ofNat_Int, Int.natCast_zero, a44, s67, e, h0, w1, g1, num_no (.inr (show (takeS l).1 > most by omega))]; repeat' (refine kont_next ?_ <;> (try simp only [go_sem, Nat.add_assoc, reduceIte, reduceCtorEq, Nat.reduceEqDiff, Nat.reduceAdd, Nat.reduceMul, Nat.reduceSub, Nat.reduceLeDiff, Nat.reduceLT, Nat.reduceBEq, Nat.reduceBNe, Int.reduceLE, Int.reduceLT, Int.reduceToNat, Int.reduceEq, Int.reduceNe, Int.reduceNeg, Nat.reduceEqDiff, Int.reduceAdd, Int.reduceSub, Int.reduceMul, Int.cast_ofNat_Int, Int.natCast_zero, a44, s67, e, h0, w1, g1, num_no (.inr (show (takeS l).1 > most by omega))])))
    · have g0 : decide (¬ (((takeS l).2.2 : Nat) : Int) = 0) = true := decide_eq_true (by omega)
      (simp only [go_sem, Nat.add_assoc, reduceIte, reduceCtorEq, Nat.reduceEqDiff, Nat.reduceAdd, Nat.reduceMul, Nat.reduceSub, Nat.reduceLeDiff, Nat.reduceLT, Nat.reduceBEq, Nat.reduceBNe, Int.reduceLE, Int.reduceLT, Int.reduceToNat, Int.reduceEq, Int.reduceNe, Int.reduceNeg, Nat.reduceEqDiff, Int.reduceAdd, Int.reduceSub, Int.reduceMul, Int.cast_ofNat_Int, Int.natCast_zero, a44, s67, e, g0, num_no (.inl h0)]; repeat' (refine kont_next ?_ <;> (try simp only [go_sem, Nat.add_assoc, reduceIte, reduceCtorEq, Nat.reduceEqDiff, Nat.reduceAdd, Nat.reduceMul, Nat.reduceSub, Nat.reduceLeDiff, Nat.reduceLT, Nat.reduceBEq, Nat.reduceBNe, Int.reduceLE, Int.reduceLT, Int.reduceToNat, Int.reduceEq, Int.reduceNe, Int.reduceNeg, Nat.reduceEqDiff, Int.reduceAdd, Int.reduceSub, Int.reduceMul, Int.cast_ofNat_Int, Int.natCast_zero, a44, s67, e, g0, num_no (.inl h0)])))

theorem e43 {k : SK} {z : Nat} {l : List UInt8} {bad : Bool} (h : OkS k z 1 l) :
    acall S 43 [.bx [.sl k z (ofU8s l), .b bad]] = some (.i .u8 ((flagP (l, bad)).1.toNat : Int), [.bx [.sl k z (ofU8s (flagP (l, bad)).2.1), .b (flagP (l, bad)).2.2]]) := by
  have h1 := h.1
  refine W_eq (g43 rfl ?_)
  cases bad with
  | true => cases l <;> (simp only [go_sem, Nat.add_assoc, reduceIte, reduceCtorEq, Nat.reduceEqDiff, Nat.reduceAdd, Nat.reduceMul, Nat.reduceSub, Nat.reduceLeDiff, Nat.reduceLT, Nat.reduceBEq, Nat.reduceBNe, Int.reduceLE, Int.reduceLT, Int.reduceToNat, Int.reduceEq, Int.reduceNe, Int.reduceNeg, Nat.reduceEqDiff, Int.reduceAdd, Int.reduceSub, Int.reduceMul, Int.cast_ofNat_Int, Int.natCast_zero, a43, flagP]; repeat' (refine kont_next ?_ <;> (try simp only [go_sem, Nat.add_assoc, reduceIte, reduceCtorEq, Nat.reduceEqDiff, Nat.reduceAdd, Nat.reduceMul, Nat.reduceSub, Nat.reduceLeDiff, Nat.reduceLT, Nat.reduceBEq, Nat.reduceBNe, Int.reduceLE, Int.reduceLT, Int.reduceToNat, Int.reduceEq, Int.reduceNe, Int.reduceNeg, Nat.reduceEqDiff, Int.reduceAdd, Int.reduceSub, Int.reduceMul, Int.cast_ofNat_Int, Int.natCast_zero, a43, flagP]))) <;> rfl
  | false =>
    cases l with
    | nil => (simp only [go_sem, Nat.add_assoc, reduceIte, reduceCtorEq, Nat.reduceEqDiff, Nat.reduceAdd, Nat.reduceMul, Nat.reduceSub, Nat.reduceLeDiff, Nat.reduceLT, Nat.reduceBEq, Nat.reduceBNe, Int.reduceLE, Int.reduceLT, Int.reduceToNat, Int.reduceEq, Int.reduceNe, Int.reduceNeg, Nat.reduceEqDiff, Int.reduceAdd, Int.reduceSub, Int.reduceMul, Int.cast_ofNat_Int, Int.natCast_zero, a43, flagP, ofU8s_nil]; repeat' (refine kont_next ?_ <;> (try simp only [go_sem, Nat.add_assoc, reduceIte, reduceCtorEq, Nat.reduceEqDiff, Nat.reduceAdd, Nat.reduceMul, Nat.reduceSub, Nat.reduceLeDiff, Nat.reduceLT, Nat.reduceBEq, Nat.reduceBNe, Int.reduceLE, Int.reduceLT, Int.reduceToNat, Int.reduceEq, Int.reduceNe, Int.reduceNeg, Nat.reduceEqDiff, Int.reduceAdd, Int.reduceSub, Int.reduceMul, Int.cast_ofNat_Int, Int.natCast_zero, a43, flagP, ofU8s_nil]))); rfl
    | cons c r =>
      have h2 : z = 1 := by rcases h1 with h | h; exact h; cases h
      have h3 : decide (((r.length + 1 : Nat) : Int) = 0) = false := decide_eq_false (by omega)
      (simp only [go_sem, Nat.add_assoc, reduceIte, reduceCtorEq, Nat.reduceEqDiff, Nat.reduceAdd, Nat.reduceMul, Nat.reduceSub, Nat.reduceLeDiff, Nat.reduceLT, Nat.reduceBEq, Nat.reduceBNe, Int.reduceLE, Int.reduceLT, Int.reduceToNat, Int.reduceEq, Int.reduceNe, Int.reduceNeg, Nat.reduceEqDiff, Int.reduceAdd, Int.reduceSub, Int.reduceMul, Int.cast_ofNat_Int, Int.natCast_zero, a43, flagP, ofU8s_cons, h2, h3, sk_keep, Nat.add_sub_cancel]; repeat' (refine kont_next ?_ <;> (try simp only [go_sem, Nat.add_assoc, reduceIte, reduceCtorEq, Nat.reduceEqDiff, Nat.reduceAdd, Nat.reduceMul, Nat.reduceSub, Nat.reduceLeDiff, Nat.reduceLT, Nat.reduceBEq, Nat.reduceBNe, Int.reduceLE, Int.reduceLT, Int.reduceToNat, Int.reduceEq, Int.reduceNe, Int.reduceNeg, Nat.reduceEqDiff, Int.reduceAdd, Int.reduceSub, Int.reduceMul, Int.cast_ofNat_Int, Int.natCast_zero, a43, flagP, ofU8s_cons, h2, h3, sk_keep, Nat.add_sub_cancel])))

theorem e69 {k : SK} {z : Nat} {l : List UInt8} {bad : Bool} (h : OkS k z 1 l) (n : Nat) (hl : l.length ≤ LIM) :
    acall S 69 [.bx [.sl k z (ofU8s l), .b bad], .i .i64 n] = some (.sl (skOf (takeP n (l, bad)).1.isEmpty) (takeZ n (l, bad)) (ofU8s (takeP n (l, bad)).1), [.bx [.sl k z (ofU8s (takeP n (l, bad)).2.1), .b (takeP n (l, bad)).2.2]]) := by
  have h1 := h.1
  refine W_eq (g69 rfl ?_)
  cases bad with
  | true => (simp only [go_sem, Nat.add_assoc, reduceIte, reduceCtorEq, Nat.reduceEqDiff, Nat.reduceAdd, Nat.reduceMul, Nat.reduceSub, Nat.reduceLeDiff, Nat.reduceLT, Nat.reduceBEq, Nat.reduceBNe, Int.reduceLE, Int.reduceLT, Int.reduceToNat, Int.reduceEq, Int.reduceNe, Int.reduceNeg, Nat.reduceEqDiff, Int.reduceAdd, Int.reduceSub, Int.reduceMul, Int.cast_ofNat_Int, Int.natCast_zero, a69, takeP, takeZ, ofU8s_nil]; repeat' (refine kont_next ?_ <;> (try simp only [go_sem, Nat.add_assoc, reduceIte, reduceCtorEq, Nat.reduceEqDiff, Nat.reduceAdd, Nat.reduceMul, Nat.reduceSub, Nat.reduceLeDiff, Nat.reduceLT, Nat.reduceBEq, Nat.reduceBNe, Int.reduceLE, Int.reduceLT, Int.reduceToNat, Int.reduceEq, Int.reduceNe, Int.reduceNeg, Nat.reduceEqDiff, Int.reduceAdd, Int.reduceSub, Int.reduceMul, Int.cast_ofNat_Int, Int.natCast_zero, a69, takeP, takeZ, ofU8s_nil])))
  | false =>
    by_cases hn : n ≤ l.length
    · have hp : takeP n (l, false) = (l.take n, (l.drop n, false)) := by unfold takeP; rw [if_neg (by simp; omega)]
      have hz : takeZ n (l, false) = 1 := by unfold takeZ; rw [if_neg (by simp; omega)]
      have g1 : decide ((l.length : Int) < (n : Int)) = false := decide_eq_false (by omega)
      have g2 : (0 : Int) ≤ (n : Int) := by omega
      have g3 : (l.take n).length ≤ LIM := by rw [List.length_take]; omega
      have g4 := OkS.take h n
      (simp only [go_sem, Nat.add_assoc, reduceIte, reduceCtorEq, Nat.reduceEqDiff, Nat.reduceAdd, Nat.reduceMul, Nat.reduceSub, Nat.reduceLeDiff, Nat.reduceLT, Nat.reduceBEq, Nat.reduceBNe, Int.reduceLE, Int.reduceLT, Int.reduceToNat, Int.reduceEq, Int.reduceNe, Int.reduceNeg, Nat.reduceEqDiff, Int.reduceAdd, Int.reduceSub, Int.reduceMul, Int.cast_ofNat_Int, Int.natCast_zero, a69, hp, hz, g1, h1, g2, hn, g3, g4.1, sk_keep]; repeat' (refine kont_next ?_ <;> (try simp only [go_sem, Nat.add_assoc, reduceIte, reduceCtorEq, Nat.reduceEqDiff, Nat.reduceAdd, Nat.reduceMul, Nat.reduceSub, Nat.reduceLeDiff, Nat.reduceLT, Nat.reduceBEq, Nat.reduceBNe, Int.reduceLE, Int.reduceLT, Int.reduceToNat, Int.reduceEq, Int.reduceNe, Int.reduceNeg, Nat.reduceEqDiff, Int.reduceAdd, Int.reduceSub, Int.reduceMul, Int.cast_ofNat_Int, Int.natCast_zero, a69, hp, hz, g1, h1, g2, hn, g3, g4.1, sk_keep])))
    · have hp : takeP n (l, false) = ([], (l, true)) := by unfold takeP; rw [if_pos (.inr (by simp; omega))]
      have hz : takeZ n (l, false) = 0 := by unfold takeZ; rw [if_pos (.inr (by simp; omega))]
      have g1 : decide ((l.length : Int) < (n : Int)) = true := decide_eq_true (by omega)
      (simp only [go_sem, Nat.add_assoc, reduceIte, reduceCtorEq, Nat.reduceEqDiff, Nat.reduceAdd, Nat.reduceMul, Nat.reduceSub, Nat.reduceLeDiff, Nat.reduceLT, Nat.reduceBEq, Nat.reduceBNe, Int.reduceLE, Int.reduceLT, Int.reduceToNat, Int.reduceEq, Int.reduceNe, Int.reduceNeg, Nat.reduceEqDiff, Int.reduceAdd, Int.reduceSub, Int.reduceMul, Int.cast_ofNat_Int, Int.natCast_zero, a69, hp, hz, g1, ofU8s_nil]; repeat' (refine kont_next ?_ <;> (try simp only [go_sem, Nat.add_assoc, reduceIte, reduceCtorEq, Nat.reduceEqDiff, Nat.reduceAdd, Nat.reduceMul, Nat.reduceSub, Nat.reduceLeDiff, Nat.reduceLT, Nat.reduceBEq, Nat.reduceBNe, Int.reduceLE, Int.reduceLT, Int.reduceToNat, Int.reduceEq, Int.reduceNe, Int.reduceNeg, Nat.reduceEqDiff, Int.reduceAdd, Int.reduceSub, Int.reduceMul, Int.cast_ofNat_Int, Int.natCast_zero, a69, hp, hz, g1, ofU8s_nil])))
end Go.Proofs.Ytogjoenpliphdaa
