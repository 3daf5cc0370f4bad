/-
  The reference's answers: which bags may be; a bag of one's own; how many; a value more.
-/
import Derived.Test.YtabbjdclfmeipaaB7
import Derived.Test.YtabbjdclfmeipaaVC
import Derived.Test.YtabbjdclfmeipaaV6
set_option linter.unusedSimpArgs false
set_option linter.unusedVariables false
set_option maxHeartbeats 8000000
set_option maxRecDepth 100000
namespace Go.Proofs.Ytabbjdclfmeipaa
open Go.Abs

theorem e13 {k : SK} {z : Nat} {l : List (Vl × Int)} (h : OkL k z l) : acall S 13 [.sl k z (l.map cC)] = some (.i .i64 (if okB (cPs l) then 0 else 210), []) := by
  have hl := h.ln
  refine W_eq (g13 rfl ?_)
  (simp only [go_sem, Nat.add_assoc, reduceIte, reduceCtorEq, Nat.reduceEqDiff, Nat.reduceAdd, Nat.reduceMul, Nat.reduceSub, Nat.reduceLeDiff, Nat.reduceLT, Nat.reduceBEq, Nat.reduceBNe, Int.reduceLE, Int.reduceLT, Int.reduceToNat, Int.reduceEq, Int.reduceNe, Int.reduceNeg, Nat.reduceEqDiff, Int.reduceAdd, Int.reduceSub, Int.reduceMul, Int.cast_ofNat_Int, Int.natCast_zero, a13]; repeat' ((first | refine kont_next ?_ | refine kont_nextn ?_ | refine ikont_next ?_ | refine ikont_nextn ?_) <;> (try simp only [go_sem, Nat.add_assoc, reduceIte, reduceCtorEq, Nat.reduceEqDiff, Nat.reduceAdd, Nat.reduceMul, Nat.reduceSub, Nat.reduceLeDiff, Nat.reduceLT, Nat.reduceBEq, Nat.reduceBNe, Int.reduceLE, Int.reduceLT, Int.reduceToNat, Int.reduceEq, Int.reduceNe, Int.reduceNeg, Nat.reduceEqDiff, Int.reduceAdd, Int.reduceSub, Int.reduceMul, Int.cast_ofNat_Int, Int.natCast_zero, a13])))
  refine kloop_inv (ι := Nat × Int) (fun x => [.sl k z (l.map cC), .i .i64 x.2, .i .i64 x.1])
    (fun x => x.1 ≤ l.length ∧ x.2 ≤ MC ∧ 0 ≤ x.2 ∧ okF x.2 (prevB (cPs l) x.1) ((cPs l).drop x.1) = okB (cPs l)) (fun x => l.length - x.1) (0, MC) rfl ⟨by omega, by simp [MC], by simp [MC], rfl⟩ ?_
  rintro ⟨i, left⟩ ⟨hi, hle, hge, hT⟩
  simp only at hi hle hge hT
  have hMC : MC = 9007199254740992 := rfl
  by_cases hlt : i < l.length
  · obtain ⟨⟨c, m⟩, gc⟩ := get_lt3 hlt
    have g1 : decide ((i : Int) < (l.length : Int)) = true := decide_eq_true (by omega)
    have b1 : (0 : Int) ≤ (i : Int) := by omega
    have hw := wrap_succ (k := i) (by omega)
    rw [drop_get3 (cPs_get gc)] at hT
    simp only [okF, cP] at hT
    have hvo := h.get gc
    have ec := e39 c hvo
    obtain ⟨ck, cn, cs, ckk, cz, cl⟩ := c
    simp only [Vl.c] at ec
    by_cases h1 : m < 1
    · have g2 := decide_eq_true h1
      rw [geB_f (a := 1) (b := m) (by omega)] at hT
      simp only [Bool.false_and] at hT
      rw [← hT]
      (simp only [go_sem, Nat.add_assoc, reduceIte, reduceCtorEq, Nat.reduceEqDiff, Nat.reduceAdd, Nat.reduceMul, Nat.reduceSub, Nat.reduceLeDiff, Nat.reduceLT, Nat.reduceBEq, Nat.reduceBNe, Int.reduceLE, Int.reduceLT, Int.reduceToNat, Int.reduceEq, Int.reduceNe, Int.reduceNeg, Nat.reduceEqDiff, Int.reduceAdd, Int.reduceSub, Int.reduceMul, Int.cast_ofNat_Int, Int.natCast_zero, g1, b1, gc, h.sk.1, cC, g2]; repeat' ((first | refine kont_next ?_ | refine kont_nextn ?_ | refine ikont_next ?_ | refine ikont_nextn ?_) <;> (try simp only [go_sem, Nat.add_assoc, reduceIte, reduceCtorEq, Nat.reduceEqDiff, Nat.reduceAdd, Nat.reduceMul, Nat.reduceSub, Nat.reduceLeDiff, Nat.reduceLT, Nat.reduceBEq, Nat.reduceBNe, Int.reduceLE, Int.reduceLT, Int.reduceToNat, Int.reduceEq, Int.reduceNe, Int.reduceNeg, Nat.reduceEqDiff, Int.reduceAdd, Int.reduceSub, Int.reduceMul, Int.cast_ofNat_Int, Int.natCast_zero, g1, b1, gc, h.sk.1, cC, g2])))
    have g2 := decide_eq_false h1
    rw [geB_t (a := 1) (b := m) (by omega)] at hT
    by_cases h2 : left < m
    · have g3 := decide_eq_true h2
      rw [geB_f (a := m) (b := left) (by omega)] at hT
      simp only [Bool.false_and, Bool.and_false] at hT
      rw [← hT]
      (simp only [go_sem, Nat.add_assoc, reduceIte, reduceCtorEq, Nat.reduceEqDiff, Nat.reduceAdd, Nat.reduceMul, Nat.reduceSub, Nat.reduceLeDiff, Nat.reduceLT, Nat.reduceBEq, Nat.reduceBNe, Int.reduceLE, Int.reduceLT, Int.reduceToNat, Int.reduceEq, Int.reduceNe, Int.reduceNeg, Nat.reduceEqDiff, Int.reduceAdd, Int.reduceSub, Int.reduceMul, Int.cast_ofNat_Int, Int.natCast_zero, g1, b1, gc, h.sk.1, cC, g2, g3]; repeat' ((first | refine kont_next ?_ | refine kont_nextn ?_ | refine ikont_next ?_ | refine ikont_nextn ?_) <;> (try simp only [go_sem, Nat.add_assoc, reduceIte, reduceCtorEq, Nat.reduceEqDiff, Nat.reduceAdd, Nat.reduceMul, Nat.reduceSub, Nat.reduceLeDiff, Nat.reduceLT, Nat.reduceBEq, Nat.reduceBNe, Int.reduceLE, Int.reduceLT, Int.reduceToNat, Int.reduceEq, Int.reduceNe, Int.reduceNeg, Nat.reduceEqDiff, Int.reduceAdd, Int.reduceSub, Int.reduceMul, Int.cast_ofNat_Int, Int.natCast_zero, g1, b1, gc, h.sk.1, cC, g2, g3])))
    have g3 := decide_eq_false h2
    rw [geB_t (a := m) (b := left) (by omega)] at hT
    simp only [Bool.true_and] at hT
    cases h3 : mayV (Vl.p (.mk ck cn cs ckk cz cl)) 0 with
    | false =>
      rw [h3] at hT ec
      simp only [Bool.false_and, Bool.and_false] at hT
      rw [← hT]
      (simp only [go_sem, Nat.add_assoc, reduceIte, reduceCtorEq, Nat.reduceEqDiff, Nat.reduceAdd, Nat.reduceMul, Nat.reduceSub, Nat.reduceLeDiff, Nat.reduceLT, Nat.reduceBEq, Nat.reduceBNe, Int.reduceLE, Int.reduceLT, Int.reduceToNat, Int.reduceEq, Int.reduceNe, Int.reduceNeg, Nat.reduceEqDiff, Int.reduceAdd, Int.reduceSub, Int.reduceMul, Int.cast_ofNat_Int, Int.natCast_zero, g1, b1, gc, h.sk.1, cC, g2, g3, s39, ec]; repeat' ((first | refine kont_next ?_ | refine kont_nextn ?_ | refine ikont_next ?_ | refine ikont_nextn ?_) <;> (try simp only [go_sem, Nat.add_assoc, reduceIte, reduceCtorEq, Nat.reduceEqDiff, Nat.reduceAdd, Nat.reduceMul, Nat.reduceSub, Nat.reduceLeDiff, Nat.reduceLT, Nat.reduceBEq, Nat.reduceBNe, Int.reduceLE, Int.reduceLT, Int.reduceToNat, Int.reduceEq, Int.reduceNe, Int.reduceNeg, Nat.reduceEqDiff, Int.reduceAdd, Int.reduceSub, Int.reduceMul, Int.cast_ofNat_Int, Int.natCast_zero, g1, b1, gc, h.sk.1, cC, g2, g3, s39, ec])))
    | true =>
      rw [h3] at hT ec
      simp only [Bool.true_and] at hT
      have hws : IntKind.i64.wrap (left - m) = left - m := wrap_i64 (by omega) (by omega)
      have hnext : ∀ T : okF (left - m) (some (Vl.p (.mk ck cn cs ckk cz cl))) ((cPs l).drop (i + 1)) = okB (cPs l), ∃ y : Nat × Int, [AV.sl k z (l.map cC), .i .i64 (left - m), .i .i64 ((i + 1 : Nat) : Int)] = [.sl k z (l.map cC), .i .i64 y.2, .i .i64 y.1] ∧
          (y.1 ≤ l.length ∧ y.2 ≤ MC ∧ 0 ≤ y.2 ∧ okF y.2 (prevB (cPs l) y.1) ((cPs l).drop y.1) = okB (cPs l)) ∧ l.length - y.1 < l.length - i := fun T =>
        ⟨(i + 1, left - m), rfl, ⟨by simp only; omega, by simp only; omega, by simp only; omega, by simp only [prevB, cPs_get gc, Option.map_some]; exact T⟩, by simp only; omega⟩
      by_cases hz : i = 0
      · have hp : prevB (cPs l) i = none := by rw [hz]; rfl
        have g4 : decide ((0 : Int) < (i : Int)) = false := decide_eq_false (by omega)
        rw [hp] at hT
        simp only [ltP, Bool.true_and] at hT
        (simp only [go_sem, Nat.add_assoc, reduceIte, reduceCtorEq, Nat.reduceEqDiff, Nat.reduceAdd, Nat.reduceMul, Nat.reduceSub, Nat.reduceLeDiff, Nat.reduceLT, Nat.reduceBEq, Nat.reduceBNe, Int.reduceLE, Int.reduceLT, Int.reduceToNat, Int.reduceEq, Int.reduceNe, Int.reduceNeg, Nat.reduceEqDiff, Int.reduceAdd, Int.reduceSub, Int.reduceMul, Int.cast_ofNat_Int, Int.natCast_zero, g1, b1, gc, h.sk.1, cC, g2, g3, s39, ec, hw, hws, g4]; repeat' ((first | refine kont_next ?_ | refine kont_nextn ?_ | refine ikont_next ?_ | refine ikont_nextn ?_) <;> (try simp only [go_sem, Nat.add_assoc, reduceIte, reduceCtorEq, Nat.reduceEqDiff, Nat.reduceAdd, Nat.reduceMul, Nat.reduceSub, Nat.reduceLeDiff, Nat.reduceLT, Nat.reduceBEq, Nat.reduceBNe, Int.reduceLE, Int.reduceLT, Int.reduceToNat, Int.reduceEq, Int.reduceNe, Int.reduceNeg, Nat.reduceEqDiff, Int.reduceAdd, Int.reduceSub, Int.reduceMul, Int.cast_ofNat_Int, Int.natCast_zero, g1, b1, gc, h.sk.1, cC, g2, g3, s39, ec, hw, hws, g4])))
        exact hnext hT
      · have hj : i - 1 < l.length := by omega
        obtain ⟨⟨d, m'⟩, gd⟩ := get_lt3 hj
        have hdo := h.get gd
        have ecmp := e43 d (.mk ck cn cs ckk cz cl) hdo hvo
        obtain ⟨dk, dn, ds, dkk, dz, dl⟩ := d
        simp only [Vl.c] at ecmp
        have hp : prevB (cPs l) i = some (Vl.p (.mk dk dn ds dkk dz dl)) := by
          rw [show i = (i - 1) + 1 by omega]
          simp only [prevB, cPs_get gd, Option.map_some, cP]
        rw [hp] at hT
        have g4 : decide ((0 : Int) < (i : Int)) = true := decide_eq_true (by omega)
        have hw2 := wrap_pred (k := i) (by omega) (by omega)
        have b2 : (0 : Int) ≤ ((i - 1 : Nat) : Int) := by omega
        by_cases h4 : cmpV (Vl.p (.mk dk dn ds dkk dz dl)) (Vl.p (.mk ck cn cs ckk cz cl)) < 0
        · have g5 : decide (0 ≤ cmpV (Vl.p (.mk dk dn ds dkk dz dl)) (Vl.p (.mk ck cn cs ckk cz cl))) = false := decide_eq_false (by omega)
          rw [show ltP (some (Vl.p (.mk dk dn ds dkk dz dl))) (Vl.p (.mk ck cn cs ckk cz cl)) = true from decide_eq_true h4, Bool.true_and] at hT
          (simp only [go_sem, Nat.add_assoc, reduceIte, reduceCtorEq, Nat.reduceEqDiff, Nat.reduceAdd, Nat.reduceMul, Nat.reduceSub, Nat.reduceLeDiff, Nat.reduceLT, Nat.reduceBEq, Nat.reduceBNe, Int.reduceLE, Int.reduceLT, Int.reduceToNat, Int.reduceEq, Int.reduceNe, Int.reduceNeg, Nat.reduceEqDiff, Int.reduceAdd, Int.reduceSub, Int.reduceMul, Int.cast_ofNat_Int, Int.natCast_zero, g1, b1, gc, gd, h.sk.1, cC, g2, g3, s39, ec, hw, hws, g4, hw2, b2, s43, ecmp, g5]; repeat' ((first | refine kont_next ?_ | refine kont_nextn ?_ | refine ikont_next ?_ | refine ikont_nextn ?_) <;> (try simp only [go_sem, Nat.add_assoc, reduceIte, reduceCtorEq, Nat.reduceEqDiff, Nat.reduceAdd, Nat.reduceMul, Nat.reduceSub, Nat.reduceLeDiff, Nat.reduceLT, Nat.reduceBEq, Nat.reduceBNe, Int.reduceLE, Int.reduceLT, Int.reduceToNat, Int.reduceEq, Int.reduceNe, Int.reduceNeg, Nat.reduceEqDiff, Int.reduceAdd, Int.reduceSub, Int.reduceMul, Int.cast_ofNat_Int, Int.natCast_zero, g1, b1, gc, gd, h.sk.1, cC, g2, g3, s39, ec, hw, hws, g4, hw2, b2, s43, ecmp, g5])))
          exact hnext hT
        · have g5 : decide (0 ≤ cmpV (Vl.p (.mk dk dn ds dkk dz dl)) (Vl.p (.mk ck cn cs ckk cz cl))) = true := decide_eq_true (by omega)
          rw [show ltP (some (Vl.p (.mk dk dn ds dkk dz dl))) (Vl.p (.mk ck cn cs ckk cz cl)) = false from decide_eq_false h4, Bool.false_and] at hT
          rw [← hT]
          (simp only [go_sem, Nat.add_assoc, reduceIte, reduceCtorEq, Nat.reduceEqDiff, Nat.reduceAdd, Nat.reduceMul, Nat.reduceSub, Nat.reduceLeDiff, Nat.reduceLT, Nat.reduceBEq, Nat.reduceBNe, Int.reduceLE, Int.reduceLT, Int.reduceToNat, Int.reduceEq, Int.reduceNe, Int.reduceNeg, Nat.reduceEqDiff, Int.reduceAdd, Int.reduceSub, Int.reduceMul, Int.cast_ofNat_Int, Int.natCast_zero, g1, b1, gc, gd, h.sk.1, cC, g2, g3, s39, ec, hw, hws, g4, hw2, b2, s43, ecmp, g5]; repeat' ((first | refine kont_next ?_ | refine kont_nextn ?_ | refine ikont_next ?_ | refine ikont_nextn ?_) <;> (try simp only [go_sem, Nat.add_assoc, reduceIte, reduceCtorEq, Nat.reduceEqDiff, Nat.reduceAdd, Nat.reduceMul, Nat.reduceSub, Nat.reduceLeDiff, Nat.reduceLT, Nat.reduceBEq, Nat.reduceBNe, Int.reduceLE, Int.reduceLT, Int.reduceToNat, Int.reduceEq, Int.reduceNe, Int.reduceNeg, Nat.reduceEqDiff, Int.reduceAdd, Int.reduceSub, Int.reduceMul, Int.cast_ofNat_Int, Int.natCast_zero, g1, b1, gc, gd, h.sk.1, cC, g2, g3, s39, ec, hw, hws, g4, hw2, b2, s43, ecmp, g5])))
  · have g1 : decide ((i : Int) < (l.length : Int)) = false := decide_eq_false (by omega)
    have : (cPs l).drop i = [] := List.drop_of_length_le (by simp; omega)
    rw [this] at hT
    simp only [okF] at hT
    rw [← hT]
    (simp only [go_sem, Nat.add_assoc, reduceIte, reduceCtorEq, Nat.reduceEqDiff, Nat.reduceAdd, Nat.reduceMul, Nat.reduceSub, Nat.reduceLeDiff, Nat.reduceLT, Nat.reduceBEq, Nat.reduceBNe, Int.reduceLE, Int.reduceLT, Int.reduceToNat, Int.reduceEq, Int.reduceNe, Int.reduceNeg, Nat.reduceEqDiff, Int.reduceAdd, Int.reduceSub, Int.reduceMul, Int.cast_ofNat_Int, Int.natCast_zero, g1]; repeat' ((first | refine kont_next ?_ | refine kont_nextn ?_ | refine ikont_next ?_ | refine ikont_nextn ?_) <;> (try simp only [go_sem, Nat.add_assoc, reduceIte, reduceCtorEq, Nat.reduceEqDiff, Nat.reduceAdd, Nat.reduceMul, Nat.reduceSub, Nat.reduceLeDiff, Nat.reduceLT, Nat.reduceBEq, Nat.reduceBNe, Int.reduceLE, Int.reduceLT, Int.reduceToNat, Int.reduceEq, Int.reduceNe, Int.reduceNeg, Nat.reduceEqDiff, Int.reduceAdd, Int.reduceSub, Int.reduceMul, Int.cast_ofNat_Int, Int.natCast_zero, g1])))
theorem e38 {k : SK} {z : Nat} {l : List (Vl × Int)} (h : OkL k z l) : ∃ u, acall S 38 [.sl k z (l.map cC)] = some (rowU u, []) ∧ cPs u = mayB (cPs l) ∧ OkU u ∧ u.length ≤ l.length := by
  have hl := h.ln
  have hL : LIM = 274877906944 := rfl
  have ec := e13 h
  suffices hW : W (acall S 38 [.sl k z (l.map cC)]) (fun r => ∃ u, r = (rowU u, []) ∧ cPs u = mayB (cPs l) ∧ OkU u ∧ u.length ≤ l.length) by
    obtain ⟨r, h1, u, rfl, h2⟩ := hW
    exact ⟨u, h1, h2⟩
  refine g38 rfl ?_
  unfold mayB
  cases hok : okB (cPs l) with
  | false =>
    rw [hok] at ec
    (simp only [go_sem, Nat.add_assoc, reduceIte, reduceCtorEq, Nat.reduceEqDiff, Nat.reduceAdd, Nat.reduceMul, Nat.reduceSub, Nat.reduceLeDiff, Nat.reduceLT, Nat.reduceBEq, Nat.reduceBNe, Int.reduceLE, Int.reduceLT, Int.reduceToNat, Int.reduceEq, Int.reduceNe, Int.reduceNeg, Nat.reduceEqDiff, Int.reduceAdd, Int.reduceSub, Int.reduceMul, Int.cast_ofNat_Int, Int.natCast_zero, a38, s13, ec]; repeat' ((first | refine kont_next ?_ | refine kont_nextn ?_ | refine ikont_next ?_ | refine ikont_nextn ?_) <;> (try simp only [go_sem, Nat.add_assoc, reduceIte, reduceCtorEq, Nat.reduceEqDiff, Nat.reduceAdd, Nat.reduceMul, Nat.reduceSub, Nat.reduceLeDiff, Nat.reduceLT, Nat.reduceBEq, Nat.reduceBNe, Int.reduceLE, Int.reduceLT, Int.reduceToNat, Int.reduceEq, Int.reduceNe, Int.reduceNeg, Nat.reduceEqDiff, Int.reduceAdd, Int.reduceSub, Int.reduceMul, Int.cast_ofNat_Int, Int.natCast_zero, a38, s13, ec])))
    exact ⟨[], rfl, rfl, ⟨by simp, by simp⟩, by simp⟩
  | true =>
    rw [hok] at ec
    (simp only [go_sem, Nat.add_assoc, reduceIte, reduceCtorEq, Nat.reduceEqDiff, Nat.reduceAdd, Nat.reduceMul, Nat.reduceSub, Nat.reduceLeDiff, Nat.reduceLT, Nat.reduceBEq, Nat.reduceBNe, Int.reduceLE, Int.reduceLT, Int.reduceToNat, Int.reduceEq, Int.reduceNe, Int.reduceNeg, Nat.reduceEqDiff, Int.reduceAdd, Int.reduceSub, Int.reduceMul, Int.cast_ofNat_Int, Int.natCast_zero, a38, s13, ec]; repeat' ((first | refine kont_next ?_ | refine kont_nextn ?_ | refine ikont_next ?_ | refine ikont_nextn ?_) <;> (try simp only [go_sem, Nat.add_assoc, reduceIte, reduceCtorEq, Nat.reduceEqDiff, Nat.reduceAdd, Nat.reduceMul, Nat.reduceSub, Nat.reduceLeDiff, Nat.reduceLT, Nat.reduceBEq, Nat.reduceBNe, Int.reduceLE, Int.reduceLT, Int.reduceToNat, Int.reduceEq, Int.reduceNe, Int.reduceNeg, Nat.reduceEqDiff, Int.reduceAdd, Int.reduceSub, Int.reduceMul, Int.cast_ofNat_Int, Int.natCast_zero, a38, s13, ec])))
    refine kloop_inv (ι := List (Vl × Int)) (fun u => [.sl k z (l.map cC), rowU u, .i .i64 u.length]) (fun u => u.length ≤ l.length ∧ cPs u = cPs (l.take u.length) ∧ OkU u) (fun u => l.length - u.length) [] (by simp) ⟨by simp, rfl, by simp, by simp⟩ ?_
    rintro u ⟨hu, hP, ho⟩
    by_cases hlt : u.length < l.length
    · obtain ⟨⟨c, m⟩, gc⟩ := get_lt3 hlt
      have g1 : decide ((u.length : Int) < (l.length : Int)) = true := decide_eq_true (by omega)
      have b1 : (0 : Int) ≤ (u.length : Int) := by omega
      have hw := wrap_succ (k := u.length) (by omega)
      obtain ⟨d, ed, hdp, hdo⟩ := e65 c (h.get gc)
      obtain ⟨ck, cn, cs, ckk, cz, cl⟩ := c
      simp only [Vl.c] at ed
      have hlim : u.length + 1 ≤ LIM := by omega
      obtain ⟨dk, dn, ds, dkk, dz, dl⟩ := d
      simp only [Vl.c] at ed
      (simp only [go_sem, Nat.add_assoc, reduceIte, reduceCtorEq, Nat.reduceEqDiff, Nat.reduceAdd, Nat.reduceMul, Nat.reduceSub, Nat.reduceLeDiff, Nat.reduceLT, Nat.reduceBEq, Nat.reduceBNe, Int.reduceLE, Int.reduceLT, Int.reduceToNat, Int.reduceEq, Int.reduceNe, Int.reduceNeg, Nat.reduceEqDiff, Int.reduceAdd, Int.reduceSub, Int.reduceMul, Int.cast_ofNat_Int, Int.natCast_zero, g1, b1, gc, h.sk.1, cC, s65, ed, hw, hlim, List.length_map]; repeat' ((first | refine kont_next ?_ | refine kont_nextn ?_ | refine ikont_next ?_ | refine ikont_nextn ?_) <;> (try simp only [go_sem, Nat.add_assoc, reduceIte, reduceCtorEq, Nat.reduceEqDiff, Nat.reduceAdd, Nat.reduceMul, Nat.reduceSub, Nat.reduceLeDiff, Nat.reduceLT, Nat.reduceBEq, Nat.reduceBNe, Int.reduceLE, Int.reduceLT, Int.reduceToNat, Int.reduceEq, Int.reduceNe, Int.reduceNeg, Nat.reduceEqDiff, Int.reduceAdd, Int.reduceSub, Int.reduceMul, Int.cast_ofNat_Int, Int.natCast_zero, g1, b1, gc, h.sk.1, cC, s65, ed, hw, hlim, List.length_map])))
      refine ⟨u ++ [(.mk dk dn ds dkk dz dl, m)], ?_, ⟨by simp; omega, ?_, ?_, ?_⟩, by simp; omega⟩
      · simp [rowU, cC]
      · rw [List.length_append, List.length_singleton, take_get gc]
        simp only [cPs, List.map_append] at hP ⊢
        rw [hP]
        simp [cP, hdp]
      · simp; omega
      · intro x hx
        rcases List.mem_append.1 hx with hx | hx
        · exact ho.ok x hx
        · rw [List.mem_singleton.1 hx]; exact hdo
    · have g1 : decide ((u.length : Int) < (l.length : Int)) = false := decide_eq_false (by omega)
      rw [List.take_of_length_le (by omega)] at hP
      (simp only [go_sem, Nat.add_assoc, reduceIte, reduceCtorEq, Nat.reduceEqDiff, Nat.reduceAdd, Nat.reduceMul, Nat.reduceSub, Nat.reduceLeDiff, Nat.reduceLT, Nat.reduceBEq, Nat.reduceBNe, Int.reduceLE, Int.reduceLT, Int.reduceToNat, Int.reduceEq, Int.reduceNe, Int.reduceNeg, Nat.reduceEqDiff, Int.reduceAdd, Int.reduceSub, Int.reduceMul, Int.cast_ofNat_Int, Int.natCast_zero, g1]; repeat' ((first | refine kont_next ?_ | refine kont_nextn ?_ | refine ikont_next ?_ | refine ikont_nextn ?_) <;> (try simp only [go_sem, Nat.add_assoc, reduceIte, reduceCtorEq, Nat.reduceEqDiff, Nat.reduceAdd, Nat.reduceMul, Nat.reduceSub, Nat.reduceLeDiff, Nat.reduceLT, Nat.reduceBEq, Nat.reduceBNe, Int.reduceLE, Int.reduceLT, Int.reduceToNat, Int.reduceEq, Int.reduceNe, Int.reduceNeg, Nat.reduceEqDiff, Int.reduceAdd, Int.reduceSub, Int.reduceMul, Int.cast_ofNat_Int, Int.natCast_zero, g1])))
      exact ⟨u, rfl, hP, ho, hu⟩
theorem e28 {k : SK} {z : Nat} {l : List (Vl × Int)} (h : OkL k z l) : acall S 28 [.sl k z (l.map cC)] = some (.i .i64 (totB (mayB (cPs l))), []) := by
  have hMC : MC = 9007199254740992 := rfl
  obtain ⟨u, e0, p0, o0, n0⟩ := e38 h
  have hok0 := ok_mayB (cPs l)
  refine W_eq (g28 rfl ?_)
  generalize mayB (cPs l) = B at *
  rw [← p0] at hok0 ⊢
  have hln := o0.ln
  (simp only [go_sem, Nat.add_assoc, reduceIte, reduceCtorEq, Nat.reduceEqDiff, Nat.reduceAdd, Nat.reduceMul, Nat.reduceSub, Nat.reduceLeDiff, Nat.reduceLT, Nat.reduceBEq, Nat.reduceBNe, Int.reduceLE, Int.reduceLT, Int.reduceToNat, Int.reduceEq, Int.reduceNe, Int.reduceNeg, Nat.reduceEqDiff, Int.reduceAdd, Int.reduceSub, Int.reduceMul, Int.cast_ofNat_Int, Int.natCast_zero, a28, s38, e0]; repeat' ((first | refine kont_next ?_ | refine kont_nextn ?_ | refine ikont_next ?_ | refine ikont_nextn ?_) <;> (try simp only [go_sem, Nat.add_assoc, reduceIte, reduceCtorEq, Nat.reduceEqDiff, Nat.reduceAdd, Nat.reduceMul, Nat.reduceSub, Nat.reduceLeDiff, Nat.reduceLT, Nat.reduceBEq, Nat.reduceBNe, Int.reduceLE, Int.reduceLT, Int.reduceToNat, Int.reduceEq, Int.reduceNe, Int.reduceNeg, Nat.reduceEqDiff, Int.reduceAdd, Int.reduceSub, Int.reduceMul, Int.cast_ofNat_Int, Int.natCast_zero, a28, s38, e0])))
  refine kloop_inv (ι := Nat × Int) (fun x => [rowU u, .i .i64 x.2, .i .i64 x.1]) (fun x => x.1 ≤ u.length ∧ x.2 = totB ((cPs u).take x.1)) (fun x => u.length - x.1) (0, 0) rfl ⟨by simp, by simp [totB]⟩ ?_
  rintro ⟨i, t⟩ ⟨hi, ht⟩
  simp only at hi ht
  by_cases hlt : i < u.length
  · obtain ⟨⟨c, m⟩, gc⟩ := get_lt3 hlt
    have g1 : decide ((i : Int) < (u.length : Int)) = true := decide_eq_true (by omega)
    have b1 : (0 : Int) ≤ (i : Int) := by omega
    have b4 : (i : Int) < (u.length : Int) := by omega
    have hw := wrap_succ (k := i) (by omega)
    have h1 := tot_take (cPs_get gc)
    have h2 := tot_le (i + 1) hok0.pos
    have h3 := tot_nonneg (b := (cPs u).take (i + 1)) fun y hy => hok0.pos y (List.mem_of_mem_take hy)
    have h4 := hok0.tot
    simp only [cP] at h1
    have hwt : IntKind.i64.wrap (t + m) = t + m := wrap_i64 (by omega) (by omega)
    obtain ⟨ck, cn, cs, ckk, cz, cl⟩ := c
    (simp only [go_sem, Nat.add_assoc, reduceIte, reduceCtorEq, Nat.reduceEqDiff, Nat.reduceAdd, Nat.reduceMul, Nat.reduceSub, Nat.reduceLeDiff, Nat.reduceLT, Nat.reduceBEq, Nat.reduceBNe, Int.reduceLE, Int.reduceLT, Int.reduceToNat, Int.reduceEq, Int.reduceNe, Int.reduceNeg, Nat.reduceEqDiff, Int.reduceAdd, Int.reduceSub, Int.reduceMul, Int.cast_ofNat_Int, Int.natCast_zero, g1, b1, b4, hlt, gc, cC, hw, hwt, List.length_map]; repeat' ((first | refine kont_next ?_ | refine kont_nextn ?_ | refine ikont_next ?_ | refine ikont_nextn ?_) <;> (try simp only [go_sem, Nat.add_assoc, reduceIte, reduceCtorEq, Nat.reduceEqDiff, Nat.reduceAdd, Nat.reduceMul, Nat.reduceSub, Nat.reduceLeDiff, Nat.reduceLT, Nat.reduceBEq, Nat.reduceBNe, Int.reduceLE, Int.reduceLT, Int.reduceToNat, Int.reduceEq, Int.reduceNe, Int.reduceNeg, Nat.reduceEqDiff, Int.reduceAdd, Int.reduceSub, Int.reduceMul, Int.cast_ofNat_Int, Int.natCast_zero, g1, b1, b4, hlt, gc, cC, hw, hwt, List.length_map])))
    exact ⟨(i + 1, t + m), rfl, ⟨by simp only; omega, by simp only; omega⟩, by simp only; omega⟩
  · have g1 : decide ((i : Int) < (u.length : Int)) = false := decide_eq_false (by omega)
    rw [List.take_of_length_le (by simp; omega)] at ht
    (simp only [go_sem, Nat.add_assoc, reduceIte, reduceCtorEq, Nat.reduceEqDiff, Nat.reduceAdd, Nat.reduceMul, Nat.reduceSub, Nat.reduceLeDiff, Nat.reduceLT, Nat.reduceBEq, Nat.reduceBNe, Int.reduceLE, Int.reduceLT, Int.reduceToNat, Int.reduceEq, Int.reduceNe, Int.reduceNeg, Nat.reduceEqDiff, Int.reduceAdd, Int.reduceSub, Int.reduceMul, Int.cast_ofNat_Int, Int.natCast_zero, g1]; repeat' ((first | refine kont_next ?_ | refine kont_nextn ?_ | refine ikont_next ?_ | refine ikont_nextn ?_) <;> (try simp only [go_sem, Nat.add_assoc, reduceIte, reduceCtorEq, Nat.reduceEqDiff, Nat.reduceAdd, Nat.reduceMul, Nat.reduceSub, Nat.reduceLeDiff, Nat.reduceLT, Nat.reduceBEq, Nat.reduceBNe, Int.reduceLE, Int.reduceLT, Int.reduceToNat, Int.reduceEq, Int.reduceNe, Int.reduceNeg, Nat.reduceEqDiff, Int.reduceAdd, Int.reduceSub, Int.reduceMul, Int.cast_ofNat_Int, Int.natCast_zero, g1])))
    rw [ht]
end Go.Proofs.Ytabbjdclfmeipaa
