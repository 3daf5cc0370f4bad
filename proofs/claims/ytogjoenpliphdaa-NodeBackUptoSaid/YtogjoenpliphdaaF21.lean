import Derived.Test.YtogjoenpliphdaaF20
import Derived.Test.YtogjoenpliphdaaP4
set_option linter.unusedSimpArgs false
set_option linter.unusedVariables false
set_option maxHeartbeats 8000000
set_option maxRecDepth 100000
namespace Go.Proofs.Ytogjoenpliphdaa
open Go.Abs

theorem form_len (n : Nd) : formP n.p = formB n := formP_eq n
theorem e6 (n : Nd) (hf : Few n) (hfl : (formB n).length + 100 ≤ LIM) {k : SK} {z : Nat} {l : List UInt8} (h : OkS k z 1 l) (hl : l.length ≤ LIM) : acall S 6 [n.v, .sl k z (ofU8s l)] = some (.b true, []) := by
  have h11 := e11
  obtain ⟨x, ex, hx⟩ := e21 h hl
  have fx := parse_few hx
  -- the second half
  have second : ∀ (hp0 : (parseP l).2 = 0), ∃ (hb : ¬ BadN x), formB x = l ∧ l.length ≤ 448 := by
    intro hp0
    obtain ⟨h1, h2, h3⟩ := form_parse (b := l) (n := x.p) (Prod.ext hx.symm hp0)
    exact ⟨fun hb => h1 ((badP_eq x).2 hb), by rw [← formP_eq, h2], h3⟩
  have hpe : (parseP l).2 = 0 ∨ (parseP l).2 = 80 := by unfold parseP; split; exact .inr rfl; exact .inl rfl
  have h9 := e9 n hf hfl
  have h14 := e14 n hfl
  refine W_eq (g6 rfl ?_)
  by_cases hgood : ¬ BadN n ∧ (formB n).length ≤ 448
  · obtain ⟨hb, hle⟩ := hgood
    have hbt : bytesT n = [.sl .open_ 1 (ofU8s (formB n)), .i .i64 0] := by unfold bytesT; rw [if_neg hb, if_neg (by omega)]
    rw [hbt] at h9
    obtain ⟨y, ey, hy⟩ := e21 (OkS.open_ 1 (formB n)) (by unfold LIM; omega)
    have hpar : parseP (formB n) = (n.p, 0) := by
      rw [← formP_eq n]
      exact parse_form (fun h => hb ((badP_eq n).1 h)) (by rw [formP_eq]; exact hle)
    have fy := parse_few hy
    rw [hpar] at ey hy
    have hs := e20 y n fy hf
    rw [decide_eq_true hy] at hs
    rcases hpe with hp0 | hp0
    · obtain ⟨hbx, hfx, hlx⟩ := second hp0
      rw [hp0] at ex
      have h9x := e9 x fx (by rw [hfx]; unfold LIM; omega)
      have hbtx : bytesT x = [.sl .open_ 1 (ofU8s l), .i .i64 0] := by unfold bytesT; rw [if_neg hbx, hfx, if_neg (by omega)]
      rw [hbtx] at h9x
      have h16 := e16 (OkS.open_ 1 l) h
      rw [decide_eq_true rfl] at h16
      simp only [Nd.v, Nd.cs] at h9 h14 ey hs ex h9x ⊢
      (simp only [go_sem, Nat.add_assoc, reduceIte, reduceCtorEq, Nat.reduceEqDiff, Nat.reduceAdd, Nat.reduceMul, Nat.reduceSub, Nat.reduceLeDiff, Nat.reduceLT, Nat.reduceBEq, Nat.reduceBNe, Int.reduceLE, Int.reduceLT, Int.reduceToNat, Int.reduceEq, Int.reduceNe, Int.reduceNeg, Nat.reduceEqDiff, Int.reduceAdd, Int.reduceSub, Int.reduceMul, Int.cast_ofNat_Int, Int.natCast_zero, a6, s11, h11, s9, h9, s21, ey, s20, hs, s14, h14, ex, h9x, s16, h16]; repeat' (refine kont_next ?_ <;> (try simp only [go_sem, Nat.add_assoc, reduceIte, reduceCtorEq, Nat.reduceEqDiff, Nat.reduceAdd, Nat.reduceMul, Nat.reduceSub, Nat.reduceLeDiff, Nat.reduceLT, Nat.reduceBEq, Nat.reduceBNe, Int.reduceLE, Int.reduceLT, Int.reduceToNat, Int.reduceEq, Int.reduceNe, Int.reduceNeg, Nat.reduceEqDiff, Int.reduceAdd, Int.reduceSub, Int.reduceMul, Int.cast_ofNat_Int, Int.natCast_zero, a6, s11, h11, s9, h9, s21, ey, s20, hs, s14, h14, ex, h9x, s16, h16])))
    · rw [hp0] at ex
      simp only [Nd.v, Nd.cs] at h9 h14 ey hs ex ⊢
      (simp only [go_sem, Nat.add_assoc, reduceIte, reduceCtorEq, Nat.reduceEqDiff, Nat.reduceAdd, Nat.reduceMul, Nat.reduceSub, Nat.reduceLeDiff, Nat.reduceLT, Nat.reduceBEq, Nat.reduceBNe, Int.reduceLE, Int.reduceLT, Int.reduceToNat, Int.reduceEq, Int.reduceNe, Int.reduceNeg, Nat.reduceEqDiff, Int.reduceAdd, Int.reduceSub, Int.reduceMul, Int.cast_ofNat_Int, Int.natCast_zero, a6, s11, h11, s9, h9, s21, ey, s20, hs, s14, h14, ex]; repeat' (refine kont_next ?_ <;> (try simp only [go_sem, Nat.add_assoc, reduceIte, reduceCtorEq, Nat.reduceEqDiff, Nat.reduceAdd, Nat.reduceMul, Nat.reduceSub, Nat.reduceLeDiff, Nat.reduceLT, Nat.reduceBEq, Nat.reduceBNe, Int.reduceLE, Int.reduceLT, Int.reduceToNat, Int.reduceEq, Int.reduceNe, Int.reduceNeg, Nat.reduceEqDiff, Int.reduceAdd, Int.reduceSub, Int.reduceMul, Int.cast_ofNat_Int, Int.natCast_zero, a6, s11, h11, s9, h9, s21, ey, s20, hs, s14, h14, ex])))
  · obtain ⟨v, e, hbt, he⟩ : ∃ v e, bytesT n = [v, .i .i64 e] ∧ decide (e = 0) = false ∧ v = .sl .nil 0 [] := by
      unfold bytesT
      by_cases hb : BadN n
      · rw [if_pos hb]; exact ⟨_, _, rfl, rfl, rfl⟩
      · rw [if_neg hb, if_pos (by by_cases h : (formB n).length > 448; exact h; exact absurd ⟨hb, by omega⟩ hgood)]
        exact ⟨_, _, rfl, rfl, rfl⟩
    obtain ⟨he, rfl⟩ := he
    rw [hbt] at h9
    rcases hpe with hp0 | hp0
    · obtain ⟨hbx, hfx, hlx⟩ := second hp0
      rw [hp0] at ex
      have h9x := e9 x fx (by rw [hfx]; unfold LIM; omega)
      have hbtx : bytesT x = [.sl .open_ 1 (ofU8s l), .i .i64 0] := by unfold bytesT; rw [if_neg hbx, hfx, if_neg (by omega)]
      rw [hbtx] at h9x
      have h16 := e16 (OkS.open_ 1 l) h
      rw [decide_eq_true rfl] at h16
      simp only [Nd.v, Nd.cs] at h9 ex h9x ⊢
      (simp only [go_sem, Nat.add_assoc, reduceIte, reduceCtorEq, Nat.reduceEqDiff, Nat.reduceAdd, Nat.reduceMul, Nat.reduceSub, Nat.reduceLeDiff, Nat.reduceLT, Nat.reduceBEq, Nat.reduceBNe, Int.reduceLE, Int.reduceLT, Int.reduceToNat, Int.reduceEq, Int.reduceNe, Int.reduceNeg, Nat.reduceEqDiff, Int.reduceAdd, Int.reduceSub, Int.reduceMul, Int.cast_ofNat_Int, Int.natCast_zero, a6, s11, h11, s9, h9, he, s21, ex, h9x, s16, h16]; repeat' (refine kont_next ?_ <;> (try simp only [go_sem, Nat.add_assoc, reduceIte, reduceCtorEq, Nat.reduceEqDiff, Nat.reduceAdd, Nat.reduceMul, Nat.reduceSub, Nat.reduceLeDiff, Nat.reduceLT, Nat.reduceBEq, Nat.reduceBNe, Int.reduceLE, Int.reduceLT, Int.reduceToNat, Int.reduceEq, Int.reduceNe, Int.reduceNeg, Nat.reduceEqDiff, Int.reduceAdd, Int.reduceSub, Int.reduceMul, Int.cast_ofNat_Int, Int.natCast_zero, a6, s11, h11, s9, h9, he, s21, ex, h9x, s16, h16])))
    · rw [hp0] at ex
      simp only [Nd.v, Nd.cs] at h9 ex ⊢
      (simp only [go_sem, Nat.add_assoc, reduceIte, reduceCtorEq, Nat.reduceEqDiff, Nat.reduceAdd, Nat.reduceMul, Nat.reduceSub, Nat.reduceLeDiff, Nat.reduceLT, Nat.reduceBEq, Nat.reduceBNe, Int.reduceLE, Int.reduceLT, Int.reduceToNat, Int.reduceEq, Int.reduceNe, Int.reduceNeg, Nat.reduceEqDiff, Int.reduceAdd, Int.reduceSub, Int.reduceMul, Int.cast_ofNat_Int, Int.natCast_zero, a6, s11, h11, s9, h9, he, s21, ex]; repeat' (refine kont_next ?_ <;> (try simp only [go_sem, Nat.add_assoc, reduceIte, reduceCtorEq, Nat.reduceEqDiff, Nat.reduceAdd, Nat.reduceMul, Nat.reduceSub, Nat.reduceLeDiff, Nat.reduceLT, Nat.reduceBEq, Nat.reduceBNe, Int.reduceLE, Int.reduceLT, Int.reduceToNat, Int.reduceEq, Int.reduceNe, Int.reduceNeg, Nat.reduceEqDiff, Int.reduceAdd, Int.reduceSub, Int.reduceMul, Int.cast_ofNat_Int, Int.natCast_zero, a6, s11, h11, s9, h9, he, s21, ex])))
end Go.Proofs.Ytogjoenpliphdaa
