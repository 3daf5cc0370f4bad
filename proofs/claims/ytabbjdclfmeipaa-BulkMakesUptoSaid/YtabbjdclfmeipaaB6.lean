/-
  A bag some times; each value once.
-/
import Derived.Test.YtabbjdclfmeipaaB5
set_option linter.unusedSimpArgs false
set_option linter.unusedVariables false
set_option maxHeartbeats 8000000
set_option maxRecDepth 100000
namespace Go.Proofs.Ytabbjdclfmeipaa
open Go.Abs

/-- a bag some times, or an error -/
def scR (b : PB) (n : Int) : PB × Int :=
  if n < 0 then ([], 1) else if n = 0 then ([], 0) else if b = [] then ([], 0) else if MC / totB b < n then ([], 7) else (scaleB n b, 0)
theorem scale_take {b : PB} {n : Int} {i : Nat} {x : PV × Int} (h : b[i]? = some x) : (scaleB n (b.take i) ++ b.drop i).set i (x.1, x.2 * n) = scaleB n (b.take (i + 1)) ++ b.drop (i + 1) := by
  have hlt := (List.getElem?_eq_some_iff.1 h).1
  have hl : (scaleB n (b.take i)).length = i := by simp [scaleB]; omega
  rw [List.set_append_right _ _ (by omega), hl, Nat.sub_self, drop_get3 h, List.set_cons_zero, take_get h]
  simp [scaleB]
theorem mul_fits {b : PB} {n : Int} (hb : Ok b) (hn : 1 ≤ n) (h : ¬ MC / totB b < n) (hne : b ≠ []) : totB b * n ≤ MC := by
  have h1 := len_tot hb.pos
  have h2 : 1 ≤ totB b := by
    cases b with
    | nil => exact absurd rfl hne
    | cons x r => simp only [List.length_cons] at h1; omega
  have h3 : n ≤ MC / totB b := by omega
  have := (Int.le_ediv_iff_mul_le (show 0 < totB b by omega)).1 h3
  rw [Int.mul_comm]; exact this
theorem e11 {k : SK} {z : Nat} {l : List (Vl × Int)} (h : OkL k z l) (n : Int) :
    ∃ g : Bg, acall S 11 [.sl k z (l.map cC), .i .i64 n] = some (.tup [g.a, .i .i64 (scR (mayB (cPs l)) n).2], []) ∧ g.ok ∧ g.p = (scR (mayB (cPs l)) n).1 ∧ g.l.length ≤ l.length := by
  have hMC : MC = 9007199254740992 := rfl
  obtain ⟨u, e0, p0, o0, n0⟩ := e44 h
  have hok0 := ok_mayB (cPs l)
  suffices hW : W (acall S 11 [.sl k z (l.map cC), .i .i64 n]) (fun r => ∃ g : Bg, r = (.tup [g.a, .i .i64 (scR (mayB (cPs l)) n).2], []) ∧ g.ok ∧ g.p = (scR (mayB (cPs l)) n).1 ∧ g.l.length ≤ l.length) by
    obtain ⟨r, h1, g, rfl, h2⟩ := hW
    exact ⟨g, h1, h2⟩
  refine g11 rfl ?_
  generalize mayB (cPs l) = B at *
  rw [← p0] at hok0
  have et := e45 o0.l hok0
  unfold scR
  by_cases h1 : n < 0
  · have g1 := decide_eq_true h1
    rw [if_pos h1]
    (simp only [go_sem, Nat.add_assoc, reduceIte, reduceCtorEq, Nat.reduceEqDiff, Nat.reduceAdd, Nat.reduceMul, Nat.reduceSub, Nat.reduceLeDiff, Nat.reduceLT, Nat.reduceBEq, Nat.reduceBNe, Int.reduceLE, Int.reduceLT, Int.reduceToNat, Int.reduceEq, Int.reduceNe, Int.reduceNeg, Nat.reduceEqDiff, Int.reduceAdd, Int.reduceSub, Int.reduceMul, Int.cast_ofNat_Int, Int.natCast_zero, a11, s44, e0, g1]; repeat' ((first | refine kont_next ?_ | refine kont_nextn ?_ | refine ikont_next ?_ | refine ikont_nextn ?_) <;> (try simp only [go_sem, Nat.add_assoc, reduceIte, reduceCtorEq, Nat.reduceEqDiff, Nat.reduceAdd, Nat.reduceMul, Nat.reduceSub, Nat.reduceLeDiff, Nat.reduceLT, Nat.reduceBEq, Nat.reduceBNe, Int.reduceLE, Int.reduceLT, Int.reduceToNat, Int.reduceEq, Int.reduceNe, Int.reduceNeg, Nat.reduceEqDiff, Int.reduceAdd, Int.reduceSub, Int.reduceMul, Int.cast_ofNat_Int, Int.natCast_zero, a11, s44, e0, g1])))
    exact ⟨⟨.nil, 0, []⟩, rfl, ok_nilB, rfl, by simp⟩
  have g1 := decide_eq_false h1
  rw [if_neg h1]
  by_cases h2 : n = 0
  · have g2 := decide_eq_true h2
    rw [if_pos h2]
    (simp only [go_sem, Nat.add_assoc, reduceIte, reduceCtorEq, Nat.reduceEqDiff, Nat.reduceAdd, Nat.reduceMul, Nat.reduceSub, Nat.reduceLeDiff, Nat.reduceLT, Nat.reduceBEq, Nat.reduceBNe, Int.reduceLE, Int.reduceLT, Int.reduceToNat, Int.reduceEq, Int.reduceNe, Int.reduceNeg, Nat.reduceEqDiff, Int.reduceAdd, Int.reduceSub, Int.reduceMul, Int.cast_ofNat_Int, Int.natCast_zero, a11, s44, e0, g1, g2]; repeat' ((first | refine kont_next ?_ | refine kont_nextn ?_ | refine ikont_next ?_ | refine ikont_nextn ?_) <;> (try simp only [go_sem, Nat.add_assoc, reduceIte, reduceCtorEq, Nat.reduceEqDiff, Nat.reduceAdd, Nat.reduceMul, Nat.reduceSub, Nat.reduceLeDiff, Nat.reduceLT, Nat.reduceBEq, Nat.reduceBNe, Int.reduceLE, Int.reduceLT, Int.reduceToNat, Int.reduceEq, Int.reduceNe, Int.reduceNeg, Nat.reduceEqDiff, Int.reduceAdd, Int.reduceSub, Int.reduceMul, Int.cast_ofNat_Int, Int.natCast_zero, a11, s44, e0, g1, g2])))
    exact ⟨⟨.nil, 0, []⟩, rfl, ok_nilB, rfl, by simp⟩
  have g2 := decide_eq_false h2
  rw [if_neg h2]
  by_cases h3 : u = []
  · subst h3
    have : B = [] := p0.symm
    rw [if_pos this]
    (simp only [go_sem, Nat.add_assoc, reduceIte, reduceCtorEq, Nat.reduceEqDiff, Nat.reduceAdd, Nat.reduceMul, Nat.reduceSub, Nat.reduceLeDiff, Nat.reduceLT, Nat.reduceBEq, Nat.reduceBNe, Int.reduceLE, Int.reduceLT, Int.reduceToNat, Int.reduceEq, Int.reduceNe, Int.reduceNeg, Nat.reduceEqDiff, Int.reduceAdd, Int.reduceSub, Int.reduceMul, Int.cast_ofNat_Int, Int.natCast_zero, a11, s44, e0, g1, g2]; repeat' ((first | refine kont_next ?_ | refine kont_nextn ?_ | refine ikont_next ?_ | refine ikont_nextn ?_) <;> (try simp only [go_sem, Nat.add_assoc, reduceIte, reduceCtorEq, Nat.reduceEqDiff, Nat.reduceAdd, Nat.reduceMul, Nat.reduceSub, Nat.reduceLeDiff, Nat.reduceLT, Nat.reduceBEq, Nat.reduceBNe, Int.reduceLE, Int.reduceLT, Int.reduceToNat, Int.reduceEq, Int.reduceNe, Int.reduceNeg, Nat.reduceEqDiff, Int.reduceAdd, Int.reduceSub, Int.reduceMul, Int.cast_ofNat_Int, Int.natCast_zero, a11, s44, e0, g1, g2])))
    exact ⟨⟨.nil, 0, []⟩, rfl, ok_nilB, rfl, by simp⟩
  have hBne : B ≠ [] := by rw [← p0]; simpa using h3
  have hul : u.length ≠ 0 := fun h => h3 (List.length_eq_zero_iff.1 h)
  have g3 : decide ((u.length : Int) = 0) = false := decide_eq_false (by omega)
  have hnd : decide (u = []) = false := by simp [h3]
  rw [if_neg hBne]
  have ht0 : 1 ≤ totB B := by
    have := len_tot hok0.pos
    rw [p0] at this
    have : (B.length : Int) = u.length := by rw [← p0]; simp
    omega
  have htm := hok0.tot
  rw [p0] at htm
  have hq : IntKind.i64.wrap ((9007199254740992 : Int).tdiv (totB B)) = MC / totB B := by
    rw [Int.tdiv_eq_ediv_of_nonneg (by decide), ← hMC]
    have h1 : 0 ≤ MC / totB B := Int.ediv_nonneg (by omega) (by omega)
    have h2 : MC / totB B ≤ MC := Int.ediv_le_self _ (by omega)
    exact wrap_i64 (by omega) (by omega)
  have g5 : decide (totB B = 0) = false := decide_eq_false (by omega)
  have g6 : ¬ totB B = 0 := by omega
  rw [p0] at et
  by_cases h4 : MC / totB B < n
  · have g4 := decide_eq_true h4
    rw [if_pos h4]
    (simp only [go_sem, Nat.add_assoc, reduceIte, reduceCtorEq, Nat.reduceEqDiff, Nat.reduceAdd, Nat.reduceMul, Nat.reduceSub, Nat.reduceLeDiff, Nat.reduceLT, Nat.reduceBEq, Nat.reduceBNe, Int.reduceLE, Int.reduceLT, Int.reduceToNat, Int.reduceEq, Int.reduceNe, Int.reduceNeg, Nat.reduceEqDiff, Int.reduceAdd, Int.reduceSub, Int.reduceMul, Int.cast_ofNat_Int, Int.natCast_zero, a11, s44, e0, g1, g2, g3, s45, et, hq, g4, g5, g6]; repeat' ((first | refine kont_next ?_ | refine kont_nextn ?_ | refine ikont_next ?_ | refine ikont_nextn ?_) <;> (try simp only [go_sem, Nat.add_assoc, reduceIte, reduceCtorEq, Nat.reduceEqDiff, Nat.reduceAdd, Nat.reduceMul, Nat.reduceSub, Nat.reduceLeDiff, Nat.reduceLT, Nat.reduceBEq, Nat.reduceBNe, Int.reduceLE, Int.reduceLT, Int.reduceToNat, Int.reduceEq, Int.reduceNe, Int.reduceNeg, Nat.reduceEqDiff, Int.reduceAdd, Int.reduceSub, Int.reduceMul, Int.cast_ofNat_Int, Int.natCast_zero, a11, s44, e0, g1, g2, g3, s45, et, hq, g4, g5, g6])))
    exact ⟨⟨.nil, 0, []⟩, rfl, ok_nilB, rfl, by simp⟩
  have g4 := decide_eq_false h4
  rw [if_neg h4]
  have hfit := mul_fits (by rw [← p0]; exact hok0) (by omega) h4 hBne
  have hfitx : ∀ x ∈ cPs u, x.2 * n ≤ MC ∧ 0 ≤ x.2 * n := fun x hx => by
    have h5 := mem_tot hok0.pos x hx
    rw [p0] at h5
    have h6 := hok0.pos x hx
    have := Int.mul_le_mul_of_nonneg_right h5 (show 0 ≤ n by omega)
    exact ⟨by omega, Int.mul_nonneg (by omega) (by omega)⟩
  have hln := o0.ln
  (simp only [go_sem, Nat.add_assoc, reduceIte, reduceCtorEq, Nat.reduceEqDiff, Nat.reduceAdd, Nat.reduceMul, Nat.reduceSub, Nat.reduceLeDiff, Nat.reduceLT, Nat.reduceBEq, Nat.reduceBNe, Int.reduceLE, Int.reduceLT, Int.reduceToNat, Int.reduceEq, Int.reduceNe, Int.reduceNeg, Nat.reduceEqDiff, Int.reduceAdd, Int.reduceSub, Int.reduceMul, Int.cast_ofNat_Int, Int.natCast_zero, a11, s44, e0, g1, g2, g3, s45, et, hq, g4, g5, g6]; repeat' ((first | refine kont_next ?_ | refine kont_nextn ?_ | refine ikont_next ?_ | refine ikont_nextn ?_) <;> (try simp only [go_sem, Nat.add_assoc, reduceIte, reduceCtorEq, Nat.reduceEqDiff, Nat.reduceAdd, Nat.reduceMul, Nat.reduceSub, Nat.reduceLeDiff, Nat.reduceLT, Nat.reduceBEq, Nat.reduceBNe, Int.reduceLE, Int.reduceLT, Int.reduceToNat, Int.reduceEq, Int.reduceNe, Int.reduceNeg, Nat.reduceEqDiff, Int.reduceAdd, Int.reduceSub, Int.reduceMul, Int.cast_ofNat_Int, Int.natCast_zero, a11, s44, e0, g1, g2, g3, s45, et, hq, g4, g5, g6])))
  refine kloop_inv (ι := List (Vl × Int) × Nat) (fun x => [.ow 67 5 false (x.1.map cC), .i .i64 n, .i .i64 u.length, .i .i64 x.2])
    (fun x => x.2 ≤ u.length ∧ x.1.length = u.length ∧ (∀ y ∈ x.1, y.1.ok) ∧ cPs x.1 = scaleB n ((cPs u).take x.2) ++ (cPs u).drop x.2) (fun x => u.length - x.2) (u, 0) (by simp [hnd]) ⟨by simp, rfl, o0.ok, by simp [scaleB]⟩ ?_
  rintro ⟨v, j⟩ ⟨hj, hvl, hvo, hvT⟩
  simp only at hj hvl hvo hvT
  by_cases hjl : j < u.length
  · obtain ⟨⟨c, m⟩, gc⟩ := get_lt3 (show j < v.length by omega)
    have k1 : decide ((j : Int) < (u.length : Int)) = true := decide_eq_true (by omega)
    have b3 : (0 : Int) ≤ (j : Int) := by omega
    have b4 : (j : Int) < (v.length : Int) := by omega
    have b5 : j < v.length := by omega
    have hwj := wrap_succ (k := j) (by omega)
    have gp := cPs_get gc
    have gu : (cPs u)[j]? = some (cP (c, m)) := by
      rw [hvT, List.getElem?_append_right (by simp [scaleB]; omega)] at gp
      simp only [scaleB, List.length_map, List.length_take, List.getElem?_drop] at gp
      rw [show j + (j - min j (u.length)) = j by omega] at gp
      exact gp
    have hf := hfitx _ (List.mem_of_getElem? gu)
    simp only [cP] at hf
    have hwm : IntKind.i64.wrap (m * n) = m * n := wrap_i64 (by omega) (by omega)
    have hco := hvo _ (List.mem_of_getElem? gc)
    have hst := scale_take (n := n) gu
    rw [← hvT] at hst
    simp only [cP] at hst
    obtain ⟨ck, cn, cs, ckk, cz, cl⟩ := c
    (simp only [go_sem, Nat.add_assoc, reduceIte, reduceCtorEq, Nat.reduceEqDiff, Nat.reduceAdd, Nat.reduceMul, Nat.reduceSub, Nat.reduceLeDiff, Nat.reduceLT, Nat.reduceBEq, Nat.reduceBNe, Int.reduceLE, Int.reduceLT, Int.reduceToNat, Int.reduceEq, Int.reduceNe, Int.reduceNeg, Nat.reduceEqDiff, Int.reduceAdd, Int.reduceSub, Int.reduceMul, Int.cast_ofNat_Int, Int.natCast_zero, k1, b3, b4, b5, List.length_map, List.length_set, gc, cC, hwm, hwj]; repeat' ((first | refine kont_next ?_ | refine kont_nextn ?_ | refine ikont_next ?_ | refine ikont_nextn ?_) <;> (try simp only [go_sem, Nat.add_assoc, reduceIte, reduceCtorEq, Nat.reduceEqDiff, Nat.reduceAdd, Nat.reduceMul, Nat.reduceSub, Nat.reduceLeDiff, Nat.reduceLT, Nat.reduceBEq, Nat.reduceBNe, Int.reduceLE, Int.reduceLT, Int.reduceToNat, Int.reduceEq, Int.reduceNe, Int.reduceNeg, Nat.reduceEqDiff, Int.reduceAdd, Int.reduceSub, Int.reduceMul, Int.cast_ofNat_Int, Int.natCast_zero, k1, b3, b4, b5, List.length_map, List.length_set, gc, cC, hwm, hwj])))
    refine ⟨(v.set j (.mk ck cn cs ckk cz cl, m * n), j + 1), by simp [List.map_set, cC], ⟨by simp only; omega, by simpa using hvl, ?_, ?_⟩, by simp only; omega⟩
    · intro y hy
      rcases List.mem_or_eq_of_mem_set hy with hy | rfl
      · exact hvo y hy
      · exact hco
    · simp only
      rw [← hst, cPs, List.map_set]
      rfl
  · have k1 : decide ((j : Int) < (u.length : Int)) = false := decide_eq_false (by omega)
    rw [List.take_of_length_le (by simp; omega), List.drop_of_length_le (by simp; omega), List.append_nil, p0] at hvT
    (simp only [go_sem, Nat.add_assoc, reduceIte, reduceCtorEq, Nat.reduceEqDiff, Nat.reduceAdd, Nat.reduceMul, Nat.reduceSub, Nat.reduceLeDiff, Nat.reduceLT, Nat.reduceBEq, Nat.reduceBNe, Int.reduceLE, Int.reduceLT, Int.reduceToNat, Int.reduceEq, Int.reduceNe, Int.reduceNeg, Nat.reduceEqDiff, Int.reduceAdd, Int.reduceSub, Int.reduceMul, Int.cast_ofNat_Int, Int.natCast_zero, k1]; repeat' ((first | refine kont_next ?_ | refine kont_nextn ?_ | refine ikont_next ?_ | refine ikont_nextn ?_) <;> (try simp only [go_sem, Nat.add_assoc, reduceIte, reduceCtorEq, Nat.reduceEqDiff, Nat.reduceAdd, Nat.reduceMul, Nat.reduceSub, Nat.reduceLeDiff, Nat.reduceLT, Nat.reduceBEq, Nat.reduceBNe, Int.reduceLE, Int.reduceLT, Int.reduceToNat, Int.reduceEq, Int.reduceNe, Int.reduceNeg, Nat.reduceEqDiff, Int.reduceAdd, Int.reduceSub, Int.reduceMul, Int.cast_ofNat_Int, Int.natCast_zero, k1])))
    exact ⟨⟨.open_, 5, v⟩, rfl, ⟨OkS.open_ 5 v, by simp only; omega, hvo⟩, hvT, by simp only; omega⟩
end Go.Proofs.Ytabbjdclfmeipaa
