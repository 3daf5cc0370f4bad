/-
  Which bags are the same; how bags are scaled.
-/
import Derived.Test.YtabbjdclfmeipaaB6
import Derived.Test.YtabbjdclfmeipaaBG
set_option linter.unusedSimpArgs false
set_option linter.unusedVariables false
set_option maxHeartbeats 8000000
set_option maxRecDepth 100000
namespace Go.Proofs.Ytabbjdclfmeipaa
open Go.Abs

theorem e7 (k : SK) (z : Nat) (l : List (List AV)) : acall S 7 [.sl k z l] = some (.b (decide ((l.length : Int) ≤ 60)), []) := by
  refine W_eq (g7 rfl ?_)
  (simp only [go_sem, Nat.add_assoc, reduceIte, reduceCtorEq, Nat.reduceEqDiff, Nat.reduceAdd, Nat.reduceMul, Nat.reduceSub, Nat.reduceLeDiff, Nat.reduceLT, Nat.reduceBEq, Nat.reduceBNe, Int.reduceLE, Int.reduceLT, Int.reduceToNat, Int.reduceEq, Int.reduceNe, Int.reduceNeg, Nat.reduceEqDiff, Int.reduceAdd, Int.reduceSub, Int.reduceMul, Int.cast_ofNat_Int, Int.natCast_zero, a7]; repeat' ((first | refine kont_next ?_ | refine kont_nextn ?_ | refine ikont_next ?_ | refine ikont_nextn ?_) <;> (try simp only [go_sem, Nat.add_assoc, reduceIte, reduceCtorEq, Nat.reduceEqDiff, Nat.reduceAdd, Nat.reduceMul, Nat.reduceSub, Nat.reduceLeDiff, Nat.reduceLT, Nat.reduceBEq, Nat.reduceBNe, Int.reduceLE, Int.reduceLT, Int.reduceToNat, Int.reduceEq, Int.reduceNe, Int.reduceNeg, Nat.reduceEqDiff, Int.reduceAdd, Int.reduceSub, Int.reduceMul, Int.cast_ofNat_Int, Int.natCast_zero, a7])))
open Classical in
theorem e10 (a b : Bg) (ha : a.ok) (hb : b.ok) (q : Bool) (hq : q = true ↔ a.p = b.p) : acall S 10 [a.a, b.a] = some (.b q, []) := by
  obtain ⟨k, z, l⟩ := a
  obtain ⟨k', z', r⟩ := b
  obtain ⟨ha1, ha2, ha3⟩ := ha
  obtain ⟨hb1, hb2, hb3⟩ := hb
  simp only [Bg.a, Bg.p] at *
  refine W_eq (g10 rfl ?_)
  by_cases hlen : l.length = r.length
  case neg =>
    have g1 : decide (¬ (l.length : Int) = (r.length : Int)) = true := decide_eq_true (by omega)
    have : q = false := by
      cases q with
      | false => rfl
      | true =>
        have := congrArg List.length (hq.1 rfl)
        simp only [List.length_map] at this
        exact absurd this hlen
    subst this
    (simp only [go_sem, Nat.add_assoc, reduceIte, reduceCtorEq, Nat.reduceEqDiff, Nat.reduceAdd, Nat.reduceMul, Nat.reduceSub, Nat.reduceLeDiff, Nat.reduceLT, Nat.reduceBEq, Nat.reduceBNe, Int.reduceLE, Int.reduceLT, Int.reduceToNat, Int.reduceEq, Int.reduceNe, Int.reduceNeg, Nat.reduceEqDiff, Int.reduceAdd, Int.reduceSub, Int.reduceMul, Int.cast_ofNat_Int, Int.natCast_zero, a10, g1]; repeat' ((first | refine kont_next ?_ | refine kont_nextn ?_ | refine ikont_next ?_ | refine ikont_nextn ?_) <;> (try simp only [go_sem, Nat.add_assoc, reduceIte, reduceCtorEq, Nat.reduceEqDiff, Nat.reduceAdd, Nat.reduceMul, Nat.reduceSub, Nat.reduceLeDiff, Nat.reduceLT, Nat.reduceBEq, Nat.reduceBNe, Int.reduceLE, Int.reduceLT, Int.reduceToNat, Int.reduceEq, Int.reduceNe, Int.reduceNeg, Nat.reduceEqDiff, Int.reduceAdd, Int.reduceSub, Int.reduceMul, Int.cast_ofNat_Int, Int.natCast_zero, a10, g1])))
  have g1 : decide (¬ (l.length : Int) = (r.length : Int)) = false := decide_eq_false (by omega)
  (simp only [go_sem, Nat.add_assoc, reduceIte, reduceCtorEq, Nat.reduceEqDiff, Nat.reduceAdd, Nat.reduceMul, Nat.reduceSub, Nat.reduceLeDiff, Nat.reduceLT, Nat.reduceBEq, Nat.reduceBNe, Int.reduceLE, Int.reduceLT, Int.reduceToNat, Int.reduceEq, Int.reduceNe, Int.reduceNeg, Nat.reduceEqDiff, Int.reduceAdd, Int.reduceSub, Int.reduceMul, Int.cast_ofNat_Int, Int.natCast_zero, a10, g1]; repeat' ((first | refine kont_next ?_ | refine kont_nextn ?_ | refine ikont_next ?_ | refine ikont_nextn ?_) <;> (try simp only [go_sem, Nat.add_assoc, reduceIte, reduceCtorEq, Nat.reduceEqDiff, Nat.reduceAdd, Nat.reduceMul, Nat.reduceSub, Nat.reduceLeDiff, Nat.reduceLT, Nat.reduceBEq, Nat.reduceBNe, Int.reduceLE, Int.reduceLT, Int.reduceToNat, Int.reduceEq, Int.reduceNe, Int.reduceNeg, Nat.reduceEqDiff, Int.reduceAdd, Int.reduceSub, Int.reduceMul, Int.cast_ofNat_Int, Int.natCast_zero, a10, g1])))
  refine kloop_inv (ι := Nat) (fun i => [.sl k z (l.map cC), .sl k' z' (r.map cC), .i .i64 i])
    (fun i => i ≤ l.length ∧ (cPs l).take i = (cPs r).take i) (fun i => l.length - i) 0 rfl ⟨by omega, rfl⟩ ?_
  rintro i ⟨hi, hT⟩
  by_cases hlt : i < l.length
  · obtain ⟨⟨c, m⟩, gc⟩ := get_lt3 hlt
    obtain ⟨⟨d, m'⟩, gd⟩ := get_lt3 (show i < r.length by omega)
    have q1 : decide ((i : Int) < (l.length : Int)) = true := decide_eq_true (by omega)
    have b1 : (0 : Int) ≤ (i : Int) := by omega
    have hw := wrap_succ (k := i) (by omega)
    have hc := ha3 _ (List.mem_of_getElem? gc)
    have hd := hb3 _ (List.mem_of_getElem? gd)
    have er := e31 c d hc hd
    have hno : (c.p, m) ≠ (d.p, m') → q = false := fun hne => by
      cases q with
      | false => rfl
      | true =>
        have h1 := cPs_get gc
        have h2 := cPs_get gd
        rw [hq.1 rfl, h2] at h1
        exact absurd (Option.some.inj h1).symm hne
    have hnx : (c.p, m) = (d.p, m') → (cPs l).take (i + 1) = (cPs r).take (i + 1) := fun he => by
      rw [take_get (cPs_get gc), take_get (cPs_get gd), hT]
      simp only [cP]
      rw [he]
    by_cases hm : m = m'
    case neg =>
      have q2 : decide (¬ m = m') = true := decide_eq_true hm
      rw [hno (by simp [hm])]
      obtain ⟨ck, cn, cs, ckk, cz, cl⟩ := c
      obtain ⟨dk, dn, ds, dkk, dz, dl⟩ := d
      (simp only [go_sem, Nat.add_assoc, reduceIte, reduceCtorEq, Nat.reduceEqDiff, Nat.reduceAdd, Nat.reduceMul, Nat.reduceSub, Nat.reduceLeDiff, Nat.reduceLT, Nat.reduceBEq, Nat.reduceBNe, Int.reduceLE, Int.reduceLT, Int.reduceToNat, Int.reduceEq, Int.reduceNe, Int.reduceNeg, Nat.reduceEqDiff, Int.reduceAdd, Int.reduceSub, Int.reduceMul, Int.cast_ofNat_Int, Int.natCast_zero, q1, b1, gc, gd, ha1.1, hb1.1, cC, q2]; repeat' ((first | refine kont_next ?_ | refine kont_nextn ?_ | refine ikont_next ?_ | refine ikont_nextn ?_) <;> (try simp only [go_sem, Nat.add_assoc, reduceIte, reduceCtorEq, Nat.reduceEqDiff, Nat.reduceAdd, Nat.reduceMul, Nat.reduceSub, Nat.reduceLeDiff, Nat.reduceLT, Nat.reduceBEq, Nat.reduceBNe, Int.reduceLE, Int.reduceLT, Int.reduceToNat, Int.reduceEq, Int.reduceNe, Int.reduceNeg, Nat.reduceEqDiff, Int.reduceAdd, Int.reduceSub, Int.reduceMul, Int.cast_ofNat_Int, Int.natCast_zero, q1, b1, gc, gd, ha1.1, hb1.1, cC, q2])))
    have q2 : decide (¬ m = m') = false := decide_eq_false (by simpa using hm)
    by_cases hv : c.p = d.p
    · rw [decide_eq_true hv] at er
      have hn2 := hnx (by rw [hv, hm])
      obtain ⟨ck, cn, cs, ckk, cz, cl⟩ := c
      obtain ⟨dk, dn, ds, dkk, dz, dl⟩ := d
      simp only [Vl.c] at er
      (simp only [go_sem, Nat.add_assoc, reduceIte, reduceCtorEq, Nat.reduceEqDiff, Nat.reduceAdd, Nat.reduceMul, Nat.reduceSub, Nat.reduceLeDiff, Nat.reduceLT, Nat.reduceBEq, Nat.reduceBNe, Int.reduceLE, Int.reduceLT, Int.reduceToNat, Int.reduceEq, Int.reduceNe, Int.reduceNeg, Nat.reduceEqDiff, Int.reduceAdd, Int.reduceSub, Int.reduceMul, Int.cast_ofNat_Int, Int.natCast_zero, q1, b1, gc, gd, ha1.1, hb1.1, cC, q2, s31, er, hw]; repeat' ((first | refine kont_next ?_ | refine kont_nextn ?_ | refine ikont_next ?_ | refine ikont_nextn ?_) <;> (try simp only [go_sem, Nat.add_assoc, reduceIte, reduceCtorEq, Nat.reduceEqDiff, Nat.reduceAdd, Nat.reduceMul, Nat.reduceSub, Nat.reduceLeDiff, Nat.reduceLT, Nat.reduceBEq, Nat.reduceBNe, Int.reduceLE, Int.reduceLT, Int.reduceToNat, Int.reduceEq, Int.reduceNe, Int.reduceNeg, Nat.reduceEqDiff, Int.reduceAdd, Int.reduceSub, Int.reduceMul, Int.cast_ofNat_Int, Int.natCast_zero, q1, b1, gc, gd, ha1.1, hb1.1, cC, q2, s31, er, hw])))
      exact ⟨i + 1, rfl, ⟨by omega, hn2⟩, by omega⟩
    · rw [decide_eq_false hv] at er
      rw [hno (by simp [hv])]
      obtain ⟨ck, cn, cs, ckk, cz, cl⟩ := c
      obtain ⟨dk, dn, ds, dkk, dz, dl⟩ := d
      simp only [Vl.c] at er
      (simp only [go_sem, Nat.add_assoc, reduceIte, reduceCtorEq, Nat.reduceEqDiff, Nat.reduceAdd, Nat.reduceMul, Nat.reduceSub, Nat.reduceLeDiff, Nat.reduceLT, Nat.reduceBEq, Nat.reduceBNe, Int.reduceLE, Int.reduceLT, Int.reduceToNat, Int.reduceEq, Int.reduceNe, Int.reduceNeg, Nat.reduceEqDiff, Int.reduceAdd, Int.reduceSub, Int.reduceMul, Int.cast_ofNat_Int, Int.natCast_zero, q1, b1, gc, gd, ha1.1, hb1.1, cC, q2, s31, er]; repeat' ((first | refine kont_next ?_ | refine kont_nextn ?_ | refine ikont_next ?_ | refine ikont_nextn ?_) <;> (try simp only [go_sem, Nat.add_assoc, reduceIte, reduceCtorEq, Nat.reduceEqDiff, Nat.reduceAdd, Nat.reduceMul, Nat.reduceSub, Nat.reduceLeDiff, Nat.reduceLT, Nat.reduceBEq, Nat.reduceBNe, Int.reduceLE, Int.reduceLT, Int.reduceToNat, Int.reduceEq, Int.reduceNe, Int.reduceNeg, Nat.reduceEqDiff, Int.reduceAdd, Int.reduceSub, Int.reduceMul, Int.cast_ofNat_Int, Int.natCast_zero, q1, b1, gc, gd, ha1.1, hb1.1, cC, q2, s31, er])))
  · have q1 : decide ((i : Int) < (l.length : Int)) = false := decide_eq_false (by omega)
    have : q = true := hq.2 (by
      rw [List.take_of_length_le (by simp; omega), List.take_of_length_le (by simp; omega)] at hT
      exact hT)
    subst this
    (simp only [go_sem, Nat.add_assoc, reduceIte, reduceCtorEq, Nat.reduceEqDiff, Nat.reduceAdd, Nat.reduceMul, Nat.reduceSub, Nat.reduceLeDiff, Nat.reduceLT, Nat.reduceBEq, Nat.reduceBNe, Int.reduceLE, Int.reduceLT, Int.reduceToNat, Int.reduceEq, Int.reduceNe, Int.reduceNeg, Nat.reduceEqDiff, Int.reduceAdd, Int.reduceSub, Int.reduceMul, Int.cast_ofNat_Int, Int.natCast_zero, q1]; repeat' ((first | refine kont_next ?_ | refine kont_nextn ?_ | refine ikont_next ?_ | refine ikont_nextn ?_) <;> (try simp only [go_sem, Nat.add_assoc, reduceIte, reduceCtorEq, Nat.reduceEqDiff, Nat.reduceAdd, Nat.reduceMul, Nat.reduceSub, Nat.reduceLeDiff, Nat.reduceLT, Nat.reduceBEq, Nat.reduceBNe, Int.reduceLE, Int.reduceLT, Int.reduceToNat, Int.reduceEq, Int.reduceNe, Int.reduceNeg, Nat.reduceEqDiff, Int.reduceAdd, Int.reduceSub, Int.reduceMul, Int.cast_ofNat_Int, Int.natCast_zero, q1])))
theorem same_t {a b : Bg} (ha : a.ok) (hb : b.ok) (h : a.p = b.p) : acall S 10 [a.a, b.a] = some (.b true, []) := e10 a b ha hb true (by simp [h])

/-! ### scaling -/
theorem tot_pos {b : PB} (hb : Ok b) (hne : b ≠ []) : 1 ≤ totB b := by
  have h1 := len_tot hb.pos
  cases b with
  | nil => exact absurd rfl hne
  | cons x r => simp only [List.length_cons] at h1; omega
theorem scR_val {b : PB} {n : Int} (hb : Ok b) (h0 : 0 ≤ n) (h : totB b * n ≤ MC) : scR b n = (if n = 0 then [] else scaleB n b, 0) := by
  unfold scR
  rw [if_neg (by omega)]
  by_cases hz : n = 0
  · rw [if_pos hz, if_pos hz]
  rw [if_neg hz, if_neg hz]
  by_cases hb0 : b = []
  · subst hb0
    rw [if_pos rfl]; rfl
  rw [if_neg hb0, if_neg]
  have h1 := tot_pos hb hb0
  have h2 := (Int.le_ediv_iff_mul_le (show 0 < totB b by omega)).2 (show n * totB b ≤ MC by rw [Int.mul_comm]; exact h)
  omega
theorem scR_err {b : PB} {n : Int} (hb : Ok b) (h0 : 0 ≤ n) (h : ¬ totB b * n ≤ MC) : scR b n = ([], 7) := by
  have hMC : MC = 9007199254740992 := rfl
  unfold scR
  have hz : n ≠ 0 := by rintro rfl; simp at h; omega
  have hb0 : b ≠ [] := by rintro rfl; simp [totB] at h; omega
  rw [if_neg (by omega), if_neg hz, if_neg hb0, if_pos]
  have h1 := tot_pos hb hb0
  rcases Int.lt_or_le (MC / totB b) n with h2 | h2
  · exact h2
  · have := (Int.le_ediv_iff_mul_le (show 0 < totB b by omega)).1 h2
    rw [Int.mul_comm] at this
    exact absurd this h
theorem scale_scale (n m : Int) (b : PB) : scaleB m (scaleB n b) = scaleB (n * m) b := by
  simp only [scaleB, List.map_map]
  apply List.map_congr_left
  intro x _
  simp [Int.mul_assoc]
theorem scale_nil (n : Int) : scaleB n [] = [] := rfl
theorem scR_twice {b : PB} {n m : Int} (hb : Ok b) (h0 : 0 ≤ n) (hm : 0 ≤ m) (h : totB b * n ≤ MC) : scR (mayB (if n = 0 then [] else scaleB n b)) m = scR b (n * m) := by
  have hMC : MC = 9007199254740992 := rfl
  by_cases hz : n = 0
  · subst hz
    rw [if_pos rfl, mayB_ok ok_nil, Int.zero_mul, scR_val ok_nil hm (by simp [totB]; omega), scR_val hb (by omega) (by simp; omega), if_pos rfl, scale_nil, ite_self]
  rw [if_neg hz]
  have hs := ok_scale hb (show 1 ≤ n by omega) h
  rw [mayB_ok hs]
  have hnm : 0 ≤ n * m := Int.mul_nonneg h0 hm
  have he : totB b * (n * m) = totB b * n * m := (Int.mul_assoc ..).symm
  by_cases hf : totB b * n * m ≤ MC
  · rw [scR_val hs hm (by rw [tot_scale]; exact hf), scR_val hb hnm (by rw [he]; exact hf), scale_scale]
    by_cases hmz : m = 0
    · subst hmz; simp
    · have : n * m ≠ 0 := by
        intro h
        rcases Int.mul_eq_zero.1 h with h | h
        · exact hz h
        · exact hmz h
      rw [if_neg hmz, if_neg this]
  · rw [scR_err hs hm (by rw [tot_scale]; exact hf), scR_err hb hnm (by rw [he]; exact hf)]
theorem adds_one {b c : PB} (hc : Ok c) (h : totB b + totB c ≤ MC) : addsB b [c] = some (addB b c) := by
  simp only [addsB, mayB_ok hc]
  rw [if_neg (by omega)]
theorem scR_add {a b : PB} {n : Int} (ha : Ok a) (hb : Ok b) (h0 : 0 ≤ n) (hf : totB a + totB b ≤ MC) (h : totB (addB a b) * n ≤ MC) :
    (scR a n).2 = 0 ∧ (scR b n).2 = 0 ∧ addsB (mayB (scR a n).1) [(scR b n).1] = some (if n = 0 then [] else scaleB n (addB a b)) := by
  have hMC : MC = 9007199254740992 := rfl
  rw [tot_add, Int.add_mul] at h
  have t1 := Int.mul_nonneg (tot_nonneg ha.pos) h0
  have t2 := Int.mul_nonneg (tot_nonneg hb.pos) h0
  rw [scR_val ha h0 (by omega), scR_val hb h0 (by omega)]
  refine ⟨rfl, rfl, ?_⟩
  by_cases hz : n = 0
  · simp only [if_pos hz]
    rw [mayB_ok ok_nil, adds_one ok_nil (by simp [totB]; omega)]
    rfl
  · simp only [if_neg hz]
    have sa := ok_scale ha (show 1 ≤ n by omega) (by omega)
    have sb := ok_scale hb (show 1 ≤ n by omega) (by omega)
    rw [mayB_ok sa, adds_one sb (by rw [tot_scale, tot_scale]; omega), scale_add ha hb (by omega) (by rw [Int.add_mul]; exact h)]
theorem addsB_mayB (b c : PB) (r : List PB) : addsB b (mayB c :: r) = addsB b (c :: r) := by
  simp only [addsB, mayB_ok (ok_mayB c)]
end Go.Proofs.Ytabbjdclfmeipaa
