/-
  The reference's answers: which values may be, which texts are names.
-/
import Derived.Test.YtmdbfbcolofelaaDoorV3
import Derived.Test.YtmdbfbcolofelaaDoorV4
set_option linter.unusedSimpArgs false
set_option linter.unusedVariables false
set_option maxHeartbeats 8000000
set_option maxRecDepth 100000
namespace Go.Proofs.YtmdbfbcolofelaaDoor
open Go.Abs

theorem e64 (c : Int) : acall S 64 [.i .u8 c] = some (.b (letterI c), []) := by
  refine W_eq (g64 rfl ?_)
  unfold letterI
  (simp only [go_sem, Nat.add_assoc, reduceIte, reduceCtorEq, Nat.reduceEqDiff, Nat.reduceAdd, Nat.reduceMul, Nat.reduceSub, Nat.reduceLeDiff, Nat.reduceLT, Nat.reduceBEq, Nat.reduceBNe, Int.reduceLE, Int.reduceLT, Int.reduceToNat, Int.reduceEq, Int.reduceNe, Int.reduceNeg, Nat.reduceEqDiff, Int.reduceAdd, Int.reduceSub, Int.reduceMul, Int.cast_ofNat_Int, Int.natCast_zero, a64]; repeat' (first | (first | refine kway_sp (fun hh => ?_) (fun hh => ?_) | refine kgdn_sp (fun hh => ?_) (fun hh => ?_) | refine kgd_sp (fun hh => ?_) (fun hh => ?_) | refine kgddn_sp (fun hh => ?_) (fun hh => ?_) | refine kgdd_sp (fun hh => ?_) (fun hh => ?_) | refine kop_way (fun hh => ?_) (fun hh => ?_) | refine kop_bway (fun hh => ?_) (fun hh => ?_) | refine kopd_way (fun hh => ?_) (fun hh => ?_) | refine kopd_bway (fun hh => ?_) (fun hh => ?_)) <;> (try simp only [go_sem, Nat.add_assoc, reduceIte, reduceCtorEq, Nat.reduceEqDiff, Nat.reduceAdd, Nat.reduceMul, Nat.reduceSub, Nat.reduceLeDiff, Nat.reduceLT, Nat.reduceBEq, Nat.reduceBNe, Int.reduceLE, Int.reduceLT, Int.reduceToNat, Int.reduceEq, Int.reduceNe, Int.reduceNeg, Nat.reduceEqDiff, Int.reduceAdd, Int.reduceSub, Int.reduceMul, Int.cast_ofNat_Int, Int.natCast_zero, a64, hh]) | (first | refine kop_ask (by omega) ?_ | refine kopd_ask (by omega) ?_ | refine kans_ask (by omega) ?_ | refine kpack_ask (by omega) ?_ | refine kpk_ask (by omega) ?_ | refine kont_next ?_) <;> (try simp only [go_sem, Nat.add_assoc, reduceIte, reduceCtorEq, Nat.reduceEqDiff, Nat.reduceAdd, Nat.reduceMul, Nat.reduceSub, Nat.reduceLeDiff, Nat.reduceLT, Nat.reduceBEq, Nat.reduceBNe, Int.reduceLE, Int.reduceLT, Int.reduceToNat, Int.reduceEq, Int.reduceNe, Int.reduceNeg, Nat.reduceEqDiff, Int.reduceAdd, Int.reduceSub, Int.reduceMul, Int.cast_ofNat_Int, Int.natCast_zero, a64]) | (show @Eq Nat _ _; omega) | (show @LE.le Nat _ _ _; omega)))
  all_goals (first | (refine leafb ?_; simp only [decide_eq_true_eq, decide_eq_false_iff_not, Bool.or_eq_true, Bool.and_eq_true, Bool.or_eq_false_iff, Bool.and_eq_false_iff, Bool.not_eq_true', Bool.not_eq_false', Bool.not_eq_true, Bool.not_eq_false, Bool.false_eq_true, Bool.true_eq_false, iff_true, true_iff, iff_false, false_iff, not_false_eq_true, not_true_eq_false, decide_not] at *; omega) | (simp_all; done) | (simp_all <;> omega))

theorem e45 (s : List UInt8) (hs : s.length ≤ LIM) : acall S 45 [.str s] = some (.b (nameR s), []) := by
  have hL : LIM = 274877906944 := rfl
  refine W_eq (g45 rfl ?_)
  unfold nameR
  cases s with
  | nil => (simp only [go_sem, Nat.add_assoc, reduceIte, reduceCtorEq, Nat.reduceEqDiff, Nat.reduceAdd, Nat.reduceMul, Nat.reduceSub, Nat.reduceLeDiff, Nat.reduceLT, Nat.reduceBEq, Nat.reduceBNe, Int.reduceLE, Int.reduceLT, Int.reduceToNat, Int.reduceEq, Int.reduceNe, Int.reduceNeg, Nat.reduceEqDiff, Int.reduceAdd, Int.reduceSub, Int.reduceMul, Int.cast_ofNat_Int, Int.natCast_zero, a45]; repeat' (refine kont_next ?_ <;> (try simp only [go_sem, Nat.add_assoc, reduceIte, reduceCtorEq, Nat.reduceEqDiff, Nat.reduceAdd, Nat.reduceMul, Nat.reduceSub, Nat.reduceLeDiff, Nat.reduceLT, Nat.reduceBEq, Nat.reduceBNe, Int.reduceLE, Int.reduceLT, Int.reduceToNat, Int.reduceEq, Int.reduceNe, Int.reduceNeg, Nat.reduceEqDiff, Int.reduceAdd, Int.reduceSub, Int.reduceMul, Int.cast_ofNat_Int, Int.natCast_zero, a45])))
  | cons c0 r =>
    have el := e64 (c0.toNat : Int)
    cases h1 : decide ((24 : Int) < (((c0 :: r).length : Nat) : Int)) with
    | true =>
      simp only [List.length_cons] at h1
      (simp only [go_sem, Nat.add_assoc, reduceIte, reduceCtorEq, Nat.reduceEqDiff, Nat.reduceAdd, Nat.reduceMul, Nat.reduceSub, Nat.reduceLeDiff, Nat.reduceLT, Nat.reduceBEq, Nat.reduceBNe, Int.reduceLE, Int.reduceLT, Int.reduceToNat, Int.reduceEq, Int.reduceNe, Int.reduceNeg, Nat.reduceEqDiff, Int.reduceAdd, Int.reduceSub, Int.reduceMul, Int.cast_ofNat_Int, Int.natCast_zero, a45, h1]; repeat' (refine kont_next ?_ <;> (try simp only [go_sem, Nat.add_assoc, reduceIte, reduceCtorEq, Nat.reduceEqDiff, Nat.reduceAdd, Nat.reduceMul, Nat.reduceSub, Nat.reduceLeDiff, Nat.reduceLT, Nat.reduceBEq, Nat.reduceBNe, Int.reduceLE, Int.reduceLT, Int.reduceToNat, Int.reduceEq, Int.reduceNe, Int.reduceNeg, Nat.reduceEqDiff, Int.reduceAdd, Int.reduceSub, Int.reduceMul, Int.cast_ofNat_Int, Int.natCast_zero, a45, h1])))
    | false =>
    cases h2 : letterI (c0.toNat : Int) with
    | false =>
      rw [h2] at el
      simp only [List.length_cons] at h1
      (simp only [go_sem, Nat.add_assoc, reduceIte, reduceCtorEq, Nat.reduceEqDiff, Nat.reduceAdd, Nat.reduceMul, Nat.reduceSub, Nat.reduceLeDiff, Nat.reduceLT, Nat.reduceBEq, Nat.reduceBNe, Int.reduceLE, Int.reduceLT, Int.reduceToNat, Int.reduceEq, Int.reduceNe, Int.reduceNeg, Nat.reduceEqDiff, Int.reduceAdd, Int.reduceSub, Int.reduceMul, Int.cast_ofNat_Int, Int.natCast_zero, a45, h1, el, s64, h2]; repeat' (refine kont_next ?_ <;> (try simp only [go_sem, Nat.add_assoc, reduceIte, reduceCtorEq, Nat.reduceEqDiff, Nat.reduceAdd, Nat.reduceMul, Nat.reduceSub, Nat.reduceLeDiff, Nat.reduceLT, Nat.reduceBEq, Nat.reduceBNe, Int.reduceLE, Int.reduceLT, Int.reduceToNat, Int.reduceEq, Int.reduceNe, Int.reduceNeg, Nat.reduceEqDiff, Int.reduceAdd, Int.reduceSub, Int.reduceMul, Int.cast_ofNat_Int, Int.natCast_zero, a45, h1, el, s64, h2])))
    | true =>
    rw [h2] at el
    have h1' := h1
    simp only [List.length_cons] at h1'
    have hfin : (!(decide ((c0 :: r : List UInt8) = []) || false || !letterI (((c0 :: r : List UInt8).headD 0).toNat : Int)) && signsR (c0 :: r)) = signsR (c0 :: r) := by simp [h2]
    rw [hfin]
    (simp only [go_sem, Nat.add_assoc, reduceIte, reduceCtorEq, Nat.reduceEqDiff, Nat.reduceAdd, Nat.reduceMul, Nat.reduceSub, Nat.reduceLeDiff, Nat.reduceLT, Nat.reduceBEq, Nat.reduceBNe, Int.reduceLE, Int.reduceLT, Int.reduceToNat, Int.reduceEq, Int.reduceNe, Int.reduceNeg, Nat.reduceEqDiff, Int.reduceAdd, Int.reduceSub, Int.reduceMul, Int.cast_ofNat_Int, Int.natCast_zero, a45, h1', el, s64]; repeat' (refine kont_next ?_ <;> (try simp only [go_sem, Nat.add_assoc, reduceIte, reduceCtorEq, Nat.reduceEqDiff, Nat.reduceAdd, Nat.reduceMul, Nat.reduceSub, Nat.reduceLeDiff, Nat.reduceLT, Nat.reduceBEq, Nat.reduceBNe, Int.reduceLE, Int.reduceLT, Int.reduceToNat, Int.reduceEq, Int.reduceNe, Int.reduceNeg, Nat.reduceEqDiff, Int.reduceAdd, Int.reduceSub, Int.reduceMul, Int.cast_ofNat_Int, Int.natCast_zero, a45, h1', el, s64])))
    clear hfin h1 h1' el h2
    generalize (c0 :: r : List UInt8) = s at hs ⊢
    refine kloop_inv (ι := Nat) (fun i => [.str s, .i .i64 i]) (fun i => i ≤ s.length ∧ signsR (s.drop i) = signsR s) (fun i => s.length - i) 0 rfl ⟨by omega, rfl⟩ ?_
    rintro i ⟨hi, hT⟩
    by_cases hlt : i < s.length
    · obtain ⟨c, gc⟩ := get_lt3 hlt
      rw [drop_get3 gc] at hT
      have hT' : (signI (c.toNat : Int) && signsR (s.drop (i + 1))) = signsR s := by simpa [signsR] using hT
      have g1 : decide ((i : Int) < (s.length : Int)) = true := decide_eq_true (by omega)
      have b1 : (0 : Int) ≤ (i : Int) := by omega
      have hw := wrap_succ (k := i) (by omega)
      have ec := e64 (c.toNat : Int)
      cases h3 : letterI (c.toNat : Int) with
      | true =>
        rw [h3] at ec
        rw [show signI (c.toNat : Int) = true by simp [signI, h3], Bool.true_and] at hT'
        (simp only [go_sem, Nat.add_assoc, reduceIte, reduceCtorEq, Nat.reduceEqDiff, Nat.reduceAdd, Nat.reduceMul, Nat.reduceSub, Nat.reduceLeDiff, Nat.reduceLT, Nat.reduceBEq, Nat.reduceBNe, Int.reduceLE, Int.reduceLT, Int.reduceToNat, Int.reduceEq, Int.reduceNe, Int.reduceNeg, Nat.reduceEqDiff, Int.reduceAdd, Int.reduceSub, Int.reduceMul, Int.cast_ofNat_Int, Int.natCast_zero, g1, b1, gc, ec, s64, hw]; repeat' (refine kont_next ?_ <;> (try simp only [go_sem, Nat.add_assoc, reduceIte, reduceCtorEq, Nat.reduceEqDiff, Nat.reduceAdd, Nat.reduceMul, Nat.reduceSub, Nat.reduceLeDiff, Nat.reduceLT, Nat.reduceBEq, Nat.reduceBNe, Int.reduceLE, Int.reduceLT, Int.reduceToNat, Int.reduceEq, Int.reduceNe, Int.reduceNeg, Nat.reduceEqDiff, Int.reduceAdd, Int.reduceSub, Int.reduceMul, Int.cast_ofNat_Int, Int.natCast_zero, g1, b1, gc, ec, s64, hw])))
        exact ⟨i + 1, rfl, ⟨by omega, hT'⟩, by omega⟩
      | false =>
        rw [h3] at ec
        by_cases h4 : (48 : Int) ≤ (c.toNat : Int)
        case neg =>
          have g4 : decide ((c.toNat : Int) < 48) = true := decide_eq_true (by omega)
          rw [show signI (c.toNat : Int) = false by simp only [signI, h3, decide_eq_false h4, Bool.false_and, Bool.or_false], Bool.false_and] at hT'
          (simp only [go_sem, Nat.add_assoc, reduceIte, reduceCtorEq, Nat.reduceEqDiff, Nat.reduceAdd, Nat.reduceMul, Nat.reduceSub, Nat.reduceLeDiff, Nat.reduceLT, Nat.reduceBEq, Nat.reduceBNe, Int.reduceLE, Int.reduceLT, Int.reduceToNat, Int.reduceEq, Int.reduceNe, Int.reduceNeg, Nat.reduceEqDiff, Int.reduceAdd, Int.reduceSub, Int.reduceMul, Int.cast_ofNat_Int, Int.natCast_zero, g1, b1, gc, ec, s64, g4]; repeat' (refine kont_next ?_ <;> (try simp only [go_sem, Nat.add_assoc, reduceIte, reduceCtorEq, Nat.reduceEqDiff, Nat.reduceAdd, Nat.reduceMul, Nat.reduceSub, Nat.reduceLeDiff, Nat.reduceLT, Nat.reduceBEq, Nat.reduceBNe, Int.reduceLE, Int.reduceLT, Int.reduceToNat, Int.reduceEq, Int.reduceNe, Int.reduceNeg, Nat.reduceEqDiff, Int.reduceAdd, Int.reduceSub, Int.reduceMul, Int.cast_ofNat_Int, Int.natCast_zero, g1, b1, gc, ec, s64, g4])))
          rw [← hT']
        case pos =>
          have g4 : decide ((c.toNat : Int) < 48) = false := decide_eq_false (by omega)
          by_cases h5 : (c.toNat : Int) ≤ 57
          · have g5 : decide ((57 : Int) < (c.toNat : Int)) = false := decide_eq_false (by omega)
            rw [show signI (c.toNat : Int) = true by simp only [signI, h3, decide_eq_true h4, decide_eq_true h5, Bool.true_and, Bool.or_true], Bool.true_and] at hT'
            (simp only [go_sem, Nat.add_assoc, reduceIte, reduceCtorEq, Nat.reduceEqDiff, Nat.reduceAdd, Nat.reduceMul, Nat.reduceSub, Nat.reduceLeDiff, Nat.reduceLT, Nat.reduceBEq, Nat.reduceBNe, Int.reduceLE, Int.reduceLT, Int.reduceToNat, Int.reduceEq, Int.reduceNe, Int.reduceNeg, Nat.reduceEqDiff, Int.reduceAdd, Int.reduceSub, Int.reduceMul, Int.cast_ofNat_Int, Int.natCast_zero, g1, b1, gc, ec, s64, g4, g5, hw]; repeat' (refine kont_next ?_ <;> (try simp only [go_sem, Nat.add_assoc, reduceIte, reduceCtorEq, Nat.reduceEqDiff, Nat.reduceAdd, Nat.reduceMul, Nat.reduceSub, Nat.reduceLeDiff, Nat.reduceLT, Nat.reduceBEq, Nat.reduceBNe, Int.reduceLE, Int.reduceLT, Int.reduceToNat, Int.reduceEq, Int.reduceNe, Int.reduceNeg, Nat.reduceEqDiff, Int.reduceAdd, Int.reduceSub, Int.reduceMul, Int.cast_ofNat_Int, Int.natCast_zero, g1, b1, gc, ec, s64, g4, g5, hw])))
            exact ⟨i + 1, rfl, ⟨by omega, hT'⟩, by omega⟩
          · have g5 : decide ((57 : Int) < (c.toNat : Int)) = true := decide_eq_true (by omega)
            rw [show signI (c.toNat : Int) = false by simp only [signI, h3, decide_eq_true h4, decide_eq_false h5, Bool.true_and, Bool.or_false], Bool.false_and] at hT'
            (simp only [go_sem, Nat.add_assoc, reduceIte, reduceCtorEq, Nat.reduceEqDiff, Nat.reduceAdd, Nat.reduceMul, Nat.reduceSub, Nat.reduceLeDiff, Nat.reduceLT, Nat.reduceBEq, Nat.reduceBNe, Int.reduceLE, Int.reduceLT, Int.reduceToNat, Int.reduceEq, Int.reduceNe, Int.reduceNeg, Nat.reduceEqDiff, Int.reduceAdd, Int.reduceSub, Int.reduceMul, Int.cast_ofNat_Int, Int.natCast_zero, g1, b1, gc, ec, s64, g4, g5]; repeat' (refine kont_next ?_ <;> (try simp only [go_sem, Nat.add_assoc, reduceIte, reduceCtorEq, Nat.reduceEqDiff, Nat.reduceAdd, Nat.reduceMul, Nat.reduceSub, Nat.reduceLeDiff, Nat.reduceLT, Nat.reduceBEq, Nat.reduceBNe, Int.reduceLE, Int.reduceLT, Int.reduceToNat, Int.reduceEq, Int.reduceNe, Int.reduceNeg, Nat.reduceEqDiff, Int.reduceAdd, Int.reduceSub, Int.reduceMul, Int.cast_ofNat_Int, Int.natCast_zero, g1, b1, gc, ec, s64, g4, g5])))
            rw [← hT']
    · have g1 : decide ((i : Int) < (s.length : Int)) = false := decide_eq_false (by omega)
      rw [show i = s.length by omega, List.drop_length] at hT
      (simp only [go_sem, Nat.add_assoc, reduceIte, reduceCtorEq, Nat.reduceEqDiff, Nat.reduceAdd, Nat.reduceMul, Nat.reduceSub, Nat.reduceLeDiff, Nat.reduceLT, Nat.reduceBEq, Nat.reduceBNe, Int.reduceLE, Int.reduceLT, Int.reduceToNat, Int.reduceEq, Int.reduceNe, Int.reduceNeg, Nat.reduceEqDiff, Int.reduceAdd, Int.reduceSub, Int.reduceMul, Int.cast_ofNat_Int, Int.natCast_zero, g1]; repeat' (refine kont_next ?_ <;> (try simp only [go_sem, Nat.add_assoc, reduceIte, reduceCtorEq, Nat.reduceEqDiff, Nat.reduceAdd, Nat.reduceMul, Nat.reduceSub, Nat.reduceLeDiff, Nat.reduceLT, Nat.reduceBEq, Nat.reduceBNe, Int.reduceLE, Int.reduceLT, Int.reduceToNat, Int.reduceEq, Int.reduceNe, Int.reduceNeg, Nat.reduceEqDiff, Int.reduceAdd, Int.reduceSub, Int.reduceMul, Int.cast_ofNat_Int, Int.natCast_zero, g1])))
      rw [← hT]; rfl

theorem rises_step {l : List Vl} {i : Nat} {a b : Vl} (ha : l[i]? = some a) (hb : l[i + 2]? = some b) : risesV (Vl.ps (l.drop i)) = (!decide (0 ≤ cmpV a.p b.p) && risesV (Vl.ps (l.drop (i + 2)))) := by
  obtain ⟨hl, _⟩ := List.getElem?_eq_some_iff.1 hb
  obtain ⟨x, hx⟩ := get_lt3 (show i + 1 < l.length by omega)
  rw [drop_get3 ha, drop_get3 hx, drop_get3 hb]
  simp only [Vl.ps, risesV]
theorem rises_end {l : List Vl} {i : Nat} (h : l.length ≤ i + 2) : risesV (Vl.ps (l.drop i)) = true := by
  have : (l.drop i).length ≤ 2 := by rw [List.length_drop]; omega
  match l.drop i, this with
  | [], _ => rfl
  | [a], _ => rfl
  | [a, b], _ => rfl
  | _ :: _ :: _ :: _, h => simp at h

theorem wrap_two {k : Nat} (h : k < 4611686018427387904) : IntKind.i64.wrap ((k : Int) + 2) = ((k + 2 : Nat) : Int) := by
  simp [IntKind.wrap, IntKind.bits, IntKind.signed]
  omega
theorem wrap_sub2 {k : Nat} (h : k < 4611686018427387904) (h2 : 2 ≤ k) : IntKind.i64.wrap ((k : Int) - 2) = ((k - 2 : Nat) : Int) := by
  simp [IntKind.wrap, IntKind.bits, IntKind.signed]
  omega
theorem e66 {k : SK} {z : Nat} {l : List Vl} (h : OkS k z 4 l) (hl : l.length ≤ 137438953472) (ho : ∀ x ∈ l, x.ok) : acall S 66 [.sl k z (l.map Vl.c)] = some (.b (risesV (Vl.ps l)), []) := by
  refine W_eq (g66 rfl ?_)
  (simp only [go_sem, Nat.add_assoc, reduceIte, reduceCtorEq, Nat.reduceEqDiff, Nat.reduceAdd, Nat.reduceMul, Nat.reduceSub, Nat.reduceLeDiff, Nat.reduceLT, Nat.reduceBEq, Nat.reduceBNe, Int.reduceLE, Int.reduceLT, Int.reduceToNat, Int.reduceEq, Int.reduceNe, Int.reduceNeg, Nat.reduceEqDiff, Int.reduceAdd, Int.reduceSub, Int.reduceMul, Int.cast_ofNat_Int, Int.natCast_zero, a66]; repeat' (refine kont_next ?_ <;> (try simp only [go_sem, Nat.add_assoc, reduceIte, reduceCtorEq, Nat.reduceEqDiff, Nat.reduceAdd, Nat.reduceMul, Nat.reduceSub, Nat.reduceLeDiff, Nat.reduceLT, Nat.reduceBEq, Nat.reduceBNe, Int.reduceLE, Int.reduceLT, Int.reduceToNat, Int.reduceEq, Int.reduceNe, Int.reduceNeg, Nat.reduceEqDiff, Int.reduceAdd, Int.reduceSub, Int.reduceMul, Int.cast_ofNat_Int, Int.natCast_zero, a66])))
  refine kloop_inv (ι := Nat) (fun i => [.sl k z (l.map Vl.c), .i .i64 i]) (fun i => 2 ≤ i ∧ i - 2 ≤ l.length ∧ risesV (Vl.ps (l.drop (i - 2))) = risesV (Vl.ps l)) (fun i => l.length + 2 - i) 2 rfl ⟨by omega, by omega, rfl⟩ ?_
  rintro i ⟨h2, hi, hT⟩
  by_cases hlt : i < l.length
  · obtain ⟨a, ga⟩ := get_lt3 (show i - 2 < l.length by omega)
    obtain ⟨b, gb⟩ := get_lt3 hlt
    have gb' : l[i - 2 + 2]? = some b := by rw [show i - 2 + 2 = i by omega]; exact gb
    have hT' := hT
    rw [rises_step ga gb', show i - 2 + 2 = i by omega] at hT'
    have g1 : decide ((i : Int) < (l.length : Int)) = true := decide_eq_true (by omega)
    have b1 : (0 : Int) ≤ (i : Int) := by omega
    have b2 : (0 : Int) ≤ ((i - 2 : Nat) : Int) := by omega
    have hw := wrap_two (k := i) (by omega)
    have hw2 := wrap_sub2 (k := i) (by omega) h2
    have ec := e39 a b (ho a (List.mem_of_getElem? ga)) (ho b (List.mem_of_getElem? gb))
    obtain ⟨ck, cn, cs, ckk, cz, cl⟩ := a
    obtain ⟨dk, dn, ds, dkk, dz, dl⟩ := b
    simp only [Vl.c, Vl.cs_map] at ec
    by_cases hc : 0 ≤ cmpV (Vl.p (.mk ck cn cs ckk cz cl)) (Vl.p (.mk dk dn ds dkk dz dl))
    · have g3 := decide_eq_true hc
      rw [g3] at hT'
      (simp only [go_sem, Nat.add_assoc, reduceIte, reduceCtorEq, Nat.reduceEqDiff, Nat.reduceAdd, Nat.reduceMul, Nat.reduceSub, Nat.reduceLeDiff, Nat.reduceLT, Nat.reduceBEq, Nat.reduceBNe, Int.reduceLE, Int.reduceLT, Int.reduceToNat, Int.reduceEq, Int.reduceNe, Int.reduceNeg, Nat.reduceEqDiff, Int.reduceAdd, Int.reduceSub, Int.reduceMul, Int.cast_ofNat_Int, Int.natCast_zero, g1, b1, b2, ga, gb, hw2, h.1, Vl.c, Vl.cs_map, ec, s39, g3]; repeat' (refine kont_next ?_ <;> (try simp only [go_sem, Nat.add_assoc, reduceIte, reduceCtorEq, Nat.reduceEqDiff, Nat.reduceAdd, Nat.reduceMul, Nat.reduceSub, Nat.reduceLeDiff, Nat.reduceLT, Nat.reduceBEq, Nat.reduceBNe, Int.reduceLE, Int.reduceLT, Int.reduceToNat, Int.reduceEq, Int.reduceNe, Int.reduceNeg, Nat.reduceEqDiff, Int.reduceAdd, Int.reduceSub, Int.reduceMul, Int.cast_ofNat_Int, Int.natCast_zero, g1, b1, b2, ga, gb, hw2, h.1, Vl.c, Vl.cs_map, ec, s39, g3])))
      rw [← hT']; rfl
    · have g3 := decide_eq_false hc
      rw [g3] at hT'
      (simp only [go_sem, Nat.add_assoc, reduceIte, reduceCtorEq, Nat.reduceEqDiff, Nat.reduceAdd, Nat.reduceMul, Nat.reduceSub, Nat.reduceLeDiff, Nat.reduceLT, Nat.reduceBEq, Nat.reduceBNe, Int.reduceLE, Int.reduceLT, Int.reduceToNat, Int.reduceEq, Int.reduceNe, Int.reduceNeg, Nat.reduceEqDiff, Int.reduceAdd, Int.reduceSub, Int.reduceMul, Int.cast_ofNat_Int, Int.natCast_zero, g1, b1, b2, ga, gb, hw2, h.1, Vl.c, Vl.cs_map, ec, s39, g3, hw]; repeat' (refine kont_next ?_ <;> (try simp only [go_sem, Nat.add_assoc, reduceIte, reduceCtorEq, Nat.reduceEqDiff, Nat.reduceAdd, Nat.reduceMul, Nat.reduceSub, Nat.reduceLeDiff, Nat.reduceLT, Nat.reduceBEq, Nat.reduceBNe, Int.reduceLE, Int.reduceLT, Int.reduceToNat, Int.reduceEq, Int.reduceNe, Int.reduceNeg, Nat.reduceEqDiff, Int.reduceAdd, Int.reduceSub, Int.reduceMul, Int.cast_ofNat_Int, Int.natCast_zero, g1, b1, b2, ga, gb, hw2, h.1, Vl.c, Vl.cs_map, ec, s39, g3, hw])))
      exact ⟨i + 2, rfl, ⟨by omega, by omega, by simpa using hT'⟩, by omega⟩
  · have g1 : decide ((i : Int) < (l.length : Int)) = false := decide_eq_false (by omega)
    rw [rises_end (by omega)] at hT
    (simp only [go_sem, Nat.add_assoc, reduceIte, reduceCtorEq, Nat.reduceEqDiff, Nat.reduceAdd, Nat.reduceMul, Nat.reduceSub, Nat.reduceLeDiff, Nat.reduceLT, Nat.reduceBEq, Nat.reduceBNe, Int.reduceLE, Int.reduceLT, Int.reduceToNat, Int.reduceEq, Int.reduceNe, Int.reduceNeg, Nat.reduceEqDiff, Int.reduceAdd, Int.reduceSub, Int.reduceMul, Int.cast_ofNat_Int, Int.natCast_zero, g1]; repeat' (refine kont_next ?_ <;> (try simp only [go_sem, Nat.add_assoc, reduceIte, reduceCtorEq, Nat.reduceEqDiff, Nat.reduceAdd, Nat.reduceMul, Nat.reduceSub, Nat.reduceLeDiff, Nat.reduceLT, Nat.reduceBEq, Nat.reduceBNe, Int.reduceLE, Int.reduceLT, Int.reduceToNat, Int.reduceEq, Int.reduceNe, Int.reduceNeg, Nat.reduceEqDiff, Int.reduceAdd, Int.reduceSub, Int.reduceMul, Int.cast_ofNat_Int, Int.natCast_zero, g1])))
    rw [← hT]
end Go.Proofs.YtmdbfbcolofelaaDoor
