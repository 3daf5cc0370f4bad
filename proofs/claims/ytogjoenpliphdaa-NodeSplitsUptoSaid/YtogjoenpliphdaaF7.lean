import Derived.Test.YtogjoenpliphdaaF6
set_option linter.unusedSimpArgs false
set_option linter.unusedVariables false
set_option maxHeartbeats 8000000
namespace Go.Proofs.Ytogjoenpliphdaa
open Go.Abs

/-- a node that may not be -/
def BadN (n : Nd) : Prop := (n.leaf = true ∧ (n.keys.length + n.kids.length > 0 ∨ n.cells.any badCellB = true ∨ BadKeys (n.cells.map fun c => c.key.l))) ∨
  (n.leaf = false ∧ (n.cells.length > 0 ∨ n.kids.length ≠ n.keys.length + 1 ∨ n.kids.any badKid = true ∨ BadKeys (n.keys.map fun b => b.l)))
open Classical in
noncomputable def checkI (n : Nd) : Int := if BadN n then 80 else 0
theorem check_bad {n : Nd} (h : BadN n) : checkI n = 80 := if_pos h
theorem check_ok {n : Nd} (h : ¬ BadN n) : checkI n = 0 := if_neg h
/-- so small that every sum is one -/
structure Few (n : Nd) : Prop where
  c : n.cells.length < 137438953472
  k : n.keys.length < 137438953472
  i : n.kids.length < 137438953472

theorem e12 (n : Nd) (hf : Few n) : acall S 12 [n.v] = some (.i .i64 (checkI n), []) := by
  obtain ⟨f1, f2, f3⟩ := hf
  have hL : LIM = 274877906944 := rfl
  cases hleaf : n.leaf with
  | true =>
    have hw0 : IntKind.i64.wrap ((n.keys.length : Int) + n.kids.length) = ((n.keys.length + n.kids.length : Nat) : Int) := by rw [wrap_i64 (by omega) (by omega)]; omega
    have e1 := e32 n.okc (by omega)
    refine W_eq (g12 rfl ?_)
    cases h0 : decide ((0 : Int) < ((n.keys.length + n.kids.length : Nat) : Int)) with
    | true =>
      have h0' : n.keys.length + n.kids.length > 0 := by simp at h0; omega
      simp only [go_sem, Nat.add_assoc, reduceIte, reduceCtorEq, Nat.reduceEqDiff, Nat.reduceAdd, Nat.reduceMul, Nat.reduceSub, Nat.reduceLeDiff, Nat.reduceLT, Nat.reduceBEq, Nat.reduceBNe, Int.reduceLE, Int.reduceLT, Int.reduceToNat, Int.reduceEq, Int.reduceNe, Int.reduceNeg, Nat.reduceEqDiff, a12, Nd.v, Nd.cs, s32, e1, hleaf, hw0, h0]; repeat' (first | (first | refine kway_sp (fun hh => ?_) (fun hh => ?_) | refine kgdn_sp (fun hh => ?_) (fun hh => ?_) | refine kgd_sp (fun hh => ?_) (fun hh => ?_) | refine kgddn_sp (fun hh => ?_) (fun hh => ?_) | refine kgdd_sp (fun hh => ?_) (fun hh => ?_) | refine kop_way (fun hh => ?_) (fun hh => ?_) | refine kop_bway (fun hh => ?_) (fun hh => ?_) | refine kopd_way (fun hh => ?_) (fun hh => ?_) | refine kopd_bway (fun hh => ?_) (fun hh => ?_)) <;> (try simp only [go_sem, Nat.add_assoc, reduceIte, reduceCtorEq, Nat.reduceEqDiff, Nat.reduceAdd, Nat.reduceMul, Nat.reduceSub, Nat.reduceLeDiff, Nat.reduceLT, Nat.reduceBEq, Nat.reduceBNe, Int.reduceLE, Int.reduceLT, Int.reduceToNat, Int.reduceEq, Int.reduceNe, Int.reduceNeg, Nat.reduceEqDiff, a12, Nd.v, Nd.cs, s32, e1, hleaf, hw0, h0, hh]) | (first | refine kop_ask (by omega) ?_ | refine kopd_ask (by omega) ?_ | refine kans_ask (by omega) ?_ | refine kpack_ask (by omega) ?_ | refine kpk_ask (by omega) ?_ | refine kont_next ?_) <;> (try simp only [go_sem, Nat.add_assoc, reduceIte, reduceCtorEq, Nat.reduceEqDiff, Nat.reduceAdd, Nat.reduceMul, Nat.reduceSub, Nat.reduceLeDiff, Nat.reduceLT, Nat.reduceBEq, Nat.reduceBNe, Int.reduceLE, Int.reduceLT, Int.reduceToNat, Int.reduceEq, Int.reduceNe, Int.reduceNeg, Nat.reduceEqDiff, a12, Nd.v, Nd.cs, s32, e1, hleaf, hw0, h0]) | (show @Eq Nat _ _; omega) | (show @LE.le Nat _ _ _; omega))
      rw [check_bad (.inl ⟨hleaf, .inl h0'⟩)]
    | false =>
    have h0' : ¬ n.keys.length + n.kids.length > 0 := by simp at h0; omega
    cases hany : n.cells.any badCellB with
    | true =>
      simp only [go_sem, Nat.add_assoc, reduceIte, reduceCtorEq, Nat.reduceEqDiff, Nat.reduceAdd, Nat.reduceMul, Nat.reduceSub, Nat.reduceLeDiff, Nat.reduceLT, Nat.reduceBEq, Nat.reduceBNe, Int.reduceLE, Int.reduceLT, Int.reduceToNat, Int.reduceEq, Int.reduceNe, Int.reduceNeg, Nat.reduceEqDiff, a12, Nd.v, Nd.cs, s32, e1, hleaf, hw0, h0, hany]; repeat' (first | (first | refine kway_sp (fun hh => ?_) (fun hh => ?_) | refine kgdn_sp (fun hh => ?_) (fun hh => ?_) | refine kgd_sp (fun hh => ?_) (fun hh => ?_) | refine kgddn_sp (fun hh => ?_) (fun hh => ?_) | refine kgdd_sp (fun hh => ?_) (fun hh => ?_) | refine kop_way (fun hh => ?_) (fun hh => ?_) | refine kop_bway (fun hh => ?_) (fun hh => ?_) | refine kopd_way (fun hh => ?_) (fun hh => ?_) | refine kopd_bway (fun hh => ?_) (fun hh => ?_)) <;> (try simp only [go_sem, Nat.add_assoc, reduceIte, reduceCtorEq, Nat.reduceEqDiff, Nat.reduceAdd, Nat.reduceMul, Nat.reduceSub, Nat.reduceLeDiff, Nat.reduceLT, Nat.reduceBEq, Nat.reduceBNe, Int.reduceLE, Int.reduceLT, Int.reduceToNat, Int.reduceEq, Int.reduceNe, Int.reduceNeg, Nat.reduceEqDiff, a12, Nd.v, Nd.cs, s32, e1, hleaf, hw0, h0, hany, hh]) | (first | refine kop_ask (by omega) ?_ | refine kopd_ask (by omega) ?_ | refine kans_ask (by omega) ?_ | refine kpack_ask (by omega) ?_ | refine kpk_ask (by omega) ?_ | refine kont_next ?_) <;> (try simp only [go_sem, Nat.add_assoc, reduceIte, reduceCtorEq, Nat.reduceEqDiff, Nat.reduceAdd, Nat.reduceMul, Nat.reduceSub, Nat.reduceLeDiff, Nat.reduceLT, Nat.reduceBEq, Nat.reduceBNe, Int.reduceLE, Int.reduceLT, Int.reduceToNat, Int.reduceEq, Int.reduceNe, Int.reduceNeg, Nat.reduceEqDiff, a12, Nd.v, Nd.cs, s32, e1, hleaf, hw0, h0, hany]) | (show @Eq Nat _ _; omega) | (show @LE.le Nat _ _ _; omega))
      rw [check_bad (.inl ⟨hleaf, .inr (.inl hany)⟩)]
    | false =>
    simp only [go_sem, Nat.add_assoc, reduceIte, reduceCtorEq, Nat.reduceEqDiff, Nat.reduceAdd, Nat.reduceMul, Nat.reduceSub, Nat.reduceLeDiff, Nat.reduceLT, Nat.reduceBEq, Nat.reduceBNe, Int.reduceLE, Int.reduceLT, Int.reduceToNat, Int.reduceEq, Int.reduceNe, Int.reduceNeg, Nat.reduceEqDiff, a12, Nd.v, Nd.cs, s32, e1, hleaf, hw0, h0, hany]; repeat' (first | (first | refine kway_sp (fun hh => ?_) (fun hh => ?_) | refine kgdn_sp (fun hh => ?_) (fun hh => ?_) | refine kgd_sp (fun hh => ?_) (fun hh => ?_) | refine kgddn_sp (fun hh => ?_) (fun hh => ?_) | refine kgdd_sp (fun hh => ?_) (fun hh => ?_) | refine kop_way (fun hh => ?_) (fun hh => ?_) | refine kop_bway (fun hh => ?_) (fun hh => ?_) | refine kopd_way (fun hh => ?_) (fun hh => ?_) | refine kopd_bway (fun hh => ?_) (fun hh => ?_)) <;> (try simp only [go_sem, Nat.add_assoc, reduceIte, reduceCtorEq, Nat.reduceEqDiff, Nat.reduceAdd, Nat.reduceMul, Nat.reduceSub, Nat.reduceLeDiff, Nat.reduceLT, Nat.reduceBEq, Nat.reduceBNe, Int.reduceLE, Int.reduceLT, Int.reduceToNat, Int.reduceEq, Int.reduceNe, Int.reduceNeg, Nat.reduceEqDiff, a12, Nd.v, Nd.cs, s32, e1, hleaf, hw0, h0, hany, hh]) | (first | refine kop_ask (by omega) ?_ | refine kopd_ask (by omega) ?_ | refine kans_ask (by omega) ?_ | refine kpack_ask (by omega) ?_ | refine kpk_ask (by omega) ?_ | refine kont_next ?_) <;> (try simp only [go_sem, Nat.add_assoc, reduceIte, reduceCtorEq, Nat.reduceEqDiff, Nat.reduceAdd, Nat.reduceMul, Nat.reduceSub, Nat.reduceLeDiff, Nat.reduceLT, Nat.reduceBEq, Nat.reduceBNe, Int.reduceLE, Int.reduceLT, Int.reduceToNat, Int.reduceEq, Int.reduceNe, Int.reduceNeg, Nat.reduceEqDiff, a12, Nd.v, Nd.cs, s32, e1, hleaf, hw0, h0, hany]) | (show @Eq Nat _ _; omega) | (show @LE.le Nat _ _ _; omega))
    refine kloop_inv (ι := Nat) (fun k => [.ow 27 1 (decide (k = 0)) (((n.cells.take k).map fun c => c.key).map byC), .sl n.kc n.zc (n.cells.map Ce.c), .i .i64 n.cells.length, .i .i64 k]) (fun k => k ≤ n.cells.length) (fun k => n.cells.length - k) 0 (by simp) (by simp) ?_
    intro k hk
    by_cases hlt : k < n.cells.length
    · obtain ⟨c, hc⟩ := get_lt hlt
      have hw := wrap_succ (k := k) (by omega)
      have hb : decide ((k : Int) < (n.cells.length : Int)) = true := by simp; omega
      have htl : (n.cells.take k).length = k := by simp; omega
      simp only [go_sem, Nat.add_assoc, reduceIte, reduceCtorEq, Nat.reduceEqDiff, Nat.reduceAdd, Nat.reduceMul, Nat.reduceSub, Nat.reduceLeDiff, Nat.reduceLT, Nat.reduceBEq, Nat.reduceBNe, Int.reduceLE, Int.reduceLT, Int.reduceToNat, Int.reduceEq, Int.reduceNe, Int.reduceNeg, Nat.reduceEqDiff, hb, n.okc.1, hc, Ce.c, By.v, hw, htl]; repeat' (first | (first | refine kway_sp (fun hh => ?_) (fun hh => ?_) | refine kgdn_sp (fun hh => ?_) (fun hh => ?_) | refine kgd_sp (fun hh => ?_) (fun hh => ?_) | refine kgddn_sp (fun hh => ?_) (fun hh => ?_) | refine kgdd_sp (fun hh => ?_) (fun hh => ?_) | refine kop_way (fun hh => ?_) (fun hh => ?_) | refine kop_bway (fun hh => ?_) (fun hh => ?_) | refine kopd_way (fun hh => ?_) (fun hh => ?_) | refine kopd_bway (fun hh => ?_) (fun hh => ?_)) <;> (try simp only [go_sem, Nat.add_assoc, reduceIte, reduceCtorEq, Nat.reduceEqDiff, Nat.reduceAdd, Nat.reduceMul, Nat.reduceSub, Nat.reduceLeDiff, Nat.reduceLT, Nat.reduceBEq, Nat.reduceBNe, Int.reduceLE, Int.reduceLT, Int.reduceToNat, Int.reduceEq, Int.reduceNe, Int.reduceNeg, Nat.reduceEqDiff, hb, n.okc.1, hc, Ce.c, By.v, hw, htl, hh]) | (first | refine kop_ask (by omega) ?_ | refine kopd_ask (by omega) ?_ | refine kans_ask (by omega) ?_ | refine kpack_ask (by omega) ?_ | refine kpk_ask (by omega) ?_ | refine kont_next ?_) <;> (try simp only [go_sem, Nat.add_assoc, reduceIte, reduceCtorEq, Nat.reduceEqDiff, Nat.reduceAdd, Nat.reduceMul, Nat.reduceSub, Nat.reduceLeDiff, Nat.reduceLT, Nat.reduceBEq, Nat.reduceBNe, Int.reduceLE, Int.reduceLT, Int.reduceToNat, Int.reduceEq, Int.reduceNe, Int.reduceNeg, Nat.reduceEqDiff, hb, n.okc.1, hc, Ce.c, By.v, hw, htl]) | (show @Eq Nat _ _; omega) | (show @LE.le Nat _ _ _; omega))
      refine ⟨k + 1, ?_, by omega, by omega⟩
      rw [take_get hc]
      simp [byC, By.v]
    · have hb : decide ((k : Int) < (n.cells.length : Int)) = false := by simp; omega
      have hkk : k = n.cells.length := by omega
      obtain ⟨ks, hks⟩ : ∃ ks, ks = n.cells.map fun c => c.key := ⟨_, rfl⟩
      have hk2 : ((n.cells.take k).map fun c => c.key) = ks := by rw [hkk, List.take_length, hks]
      have hkl : ks.length = n.cells.length := by rw [hks]; simp
      have hkm : (n.cells.map fun c => c.key.l) = ks.map fun b => b.l := by rw [hks]; simp
      obtain ⟨nl, hnl⟩ : ∃ nl, nl = decide (k = 0) := ⟨_, rfl⟩
      rw [hk2, ← hnl]
      have hok : OkS (skOf nl) 1 1 ks := ⟨.inl rfl, fun h => by
        cases nl with
        | false => cases h
        | true =>
          have : k = 0 := by simpa using hnl.symm
          exact List.eq_nil_of_length_eq_zero (by omega)⟩
      simp only [go_sem, Nat.add_assoc, reduceIte, reduceCtorEq, Nat.reduceEqDiff, Nat.reduceAdd, Nat.reduceMul, Nat.reduceSub, Nat.reduceLeDiff, Nat.reduceLT, Nat.reduceBEq, Nat.reduceBNe, Int.reduceLE, Int.reduceLT, Int.reduceToNat, Int.reduceEq, Int.reduceNe, Int.reduceNeg, Nat.reduceEqDiff, hb]; repeat' (first | (first | refine kway_sp (fun hh => ?_) (fun hh => ?_) | refine kgdn_sp (fun hh => ?_) (fun hh => ?_) | refine kgd_sp (fun hh => ?_) (fun hh => ?_) | refine kgddn_sp (fun hh => ?_) (fun hh => ?_) | refine kgdd_sp (fun hh => ?_) (fun hh => ?_) | refine kop_way (fun hh => ?_) (fun hh => ?_) | refine kop_bway (fun hh => ?_) (fun hh => ?_) | refine kopd_way (fun hh => ?_) (fun hh => ?_) | refine kopd_bway (fun hh => ?_) (fun hh => ?_)) <;> (try simp only [go_sem, Nat.add_assoc, reduceIte, reduceCtorEq, Nat.reduceEqDiff, Nat.reduceAdd, Nat.reduceMul, Nat.reduceSub, Nat.reduceLeDiff, Nat.reduceLT, Nat.reduceBEq, Nat.reduceBNe, Int.reduceLE, Int.reduceLT, Int.reduceToNat, Int.reduceEq, Int.reduceNe, Int.reduceNeg, Nat.reduceEqDiff, hb, hh]) | (first | refine kop_ask (by omega) ?_ | refine kopd_ask (by omega) ?_ | refine kans_ask (by omega) ?_ | refine kpack_ask (by omega) ?_ | refine kpk_ask (by omega) ?_ | refine kont_next ?_) <;> (try simp only [go_sem, Nat.add_assoc, reduceIte, reduceCtorEq, Nat.reduceEqDiff, Nat.reduceAdd, Nat.reduceMul, Nat.reduceSub, Nat.reduceLeDiff, Nat.reduceLT, Nat.reduceBEq, Nat.reduceBNe, Int.reduceLE, Int.reduceLT, Int.reduceToNat, Int.reduceEq, Int.reduceNe, Int.reduceNeg, Nat.reduceEqDiff, hb]) | (show @Eq Nat _ _; omega) | (show @LE.le Nat _ _ _; omega))
      refine kloop_inv (ι := Nat) (fun i => [.sl (skOf nl) 1 (ks.map byC), .sl (skOf nl) 1 (ks.map byC), .i .i64 ks.length, .i .i64 i]) (fun i => i ≤ ks.length ∧ ∀ j, j < i → ¬ BadAt (ks.map fun b => b.l) j) (fun i => ks.length - i) 0 (by simp) (by simp) ?_
      rintro i ⟨hi, hn⟩
      by_cases hlt : i < ks.length
      · obtain ⟨c, hc⟩ := get_lt hlt
        have hw := wrap_succ (k := i) (by omega)
        have hb : decide ((i : Int) < (ks.length : Int)) = true := by simp; omega
        have e1 : acall S 36 [.sl c.k c.z (ofU8s c.l)] = some (.b (badKeyB c.l), []) := e36 _ _ _
        have hcm : (ks.map fun b => b.l)[i]? = some c.l := by rw [List.getElem?_map, hc]; rfl
        cases hbk : badKeyB c.l with
        | true =>
          have hbad : BadKeys (ks.map fun b => b.l) := ⟨i, c.l, hcm, .inl hbk⟩
          simp only [go_sem, Nat.add_assoc, reduceIte, reduceCtorEq, Nat.reduceEqDiff, Nat.reduceAdd, Nat.reduceMul, Nat.reduceSub, Nat.reduceLeDiff, Nat.reduceLT, Nat.reduceBEq, Nat.reduceBNe, Int.reduceLE, Int.reduceLT, Int.reduceToNat, Int.reduceEq, Int.reduceNe, Int.reduceNeg, Nat.reduceEqDiff, hb, hok.1, hc, byC, By.v, s36, e1, hw, hbk]; repeat' (first | (first | refine kway_sp (fun hh => ?_) (fun hh => ?_) | refine kgdn_sp (fun hh => ?_) (fun hh => ?_) | refine kgd_sp (fun hh => ?_) (fun hh => ?_) | refine kgddn_sp (fun hh => ?_) (fun hh => ?_) | refine kgdd_sp (fun hh => ?_) (fun hh => ?_) | refine kop_way (fun hh => ?_) (fun hh => ?_) | refine kop_bway (fun hh => ?_) (fun hh => ?_) | refine kopd_way (fun hh => ?_) (fun hh => ?_) | refine kopd_bway (fun hh => ?_) (fun hh => ?_)) <;> (try simp only [go_sem, Nat.add_assoc, reduceIte, reduceCtorEq, Nat.reduceEqDiff, Nat.reduceAdd, Nat.reduceMul, Nat.reduceSub, Nat.reduceLeDiff, Nat.reduceLT, Nat.reduceBEq, Nat.reduceBNe, Int.reduceLE, Int.reduceLT, Int.reduceToNat, Int.reduceEq, Int.reduceNe, Int.reduceNeg, Nat.reduceEqDiff, hb, hok.1, hc, byC, By.v, s36, e1, hw, hbk, hh]) | (first | refine kop_ask (by omega) ?_ | refine kopd_ask (by omega) ?_ | refine kans_ask (by omega) ?_ | refine kpack_ask (by omega) ?_ | refine kpk_ask (by omega) ?_ | refine kont_next ?_) <;> (try simp only [go_sem, Nat.add_assoc, reduceIte, reduceCtorEq, Nat.reduceEqDiff, Nat.reduceAdd, Nat.reduceMul, Nat.reduceSub, Nat.reduceLeDiff, Nat.reduceLT, Nat.reduceBEq, Nat.reduceBNe, Int.reduceLE, Int.reduceLT, Int.reduceToNat, Int.reduceEq, Int.reduceNe, Int.reduceNeg, Nat.reduceEqDiff, hb, hok.1, hc, byC, By.v, s36, e1, hw, hbk]) | (show @Eq Nat _ _; omega) | (show @LE.le Nat _ _ _; omega))
          rw [check_bad (.inl ⟨hleaf, .inr (.inr (by rw [hkm]; exact hbad))⟩)]
        | false =>
          cases i with
          | zero =>
            have hb0 := hb
            have hw0' := hw
            simp only [Int.natCast_zero] at hb0 hw0'
            simp only [go_sem, Nat.add_assoc, reduceIte, reduceCtorEq, Nat.reduceEqDiff, Nat.reduceAdd, Nat.reduceMul, Nat.reduceSub, Nat.reduceLeDiff, Nat.reduceLT, Nat.reduceBEq, Nat.reduceBNe, Int.reduceLE, Int.reduceLT, Int.reduceToNat, Int.reduceEq, Int.reduceNe, Int.reduceNeg, Nat.reduceEqDiff, hb0, hok.1, hc, byC, By.v, s36, e1, hw0', hbk, Int.natCast_zero, Int.lt_irrefl]; repeat' (first | (first | refine kway_sp (fun hh => ?_) (fun hh => ?_) | refine kgdn_sp (fun hh => ?_) (fun hh => ?_) | refine kgd_sp (fun hh => ?_) (fun hh => ?_) | refine kgddn_sp (fun hh => ?_) (fun hh => ?_) | refine kgdd_sp (fun hh => ?_) (fun hh => ?_) | refine kop_way (fun hh => ?_) (fun hh => ?_) | refine kop_bway (fun hh => ?_) (fun hh => ?_) | refine kopd_way (fun hh => ?_) (fun hh => ?_) | refine kopd_bway (fun hh => ?_) (fun hh => ?_)) <;> (try simp only [go_sem, Nat.add_assoc, reduceIte, reduceCtorEq, Nat.reduceEqDiff, Nat.reduceAdd, Nat.reduceMul, Nat.reduceSub, Nat.reduceLeDiff, Nat.reduceLT, Nat.reduceBEq, Nat.reduceBNe, Int.reduceLE, Int.reduceLT, Int.reduceToNat, Int.reduceEq, Int.reduceNe, Int.reduceNeg, Nat.reduceEqDiff, hb0, hok.1, hc, byC, By.v, s36, e1, hw0', hbk, Int.natCast_zero, Int.lt_irrefl, hh]) | (first | refine kop_ask (by omega) ?_ | refine kopd_ask (by omega) ?_ | refine kans_ask (by omega) ?_ | refine kpack_ask (by omega) ?_ | refine kpk_ask (by omega) ?_ | refine kont_next ?_) <;> (try simp only [go_sem, Nat.add_assoc, reduceIte, reduceCtorEq, Nat.reduceEqDiff, Nat.reduceAdd, Nat.reduceMul, Nat.reduceSub, Nat.reduceLeDiff, Nat.reduceLT, Nat.reduceBEq, Nat.reduceBNe, Int.reduceLE, Int.reduceLT, Int.reduceToNat, Int.reduceEq, Int.reduceNe, Int.reduceNeg, Nat.reduceEqDiff, hb0, hok.1, hc, byC, By.v, s36, e1, hw0', hbk, Int.natCast_zero, Int.lt_irrefl]) | (show @Eq Nat _ _; omega) | (show @LE.le Nat _ _ _; omega))
            refine ⟨1, rfl, ⟨by omega, fun j hj => ?_⟩, by omega⟩
            obtain rfl : j = 0 := by omega
            rintro ⟨b, hb1, hb2⟩
            rw [hcm] at hb1
            injection hb1 with hb1
            subst hb1
            rcases hb2 with hb2 | ⟨j, a, h1, _⟩
            · rw [hbk] at hb2; cases hb2
            · omega
          | succ j =>
            obtain ⟨a, ha⟩ := get_lt (show j < ks.length by omega)
            have ham : (ks.map fun b => b.l)[j]? = some a.l := by rw [List.getElem?_map, ha]; rfl
            have e2 := e37 a.ok c.ok
            have hp : decide ((0 : Int) < ((j + 1 : Nat) : Int)) = true := decide_eq_true (by omega)
            have hw2 : IntKind.i64.wrap (((j + 1 : Nat) : Int) - 1) = (j : Int) := by rw [wrap_i64 (by omega) (by omega)]; omega
            cases hcmp : decide (0 ≤ Go.Lib.compareBytes a.l c.l) with
            | true =>
              have hbad : BadKeys (ks.map fun b => b.l) := ⟨j + 1, c.l, hcm, .inr ⟨j, a.l, rfl, ham, by simpa using hcmp⟩⟩
              simp only [go_sem, Nat.add_assoc, reduceIte, reduceCtorEq, Nat.reduceEqDiff, Nat.reduceAdd, Nat.reduceMul, Nat.reduceSub, Nat.reduceLeDiff, Nat.reduceLT, Nat.reduceBEq, Nat.reduceBNe, Int.reduceLE, Int.reduceLT, Int.reduceToNat, Int.reduceEq, Int.reduceNe, Int.reduceNeg, Nat.reduceEqDiff, hb, hok.1, hc, ha, byC, By.v, s36, s37, e1, e2, hw, hw2, hp, hbk, hcmp]; repeat' (first | (first | refine kway_sp (fun hh => ?_) (fun hh => ?_) | refine kgdn_sp (fun hh => ?_) (fun hh => ?_) | refine kgd_sp (fun hh => ?_) (fun hh => ?_) | refine kgddn_sp (fun hh => ?_) (fun hh => ?_) | refine kgdd_sp (fun hh => ?_) (fun hh => ?_) | refine kop_way (fun hh => ?_) (fun hh => ?_) | refine kop_bway (fun hh => ?_) (fun hh => ?_) | refine kopd_way (fun hh => ?_) (fun hh => ?_) | refine kopd_bway (fun hh => ?_) (fun hh => ?_)) <;> (try simp only [go_sem, Nat.add_assoc, reduceIte, reduceCtorEq, Nat.reduceEqDiff, Nat.reduceAdd, Nat.reduceMul, Nat.reduceSub, Nat.reduceLeDiff, Nat.reduceLT, Nat.reduceBEq, Nat.reduceBNe, Int.reduceLE, Int.reduceLT, Int.reduceToNat, Int.reduceEq, Int.reduceNe, Int.reduceNeg, Nat.reduceEqDiff, hb, hok.1, hc, ha, byC, By.v, s36, s37, e1, e2, hw, hw2, hp, hbk, hcmp, hh]) | (first | refine kop_ask (by omega) ?_ | refine kopd_ask (by omega) ?_ | refine kans_ask (by omega) ?_ | refine kpack_ask (by omega) ?_ | refine kpk_ask (by omega) ?_ | refine kont_next ?_) <;> (try simp only [go_sem, Nat.add_assoc, reduceIte, reduceCtorEq, Nat.reduceEqDiff, Nat.reduceAdd, Nat.reduceMul, Nat.reduceSub, Nat.reduceLeDiff, Nat.reduceLT, Nat.reduceBEq, Nat.reduceBNe, Int.reduceLE, Int.reduceLT, Int.reduceToNat, Int.reduceEq, Int.reduceNe, Int.reduceNeg, Nat.reduceEqDiff, hb, hok.1, hc, ha, byC, By.v, s36, s37, e1, e2, hw, hw2, hp, hbk, hcmp]) | (show @Eq Nat _ _; omega) | (show @LE.le Nat _ _ _; omega))
              rw [check_bad (.inl ⟨hleaf, .inr (.inr (by rw [hkm]; exact hbad))⟩)]
            | false =>
              simp only [go_sem, Nat.add_assoc, reduceIte, reduceCtorEq, Nat.reduceEqDiff, Nat.reduceAdd, Nat.reduceMul, Nat.reduceSub, Nat.reduceLeDiff, Nat.reduceLT, Nat.reduceBEq, Nat.reduceBNe, Int.reduceLE, Int.reduceLT, Int.reduceToNat, Int.reduceEq, Int.reduceNe, Int.reduceNeg, Nat.reduceEqDiff, hb, hok.1, hc, ha, byC, By.v, s36, s37, e1, e2, hw, hw2, hp, hbk, hcmp]; repeat' (first | (first | refine kway_sp (fun hh => ?_) (fun hh => ?_) | refine kgdn_sp (fun hh => ?_) (fun hh => ?_) | refine kgd_sp (fun hh => ?_) (fun hh => ?_) | refine kgddn_sp (fun hh => ?_) (fun hh => ?_) | refine kgdd_sp (fun hh => ?_) (fun hh => ?_) | refine kop_way (fun hh => ?_) (fun hh => ?_) | refine kop_bway (fun hh => ?_) (fun hh => ?_) | refine kopd_way (fun hh => ?_) (fun hh => ?_) | refine kopd_bway (fun hh => ?_) (fun hh => ?_)) <;> (try simp only [go_sem, Nat.add_assoc, reduceIte, reduceCtorEq, Nat.reduceEqDiff, Nat.reduceAdd, Nat.reduceMul, Nat.reduceSub, Nat.reduceLeDiff, Nat.reduceLT, Nat.reduceBEq, Nat.reduceBNe, Int.reduceLE, Int.reduceLT, Int.reduceToNat, Int.reduceEq, Int.reduceNe, Int.reduceNeg, Nat.reduceEqDiff, hb, hok.1, hc, ha, byC, By.v, s36, s37, e1, e2, hw, hw2, hp, hbk, hcmp, hh]) | (first | refine kop_ask (by omega) ?_ | refine kopd_ask (by omega) ?_ | refine kans_ask (by omega) ?_ | refine kpack_ask (by omega) ?_ | refine kpk_ask (by omega) ?_ | refine kont_next ?_) <;> (try simp only [go_sem, Nat.add_assoc, reduceIte, reduceCtorEq, Nat.reduceEqDiff, Nat.reduceAdd, Nat.reduceMul, Nat.reduceSub, Nat.reduceLeDiff, Nat.reduceLT, Nat.reduceBEq, Nat.reduceBNe, Int.reduceLE, Int.reduceLT, Int.reduceToNat, Int.reduceEq, Int.reduceNe, Int.reduceNeg, Nat.reduceEqDiff, hb, hok.1, hc, ha, byC, By.v, s36, s37, e1, e2, hw, hw2, hp, hbk, hcmp]) | (show @Eq Nat _ _; omega) | (show @LE.le Nat _ _ _; omega))
              refine ⟨j + 1 + 1, rfl, ⟨by omega, fun j' hj => ?_⟩, by omega⟩
              by_cases hjj : j' < j + 1
              · exact hn j' hjj
              obtain rfl : j' = j + 1 := by omega
              rintro ⟨b, hb1, hb2⟩
              rw [hcm] at hb1
              injection hb1 with hb1
              subst hb1
              rcases hb2 with hb2 | ⟨j1, a1, h1, h2, h3⟩
              · rw [hbk] at hb2; cases hb2
              · obtain rfl : j1 = j := by omega
                rw [ham] at h2
                injection h2 with h2
                subst h2
                have hcmp' : ¬ 0 ≤ Go.Lib.compareBytes a.l c.l := by simpa using hcmp
                exact hcmp' h3
      · have hb : decide ((i : Int) < (ks.length : Int)) = false := by simp; omega
        have hnb : ¬ BadKeys (ks.map fun b => b.l) := by
          rintro ⟨j, hj⟩
          have := bad_lt hj
          simp at this
          exact hn j (by omega) hj
        simp only [go_sem, Nat.add_assoc, reduceIte, reduceCtorEq, Nat.reduceEqDiff, Nat.reduceAdd, Nat.reduceMul, Nat.reduceSub, Nat.reduceLeDiff, Nat.reduceLT, Nat.reduceBEq, Nat.reduceBNe, Int.reduceLE, Int.reduceLT, Int.reduceToNat, Int.reduceEq, Int.reduceNe, Int.reduceNeg, Nat.reduceEqDiff, hb]; repeat' (first | (first | refine kway_sp (fun hh => ?_) (fun hh => ?_) | refine kgdn_sp (fun hh => ?_) (fun hh => ?_) | refine kgd_sp (fun hh => ?_) (fun hh => ?_) | refine kgddn_sp (fun hh => ?_) (fun hh => ?_) | refine kgdd_sp (fun hh => ?_) (fun hh => ?_) | refine kop_way (fun hh => ?_) (fun hh => ?_) | refine kop_bway (fun hh => ?_) (fun hh => ?_) | refine kopd_way (fun hh => ?_) (fun hh => ?_) | refine kopd_bway (fun hh => ?_) (fun hh => ?_)) <;> (try simp only [go_sem, Nat.add_assoc, reduceIte, reduceCtorEq, Nat.reduceEqDiff, Nat.reduceAdd, Nat.reduceMul, Nat.reduceSub, Nat.reduceLeDiff, Nat.reduceLT, Nat.reduceBEq, Nat.reduceBNe, Int.reduceLE, Int.reduceLT, Int.reduceToNat, Int.reduceEq, Int.reduceNe, Int.reduceNeg, Nat.reduceEqDiff, hb, hh]) | (first | refine kop_ask (by omega) ?_ | refine kopd_ask (by omega) ?_ | refine kans_ask (by omega) ?_ | refine kpack_ask (by omega) ?_ | refine kpk_ask (by omega) ?_ | refine kont_next ?_) <;> (try simp only [go_sem, Nat.add_assoc, reduceIte, reduceCtorEq, Nat.reduceEqDiff, Nat.reduceAdd, Nat.reduceMul, Nat.reduceSub, Nat.reduceLeDiff, Nat.reduceLT, Nat.reduceBEq, Nat.reduceBNe, Int.reduceLE, Int.reduceLT, Int.reduceToNat, Int.reduceEq, Int.reduceNe, Int.reduceNeg, Nat.reduceEqDiff, hb]) | (show @Eq Nat _ _; omega) | (show @LE.le Nat _ _ _; omega))
        rw [check_ok (fun h => by rcases h with ⟨_, h | h | h⟩ | ⟨h, _⟩; exact h0' h; rw [hany] at h; cases h; rw [hkm] at h; exact hnb h; rw [hleaf] at h; cases h)]

  | false =>
    have hw0 : IntKind.i64.wrap ((n.keys.length : Int) + 1) = ((n.keys.length + 1 : Nat) : Int) := by rw [wrap_i64 (by omega) (by omega)]; omega
    have e1 := e34 n.oki (by omega)
    refine W_eq (g12 rfl ?_)
    cases h0 : decide ((0 : Int) < (n.cells.length : Int)) with
    | true =>
      have h0' : n.cells.length > 0 := by have := of_decide_eq_true h0; omega
      simp only [go_sem, Nat.add_assoc, reduceIte, reduceCtorEq, Nat.reduceEqDiff, Nat.reduceAdd, Nat.reduceMul, Nat.reduceSub, Nat.reduceLeDiff, Nat.reduceLT, Nat.reduceBEq, Nat.reduceBNe, Int.reduceLE, Int.reduceLT, Int.reduceToNat, Int.reduceEq, Int.reduceNe, Int.reduceNeg, Nat.reduceEqDiff, a12, Nd.v, Nd.cs, s34, e1, hleaf, hw0, h0]; repeat' (first | (first | refine kway_sp (fun hh => ?_) (fun hh => ?_) | refine kgdn_sp (fun hh => ?_) (fun hh => ?_) | refine kgd_sp (fun hh => ?_) (fun hh => ?_) | refine kgddn_sp (fun hh => ?_) (fun hh => ?_) | refine kgdd_sp (fun hh => ?_) (fun hh => ?_) | refine kop_way (fun hh => ?_) (fun hh => ?_) | refine kop_bway (fun hh => ?_) (fun hh => ?_) | refine kopd_way (fun hh => ?_) (fun hh => ?_) | refine kopd_bway (fun hh => ?_) (fun hh => ?_)) <;> (try simp only [go_sem, Nat.add_assoc, reduceIte, reduceCtorEq, Nat.reduceEqDiff, Nat.reduceAdd, Nat.reduceMul, Nat.reduceSub, Nat.reduceLeDiff, Nat.reduceLT, Nat.reduceBEq, Nat.reduceBNe, Int.reduceLE, Int.reduceLT, Int.reduceToNat, Int.reduceEq, Int.reduceNe, Int.reduceNeg, Nat.reduceEqDiff, a12, Nd.v, Nd.cs, s34, e1, hleaf, hw0, h0, hh]) | (first | refine kop_ask (by omega) ?_ | refine kopd_ask (by omega) ?_ | refine kans_ask (by omega) ?_ | refine kpack_ask (by omega) ?_ | refine kpk_ask (by omega) ?_ | refine kont_next ?_) <;> (try simp only [go_sem, Nat.add_assoc, reduceIte, reduceCtorEq, Nat.reduceEqDiff, Nat.reduceAdd, Nat.reduceMul, Nat.reduceSub, Nat.reduceLeDiff, Nat.reduceLT, Nat.reduceBEq, Nat.reduceBNe, Int.reduceLE, Int.reduceLT, Int.reduceToNat, Int.reduceEq, Int.reduceNe, Int.reduceNeg, Nat.reduceEqDiff, a12, Nd.v, Nd.cs, s34, e1, hleaf, hw0, h0]) | (show @Eq Nat _ _; omega) | (show @LE.le Nat _ _ _; omega))
      rw [check_bad (.inr ⟨hleaf, .inl h0'⟩)]
    | false =>
    have h0' : ¬ n.cells.length > 0 := by have := of_decide_eq_false h0; omega
    cases h1 : decide ((n.kids.length : Int) = ((n.keys.length + 1 : Nat) : Int)) with
    | false =>
      have h1' : n.kids.length ≠ n.keys.length + 1 := by have := of_decide_eq_false h1; omega
      have h1n : decide (¬ (n.kids.length : Int) = ((n.keys.length + 1 : Nat) : Int)) = true := by simp; omega
      simp only [go_sem, Nat.add_assoc, reduceIte, reduceCtorEq, Nat.reduceEqDiff, Nat.reduceAdd, Nat.reduceMul, Nat.reduceSub, Nat.reduceLeDiff, Nat.reduceLT, Nat.reduceBEq, Nat.reduceBNe, Int.reduceLE, Int.reduceLT, Int.reduceToNat, Int.reduceEq, Int.reduceNe, Int.reduceNeg, Nat.reduceEqDiff, a12, Nd.v, Nd.cs, s34, e1, hleaf, hw0, h0, h1n]; repeat' (first | (first | refine kway_sp (fun hh => ?_) (fun hh => ?_) | refine kgdn_sp (fun hh => ?_) (fun hh => ?_) | refine kgd_sp (fun hh => ?_) (fun hh => ?_) | refine kgddn_sp (fun hh => ?_) (fun hh => ?_) | refine kgdd_sp (fun hh => ?_) (fun hh => ?_) | refine kop_way (fun hh => ?_) (fun hh => ?_) | refine kop_bway (fun hh => ?_) (fun hh => ?_) | refine kopd_way (fun hh => ?_) (fun hh => ?_) | refine kopd_bway (fun hh => ?_) (fun hh => ?_)) <;> (try simp only [go_sem, Nat.add_assoc, reduceIte, reduceCtorEq, Nat.reduceEqDiff, Nat.reduceAdd, Nat.reduceMul, Nat.reduceSub, Nat.reduceLeDiff, Nat.reduceLT, Nat.reduceBEq, Nat.reduceBNe, Int.reduceLE, Int.reduceLT, Int.reduceToNat, Int.reduceEq, Int.reduceNe, Int.reduceNeg, Nat.reduceEqDiff, a12, Nd.v, Nd.cs, s34, e1, hleaf, hw0, h0, h1n, hh]) | (first | refine kop_ask (by omega) ?_ | refine kopd_ask (by omega) ?_ | refine kans_ask (by omega) ?_ | refine kpack_ask (by omega) ?_ | refine kpk_ask (by omega) ?_ | refine kont_next ?_) <;> (try simp only [go_sem, Nat.add_assoc, reduceIte, reduceCtorEq, Nat.reduceEqDiff, Nat.reduceAdd, Nat.reduceMul, Nat.reduceSub, Nat.reduceLeDiff, Nat.reduceLT, Nat.reduceBEq, Nat.reduceBNe, Int.reduceLE, Int.reduceLT, Int.reduceToNat, Int.reduceEq, Int.reduceNe, Int.reduceNeg, Nat.reduceEqDiff, a12, Nd.v, Nd.cs, s34, e1, hleaf, hw0, h0, h1n]) | (show @Eq Nat _ _; omega) | (show @LE.le Nat _ _ _; omega))
      rw [check_bad (.inr ⟨hleaf, .inr (.inl h1')⟩)]
    | true =>
    have h1' : n.kids.length = n.keys.length + 1 := by have := of_decide_eq_true h1; omega
    have h1n : decide (¬ (n.kids.length : Int) = ((n.keys.length + 1 : Nat) : Int)) = false := by simp; omega
    cases hany : n.kids.any badKid with
    | true =>
      simp only [go_sem, Nat.add_assoc, reduceIte, reduceCtorEq, Nat.reduceEqDiff, Nat.reduceAdd, Nat.reduceMul, Nat.reduceSub, Nat.reduceLeDiff, Nat.reduceLT, Nat.reduceBEq, Nat.reduceBNe, Int.reduceLE, Int.reduceLT, Int.reduceToNat, Int.reduceEq, Int.reduceNe, Int.reduceNeg, Nat.reduceEqDiff, a12, Nd.v, Nd.cs, s34, e1, hleaf, hw0, h0, h1n, hany]; repeat' (first | (first | refine kway_sp (fun hh => ?_) (fun hh => ?_) | refine kgdn_sp (fun hh => ?_) (fun hh => ?_) | refine kgd_sp (fun hh => ?_) (fun hh => ?_) | refine kgddn_sp (fun hh => ?_) (fun hh => ?_) | refine kgdd_sp (fun hh => ?_) (fun hh => ?_) | refine kop_way (fun hh => ?_) (fun hh => ?_) | refine kop_bway (fun hh => ?_) (fun hh => ?_) | refine kopd_way (fun hh => ?_) (fun hh => ?_) | refine kopd_bway (fun hh => ?_) (fun hh => ?_)) <;> (try simp only [go_sem, Nat.add_assoc, reduceIte, reduceCtorEq, Nat.reduceEqDiff, Nat.reduceAdd, Nat.reduceMul, Nat.reduceSub, Nat.reduceLeDiff, Nat.reduceLT, Nat.reduceBEq, Nat.reduceBNe, Int.reduceLE, Int.reduceLT, Int.reduceToNat, Int.reduceEq, Int.reduceNe, Int.reduceNeg, Nat.reduceEqDiff, a12, Nd.v, Nd.cs, s34, e1, hleaf, hw0, h0, h1n, hany, hh]) | (first | refine kop_ask (by omega) ?_ | refine kopd_ask (by omega) ?_ | refine kans_ask (by omega) ?_ | refine kpack_ask (by omega) ?_ | refine kpk_ask (by omega) ?_ | refine kont_next ?_) <;> (try simp only [go_sem, Nat.add_assoc, reduceIte, reduceCtorEq, Nat.reduceEqDiff, Nat.reduceAdd, Nat.reduceMul, Nat.reduceSub, Nat.reduceLeDiff, Nat.reduceLT, Nat.reduceBEq, Nat.reduceBNe, Int.reduceLE, Int.reduceLT, Int.reduceToNat, Int.reduceEq, Int.reduceNe, Int.reduceNeg, Nat.reduceEqDiff, a12, Nd.v, Nd.cs, s34, e1, hleaf, hw0, h0, h1n, hany]) | (show @Eq Nat _ _; omega) | (show @LE.le Nat _ _ _; omega))
      rw [check_bad (.inr ⟨hleaf, .inr (.inr (.inl hany))⟩)]
    | false =>
    simp only [go_sem, Nat.add_assoc, reduceIte, reduceCtorEq, Nat.reduceEqDiff, Nat.reduceAdd, Nat.reduceMul, Nat.reduceSub, Nat.reduceLeDiff, Nat.reduceLT, Nat.reduceBEq, Nat.reduceBNe, Int.reduceLE, Int.reduceLT, Int.reduceToNat, Int.reduceEq, Int.reduceNe, Int.reduceNeg, Nat.reduceEqDiff, a12, Nd.v, Nd.cs, s34, e1, hleaf, hw0, h0, h1n, hany]; repeat' (first | (first | refine kway_sp (fun hh => ?_) (fun hh => ?_) | refine kgdn_sp (fun hh => ?_) (fun hh => ?_) | refine kgd_sp (fun hh => ?_) (fun hh => ?_) | refine kgddn_sp (fun hh => ?_) (fun hh => ?_) | refine kgdd_sp (fun hh => ?_) (fun hh => ?_) | refine kop_way (fun hh => ?_) (fun hh => ?_) | refine kop_bway (fun hh => ?_) (fun hh => ?_) | refine kopd_way (fun hh => ?_) (fun hh => ?_) | refine kopd_bway (fun hh => ?_) (fun hh => ?_)) <;> (try simp only [go_sem, Nat.add_assoc, reduceIte, reduceCtorEq, Nat.reduceEqDiff, Nat.reduceAdd, Nat.reduceMul, Nat.reduceSub, Nat.reduceLeDiff, Nat.reduceLT, Nat.reduceBEq, Nat.reduceBNe, Int.reduceLE, Int.reduceLT, Int.reduceToNat, Int.reduceEq, Int.reduceNe, Int.reduceNeg, Nat.reduceEqDiff, a12, Nd.v, Nd.cs, s34, e1, hleaf, hw0, h0, h1n, hany, hh]) | (first | refine kop_ask (by omega) ?_ | refine kopd_ask (by omega) ?_ | refine kans_ask (by omega) ?_ | refine kpack_ask (by omega) ?_ | refine kpk_ask (by omega) ?_ | refine kont_next ?_) <;> (try simp only [go_sem, Nat.add_assoc, reduceIte, reduceCtorEq, Nat.reduceEqDiff, Nat.reduceAdd, Nat.reduceMul, Nat.reduceSub, Nat.reduceLeDiff, Nat.reduceLT, Nat.reduceBEq, Nat.reduceBNe, Int.reduceLE, Int.reduceLT, Int.reduceToNat, Int.reduceEq, Int.reduceNe, Int.reduceNeg, Nat.reduceEqDiff, a12, Nd.v, Nd.cs, s34, e1, hleaf, hw0, h0, h1n, hany]) | (show @Eq Nat _ _; omega) | (show @LE.le Nat _ _ _; omega))
    refine kloop_inv (ι := Nat) (fun i => [.sl n.kk n.zk (n.keys.map byC), .sl n.kk n.zk (n.keys.map byC), .i .i64 n.keys.length, .i .i64 i]) (fun i => i ≤ n.keys.length ∧ ∀ j, j < i → ¬ BadAt (n.keys.map fun b => b.l) j) (fun i => n.keys.length - i) 0 (by simp) (by simp) ?_
    rintro i ⟨hi, hn⟩
    by_cases hlt : i < n.keys.length
    · obtain ⟨c, hc⟩ := get_lt hlt
      have hw := wrap_succ (k := i) (by omega)
      have hb : decide ((i : Int) < (n.keys.length : Int)) = true := by simp; omega
      have e1 : acall S 36 [.sl c.k c.z (ofU8s c.l)] = some (.b (badKeyB c.l), []) := e36 _ _ _
      have hcm : (n.keys.map fun b => b.l)[i]? = some c.l := by rw [List.getElem?_map, hc]; rfl
      cases hbk : badKeyB c.l with
      | true =>
        have hbad : BadKeys (n.keys.map fun b => b.l) := ⟨i, c.l, hcm, .inl hbk⟩
        simp only [go_sem, Nat.add_assoc, reduceIte, reduceCtorEq, Nat.reduceEqDiff, Nat.reduceAdd, Nat.reduceMul, Nat.reduceSub, Nat.reduceLeDiff, Nat.reduceLT, Nat.reduceBEq, Nat.reduceBNe, Int.reduceLE, Int.reduceLT, Int.reduceToNat, Int.reduceEq, Int.reduceNe, Int.reduceNeg, Nat.reduceEqDiff, hb, n.okk.1, hc, byC, By.v, s36, e1, hw, hbk]; repeat' (first | (first | refine kway_sp (fun hh => ?_) (fun hh => ?_) | refine kgdn_sp (fun hh => ?_) (fun hh => ?_) | refine kgd_sp (fun hh => ?_) (fun hh => ?_) | refine kgddn_sp (fun hh => ?_) (fun hh => ?_) | refine kgdd_sp (fun hh => ?_) (fun hh => ?_) | refine kop_way (fun hh => ?_) (fun hh => ?_) | refine kop_bway (fun hh => ?_) (fun hh => ?_) | refine kopd_way (fun hh => ?_) (fun hh => ?_) | refine kopd_bway (fun hh => ?_) (fun hh => ?_)) <;> (try simp only [go_sem, Nat.add_assoc, reduceIte, reduceCtorEq, Nat.reduceEqDiff, Nat.reduceAdd, Nat.reduceMul, Nat.reduceSub, Nat.reduceLeDiff, Nat.reduceLT, Nat.reduceBEq, Nat.reduceBNe, Int.reduceLE, Int.reduceLT, Int.reduceToNat, Int.reduceEq, Int.reduceNe, Int.reduceNeg, Nat.reduceEqDiff, hb, n.okk.1, hc, byC, By.v, s36, e1, hw, hbk, hh]) | (first | refine kop_ask (by omega) ?_ | refine kopd_ask (by omega) ?_ | refine kans_ask (by omega) ?_ | refine kpack_ask (by omega) ?_ | refine kpk_ask (by omega) ?_ | refine kont_next ?_) <;> (try simp only [go_sem, Nat.add_assoc, reduceIte, reduceCtorEq, Nat.reduceEqDiff, Nat.reduceAdd, Nat.reduceMul, Nat.reduceSub, Nat.reduceLeDiff, Nat.reduceLT, Nat.reduceBEq, Nat.reduceBNe, Int.reduceLE, Int.reduceLT, Int.reduceToNat, Int.reduceEq, Int.reduceNe, Int.reduceNeg, Nat.reduceEqDiff, hb, n.okk.1, hc, byC, By.v, s36, e1, hw, hbk]) | (show @Eq Nat _ _; omega) | (show @LE.le Nat _ _ _; omega))
        rw [check_bad (.inr ⟨hleaf, .inr (.inr (.inr hbad))⟩)]
      | false =>
        cases i with
        | zero =>
          have hb0 := hb
          have hw0' := hw
          simp only [Int.natCast_zero] at hb0 hw0'
          simp only [go_sem, Nat.add_assoc, reduceIte, reduceCtorEq, Nat.reduceEqDiff, Nat.reduceAdd, Nat.reduceMul, Nat.reduceSub, Nat.reduceLeDiff, Nat.reduceLT, Nat.reduceBEq, Nat.reduceBNe, Int.reduceLE, Int.reduceLT, Int.reduceToNat, Int.reduceEq, Int.reduceNe, Int.reduceNeg, Nat.reduceEqDiff, hb0, n.okk.1, hc, byC, By.v, s36, e1, hw0', hbk, Int.natCast_zero, Int.lt_irrefl]; repeat' (first | (first | refine kway_sp (fun hh => ?_) (fun hh => ?_) | refine kgdn_sp (fun hh => ?_) (fun hh => ?_) | refine kgd_sp (fun hh => ?_) (fun hh => ?_) | refine kgddn_sp (fun hh => ?_) (fun hh => ?_) | refine kgdd_sp (fun hh => ?_) (fun hh => ?_) | refine kop_way (fun hh => ?_) (fun hh => ?_) | refine kop_bway (fun hh => ?_) (fun hh => ?_) | refine kopd_way (fun hh => ?_) (fun hh => ?_) | refine kopd_bway (fun hh => ?_) (fun hh => ?_)) <;> (try simp only [go_sem, Nat.add_assoc, reduceIte, reduceCtorEq, Nat.reduceEqDiff, Nat.reduceAdd, Nat.reduceMul, Nat.reduceSub, Nat.reduceLeDiff, Nat.reduceLT, Nat.reduceBEq, Nat.reduceBNe, Int.reduceLE, Int.reduceLT, Int.reduceToNat, Int.reduceEq, Int.reduceNe, Int.reduceNeg, Nat.reduceEqDiff, hb0, n.okk.1, hc, byC, By.v, s36, e1, hw0', hbk, Int.natCast_zero, Int.lt_irrefl, hh]) | (first | refine kop_ask (by omega) ?_ | refine kopd_ask (by omega) ?_ | refine kans_ask (by omega) ?_ | refine kpack_ask (by omega) ?_ | refine kpk_ask (by omega) ?_ | refine kont_next ?_) <;> (try simp only [go_sem, Nat.add_assoc, reduceIte, reduceCtorEq, Nat.reduceEqDiff, Nat.reduceAdd, Nat.reduceMul, Nat.reduceSub, Nat.reduceLeDiff, Nat.reduceLT, Nat.reduceBEq, Nat.reduceBNe, Int.reduceLE, Int.reduceLT, Int.reduceToNat, Int.reduceEq, Int.reduceNe, Int.reduceNeg, Nat.reduceEqDiff, hb0, n.okk.1, hc, byC, By.v, s36, e1, hw0', hbk, Int.natCast_zero, Int.lt_irrefl]) | (show @Eq Nat _ _; omega) | (show @LE.le Nat _ _ _; omega))
          refine ⟨1, rfl, ⟨by omega, fun j hj => ?_⟩, by omega⟩
          obtain rfl : j = 0 := by omega
          rintro ⟨b, hb1, hb2⟩
          rw [hcm] at hb1
          injection hb1 with hb1
          subst hb1
          rcases hb2 with hb2 | ⟨j, a, h1, _⟩
          · rw [hbk] at hb2; cases hb2
          · omega
        | succ j =>
          obtain ⟨a, ha⟩ := get_lt (show j < n.keys.length by omega)
          have ham : (n.keys.map fun b => b.l)[j]? = some a.l := by rw [List.getElem?_map, ha]; rfl
          have e2 := e37 a.ok c.ok
          have hp : decide ((0 : Int) < ((j + 1 : Nat) : Int)) = true := decide_eq_true (by omega)
          have hw2 : IntKind.i64.wrap (((j + 1 : Nat) : Int) - 1) = (j : Int) := by rw [wrap_i64 (by omega) (by omega)]; omega
          cases hcmp : decide (0 ≤ Go.Lib.compareBytes a.l c.l) with
          | true =>
            have hbad : BadKeys (n.keys.map fun b => b.l) := ⟨j + 1, c.l, hcm, .inr ⟨j, a.l, rfl, ham, by simpa using hcmp⟩⟩
            simp only [go_sem, Nat.add_assoc, reduceIte, reduceCtorEq, Nat.reduceEqDiff, Nat.reduceAdd, Nat.reduceMul, Nat.reduceSub, Nat.reduceLeDiff, Nat.reduceLT, Nat.reduceBEq, Nat.reduceBNe, Int.reduceLE, Int.reduceLT, Int.reduceToNat, Int.reduceEq, Int.reduceNe, Int.reduceNeg, Nat.reduceEqDiff, hb, n.okk.1, hc, ha, byC, By.v, s36, s37, e1, e2, hw, hw2, hp, hbk, hcmp]; repeat' (first | (first | refine kway_sp (fun hh => ?_) (fun hh => ?_) | refine kgdn_sp (fun hh => ?_) (fun hh => ?_) | refine kgd_sp (fun hh => ?_) (fun hh => ?_) | refine kgddn_sp (fun hh => ?_) (fun hh => ?_) | refine kgdd_sp (fun hh => ?_) (fun hh => ?_) | refine kop_way (fun hh => ?_) (fun hh => ?_) | refine kop_bway (fun hh => ?_) (fun hh => ?_) | refine kopd_way (fun hh => ?_) (fun hh => ?_) | refine kopd_bway (fun hh => ?_) (fun hh => ?_)) <;> (try simp only [go_sem, Nat.add_assoc, reduceIte, reduceCtorEq, Nat.reduceEqDiff, Nat.reduceAdd, Nat.reduceMul, Nat.reduceSub, Nat.reduceLeDiff, Nat.reduceLT, Nat.reduceBEq, Nat.reduceBNe, Int.reduceLE, Int.reduceLT, Int.reduceToNat, Int.reduceEq, Int.reduceNe, Int.reduceNeg, Nat.reduceEqDiff, hb, n.okk.1, hc, ha, byC, By.v, s36, s37, e1, e2, hw, hw2, hp, hbk, hcmp, hh]) | (first | refine kop_ask (by omega) ?_ | refine kopd_ask (by omega) ?_ | refine kans_ask (by omega) ?_ | refine kpack_ask (by omega) ?_ | refine kpk_ask (by omega) ?_ | refine kont_next ?_) <;> (try simp only [go_sem, Nat.add_assoc, reduceIte, reduceCtorEq, Nat.reduceEqDiff, Nat.reduceAdd, Nat.reduceMul, Nat.reduceSub, Nat.reduceLeDiff, Nat.reduceLT, Nat.reduceBEq, Nat.reduceBNe, Int.reduceLE, Int.reduceLT, Int.reduceToNat, Int.reduceEq, Int.reduceNe, Int.reduceNeg, Nat.reduceEqDiff, hb, n.okk.1, hc, ha, byC, By.v, s36, s37, e1, e2, hw, hw2, hp, hbk, hcmp]) | (show @Eq Nat _ _; omega) | (show @LE.le Nat _ _ _; omega))
            rw [check_bad (.inr ⟨hleaf, .inr (.inr (.inr hbad))⟩)]
          | false =>
            simp only [go_sem, Nat.add_assoc, reduceIte, reduceCtorEq, Nat.reduceEqDiff, Nat.reduceAdd, Nat.reduceMul, Nat.reduceSub, Nat.reduceLeDiff, Nat.reduceLT, Nat.reduceBEq, Nat.reduceBNe, Int.reduceLE, Int.reduceLT, Int.reduceToNat, Int.reduceEq, Int.reduceNe, Int.reduceNeg, Nat.reduceEqDiff, hb, n.okk.1, hc, ha, byC, By.v, s36, s37, e1, e2, hw, hw2, hp, hbk, hcmp]; repeat' (first | (first | refine kway_sp (fun hh => ?_) (fun hh => ?_) | refine kgdn_sp (fun hh => ?_) (fun hh => ?_) | refine kgd_sp (fun hh => ?_) (fun hh => ?_) | refine kgddn_sp (fun hh => ?_) (fun hh => ?_) | refine kgdd_sp (fun hh => ?_) (fun hh => ?_) | refine kop_way (fun hh => ?_) (fun hh => ?_) | refine kop_bway (fun hh => ?_) (fun hh => ?_) | refine kopd_way (fun hh => ?_) (fun hh => ?_) | refine kopd_bway (fun hh => ?_) (fun hh => ?_)) <;> (try simp only [go_sem, Nat.add_assoc, reduceIte, reduceCtorEq, Nat.reduceEqDiff, Nat.reduceAdd, Nat.reduceMul, Nat.reduceSub, Nat.reduceLeDiff, Nat.reduceLT, Nat.reduceBEq, Nat.reduceBNe, Int.reduceLE, Int.reduceLT, Int.reduceToNat, Int.reduceEq, Int.reduceNe, Int.reduceNeg, Nat.reduceEqDiff, hb, n.okk.1, hc, ha, byC, By.v, s36, s37, e1, e2, hw, hw2, hp, hbk, hcmp, hh]) | (first | refine kop_ask (by omega) ?_ | refine kopd_ask (by omega) ?_ | refine kans_ask (by omega) ?_ | refine kpack_ask (by omega) ?_ | refine kpk_ask (by omega) ?_ | refine kont_next ?_) <;> (try simp only [go_sem, Nat.add_assoc, reduceIte, reduceCtorEq, Nat.reduceEqDiff, Nat.reduceAdd, Nat.reduceMul, Nat.reduceSub, Nat.reduceLeDiff, Nat.reduceLT, Nat.reduceBEq, Nat.reduceBNe, Int.reduceLE, Int.reduceLT, Int.reduceToNat, Int.reduceEq, Int.reduceNe, Int.reduceNeg, Nat.reduceEqDiff, hb, n.okk.1, hc, ha, byC, By.v, s36, s37, e1, e2, hw, hw2, hp, hbk, hcmp]) | (show @Eq Nat _ _; omega) | (show @LE.le Nat _ _ _; omega))
            refine ⟨j + 1 + 1, rfl, ⟨by omega, fun j' hj => ?_⟩, by omega⟩
            by_cases hjj : j' < j + 1
            · exact hn j' hjj
            obtain rfl : j' = j + 1 := by omega
            rintro ⟨b, hb1, hb2⟩
            rw [hcm] at hb1
            injection hb1 with hb1
            subst hb1
            rcases hb2 with hb2 | ⟨j1, a1, h1, h2, h3⟩
            · rw [hbk] at hb2; cases hb2
            · obtain rfl : j1 = j := by omega
              rw [ham] at h2
              injection h2 with h2
              subst h2
              have hcmp' : ¬ 0 ≤ Go.Lib.compareBytes a.l c.l := by simpa using hcmp
              exact hcmp' h3
    · have hb : decide ((i : Int) < (n.keys.length : Int)) = false := by simp; omega
      have hnb : ¬ BadKeys (n.keys.map fun b => b.l) := by
        rintro ⟨j, hj⟩
        have := bad_lt hj
        simp at this
        exact hn j (by omega) hj
      simp only [go_sem, Nat.add_assoc, reduceIte, reduceCtorEq, Nat.reduceEqDiff, Nat.reduceAdd, Nat.reduceMul, Nat.reduceSub, Nat.reduceLeDiff, Nat.reduceLT, Nat.reduceBEq, Nat.reduceBNe, Int.reduceLE, Int.reduceLT, Int.reduceToNat, Int.reduceEq, Int.reduceNe, Int.reduceNeg, Nat.reduceEqDiff, hb]; repeat' (first | (first | refine kway_sp (fun hh => ?_) (fun hh => ?_) | refine kgdn_sp (fun hh => ?_) (fun hh => ?_) | refine kgd_sp (fun hh => ?_) (fun hh => ?_) | refine kgddn_sp (fun hh => ?_) (fun hh => ?_) | refine kgdd_sp (fun hh => ?_) (fun hh => ?_) | refine kop_way (fun hh => ?_) (fun hh => ?_) | refine kop_bway (fun hh => ?_) (fun hh => ?_) | refine kopd_way (fun hh => ?_) (fun hh => ?_) | refine kopd_bway (fun hh => ?_) (fun hh => ?_)) <;> (try simp only [go_sem, Nat.add_assoc, reduceIte, reduceCtorEq, Nat.reduceEqDiff, Nat.reduceAdd, Nat.reduceMul, Nat.reduceSub, Nat.reduceLeDiff, Nat.reduceLT, Nat.reduceBEq, Nat.reduceBNe, Int.reduceLE, Int.reduceLT, Int.reduceToNat, Int.reduceEq, Int.reduceNe, Int.reduceNeg, Nat.reduceEqDiff, hb, hh]) | (first | refine kop_ask (by omega) ?_ | refine kopd_ask (by omega) ?_ | refine kans_ask (by omega) ?_ | refine kpack_ask (by omega) ?_ | refine kpk_ask (by omega) ?_ | refine kont_next ?_) <;> (try simp only [go_sem, Nat.add_assoc, reduceIte, reduceCtorEq, Nat.reduceEqDiff, Nat.reduceAdd, Nat.reduceMul, Nat.reduceSub, Nat.reduceLeDiff, Nat.reduceLT, Nat.reduceBEq, Nat.reduceBNe, Int.reduceLE, Int.reduceLT, Int.reduceToNat, Int.reduceEq, Int.reduceNe, Int.reduceNeg, Nat.reduceEqDiff, hb]) | (show @Eq Nat _ _; omega) | (show @LE.le Nat _ _ _; omega))
      rw [check_ok (fun h => by rcases h with ⟨h, _⟩ | ⟨_, h | h | h | h⟩; rw [hleaf] at h; cases h; exact h0' h; exact h h1'; rw [hany] at h; cases h; exact hnb h)]

end Go.Proofs.Ytogjoenpliphdaa
