/-
  Each value once; of values; a value more; which bags are the same: the program's answers and the reference's.
-/
import Derived.Test.YtabbjdclfmeipaaB11
set_option linter.unusedSimpArgs false
set_option linter.unusedVariables false
set_option maxHeartbeats 8000000
set_option maxRecDepth 100000
namespace Go.Proofs.Ytabbjdclfmeipaa
open Go.Abs

theorem one_take {b : PB} {i : Nat} {x : PV × Int} (h : b[i]? = some x) : (oneB (b.take i) ++ b.drop i).set i (x.1, 1) = oneB (b.take (i + 1)) ++ b.drop (i + 1) := by
  have hlt := (List.getElem?_eq_some_iff.1 h).1
  have hl : (oneB (b.take i)).length = i := by simp [oneB]; omega
  rw [List.set_append_right _ _ (by omega), hl, Nat.sub_self, drop_get3 h, List.set_cons_zero, take_get h]
  simp [oneB]
theorem e17 {k : SK} {z : Nat} {l : List (Vl × Int)} (h : OkL k z l) : ∃ g : Bg, acall S 17 [.sl k z (l.map cC)] = some (g.a, []) ∧ g.ok ∧ g.p = oneB (mayB (cPs l)) ∧ g.l.length ≤ l.length := by
  obtain ⟨u, e0, p0, o0, n0⟩ := e44 h
  suffices hW : W (acall S 17 [.sl k z (l.map cC)]) (fun r => ∃ g : Bg, r = (g.a, []) ∧ g.ok ∧ g.p = oneB (mayB (cPs l)) ∧ g.l.length ≤ l.length) by
    obtain ⟨r, h1, g, rfl, h2⟩ := hW
    exact ⟨g, h1, h2⟩
  refine g17 rfl ?_
  rw [← p0]
  have hln := o0.ln
  have hsk := o0.l.sk
  (simp only [go_sem, Nat.add_assoc, reduceIte, reduceCtorEq, Nat.reduceEqDiff, Nat.reduceAdd, Nat.reduceMul, Nat.reduceSub, Nat.reduceLeDiff, Nat.reduceLT, Nat.reduceBEq, Nat.reduceBNe, Int.reduceLE, Int.reduceLT, Int.reduceToNat, Int.reduceEq, Int.reduceNe, Int.reduceNeg, Nat.reduceEqDiff, Int.reduceAdd, Int.reduceSub, Int.reduceMul, Int.cast_ofNat_Int, Int.natCast_zero, a17, s44, e0]; repeat' ((first | refine kont_next ?_ | refine kont_nextn ?_ | refine ikont_next ?_ | refine ikont_nextn ?_) <;> (try simp only [go_sem, Nat.add_assoc, reduceIte, reduceCtorEq, Nat.reduceEqDiff, Nat.reduceAdd, Nat.reduceMul, Nat.reduceSub, Nat.reduceLeDiff, Nat.reduceLT, Nat.reduceBEq, Nat.reduceBNe, Int.reduceLE, Int.reduceLT, Int.reduceToNat, Int.reduceEq, Int.reduceNe, Int.reduceNeg, Nat.reduceEqDiff, Int.reduceAdd, Int.reduceSub, Int.reduceMul, Int.cast_ofNat_Int, Int.natCast_zero, a17, s44, e0])))
  refine kloop_inv (ι := List (Vl × Int) × Nat) (fun x => [.ow 67 5 (decide (u = [])) (x.1.map cC), .i .i64 u.length, .i .i64 x.2])
    (fun x => x.2 ≤ u.length ∧ x.1.length = u.length ∧ (∀ y ∈ x.1, y.1.ok) ∧ cPs x.1 = oneB ((cPs u).take x.2) ++ (cPs u).drop x.2) (fun x => u.length - x.2) (u, 0) (by simp) ⟨by simp, rfl, o0.ok, by simp [oneB]⟩ ?_
  rintro ⟨v, j⟩ ⟨hj, hvl, hvo, hvT⟩
  simp only at hj hvl hvo hvT
  by_cases hjl : j < u.length
  · obtain ⟨⟨c, m⟩, gc⟩ := get_lt3 (show j < v.length by omega)
    have k1 : decide ((j : Int) < (u.length : Int)) = true := decide_eq_true (by omega)
    have b3 : (0 : Int) ≤ (j : Int) := by omega
    have b4 : (j : Int) < (v.length : Int) := by omega
    have b5 : j < v.length := by omega
    have hwj := wrap_succ (k := j) (by omega)
    have gp := cPs_get gc
    have gu : (cPs u)[j]? = some (cP (c, m)) := by
      rw [hvT, List.getElem?_append_right (by simp [oneB]; omega)] at gp
      simp only [oneB, List.length_map, List.length_take, List.getElem?_drop] at gp
      rw [show j + (j - min j (u.length)) = j by omega] at gp
      exact gp
    have hco := hvo _ (List.mem_of_getElem? gc)
    have hst := one_take gu
    rw [← hvT] at hst
    simp only [cP] at hst
    obtain ⟨ck, cn, cs, ckk, cz, cl⟩ := c
    (simp only [go_sem, Nat.add_assoc, reduceIte, reduceCtorEq, Nat.reduceEqDiff, Nat.reduceAdd, Nat.reduceMul, Nat.reduceSub, Nat.reduceLeDiff, Nat.reduceLT, Nat.reduceBEq, Nat.reduceBNe, Int.reduceLE, Int.reduceLT, Int.reduceToNat, Int.reduceEq, Int.reduceNe, Int.reduceNeg, Nat.reduceEqDiff, Int.reduceAdd, Int.reduceSub, Int.reduceMul, Int.cast_ofNat_Int, Int.natCast_zero, k1, b3, b4, b5, List.length_map, List.length_set, gc, cC, hwj]; repeat' ((first | refine kont_next ?_ | refine kont_nextn ?_ | refine ikont_next ?_ | refine ikont_nextn ?_) <;> (try simp only [go_sem, Nat.add_assoc, reduceIte, reduceCtorEq, Nat.reduceEqDiff, Nat.reduceAdd, Nat.reduceMul, Nat.reduceSub, Nat.reduceLeDiff, Nat.reduceLT, Nat.reduceBEq, Nat.reduceBNe, Int.reduceLE, Int.reduceLT, Int.reduceToNat, Int.reduceEq, Int.reduceNe, Int.reduceNeg, Nat.reduceEqDiff, Int.reduceAdd, Int.reduceSub, Int.reduceMul, Int.cast_ofNat_Int, Int.natCast_zero, k1, b3, b4, b5, List.length_map, List.length_set, gc, cC, hwj])))
    refine ⟨(v.set j (.mk ck cn cs ckk cz cl, 1), j + 1), by simp [List.map_set, cC], ⟨by simp only; omega, by simpa using hvl, ?_, ?_⟩, by simp only; omega⟩
    · intro y hy
      rcases List.mem_or_eq_of_mem_set hy with hy | rfl
      · exact hvo y hy
      · exact hco
    · simp only
      rw [← hst, cPs, List.map_set]
      rfl
  · have k1 : decide ((j : Int) < (u.length : Int)) = false := decide_eq_false (by omega)
    rw [List.take_of_length_le (by simp; omega), List.drop_of_length_le (by simp; omega), List.append_nil] at hvT
    (simp only [go_sem, Nat.add_assoc, reduceIte, reduceCtorEq, Nat.reduceEqDiff, Nat.reduceAdd, Nat.reduceMul, Nat.reduceSub, Nat.reduceLeDiff, Nat.reduceLT, Nat.reduceBEq, Nat.reduceBNe, Int.reduceLE, Int.reduceLT, Int.reduceToNat, Int.reduceEq, Int.reduceNe, Int.reduceNeg, Nat.reduceEqDiff, Int.reduceAdd, Int.reduceSub, Int.reduceMul, Int.cast_ofNat_Int, Int.natCast_zero, k1]; repeat' ((first | refine kont_next ?_ | refine kont_nextn ?_ | refine ikont_next ?_ | refine ikont_nextn ?_) <;> (try simp only [go_sem, Nat.add_assoc, reduceIte, reduceCtorEq, Nat.reduceEqDiff, Nat.reduceAdd, Nat.reduceMul, Nat.reduceSub, Nat.reduceLeDiff, Nat.reduceLT, Nat.reduceBEq, Nat.reduceBNe, Int.reduceLE, Int.reduceLT, Int.reduceToNat, Int.reduceEq, Int.reduceNe, Int.reduceNeg, Nat.reduceEqDiff, Int.reduceAdd, Int.reduceSub, Int.reduceMul, Int.cast_ofNat_Int, Int.natCast_zero, k1])))
    exact ⟨⟨skOf (decide (u = [])), 5, v⟩, rfl, ⟨⟨.inl rfl, fun h => List.eq_nil_of_length_eq_zero (by rw [hvl, hsk.2 h]; rfl)⟩, by simp only; omega, hvo⟩, hvT, by simp only; omega⟩
theorem e18 {k : SK} {z : Nat} {l : List (Vl × Int)} (h : OkL k z l) : ∃ g : Bg, acall S 18 [.sl k z (l.map cC)] = some (g.a, []) ∧ g.ok ∧ g.p = oneB (mayB (cPs l)) ∧ g.l.length ≤ l.length := by
  obtain ⟨u, e0, p0, o0, n0⟩ := e38 h
  suffices hW : W (acall S 18 [.sl k z (l.map cC)]) (fun r => ∃ g : Bg, r = (g.a, []) ∧ g.ok ∧ g.p = oneB (mayB (cPs l)) ∧ g.l.length ≤ l.length) by
    obtain ⟨r, h1, g, rfl, h2⟩ := hW
    exact ⟨g, h1, h2⟩
  refine g18 rfl ?_
  rw [← p0]
  have hln := o0.ln
  have hsk := o0.l.sk
  (simp only [go_sem, Nat.add_assoc, reduceIte, reduceCtorEq, Nat.reduceEqDiff, Nat.reduceAdd, Nat.reduceMul, Nat.reduceSub, Nat.reduceLeDiff, Nat.reduceLT, Nat.reduceBEq, Nat.reduceBNe, Int.reduceLE, Int.reduceLT, Int.reduceToNat, Int.reduceEq, Int.reduceNe, Int.reduceNeg, Nat.reduceEqDiff, Int.reduceAdd, Int.reduceSub, Int.reduceMul, Int.cast_ofNat_Int, Int.natCast_zero, a18, s38, e0]; repeat' ((first | refine kont_next ?_ | refine kont_nextn ?_ | refine ikont_next ?_ | refine ikont_nextn ?_) <;> (try simp only [go_sem, Nat.add_assoc, reduceIte, reduceCtorEq, Nat.reduceEqDiff, Nat.reduceAdd, Nat.reduceMul, Nat.reduceSub, Nat.reduceLeDiff, Nat.reduceLT, Nat.reduceBEq, Nat.reduceBNe, Int.reduceLE, Int.reduceLT, Int.reduceToNat, Int.reduceEq, Int.reduceNe, Int.reduceNeg, Nat.reduceEqDiff, Int.reduceAdd, Int.reduceSub, Int.reduceMul, Int.cast_ofNat_Int, Int.natCast_zero, a18, s38, e0])))
  refine kloop_inv (ι := List (Vl × Int) × Nat) (fun x => [.ow 67 5 (decide (u = [])) (x.1.map cC), .i .i64 x.2])
    (fun x => x.2 ≤ u.length ∧ x.1.length = u.length ∧ (∀ y ∈ x.1, y.1.ok) ∧ cPs x.1 = oneB ((cPs u).take x.2) ++ (cPs u).drop x.2) (fun x => u.length - x.2) (u, 0) (by simp) ⟨by simp, rfl, o0.ok, by simp [oneB]⟩ ?_
  rintro ⟨v, j⟩ ⟨hj, hvl, hvo, hvT⟩
  simp only at hj hvl hvo hvT
  by_cases hjl : j < u.length
  · obtain ⟨⟨c, m⟩, gc⟩ := get_lt3 (show j < v.length by omega)
    have k1 : decide ((j : Int) < (v.length : Int)) = true := decide_eq_true (by omega)
    have b3 : (0 : Int) ≤ (j : Int) := by omega
    have b4 : (j : Int) < (v.length : Int) := by omega
    have b5 : j < v.length := by omega
    have hwj := wrap_succ (k := j) (by omega)
    have gp := cPs_get gc
    have gu : (cPs u)[j]? = some (cP (c, m)) := by
      rw [hvT, List.getElem?_append_right (by simp [oneB]; omega)] at gp
      simp only [oneB, List.length_map, List.length_take, List.getElem?_drop] at gp
      rw [show j + (j - min j (u.length)) = j by omega] at gp
      exact gp
    have hco := hvo _ (List.mem_of_getElem? gc)
    have hst := one_take gu
    rw [← hvT] at hst
    simp only [cP] at hst
    obtain ⟨ck, cn, cs, ckk, cz, cl⟩ := c
    (simp only [go_sem, Nat.add_assoc, reduceIte, reduceCtorEq, Nat.reduceEqDiff, Nat.reduceAdd, Nat.reduceMul, Nat.reduceSub, Nat.reduceLeDiff, Nat.reduceLT, Nat.reduceBEq, Nat.reduceBNe, Int.reduceLE, Int.reduceLT, Int.reduceToNat, Int.reduceEq, Int.reduceNe, Int.reduceNeg, Nat.reduceEqDiff, Int.reduceAdd, Int.reduceSub, Int.reduceMul, Int.cast_ofNat_Int, Int.natCast_zero, k1, b3, b4, b5, List.length_map, List.length_set, gc, cC, hwj]; repeat' ((first | refine kont_next ?_ | refine kont_nextn ?_ | refine ikont_next ?_ | refine ikont_nextn ?_) <;> (try simp only [go_sem, Nat.add_assoc, reduceIte, reduceCtorEq, Nat.reduceEqDiff, Nat.reduceAdd, Nat.reduceMul, Nat.reduceSub, Nat.reduceLeDiff, Nat.reduceLT, Nat.reduceBEq, Nat.reduceBNe, Int.reduceLE, Int.reduceLT, Int.reduceToNat, Int.reduceEq, Int.reduceNe, Int.reduceNeg, Nat.reduceEqDiff, Int.reduceAdd, Int.reduceSub, Int.reduceMul, Int.cast_ofNat_Int, Int.natCast_zero, k1, b3, b4, b5, List.length_map, List.length_set, gc, cC, hwj])))
    refine ⟨(v.set j (.mk ck cn cs ckk cz cl, 1), j + 1), by simp [List.map_set, cC], ⟨by simp only; omega, by simpa using hvl, ?_, ?_⟩, by simp only; omega⟩
    · intro y hy
      rcases List.mem_or_eq_of_mem_set hy with hy | rfl
      · exact hvo y hy
      · exact hco
    · simp only
      rw [← hst, cPs, List.map_set]
      rfl
  · have k1 : decide ((j : Int) < (v.length : Int)) = false := decide_eq_false (by omega)
    rw [List.take_of_length_le (by simp; omega), List.drop_of_length_le (by simp; omega), List.append_nil] at hvT
    (simp only [go_sem, Nat.add_assoc, reduceIte, reduceCtorEq, Nat.reduceEqDiff, Nat.reduceAdd, Nat.reduceMul, Nat.reduceSub, Nat.reduceLeDiff, Nat.reduceLT, Nat.reduceBEq, Nat.reduceBNe, Int.reduceLE, Int.reduceLT, Int.reduceToNat, Int.reduceEq, Int.reduceNe, Int.reduceNeg, Nat.reduceEqDiff, Int.reduceAdd, Int.reduceSub, Int.reduceMul, Int.cast_ofNat_Int, Int.natCast_zero, k1, List.length_map]; repeat' ((first | refine kont_next ?_ | refine kont_nextn ?_ | refine ikont_next ?_ | refine ikont_nextn ?_) <;> (try simp only [go_sem, Nat.add_assoc, reduceIte, reduceCtorEq, Nat.reduceEqDiff, Nat.reduceAdd, Nat.reduceMul, Nat.reduceSub, Nat.reduceLeDiff, Nat.reduceLT, Nat.reduceBEq, Nat.reduceBNe, Int.reduceLE, Int.reduceLT, Int.reduceToNat, Int.reduceEq, Int.reduceNe, Int.reduceNeg, Nat.reduceEqDiff, Int.reduceAdd, Int.reduceSub, Int.reduceMul, Int.cast_ofNat_Int, Int.natCast_zero, k1, List.length_map])))
    exact ⟨⟨skOf (decide (u = [])), 5, v⟩, rfl, ⟨⟨.inl rfl, fun h => List.eq_nil_of_length_eq_zero (by rw [hvl, hsk.2 h]; rfl)⟩, by simp only; omega, hvo⟩, hvT, by simp only; omega⟩

/-! of values -/
def ofF : PB → List PV → PB
  | b, [] => b
  | b, v :: r => ofF (if mayV v 0 = true then putB v 1 b else b) r
theorem ps_get {l : List Vl} {i : Nat} {v : Vl} (h : l[i]? = some v) : (l.map Vl.p)[i]? = some v.p := by rw [List.getElem?_map, h]; rfl
theorem e14 {k : SK} {z : Nat} {l : List Vl} (h : OkS k z 4 l) (hl : l.length ≤ 1073741824) (ho : ∀ x ∈ l, x.ok) : ∃ g : Bg, acall S 14 [.sl k z (l.map Vl.c)] = some (g.a, []) ∧ g.ok ∧ g.p = ofF [] (l.map Vl.p) ∧ Ok g.p ∧ g.l.length ≤ l.length := by
  have hMC : MC = 9007199254740992 := rfl
  suffices hW : W (acall S 14 [.sl k z (l.map Vl.c)]) (fun r => ∃ g : Bg, r = (g.a, []) ∧ g.ok ∧ g.p = ofF [] (l.map Vl.p) ∧ Ok g.p ∧ g.l.length ≤ l.length) by
    obtain ⟨r, h1, g, rfl, h2⟩ := hW
    exact ⟨g, h1, h2⟩
  refine g14 rfl ?_
  (simp only [go_sem, Nat.add_assoc, reduceIte, reduceCtorEq, Nat.reduceEqDiff, Nat.reduceAdd, Nat.reduceMul, Nat.reduceSub, Nat.reduceLeDiff, Nat.reduceLT, Nat.reduceBEq, Nat.reduceBNe, Int.reduceLE, Int.reduceLT, Int.reduceToNat, Int.reduceEq, Int.reduceNe, Int.reduceNeg, Nat.reduceEqDiff, Int.reduceAdd, Int.reduceSub, Int.reduceMul, Int.cast_ofNat_Int, Int.natCast_zero, a14]; repeat' ((first | refine kont_next ?_ | refine kont_nextn ?_ | refine ikont_next ?_ | refine ikont_nextn ?_) <;> (try simp only [go_sem, Nat.add_assoc, reduceIte, reduceCtorEq, Nat.reduceEqDiff, Nat.reduceAdd, Nat.reduceMul, Nat.reduceSub, Nat.reduceLeDiff, Nat.reduceLT, Nat.reduceBEq, Nat.reduceBNe, Int.reduceLE, Int.reduceLT, Int.reduceToNat, Int.reduceEq, Int.reduceNe, Int.reduceNeg, Nat.reduceEqDiff, Int.reduceAdd, Int.reduceSub, Int.reduceMul, Int.cast_ofNat_Int, Int.natCast_zero, a14])))
  refine kloop_inv (ι := List (Vl × Int) × Nat) (fun x => [rowU x.1, .sl k z (l.map Vl.c), .i .i64 l.length, .i .i64 x.2])
    (fun x => x.2 ≤ l.length ∧ (∀ y ∈ x.1, y.1.ok) ∧ Ok (cPs x.1) ∧ totB (cPs x.1) ≤ x.2 ∧ x.1.length ≤ x.2 ∧ ofF (cPs x.1) ((l.map Vl.p).drop x.2) = ofF [] (l.map Vl.p)) (fun x => l.length - x.2) ([], 0) (by simp) ⟨by simp, by simp, ok_nil, by simp [totB], by simp, rfl⟩ ?_
  rintro ⟨u, i⟩ ⟨hi, huo, hub, hut, hul, hT⟩
  simp only at hi huo hub hut hul hT
  by_cases hlt : i < l.length
  · obtain ⟨c, gc⟩ := get_lt3 hlt
    have g1 : decide ((i : Int) < (l.length : Int)) = true := decide_eq_true (by omega)
    have b1 : (0 : Int) ≤ (i : Int) := by omega
    have hw := wrap_succ (k := i) (by omega)
    rw [drop_get3 (ps_get gc)] at hT
    simp only [ofF] at hT
    have hvo := ho c (List.mem_of_getElem? gc)
    have ec := e48 c hvo
    have huU : OkU u := ⟨by omega, huo⟩
    obtain ⟨u', eu, pu, ou, _⟩ := e46 huU hub c hvo 1 (by omega) (by omega)
    have hlp := len_put c.p 1 (cPs u)
    rw [← pu] at hlp
    simp only [List.length_map] at hlp
    cases h3 : mayV c.p 0 with
    | false =>
      rw [h3] at hT ec
      rw [if_neg (by simp)] at hT
      obtain ⟨ck, cn, cs, ckk, cz, cl⟩ := c
      simp only [Vl.c, Vl.cs_map] at ec
      (simp only [go_sem, Nat.add_assoc, reduceIte, reduceCtorEq, Nat.reduceEqDiff, Nat.reduceAdd, Nat.reduceMul, Nat.reduceSub, Nat.reduceLeDiff, Nat.reduceLT, Nat.reduceBEq, Nat.reduceBNe, Int.reduceLE, Int.reduceLT, Int.reduceToNat, Int.reduceEq, Int.reduceNe, Int.reduceNeg, Nat.reduceEqDiff, Int.reduceAdd, Int.reduceSub, Int.reduceMul, Int.cast_ofNat_Int, Int.natCast_zero, g1, b1, gc, h.1, Vl.c, Vl.cs_map, s48, ec, hw]; repeat' ((first | refine kont_next ?_ | refine kont_nextn ?_ | refine ikont_next ?_ | refine ikont_nextn ?_) <;> (try simp only [go_sem, Nat.add_assoc, reduceIte, reduceCtorEq, Nat.reduceEqDiff, Nat.reduceAdd, Nat.reduceMul, Nat.reduceSub, Nat.reduceLeDiff, Nat.reduceLT, Nat.reduceBEq, Nat.reduceBNe, Int.reduceLE, Int.reduceLT, Int.reduceToNat, Int.reduceEq, Int.reduceNe, Int.reduceNeg, Nat.reduceEqDiff, Int.reduceAdd, Int.reduceSub, Int.reduceMul, Int.cast_ofNat_Int, Int.natCast_zero, g1, b1, gc, h.1, Vl.c, Vl.cs_map, s48, ec, hw])))
      exact ⟨(u, i + 1), rfl, ⟨by simp only; omega, huo, hub, by simp only; omega, by simp only; omega, hT⟩, by simp only; omega⟩
    | true =>
      have hok := ok_put hub h3 (show (1 : Int) ≤ 1 by omega) (by omega)
      rw [h3] at hT ec
      rw [if_pos rfl] at hT
      obtain ⟨ck, cn, cs, ckk, cz, cl⟩ := c
      simp only [Vl.c, Vl.cs_map] at ec eu
      (simp only [go_sem, Nat.add_assoc, reduceIte, reduceCtorEq, Nat.reduceEqDiff, Nat.reduceAdd, Nat.reduceMul, Nat.reduceSub, Nat.reduceLeDiff, Nat.reduceLT, Nat.reduceBEq, Nat.reduceBNe, Int.reduceLE, Int.reduceLT, Int.reduceToNat, Int.reduceEq, Int.reduceNe, Int.reduceNeg, Nat.reduceEqDiff, Int.reduceAdd, Int.reduceSub, Int.reduceMul, Int.cast_ofNat_Int, Int.natCast_zero, g1, b1, gc, h.1, Vl.c, Vl.cs_map, s48, ec, hw, s46, eu]; repeat' ((first | refine kont_next ?_ | refine kont_nextn ?_ | refine ikont_next ?_ | refine ikont_nextn ?_) <;> (try simp only [go_sem, Nat.add_assoc, reduceIte, reduceCtorEq, Nat.reduceEqDiff, Nat.reduceAdd, Nat.reduceMul, Nat.reduceSub, Nat.reduceLeDiff, Nat.reduceLT, Nat.reduceBEq, Nat.reduceBNe, Int.reduceLE, Int.reduceLT, Int.reduceToNat, Int.reduceEq, Int.reduceNe, Int.reduceNeg, Nat.reduceEqDiff, Int.reduceAdd, Int.reduceSub, Int.reduceMul, Int.cast_ofNat_Int, Int.natCast_zero, g1, b1, gc, h.1, Vl.c, Vl.cs_map, s48, ec, hw, s46, eu])))
      exact ⟨(u', i + 1), rfl, ⟨by simp only; omega, ou, by simp only; rw [pu]; exact hok, by simp only; rw [pu, tot_put]; omega, by simp only; omega, by simp only; rw [pu]; exact hT⟩, by simp only; omega⟩
  · have g1 : decide ((i : Int) < (l.length : Int)) = false := decide_eq_false (by omega)
    rw [List.drop_of_length_le (by simp; omega)] at hT
    simp only [ofF] at hT
    have huU : OkU u := ⟨by omega, huo⟩
    (simp only [go_sem, Nat.add_assoc, reduceIte, reduceCtorEq, Nat.reduceEqDiff, Nat.reduceAdd, Nat.reduceMul, Nat.reduceSub, Nat.reduceLeDiff, Nat.reduceLT, Nat.reduceBEq, Nat.reduceBNe, Int.reduceLE, Int.reduceLT, Int.reduceToNat, Int.reduceEq, Int.reduceNe, Int.reduceNeg, Nat.reduceEqDiff, Int.reduceAdd, Int.reduceSub, Int.reduceMul, Int.cast_ofNat_Int, Int.natCast_zero, g1]; repeat' ((first | refine kont_next ?_ | refine kont_nextn ?_ | refine ikont_next ?_ | refine ikont_nextn ?_) <;> (try simp only [go_sem, Nat.add_assoc, reduceIte, reduceCtorEq, Nat.reduceEqDiff, Nat.reduceAdd, Nat.reduceMul, Nat.reduceSub, Nat.reduceLeDiff, Nat.reduceLT, Nat.reduceBEq, Nat.reduceBNe, Int.reduceLE, Int.reduceLT, Int.reduceToNat, Int.reduceEq, Int.reduceNe, Int.reduceNeg, Nat.reduceEqDiff, Int.reduceAdd, Int.reduceSub, Int.reduceMul, Int.cast_ofNat_Int, Int.natCast_zero, g1])))
    exact ⟨⟨skOf (decide (u = [])), 5, u⟩, rfl, huU.l, hT, hub, by simp only; omega⟩
theorem e15 {k : SK} {z : Nat} {l : List Vl} (h : OkS k z 4 l) (hl : l.length ≤ 1073741824) (ho : ∀ x ∈ l, x.ok) : ∃ g : Bg, acall S 15 [.sl k z (l.map Vl.c)] = some (g.a, []) ∧ g.ok ∧ g.p = ofF [] (l.map Vl.p) := by
  have hMC : MC = 9007199254740992 := rfl
  suffices hW : W (acall S 15 [.sl k z (l.map Vl.c)]) (fun r => ∃ g : Bg, r = (g.a, []) ∧ g.ok ∧ g.p = ofF [] (l.map Vl.p)) by
    obtain ⟨r, h1, g, rfl, h2⟩ := hW
    exact ⟨g, h1, h2⟩
  refine g15 rfl ?_
  (simp only [go_sem, Nat.add_assoc, reduceIte, reduceCtorEq, Nat.reduceEqDiff, Nat.reduceAdd, Nat.reduceMul, Nat.reduceSub, Nat.reduceLeDiff, Nat.reduceLT, Nat.reduceBEq, Nat.reduceBNe, Int.reduceLE, Int.reduceLT, Int.reduceToNat, Int.reduceEq, Int.reduceNe, Int.reduceNeg, Nat.reduceEqDiff, Int.reduceAdd, Int.reduceSub, Int.reduceMul, Int.cast_ofNat_Int, Int.natCast_zero, a15]; repeat' ((first | refine kont_next ?_ | refine kont_nextn ?_ | refine ikont_next ?_ | refine ikont_nextn ?_) <;> (try simp only [go_sem, Nat.add_assoc, reduceIte, reduceCtorEq, Nat.reduceEqDiff, Nat.reduceAdd, Nat.reduceMul, Nat.reduceSub, Nat.reduceLeDiff, Nat.reduceLT, Nat.reduceBEq, Nat.reduceBNe, Int.reduceLE, Int.reduceLT, Int.reduceToNat, Int.reduceEq, Int.reduceNe, Int.reduceNeg, Nat.reduceEqDiff, Int.reduceAdd, Int.reduceSub, Int.reduceMul, Int.cast_ofNat_Int, Int.natCast_zero, a15])))
  refine kloop_inv (ι := Bg × Nat) (fun x => [.sl k z (l.map Vl.c), x.1.a, .i .i64 x.2])
    (fun x => x.2 ≤ l.length ∧ x.1.ok ∧ Ok x.1.p ∧ totB x.1.p ≤ x.2 ∧ x.1.l.length ≤ x.2 ∧ ofF x.1.p ((l.map Vl.p).drop x.2) = ofF [] (l.map Vl.p)) (fun x => l.length - x.2) (⟨.nil, 0, []⟩, 0) (by simp [Bg.a]) ⟨by simp, ok_nilB, ok_nil, by simp [totB, Bg.p], by simp, rfl⟩ ?_
  rintro ⟨⟨uk, uz, u⟩, i⟩ ⟨hi, huo, hub, hut, hul, hT⟩
  simp only [Bg.p] at hi huo hub hut hul hT
  have huo : OkL uk uz u := huo
  by_cases hlt : i < l.length
  · obtain ⟨c, gc⟩ := get_lt3 hlt
    have g1 : decide ((i : Int) < (l.length : Int)) = true := decide_eq_true (by omega)
    have b1 : (0 : Int) ≤ (i : Int) := by omega
    have hw := wrap_succ (k := i) (by omega)
    rw [drop_get3 (ps_get gc)] at hT
    simp only [ofF] at hT
    have hvo := ho c (List.mem_of_getElem? gc)
    have ec := e39 c hvo
    obtain ⟨u', eu, pu, ou⟩ := e50 huo c hvo 1 (pos_fits hub (by omega) (by omega))
    have hlp := len_put c.p 1 (cPs u)
    rw [← pu] at hlp
    simp only [List.length_map] at hlp
    cases h3 : mayV c.p 0 with
    | false =>
      rw [h3] at hT ec
      rw [if_neg (by simp)] at hT
      obtain ⟨ck, cn, cs, ckk, cz, cl⟩ := c
      simp only [Vl.c, Vl.cs_map] at ec
      (simp only [go_sem, Nat.add_assoc, reduceIte, reduceCtorEq, Nat.reduceEqDiff, Nat.reduceAdd, Nat.reduceMul, Nat.reduceSub, Nat.reduceLeDiff, Nat.reduceLT, Nat.reduceBEq, Nat.reduceBNe, Int.reduceLE, Int.reduceLT, Int.reduceToNat, Int.reduceEq, Int.reduceNe, Int.reduceNeg, Nat.reduceEqDiff, Int.reduceAdd, Int.reduceSub, Int.reduceMul, Int.cast_ofNat_Int, Int.natCast_zero, g1, b1, gc, h.1, Vl.c, Vl.cs_map, Bg.a, s39, ec, hw]; repeat' ((first | refine kont_next ?_ | refine kont_nextn ?_ | refine ikont_next ?_ | refine ikont_nextn ?_) <;> (try simp only [go_sem, Nat.add_assoc, reduceIte, reduceCtorEq, Nat.reduceEqDiff, Nat.reduceAdd, Nat.reduceMul, Nat.reduceSub, Nat.reduceLeDiff, Nat.reduceLT, Nat.reduceBEq, Nat.reduceBNe, Int.reduceLE, Int.reduceLT, Int.reduceToNat, Int.reduceEq, Int.reduceNe, Int.reduceNeg, Nat.reduceEqDiff, Int.reduceAdd, Int.reduceSub, Int.reduceMul, Int.cast_ofNat_Int, Int.natCast_zero, g1, b1, gc, h.1, Vl.c, Vl.cs_map, Bg.a, s39, ec, hw])))
      exact ⟨(⟨uk, uz, u⟩, i + 1), rfl, ⟨by simp only; omega, huo, hub, by simp only [Bg.p]; omega, by simp only; omega, hT⟩, by simp only; omega⟩
    | true =>
      have hok := ok_put hub h3 (show (1 : Int) ≤ 1 by omega) (by omega)
      rw [h3] at hT ec
      rw [if_pos rfl] at hT
      obtain ⟨ck, cn, cs, ckk, cz, cl⟩ := c
      simp only [Vl.c, Vl.cs_map] at ec eu
      (simp only [go_sem, Nat.add_assoc, reduceIte, reduceCtorEq, Nat.reduceEqDiff, Nat.reduceAdd, Nat.reduceMul, Nat.reduceSub, Nat.reduceLeDiff, Nat.reduceLT, Nat.reduceBEq, Nat.reduceBNe, Int.reduceLE, Int.reduceLT, Int.reduceToNat, Int.reduceEq, Int.reduceNe, Int.reduceNeg, Nat.reduceEqDiff, Int.reduceAdd, Int.reduceSub, Int.reduceMul, Int.cast_ofNat_Int, Int.natCast_zero, g1, b1, gc, h.1, Vl.c, Vl.cs_map, Bg.a, s39, ec, hw, s50, eu]; repeat' ((first | refine kont_next ?_ | refine kont_nextn ?_ | refine ikont_next ?_ | refine ikont_nextn ?_) <;> (try simp only [go_sem, Nat.add_assoc, reduceIte, reduceCtorEq, Nat.reduceEqDiff, Nat.reduceAdd, Nat.reduceMul, Nat.reduceSub, Nat.reduceLeDiff, Nat.reduceLT, Nat.reduceBEq, Nat.reduceBNe, Int.reduceLE, Int.reduceLT, Int.reduceToNat, Int.reduceEq, Int.reduceNe, Int.reduceNeg, Nat.reduceEqDiff, Int.reduceAdd, Int.reduceSub, Int.reduceMul, Int.cast_ofNat_Int, Int.natCast_zero, g1, b1, gc, h.1, Vl.c, Vl.cs_map, Bg.a, s39, ec, hw, s50, eu])))
      exact ⟨(⟨.open_, 5, u'⟩, i + 1), rfl, ⟨by simp only; omega, ⟨OkS.open_ 5 u', by simp only; omega, ou⟩, by simp only [Bg.p]; rw [pu]; exact hok, by simp only [Bg.p]; rw [pu, tot_put]; omega, by simp only; omega, by simp only [Bg.p]; rw [pu]; exact hT⟩, by simp only; omega⟩
  · have g1 : decide ((i : Int) < (l.length : Int)) = false := decide_eq_false (by omega)
    rw [List.drop_of_length_le (by simp; omega)] at hT
    simp only [ofF] at hT
    (simp only [go_sem, Nat.add_assoc, reduceIte, reduceCtorEq, Nat.reduceEqDiff, Nat.reduceAdd, Nat.reduceMul, Nat.reduceSub, Nat.reduceLeDiff, Nat.reduceLT, Nat.reduceBEq, Nat.reduceBNe, Int.reduceLE, Int.reduceLT, Int.reduceToNat, Int.reduceEq, Int.reduceNe, Int.reduceNeg, Nat.reduceEqDiff, Int.reduceAdd, Int.reduceSub, Int.reduceMul, Int.cast_ofNat_Int, Int.natCast_zero, g1, Bg.a]; repeat' ((first | refine kont_next ?_ | refine kont_nextn ?_ | refine ikont_next ?_ | refine ikont_nextn ?_) <;> (try simp only [go_sem, Nat.add_assoc, reduceIte, reduceCtorEq, Nat.reduceEqDiff, Nat.reduceAdd, Nat.reduceMul, Nat.reduceSub, Nat.reduceLeDiff, Nat.reduceLT, Nat.reduceBEq, Nat.reduceBNe, Int.reduceLE, Int.reduceLT, Int.reduceToNat, Int.reduceEq, Int.reduceNe, Int.reduceNeg, Nat.reduceEqDiff, Int.reduceAdd, Int.reduceSub, Int.reduceMul, Int.cast_ofNat_Int, Int.natCast_zero, g1, Bg.a])))
    exact ⟨⟨uk, uz, u⟩, rfl, huo, hT⟩

/-! a value more -/
def putR (b : PB) (v : PV) (n : Int) : PB × Int := if mayV v 0 = false then ([], 1) else if n < 0 then ([], 1) else if MC - totB b < n then ([], 7) else if n = 0 then (b, 0) else (putB v n b, 0)
theorem e19 {k : SK} {z : Nat} {l : List (Vl × Int)} (h : OkL k z l) (hl : l.length < 68719476736) (v : Vl) (hv : v.ok) (n : Int) :
    ∃ g : Bg, acall S 19 [.sl k z (l.map cC), .agg v.c, .i .i64 n] = some (.tup [g.a, .i .i64 (putR (mayB (cPs l)) v.p n).2], []) ∧ g.ok ∧ g.p = (putR (mayB (cPs l)) v.p n).1 := by
  have hMC : MC = 9007199254740992 := rfl
  obtain ⟨u, e0, p0, o0, n0⟩ := e44 h
  have hok0 := ok_mayB (cPs l)
  suffices hW : W (acall S 19 [.sl k z (l.map cC), .agg v.c, .i .i64 n]) (fun r => ∃ g : Bg, r = (.tup [g.a, .i .i64 (putR (mayB (cPs l)) v.p n).2], []) ∧ g.ok ∧ g.p = (putR (mayB (cPs l)) v.p n).1) by
    obtain ⟨r, h1, g, rfl, h2⟩ := hW
    exact ⟨g, h1, h2⟩
  refine g19 rfl ?_
  generalize mayB (cPs l) = B at *
  rw [← p0] at hok0
  have et := e45 o0.l hok0
  have ec := e48 v hv
  have hw := fun h1 h2 => e46 o0 hok0 v hv n h1 h2
  have hlp := len_put v.p n (cPs u)
  have t1 := tot_nonneg hok0.pos
  have t2 := hok0.tot
  have hws : IntKind.i64.wrap (9007199254740992 - totB (cPs u)) = 9007199254740992 - totB (cPs u) := wrap_i64 (by omega) (by omega)
  unfold putR
  rw [← p0]
  generalize v.p = p at *
  obtain ⟨vk, vn, vs, vkk, vz, vl⟩ := v
  simp only [Vl.c] at ec hw ⊢
  cases hm : mayV p 0 with
  | false =>
    rw [hm] at ec
    (simp only [go_sem, Nat.add_assoc, reduceIte, reduceCtorEq, Nat.reduceEqDiff, Nat.reduceAdd, Nat.reduceMul, Nat.reduceSub, Nat.reduceLeDiff, Nat.reduceLT, Nat.reduceBEq, Nat.reduceBNe, Int.reduceLE, Int.reduceLT, Int.reduceToNat, Int.reduceEq, Int.reduceNe, Int.reduceNeg, Nat.reduceEqDiff, Int.reduceAdd, Int.reduceSub, Int.reduceMul, Int.cast_ofNat_Int, Int.natCast_zero, a19, s44, e0, s48, ec]; repeat' ((first | refine kont_next ?_ | refine kont_nextn ?_ | refine ikont_next ?_ | refine ikont_nextn ?_) <;> (try simp only [go_sem, Nat.add_assoc, reduceIte, reduceCtorEq, Nat.reduceEqDiff, Nat.reduceAdd, Nat.reduceMul, Nat.reduceSub, Nat.reduceLeDiff, Nat.reduceLT, Nat.reduceBEq, Nat.reduceBNe, Int.reduceLE, Int.reduceLT, Int.reduceToNat, Int.reduceEq, Int.reduceNe, Int.reduceNeg, Nat.reduceEqDiff, Int.reduceAdd, Int.reduceSub, Int.reduceMul, Int.cast_ofNat_Int, Int.natCast_zero, a19, s44, e0, s48, ec])))
    exact ⟨⟨.nil, 0, []⟩, rfl, ok_nilB, rfl⟩
  | true =>
  rw [hm] at ec
  rw [if_neg (by simp)]
  by_cases h1 : n < 0
  · have g1 := decide_eq_true h1
    rw [if_pos h1]
    (simp only [go_sem, Nat.add_assoc, reduceIte, reduceCtorEq, Nat.reduceEqDiff, Nat.reduceAdd, Nat.reduceMul, Nat.reduceSub, Nat.reduceLeDiff, Nat.reduceLT, Nat.reduceBEq, Nat.reduceBNe, Int.reduceLE, Int.reduceLT, Int.reduceToNat, Int.reduceEq, Int.reduceNe, Int.reduceNeg, Nat.reduceEqDiff, Int.reduceAdd, Int.reduceSub, Int.reduceMul, Int.cast_ofNat_Int, Int.natCast_zero, a19, s44, e0, s48, ec, g1]; repeat' ((first | refine kont_next ?_ | refine kont_nextn ?_ | refine ikont_next ?_ | refine ikont_nextn ?_) <;> (try simp only [go_sem, Nat.add_assoc, reduceIte, reduceCtorEq, Nat.reduceEqDiff, Nat.reduceAdd, Nat.reduceMul, Nat.reduceSub, Nat.reduceLeDiff, Nat.reduceLT, Nat.reduceBEq, Nat.reduceBNe, Int.reduceLE, Int.reduceLT, Int.reduceToNat, Int.reduceEq, Int.reduceNe, Int.reduceNeg, Nat.reduceEqDiff, Int.reduceAdd, Int.reduceSub, Int.reduceMul, Int.cast_ofNat_Int, Int.natCast_zero, a19, s44, e0, s48, ec, g1])))
    exact ⟨⟨.nil, 0, []⟩, rfl, ok_nilB, rfl⟩
  have g1 := decide_eq_false h1
  rw [if_neg h1]
  by_cases h2 : MC - totB (cPs u) < n
  · have g2 : decide (9007199254740992 - totB (cPs u) < n) = true := decide_eq_true h2
    rw [if_pos h2]
    (simp only [go_sem, Nat.add_assoc, reduceIte, reduceCtorEq, Nat.reduceEqDiff, Nat.reduceAdd, Nat.reduceMul, Nat.reduceSub, Nat.reduceLeDiff, Nat.reduceLT, Nat.reduceBEq, Nat.reduceBNe, Int.reduceLE, Int.reduceLT, Int.reduceToNat, Int.reduceEq, Int.reduceNe, Int.reduceNeg, Nat.reduceEqDiff, Int.reduceAdd, Int.reduceSub, Int.reduceMul, Int.cast_ofNat_Int, Int.natCast_zero, a19, s44, e0, s48, ec, g1, s45, et, hws, g2]; repeat' ((first | refine kont_next ?_ | refine kont_nextn ?_ | refine ikont_next ?_ | refine ikont_nextn ?_) <;> (try simp only [go_sem, Nat.add_assoc, reduceIte, reduceCtorEq, Nat.reduceEqDiff, Nat.reduceAdd, Nat.reduceMul, Nat.reduceSub, Nat.reduceLeDiff, Nat.reduceLT, Nat.reduceBEq, Nat.reduceBNe, Int.reduceLE, Int.reduceLT, Int.reduceToNat, Int.reduceEq, Int.reduceNe, Int.reduceNeg, Nat.reduceEqDiff, Int.reduceAdd, Int.reduceSub, Int.reduceMul, Int.cast_ofNat_Int, Int.natCast_zero, a19, s44, e0, s48, ec, g1, s45, et, hws, g2])))
    exact ⟨⟨.nil, 0, []⟩, rfl, ok_nilB, rfl⟩
  have g2 : decide (9007199254740992 - totB (cPs u) < n) = false := decide_eq_false h2
  rw [if_neg h2]
  by_cases h3 : n = 0
  · have g3 := decide_eq_true h3
    rw [if_pos h3]
    (simp only [go_sem, Nat.add_assoc, reduceIte, reduceCtorEq, Nat.reduceEqDiff, Nat.reduceAdd, Nat.reduceMul, Nat.reduceSub, Nat.reduceLeDiff, Nat.reduceLT, Nat.reduceBEq, Nat.reduceBNe, Int.reduceLE, Int.reduceLT, Int.reduceToNat, Int.reduceEq, Int.reduceNe, Int.reduceNeg, Nat.reduceEqDiff, Int.reduceAdd, Int.reduceSub, Int.reduceMul, Int.cast_ofNat_Int, Int.natCast_zero, a19, s44, e0, s48, ec, g1, s45, et, hws, g2, g3]; repeat' ((first | refine kont_next ?_ | refine kont_nextn ?_ | refine ikont_next ?_ | refine ikont_nextn ?_) <;> (try simp only [go_sem, Nat.add_assoc, reduceIte, reduceCtorEq, Nat.reduceEqDiff, Nat.reduceAdd, Nat.reduceMul, Nat.reduceSub, Nat.reduceLeDiff, Nat.reduceLT, Nat.reduceBEq, Nat.reduceBNe, Int.reduceLE, Int.reduceLT, Int.reduceToNat, Int.reduceEq, Int.reduceNe, Int.reduceNeg, Nat.reduceEqDiff, Int.reduceAdd, Int.reduceSub, Int.reduceMul, Int.cast_ofNat_Int, Int.natCast_zero, a19, s44, e0, s48, ec, g1, s45, et, hws, g2, g3])))
    exact ⟨⟨skOf (decide (u = [])), 5, u⟩, rfl, o0.l, rfl⟩
  have g3 := decide_eq_false h3
  rw [if_neg h3]
  obtain ⟨u', eu, pu, ou, _⟩ := hw (by omega) (by omega)
  rw [← pu] at hlp ⊢
  simp only [List.length_map] at hlp
  have hu' : OkU u' := ⟨by omega, ou⟩
  (simp only [go_sem, Nat.add_assoc, reduceIte, reduceCtorEq, Nat.reduceEqDiff, Nat.reduceAdd, Nat.reduceMul, Nat.reduceSub, Nat.reduceLeDiff, Nat.reduceLT, Nat.reduceBEq, Nat.reduceBNe, Int.reduceLE, Int.reduceLT, Int.reduceToNat, Int.reduceEq, Int.reduceNe, Int.reduceNeg, Nat.reduceEqDiff, Int.reduceAdd, Int.reduceSub, Int.reduceMul, Int.cast_ofNat_Int, Int.natCast_zero, a19, s44, e0, s48, ec, g1, s45, et, hws, g2, g3, s46, eu]; repeat' ((first | refine kont_next ?_ | refine kont_nextn ?_ | refine ikont_next ?_ | refine ikont_nextn ?_) <;> (try simp only [go_sem, Nat.add_assoc, reduceIte, reduceCtorEq, Nat.reduceEqDiff, Nat.reduceAdd, Nat.reduceMul, Nat.reduceSub, Nat.reduceLeDiff, Nat.reduceLT, Nat.reduceBEq, Nat.reduceBNe, Int.reduceLE, Int.reduceLT, Int.reduceToNat, Int.reduceEq, Int.reduceNe, Int.reduceNeg, Nat.reduceEqDiff, Int.reduceAdd, Int.reduceSub, Int.reduceMul, Int.cast_ofNat_Int, Int.natCast_zero, a19, s44, e0, s48, ec, g1, s45, et, hws, g2, g3, s46, eu])))
  exact ⟨⟨skOf (decide (u' = [])), 5, u'⟩, rfl, hu'.l, rfl⟩
theorem e20 {k : SK} {z : Nat} {l : List (Vl × Int)} (h : OkL k z l) (hl : l.length < 68719476736) (v : Vl) (hv : v.ok) (n : Int) :
    ∃ g : Bg, acall S 20 [.sl k z (l.map cC), .agg v.c, .i .i64 n] = some (.tup [g.a, .i .i64 (putR (mayB (cPs l)) v.p n).2], []) ∧ g.ok ∧ g.p = (putR (mayB (cPs l)) v.p n).1 := by
  have hMC : MC = 9007199254740992 := rfl
  obtain ⟨u, e0, p0, o0, n0⟩ := e38 h
  have hok0 := ok_mayB (cPs l)
  suffices hW : W (acall S 20 [.sl k z (l.map cC), .agg v.c, .i .i64 n]) (fun r => ∃ g : Bg, r = (.tup [g.a, .i .i64 (putR (mayB (cPs l)) v.p n).2], []) ∧ g.ok ∧ g.p = (putR (mayB (cPs l)) v.p n).1) by
    obtain ⟨r, h1, g, rfl, h2⟩ := hW
    exact ⟨g, h1, h2⟩
  refine g20 rfl ?_
  generalize mayB (cPs l) = B at *
  rw [← p0] at hok0
  have et := e28 o0.l
  rw [mayB_ok hok0] at et
  have ec := e39 v hv
  have hw := fun h1 h2 => e50 o0.l v hv n (pos_fits hok0 h1 h2)
  have hlp := len_put v.p n (cPs u)
  have t1 := tot_nonneg hok0.pos
  have t2 := hok0.tot
  have hws : IntKind.i64.wrap (9007199254740992 - totB (cPs u)) = 9007199254740992 - totB (cPs u) := wrap_i64 (by omega) (by omega)
  unfold putR
  rw [← p0]
  generalize v.p = p at *
  obtain ⟨vk, vn, vs, vkk, vz, vl⟩ := v
  simp only [Vl.c] at ec hw ⊢
  cases hm : mayV p 0 with
  | false =>
    rw [hm] at ec
    (simp only [go_sem, Nat.add_assoc, reduceIte, reduceCtorEq, Nat.reduceEqDiff, Nat.reduceAdd, Nat.reduceMul, Nat.reduceSub, Nat.reduceLeDiff, Nat.reduceLT, Nat.reduceBEq, Nat.reduceBNe, Int.reduceLE, Int.reduceLT, Int.reduceToNat, Int.reduceEq, Int.reduceNe, Int.reduceNeg, Nat.reduceEqDiff, Int.reduceAdd, Int.reduceSub, Int.reduceMul, Int.cast_ofNat_Int, Int.natCast_zero, a20, s38, e0, s39, ec]; repeat' ((first | refine kont_next ?_ | refine kont_nextn ?_ | refine ikont_next ?_ | refine ikont_nextn ?_) <;> (try simp only [go_sem, Nat.add_assoc, reduceIte, reduceCtorEq, Nat.reduceEqDiff, Nat.reduceAdd, Nat.reduceMul, Nat.reduceSub, Nat.reduceLeDiff, Nat.reduceLT, Nat.reduceBEq, Nat.reduceBNe, Int.reduceLE, Int.reduceLT, Int.reduceToNat, Int.reduceEq, Int.reduceNe, Int.reduceNeg, Nat.reduceEqDiff, Int.reduceAdd, Int.reduceSub, Int.reduceMul, Int.cast_ofNat_Int, Int.natCast_zero, a20, s38, e0, s39, ec])))
    exact ⟨⟨.nil, 0, []⟩, rfl, ok_nilB, rfl⟩
  | true =>
  rw [hm] at ec
  rw [if_neg (by simp)]
  by_cases h1 : n < 0
  · have g1 := decide_eq_true h1
    rw [if_pos h1]
    (simp only [go_sem, Nat.add_assoc, reduceIte, reduceCtorEq, Nat.reduceEqDiff, Nat.reduceAdd, Nat.reduceMul, Nat.reduceSub, Nat.reduceLeDiff, Nat.reduceLT, Nat.reduceBEq, Nat.reduceBNe, Int.reduceLE, Int.reduceLT, Int.reduceToNat, Int.reduceEq, Int.reduceNe, Int.reduceNeg, Nat.reduceEqDiff, Int.reduceAdd, Int.reduceSub, Int.reduceMul, Int.cast_ofNat_Int, Int.natCast_zero, a20, s38, e0, s39, ec, g1]; repeat' ((first | refine kont_next ?_ | refine kont_nextn ?_ | refine ikont_next ?_ | refine ikont_nextn ?_) <;> (try simp only [go_sem, Nat.add_assoc, reduceIte, reduceCtorEq, Nat.reduceEqDiff, Nat.reduceAdd, Nat.reduceMul, Nat.reduceSub, Nat.reduceLeDiff, Nat.reduceLT, Nat.reduceBEq, Nat.reduceBNe, Int.reduceLE, Int.reduceLT, Int.reduceToNat, Int.reduceEq, Int.reduceNe, Int.reduceNeg, Nat.reduceEqDiff, Int.reduceAdd, Int.reduceSub, Int.reduceMul, Int.cast_ofNat_Int, Int.natCast_zero, a20, s38, e0, s39, ec, g1])))
    exact ⟨⟨.nil, 0, []⟩, rfl, ok_nilB, rfl⟩
  have g1 := decide_eq_false h1
  rw [if_neg h1]
  by_cases h2 : MC - totB (cPs u) < n
  · have g2 : decide (9007199254740992 - totB (cPs u) < n) = true := decide_eq_true h2
    rw [if_pos h2]
    (simp only [go_sem, Nat.add_assoc, reduceIte, reduceCtorEq, Nat.reduceEqDiff, Nat.reduceAdd, Nat.reduceMul, Nat.reduceSub, Nat.reduceLeDiff, Nat.reduceLT, Nat.reduceBEq, Nat.reduceBNe, Int.reduceLE, Int.reduceLT, Int.reduceToNat, Int.reduceEq, Int.reduceNe, Int.reduceNeg, Nat.reduceEqDiff, Int.reduceAdd, Int.reduceSub, Int.reduceMul, Int.cast_ofNat_Int, Int.natCast_zero, a20, s38, e0, s39, ec, g1, s28, et, hws, g2]; repeat' ((first | refine kont_next ?_ | refine kont_nextn ?_ | refine ikont_next ?_ | refine ikont_nextn ?_) <;> (try simp only [go_sem, Nat.add_assoc, reduceIte, reduceCtorEq, Nat.reduceEqDiff, Nat.reduceAdd, Nat.reduceMul, Nat.reduceSub, Nat.reduceLeDiff, Nat.reduceLT, Nat.reduceBEq, Nat.reduceBNe, Int.reduceLE, Int.reduceLT, Int.reduceToNat, Int.reduceEq, Int.reduceNe, Int.reduceNeg, Nat.reduceEqDiff, Int.reduceAdd, Int.reduceSub, Int.reduceMul, Int.cast_ofNat_Int, Int.natCast_zero, a20, s38, e0, s39, ec, g1, s28, et, hws, g2])))
    exact ⟨⟨.nil, 0, []⟩, rfl, ok_nilB, rfl⟩
  have g2 : decide (9007199254740992 - totB (cPs u) < n) = false := decide_eq_false h2
  rw [if_neg h2]
  by_cases h3 : n = 0
  · have g3 := decide_eq_true h3
    rw [if_pos h3]
    (simp only [go_sem, Nat.add_assoc, reduceIte, reduceCtorEq, Nat.reduceEqDiff, Nat.reduceAdd, Nat.reduceMul, Nat.reduceSub, Nat.reduceLeDiff, Nat.reduceLT, Nat.reduceBEq, Nat.reduceBNe, Int.reduceLE, Int.reduceLT, Int.reduceToNat, Int.reduceEq, Int.reduceNe, Int.reduceNeg, Nat.reduceEqDiff, Int.reduceAdd, Int.reduceSub, Int.reduceMul, Int.cast_ofNat_Int, Int.natCast_zero, a20, s38, e0, s39, ec, g1, s28, et, hws, g2, g3]; repeat' ((first | refine kont_next ?_ | refine kont_nextn ?_ | refine ikont_next ?_ | refine ikont_nextn ?_) <;> (try simp only [go_sem, Nat.add_assoc, reduceIte, reduceCtorEq, Nat.reduceEqDiff, Nat.reduceAdd, Nat.reduceMul, Nat.reduceSub, Nat.reduceLeDiff, Nat.reduceLT, Nat.reduceBEq, Nat.reduceBNe, Int.reduceLE, Int.reduceLT, Int.reduceToNat, Int.reduceEq, Int.reduceNe, Int.reduceNeg, Nat.reduceEqDiff, Int.reduceAdd, Int.reduceSub, Int.reduceMul, Int.cast_ofNat_Int, Int.natCast_zero, a20, s38, e0, s39, ec, g1, s28, et, hws, g2, g3])))
    exact ⟨⟨skOf (decide (u = [])), 5, u⟩, rfl, o0.l, rfl⟩
  have g3 := decide_eq_false h3
  rw [if_neg h3]
  obtain ⟨u', eu, pu, ou⟩ := hw (by omega) (by omega)
  rw [← pu] at hlp ⊢
  simp only [List.length_map] at hlp
  (simp only [go_sem, Nat.add_assoc, reduceIte, reduceCtorEq, Nat.reduceEqDiff, Nat.reduceAdd, Nat.reduceMul, Nat.reduceSub, Nat.reduceLeDiff, Nat.reduceLT, Nat.reduceBEq, Nat.reduceBNe, Int.reduceLE, Int.reduceLT, Int.reduceToNat, Int.reduceEq, Int.reduceNe, Int.reduceNeg, Nat.reduceEqDiff, Int.reduceAdd, Int.reduceSub, Int.reduceMul, Int.cast_ofNat_Int, Int.natCast_zero, a20, s38, e0, s39, ec, g1, s28, et, hws, g2, g3, s50, eu]; repeat' ((first | refine kont_next ?_ | refine kont_nextn ?_ | refine ikont_next ?_ | refine ikont_nextn ?_) <;> (try simp only [go_sem, Nat.add_assoc, reduceIte, reduceCtorEq, Nat.reduceEqDiff, Nat.reduceAdd, Nat.reduceMul, Nat.reduceSub, Nat.reduceLeDiff, Nat.reduceLT, Nat.reduceBEq, Nat.reduceBNe, Int.reduceLE, Int.reduceLT, Int.reduceToNat, Int.reduceEq, Int.reduceNe, Int.reduceNeg, Nat.reduceEqDiff, Int.reduceAdd, Int.reduceSub, Int.reduceMul, Int.cast_ofNat_Int, Int.natCast_zero, a20, s38, e0, s39, ec, g1, s28, et, hws, g2, g3, s50, eu])))
  exact ⟨⟨.open_, 5, u'⟩, rfl, ⟨OkS.open_ 5 u', by simp only; omega, ou⟩, rfl⟩
end Go.Proofs.Ytabbjdclfmeipaa
