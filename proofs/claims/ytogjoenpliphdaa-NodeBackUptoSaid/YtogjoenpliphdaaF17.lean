import Derived.Test.YtogjoenpliphdaaP3
import Derived.Test.YtogjoenpliphdaaF9
set_option linter.unusedSimpArgs false
set_option linter.unusedVariables false
set_option maxHeartbeats 8000000
set_option maxRecDepth 100000
namespace Go.Proofs.Ytogjoenpliphdaa
open Go.Abs

def nilB : By := ⟨.nil, 0, [], .inr rfl, fun _ => rfl⟩
def emptyN : Nd := ⟨false, .nil, 0, [], ⟨.inr rfl, fun _ => rfl⟩, .nil, 0, [], ⟨.inr rfl, fun _ => rfl⟩, .nil, 0, [], ⟨.inr rfl, fun _ => rfl⟩⟩
def leafN (cs : List Ce) : Nd := ⟨true, skOf cs.isEmpty, 4, cs, ⟨.inl rfl, fun h => by cases cs with | nil => rfl | cons a r => cases h⟩, .nil, 0, [], ⟨.inr rfl, fun _ => rfl⟩, .nil, 0, [], ⟨.inr rfl, fun _ => rfl⟩⟩
def innerN (ks : List By) (kd : List Int) : Nd := ⟨false, .nil, 0, [], ⟨.inr rfl, fun _ => rfl⟩, skOf ks.isEmpty, 1, ks, ⟨.inl rfl, fun h => by cases ks with | nil => rfl | cons a r => cases h⟩, skOf kd.isEmpty, 1, kd, ⟨.inl rfl, fun h => by cases kd with | nil => rfl | cons a r => cases h⟩⟩

theorem e21 {k : SK} {z : Nat} {l : List UInt8} (h : OkS k z 1 l) (hl : l.length ≤ LIM) :
    ∃ n : Nd, acall S 21 [.sl k z (ofU8s l)] = some (.tup [n.v, .i .i64 (parseP l).2], []) ∧ n.p = (parseP l).1 := by
  suffices hW : W (acall S 21 [.sl k z (ofU8s l)]) (fun x => ∃ n : Nd, x = (.tup [n.v, .i .i64 (parseP l).2], []) ∧ n.p = (parseP l).1) by
    obtain ⟨x, h1, n, rfl, h2⟩ := hW
    exact ⟨n, h1, h2⟩
  refine g21 rfl ?_
  by_cases hlong : l.length > 448
  · have g0 : decide ((448 : Int) < (l.length : Int)) = true := decide_eq_true (by omega)
    rw [parse_no (.inl hlong)]
    (simp only [go_sem, Nat.add_assoc, reduceIte, reduceCtorEq, Nat.reduceEqDiff, Nat.reduceAdd, Nat.reduceMul, Nat.reduceSub, Nat.reduceLeDiff, Nat.reduceLT, Nat.reduceBEq, Nat.reduceBNe, Int.reduceLE, Int.reduceLT, Int.reduceToNat, Int.reduceEq, Int.reduceNe, Int.reduceNeg, Nat.reduceEqDiff, Int.reduceAdd, Int.reduceSub, Int.reduceMul, Int.cast_ofNat_Int, Int.natCast_zero, a21, g0]; repeat' (refine kont_next ?_ <;> (try simp only [go_sem, Nat.add_assoc, reduceIte, reduceCtorEq, Nat.reduceEqDiff, Nat.reduceAdd, Nat.reduceMul, Nat.reduceSub, Nat.reduceLeDiff, Nat.reduceLT, Nat.reduceBEq, Nat.reduceBNe, Int.reduceLE, Int.reduceLT, Int.reduceToNat, Int.reduceEq, Int.reduceNe, Int.reduceNeg, Nat.reduceEqDiff, Int.reduceAdd, Int.reduceSub, Int.reduceMul, Int.cast_ofNat_Int, Int.natCast_zero, a21, g0])))
    exact ⟨emptyN, rfl, rfl⟩
  have g0 : decide ((448 : Int) < (l.length : Int)) = false := decide_eq_false (by omega)
  have hL : LIM = 274877906944 := rfl
  have e1 := e43 (bad := false) h
  have ok1 := flag_okS (bad := false) h
  have len1 := flag_len l false
  have hraw : rawP l = rawP l := rfl
  conv at hraw => rhs; unfold rawP
  obtain ⟨⟨c, l1, b1⟩, hx1⟩ : ∃ x, x = flagP (l, false) := ⟨_, rfl⟩
  rw [← hx1] at e1 ok1 len1 hraw
  simp only at e1 ok1 len1 hraw
  have e2 : acall S 44 [.bx [.sl k z (ofU8s l1), .b b1], .i .i64 448] = _ := e44 (bad := b1) ok1 448 (by omega)
  have ok2 := num_okS (bad := b1) ok1 448
  have len2 := num_len 448 l1 b1
  have hn448 := num_le 448 (l1, b1)
  obtain ⟨⟨n, l2, b2⟩, hx2⟩ : ∃ x, x = numP 448 (l1, b1) := ⟨_, rfl⟩
  rw [← hx2] at e2 ok2 len2 hraw hn448
  simp only at e2 ok2 len2 hraw hn448
  by_cases c1 : c.toNat = 1
  · have g1 : decide ((c.toNat : Int) = 1) = true := decide_eq_true (by omega)
    rw [if_pos c1] at hraw
    (simp only [go_sem, Nat.add_assoc, reduceIte, reduceCtorEq, Nat.reduceEqDiff, Nat.reduceAdd, Nat.reduceMul, Nat.reduceSub, Nat.reduceLeDiff, Nat.reduceLT, Nat.reduceBEq, Nat.reduceBNe, Int.reduceLE, Int.reduceLT, Int.reduceToNat, Int.reduceEq, Int.reduceNe, Int.reduceNeg, Nat.reduceEqDiff, Int.reduceAdd, Int.reduceSub, Int.reduceMul, Int.cast_ofNat_Int, Int.natCast_zero, a21, g0, s43, e1, g1, s44, e2]; repeat' (refine kont_next ?_ <;> (try simp only [go_sem, Nat.add_assoc, reduceIte, reduceCtorEq, Nat.reduceEqDiff, Nat.reduceAdd, Nat.reduceMul, Nat.reduceSub, Nat.reduceLeDiff, Nat.reduceLT, Nat.reduceBEq, Nat.reduceBNe, Int.reduceLE, Int.reduceLT, Int.reduceToNat, Int.reduceEq, Int.reduceNe, Int.reduceNeg, Nat.reduceEqDiff, Int.reduceAdd, Int.reduceSub, Int.reduceMul, Int.cast_ofNat_Int, Int.natCast_zero, a21, g0, s43, e1, g1, s44, e2])))
    refine kloop_inv (ι := List Ce × Nat × List UInt8 × Bool) (fun x => [.bx [.b false, .sl .nil 0 [], .sl .nil 0 [], .sl .nil 0 []], .bx [.sl k z (ofU8s x.2.2.1), .b x.2.2.2], .bx [.b true, .ow 44 4 x.1.isEmpty (x.1.map Ce.c), .sl .nil 0 [], .sl .nil 0 []], .i .i64 x.2.1])
      (fun x => x.1.length + x.2.1 ≤ 448 ∧ OkS k z 1 x.2.2.1 ∧ x.2.2.1.length ≤ l.length ∧ x.1.map Ce.p ++ (manyP cellP x.2.1 x.2.2).1 = (rawP l).1.cells ∧ (manyP cellP x.2.1 x.2.2).2 = (rawP l).2) (fun x => x.2.1) ([], n, l2, b2) rfl ⟨by simp; omega, ok2, by simp only; omega, by rw [hraw]; rfl, by rw [hraw]⟩ ?_
    rintro ⟨cs, m, l3, b3⟩ ⟨hm, ok3, len3, hA, hB⟩
    simp only at hm ok3 len3 hA hB
    by_cases hstop : m = 0 ∨ b3 = true
    · have hmany : manyP cellP m (l3, b3) = ([], (l3, b3)) := by
        rcases hstop with rfl | rfl
        · rfl
        · exact many_bad _ _ _
      rw [hmany] at hA hB
      have hR : rawP l = ((leafN cs).p, (l3, b3)) := by
        rw [hraw] at hA hB ⊢
        simp only [List.append_nil] at hA hB
        rw [← hA, ← hB]; rfl
      have gm : m = 0 → decide ((0 : Int) < (m : Int)) = false := fun h => by rw [h]; rfl
      cases hgm : decide ((0 : Int) < (m : Int)) with
      | true =>
        have hb3 : b3 = true := by
          rcases hstop with h | h
          · rw [gm h] at hgm; cases hgm
          · exact h
        subst hb3
        rw [parse_no (.inr (.inl (by rw [hR])))]
        (simp only [go_sem, Nat.add_assoc, reduceIte, reduceCtorEq, Nat.reduceEqDiff, Nat.reduceAdd, Nat.reduceMul, Nat.reduceSub, Nat.reduceLeDiff, Nat.reduceLT, Nat.reduceBEq, Nat.reduceBNe, Int.reduceLE, Int.reduceLT, Int.reduceToNat, Int.reduceEq, Int.reduceNe, Int.reduceNeg, Nat.reduceEqDiff, Int.reduceAdd, Int.reduceSub, Int.reduceMul, Int.cast_ofNat_Int, Int.natCast_zero, hgm]; repeat' (refine kont_next ?_ <;> (try simp only [go_sem, Nat.add_assoc, reduceIte, reduceCtorEq, Nat.reduceEqDiff, Nat.reduceAdd, Nat.reduceMul, Nat.reduceSub, Nat.reduceLeDiff, Nat.reduceLT, Nat.reduceBEq, Nat.reduceBNe, Int.reduceLE, Int.reduceLT, Int.reduceToNat, Int.reduceEq, Int.reduceNe, Int.reduceNeg, Nat.reduceEqDiff, Int.reduceAdd, Int.reduceSub, Int.reduceMul, Int.cast_ofNat_Int, Int.natCast_zero, hgm])))
        exact ⟨emptyN, rfl, rfl⟩
      | false =>
        cases b3 with
        | true =>
          rw [parse_no (.inr (.inl (by rw [hR])))]
          (simp only [go_sem, Nat.add_assoc, reduceIte, reduceCtorEq, Nat.reduceEqDiff, Nat.reduceAdd, Nat.reduceMul, Nat.reduceSub, Nat.reduceLeDiff, Nat.reduceLT, Nat.reduceBEq, Nat.reduceBNe, Int.reduceLE, Int.reduceLT, Int.reduceToNat, Int.reduceEq, Int.reduceNe, Int.reduceNeg, Nat.reduceEqDiff, Int.reduceAdd, Int.reduceSub, Int.reduceMul, Int.cast_ofNat_Int, Int.natCast_zero, hgm]; repeat' (refine kont_next ?_ <;> (try simp only [go_sem, Nat.add_assoc, reduceIte, reduceCtorEq, Nat.reduceEqDiff, Nat.reduceAdd, Nat.reduceMul, Nat.reduceSub, Nat.reduceLeDiff, Nat.reduceLT, Nat.reduceBEq, Nat.reduceBNe, Int.reduceLE, Int.reduceLT, Int.reduceToNat, Int.reduceEq, Int.reduceNe, Int.reduceNeg, Nat.reduceEqDiff, Int.reduceAdd, Int.reduceSub, Int.reduceMul, Int.cast_ofNat_Int, Int.natCast_zero, hgm])))
          exact ⟨emptyN, rfl, rfl⟩
        | false =>
          by_cases hl3 : l3 = []
          · subst hl3
            have ec := e12 (leafN cs) ⟨by simp only [leafN]; omega, by simp [leafN], by simp [leafN]⟩
            have hbp := badP_eq (leafN cs)
            by_cases hbad : BadN (leafN cs)
            · rw [check_bad hbad] at ec
              rw [parse_no (.inr (.inr (.inr (by rw [hR]; exact hbp.2 hbad))))]
              simp only [Nd.v, Nd.cs, leafN, List.map_nil] at ec
              (simp only [go_sem, Nat.add_assoc, reduceIte, reduceCtorEq, Nat.reduceEqDiff, Nat.reduceAdd, Nat.reduceMul, Nat.reduceSub, Nat.reduceLeDiff, Nat.reduceLT, Nat.reduceBEq, Nat.reduceBNe, Int.reduceLE, Int.reduceLT, Int.reduceToNat, Int.reduceEq, Int.reduceNe, Int.reduceNeg, Nat.reduceEqDiff, Int.reduceAdd, Int.reduceSub, Int.reduceMul, Int.cast_ofNat_Int, Int.natCast_zero, hgm, s12, ec, ofU8s_nil]; repeat' (refine kont_next ?_ <;> (try simp only [go_sem, Nat.add_assoc, reduceIte, reduceCtorEq, Nat.reduceEqDiff, Nat.reduceAdd, Nat.reduceMul, Nat.reduceSub, Nat.reduceLeDiff, Nat.reduceLT, Nat.reduceBEq, Nat.reduceBNe, Int.reduceLE, Int.reduceLT, Int.reduceToNat, Int.reduceEq, Int.reduceNe, Int.reduceNeg, Nat.reduceEqDiff, Int.reduceAdd, Int.reduceSub, Int.reduceMul, Int.cast_ofNat_Int, Int.natCast_zero, hgm, s12, ec, ofU8s_nil])))
              exact ⟨emptyN, rfl, rfl⟩
            · rw [check_ok hbad] at ec
              rw [parse_ok (by omega) (by rw [hR]) (by rw [hR]) (by rw [hR]; exact fun hx => hbad (hbp.1 hx))]
              simp only [Nd.v, Nd.cs, leafN, List.map_nil] at ec
              (simp only [go_sem, Nat.add_assoc, reduceIte, reduceCtorEq, Nat.reduceEqDiff, Nat.reduceAdd, Nat.reduceMul, Nat.reduceSub, Nat.reduceLeDiff, Nat.reduceLT, Nat.reduceBEq, Nat.reduceBNe, Int.reduceLE, Int.reduceLT, Int.reduceToNat, Int.reduceEq, Int.reduceNe, Int.reduceNeg, Nat.reduceEqDiff, Int.reduceAdd, Int.reduceSub, Int.reduceMul, Int.cast_ofNat_Int, Int.natCast_zero, hgm, s12, ec, ofU8s_nil]; repeat' (refine kont_next ?_ <;> (try simp only [go_sem, Nat.add_assoc, reduceIte, reduceCtorEq, Nat.reduceEqDiff, Nat.reduceAdd, Nat.reduceMul, Nat.reduceSub, Nat.reduceLeDiff, Nat.reduceLT, Nat.reduceBEq, Nat.reduceBNe, Int.reduceLE, Int.reduceLT, Int.reduceToNat, Int.reduceEq, Int.reduceNe, Int.reduceNeg, Nat.reduceEqDiff, Int.reduceAdd, Int.reduceSub, Int.reduceMul, Int.cast_ofNat_Int, Int.natCast_zero, hgm, s12, ec, ofU8s_nil])))
              refine ⟨leafN cs, rfl, by rw [hR]⟩
          · have g3 : decide ((0 : Int) < (l3.length : Int)) = true := decide_eq_true (by have := List.length_pos_iff.2 hl3; omega)
            rw [parse_no (.inr (.inr (.inl (by rw [hR]; exact hl3))))]
            (simp only [go_sem, Nat.add_assoc, reduceIte, reduceCtorEq, Nat.reduceEqDiff, Nat.reduceAdd, Nat.reduceMul, Nat.reduceSub, Nat.reduceLeDiff, Nat.reduceLT, Nat.reduceBEq, Nat.reduceBNe, Int.reduceLE, Int.reduceLT, Int.reduceToNat, Int.reduceEq, Int.reduceNe, Int.reduceNeg, Nat.reduceEqDiff, Int.reduceAdd, Int.reduceSub, Int.reduceMul, Int.cast_ofNat_Int, Int.natCast_zero, hgm, g3]; repeat' (refine kont_next ?_ <;> (try simp only [go_sem, Nat.add_assoc, reduceIte, reduceCtorEq, Nat.reduceEqDiff, Nat.reduceAdd, Nat.reduceMul, Nat.reduceSub, Nat.reduceLeDiff, Nat.reduceLT, Nat.reduceBEq, Nat.reduceBNe, Int.reduceLE, Int.reduceLT, Int.reduceToNat, Int.reduceEq, Int.reduceNe, Int.reduceNeg, Nat.reduceEqDiff, Int.reduceAdd, Int.reduceSub, Int.reduceMul, Int.cast_ofNat_Int, Int.natCast_zero, hgm, g3])))
            exact ⟨emptyN, rfl, rfl⟩
    · have hm0 : m ≠ 0 := fun h => hstop (.inl h)
      have hb3 : b3 = false := by cases b3; rfl; exact absurd (.inr rfl) hstop
      subst hb3
      obtain ⟨m', rfl⟩ : ∃ m', m = m' + 1 := ⟨m - 1, by omega⟩
      rw [many_step] at hA hB
      obtain ⟨cc, ec, hcc⟩ := e45 (bad := false) ok3 (by omega)
      have ok4 := cell_okS (bad := false) ok3
      have len4 := cell_len l3 false
      have gm : decide ((0 : Int) < ((m' + 1 : Nat) : Int)) = true := decide_eq_true (by omega)
      have gw : IntKind.i64.wrap (((m' + 1 : Nat) : Int) - 1) = (m' : Int) := by rw [wrap_i64 (by omega) (by omega)]; omega
      have glim : cs.length + 1 ≤ LIM := by omega
      simp only [Ce.c, By.v] at ec
      (simp only [go_sem, Nat.add_assoc, reduceIte, reduceCtorEq, Nat.reduceEqDiff, Nat.reduceAdd, Nat.reduceMul, Nat.reduceSub, Nat.reduceLeDiff, Nat.reduceLT, Nat.reduceBEq, Nat.reduceBNe, Int.reduceLE, Int.reduceLT, Int.reduceToNat, Int.reduceEq, Int.reduceNe, Int.reduceNeg, Nat.reduceEqDiff, Int.reduceAdd, Int.reduceSub, Int.reduceMul, Int.cast_ofNat_Int, Int.natCast_zero, gm, s45, ec, gw, glim, Ce.c, By.v]; repeat' (refine kont_next ?_ <;> (try simp only [go_sem, Nat.add_assoc, reduceIte, reduceCtorEq, Nat.reduceEqDiff, Nat.reduceAdd, Nat.reduceMul, Nat.reduceSub, Nat.reduceLeDiff, Nat.reduceLT, Nat.reduceBEq, Nat.reduceBNe, Int.reduceLE, Int.reduceLT, Int.reduceToNat, Int.reduceEq, Int.reduceNe, Int.reduceNeg, Nat.reduceEqDiff, Int.reduceAdd, Int.reduceSub, Int.reduceMul, Int.cast_ofNat_Int, Int.natCast_zero, gm, s45, ec, gw, glim, Ce.c, By.v])))
      refine ⟨(cs ++ [cc], m', (cellP (l3, false)).2), ?_, ⟨?_, ok4, ?_, ?_, ?_⟩, ?_⟩
      · simp [Ce.c, By.v]
      · simp; omega
      · simp only; omega
      · simp only [List.map_append, List.map_cons, List.map_nil, hcc, List.append_assoc, List.cons_append, List.nil_append]; exact hA
      · exact hB
      · simp only; omega
  have g1 : decide ((c.toNat : Int) = 1) = false := decide_eq_false (by omega)
  rw [if_neg c1] at hraw
  by_cases c2 : c.toNat = 2
  · have g2 : decide ((c.toNat : Int) = 2) = true := decide_eq_true (by omega)
    rw [if_pos c2] at hraw
    (simp only [go_sem, Nat.add_assoc, reduceIte, reduceCtorEq, Nat.reduceEqDiff, Nat.reduceAdd, Nat.reduceMul, Nat.reduceSub, Nat.reduceLeDiff, Nat.reduceLT, Nat.reduceBEq, Nat.reduceBNe, Int.reduceLE, Int.reduceLT, Int.reduceToNat, Int.reduceEq, Int.reduceNe, Int.reduceNeg, Nat.reduceEqDiff, Int.reduceAdd, Int.reduceSub, Int.reduceMul, Int.cast_ofNat_Int, Int.natCast_zero, a21, g0, s43, e1, g1, g2, s44, e2]; repeat' (refine kont_next ?_ <;> (try simp only [go_sem, Nat.add_assoc, reduceIte, reduceCtorEq, Nat.reduceEqDiff, Nat.reduceAdd, Nat.reduceMul, Nat.reduceSub, Nat.reduceLeDiff, Nat.reduceLT, Nat.reduceBEq, Nat.reduceBNe, Int.reduceLE, Int.reduceLT, Int.reduceToNat, Int.reduceEq, Int.reduceNe, Int.reduceNeg, Nat.reduceEqDiff, Int.reduceAdd, Int.reduceSub, Int.reduceMul, Int.cast_ofNat_Int, Int.natCast_zero, a21, g0, s43, e1, g1, g2, s44, e2])))
    refine kloop_inv (ι := List By × Nat × List UInt8 × Bool) (fun x => [.bx [.b false, .sl .nil 0 [], .sl .nil 0 [], .sl .nil 0 []], .bx [.sl k z (ofU8s x.2.2.1), .b x.2.2.2], .bx [.b false, .sl .nil 0 [], .ow 27 1 x.1.isEmpty (x.1.map byC), .sl .nil 0 []], .i .i64 n])
      (fun x => x.1.length + x.2.1 = n ∧ OkS k z 1 x.2.2.1 ∧ x.2.2.1.length ≤ l.length ∧ x.1.map By.l ++ (manyP bytesP x.2.1 x.2.2).1 = (manyP bytesP n (l2, b2)).1 ∧ (manyP bytesP x.2.1 x.2.2).2 = (manyP bytesP n (l2, b2)).2) (fun x => x.2.1) ([], n, l2, b2) rfl ⟨by simp, ok2, by simp only; omega, rfl, rfl⟩ ?_
    rintro ⟨ks, m, l3, b3⟩ ⟨hm, ok3, len3, hA, hB⟩
    simp only at hm ok3 len3 hA hB
    by_cases hstop : m = 0 ∨ b3 = true
    · have hmany : manyP bytesP m (l3, b3) = ([], (l3, b3)) := by
        rcases hstop with rfl | rfl
        · rfl
        · exact many_bad _ _ _
      rw [hmany] at hA hB
      simp only [List.append_nil] at hA
      have hgs : (decide ((ks.length : Int) < (n : Int)) && !b3) = false := by
        rcases hstop with h | h
        · have : decide ((ks.length : Int) < (n : Int)) = false := decide_eq_false (by omega)
          rw [this]; rfl
        · rw [h]; simp
      cases hgk : decide ((ks.length : Int) < (n : Int)) with
      | true =>
        have hb3 : b3 = true := by rw [hgk] at hgs; simpa using hgs
        subst hb3
        (simp only [go_sem, Nat.add_assoc, reduceIte, reduceCtorEq, Nat.reduceEqDiff, Nat.reduceAdd, Nat.reduceMul, Nat.reduceSub, Nat.reduceLeDiff, Nat.reduceLT, Nat.reduceBEq, Nat.reduceBNe, Int.reduceLE, Int.reduceLT, Int.reduceToNat, Int.reduceEq, Int.reduceNe, Int.reduceNeg, Nat.reduceEqDiff, Int.reduceAdd, Int.reduceSub, Int.reduceMul, Int.cast_ofNat_Int, Int.natCast_zero, hgk]; repeat' (refine kont_next ?_ <;> (try simp only [go_sem, Nat.add_assoc, reduceIte, reduceCtorEq, Nat.reduceEqDiff, Nat.reduceAdd, Nat.reduceMul, Nat.reduceSub, Nat.reduceLeDiff, Nat.reduceLT, Nat.reduceBEq, Nat.reduceBNe, Int.reduceLE, Int.reduceLT, Int.reduceToNat, Int.reduceEq, Int.reduceNe, Int.reduceNeg, Nat.reduceEqDiff, Int.reduceAdd, Int.reduceSub, Int.reduceMul, Int.cast_ofNat_Int, Int.natCast_zero, hgk])))
        refine kloop_inv (ι := List Int × Nat × List UInt8 × Bool) (fun x => [.bx [.b false, .sl .nil 0 [], .sl .nil 0 [], .sl .nil 0 []], .bx [.sl k z (ofU8s x.2.2.1), .b x.2.2.2], .bx [.b false, .sl .nil 0 [], .ow 27 1 ks.isEmpty (ks.map byC), .ow 3 1 x.1.isEmpty (x.1.map intC)], .i .i64 n])
          (fun x => x.1.length + x.2.1 = n + 1 ∧ OkS k z 1 x.2.2.1 ∧ x.2.2.1.length ≤ l.length ∧ x.1 ++ (manyP (numP 2048) x.2.1 x.2.2).1.map (fun n : Nat => (n : Int)) = (manyP (numP 2048) (n + 1) (l3, true)).1.map (fun n : Nat => (n : Int)) ∧ (manyP (numP 2048) x.2.1 x.2.2).2 = (manyP (numP 2048) (n + 1) (l3, true)).2) (fun x => x.2.1) ([], n + 1, l3, true) rfl ⟨by simp, ok3, by simp only; omega, rfl, rfl⟩ ?_
        have hR0 : rawP l = (⟨false, [], ks.map By.l, (manyP (numP 2048) (n + 1) (l3, true)).1.map fun n : Nat => (n : Int)⟩, (manyP (numP 2048) (n + 1) (l3, true)).2) := by
          rw [hraw, ← hA, ← hB]
        clear hgk
        rintro ⟨kd, m5, l5, b5⟩ ⟨hm5, ok5, len5, hA5, hB5⟩
        simp only at hm5 ok5 len5 hA5 hB5
        by_cases hstop5 : m5 = 0 ∨ b5 = true
        · have hmany : manyP (numP 2048) m5 (l5, b5) = ([], (l5, b5)) := by
            rcases hstop5 with rfl | rfl
            · rfl
            · exact many_bad _ _ _
          rw [hmany] at hA5 hB5
          simp only [List.append_nil, List.map_nil] at hA5 hB5
          have hR : rawP l = ((innerN ks kd).p, (l5, b5)) := by
            rw [hR0, ← hA5, ← hB5]; rfl
          cases hgk : decide ((kd.length : Int) ≤ (n : Int)) with
          | true =>
            have hb5 : b5 = true := by
              rcases hstop5 with h | h
              · have := of_decide_eq_true hgk; omega
              · exact h
            subst hb5
            rw [parse_no (.inr (.inl (by rw [hR])))]
            (simp only [go_sem, Nat.add_assoc, reduceIte, reduceCtorEq, Nat.reduceEqDiff, Nat.reduceAdd, Nat.reduceMul, Nat.reduceSub, Nat.reduceLeDiff, Nat.reduceLT, Nat.reduceBEq, Nat.reduceBNe, Int.reduceLE, Int.reduceLT, Int.reduceToNat, Int.reduceEq, Int.reduceNe, Int.reduceNeg, Nat.reduceEqDiff, Int.reduceAdd, Int.reduceSub, Int.reduceMul, Int.cast_ofNat_Int, Int.natCast_zero, hgk]; repeat' (refine kont_next ?_ <;> (try simp only [go_sem, Nat.add_assoc, reduceIte, reduceCtorEq, Nat.reduceEqDiff, Nat.reduceAdd, Nat.reduceMul, Nat.reduceSub, Nat.reduceLeDiff, Nat.reduceLT, Nat.reduceBEq, Nat.reduceBNe, Int.reduceLE, Int.reduceLT, Int.reduceToNat, Int.reduceEq, Int.reduceNe, Int.reduceNeg, Nat.reduceEqDiff, Int.reduceAdd, Int.reduceSub, Int.reduceMul, Int.cast_ofNat_Int, Int.natCast_zero, hgk])))
            exact ⟨emptyN, rfl, rfl⟩
          | false =>
            cases b5 with
            | true =>
              rw [parse_no (.inr (.inl (by rw [hR])))]
              (simp only [go_sem, Nat.add_assoc, reduceIte, reduceCtorEq, Nat.reduceEqDiff, Nat.reduceAdd, Nat.reduceMul, Nat.reduceSub, Nat.reduceLeDiff, Nat.reduceLT, Nat.reduceBEq, Nat.reduceBNe, Int.reduceLE, Int.reduceLT, Int.reduceToNat, Int.reduceEq, Int.reduceNe, Int.reduceNeg, Nat.reduceEqDiff, Int.reduceAdd, Int.reduceSub, Int.reduceMul, Int.cast_ofNat_Int, Int.natCast_zero, hgk, List.length_map]; repeat' (refine kont_next ?_ <;> (try simp only [go_sem, Nat.add_assoc, reduceIte, reduceCtorEq, Nat.reduceEqDiff, Nat.reduceAdd, Nat.reduceMul, Nat.reduceSub, Nat.reduceLeDiff, Nat.reduceLT, Nat.reduceBEq, Nat.reduceBNe, Int.reduceLE, Int.reduceLT, Int.reduceToNat, Int.reduceEq, Int.reduceNe, Int.reduceNeg, Nat.reduceEqDiff, Int.reduceAdd, Int.reduceSub, Int.reduceMul, Int.cast_ofNat_Int, Int.natCast_zero, hgk, List.length_map])))
              exact ⟨emptyN, rfl, rfl⟩
            | false =>
              by_cases hl5 : l5 = []
              · subst hl5
                have ec := e12 (innerN ks kd) ⟨by simp [innerN], by simp only [innerN]; omega, by simp only [innerN]; omega⟩
                have hbp := badP_eq (innerN ks kd)
                by_cases hbad : BadN (innerN ks kd)
                · rw [check_bad hbad] at ec
                  rw [parse_no (.inr (.inr (.inr (by rw [hR]; exact hbp.2 hbad))))]
                  simp only [Nd.v, Nd.cs, innerN, List.map_nil] at ec
                  (simp only [go_sem, Nat.add_assoc, reduceIte, reduceCtorEq, Nat.reduceEqDiff, Nat.reduceAdd, Nat.reduceMul, Nat.reduceSub, Nat.reduceLeDiff, Nat.reduceLT, Nat.reduceBEq, Nat.reduceBNe, Int.reduceLE, Int.reduceLT, Int.reduceToNat, Int.reduceEq, Int.reduceNe, Int.reduceNeg, Nat.reduceEqDiff, Int.reduceAdd, Int.reduceSub, Int.reduceMul, Int.cast_ofNat_Int, Int.natCast_zero, hgk, List.length_map, s12, ec, ofU8s_nil]; repeat' (refine kont_next ?_ <;> (try simp only [go_sem, Nat.add_assoc, reduceIte, reduceCtorEq, Nat.reduceEqDiff, Nat.reduceAdd, Nat.reduceMul, Nat.reduceSub, Nat.reduceLeDiff, Nat.reduceLT, Nat.reduceBEq, Nat.reduceBNe, Int.reduceLE, Int.reduceLT, Int.reduceToNat, Int.reduceEq, Int.reduceNe, Int.reduceNeg, Nat.reduceEqDiff, Int.reduceAdd, Int.reduceSub, Int.reduceMul, Int.cast_ofNat_Int, Int.natCast_zero, hgk, List.length_map, s12, ec, ofU8s_nil])))
                  exact ⟨emptyN, rfl, rfl⟩
                · rw [check_ok hbad] at ec
                  rw [parse_ok (by omega) (by rw [hR]) (by rw [hR]) (by rw [hR]; exact fun hx => hbad (hbp.1 hx))]
                  simp only [Nd.v, Nd.cs, innerN, List.map_nil] at ec
                  (simp only [go_sem, Nat.add_assoc, reduceIte, reduceCtorEq, Nat.reduceEqDiff, Nat.reduceAdd, Nat.reduceMul, Nat.reduceSub, Nat.reduceLeDiff, Nat.reduceLT, Nat.reduceBEq, Nat.reduceBNe, Int.reduceLE, Int.reduceLT, Int.reduceToNat, Int.reduceEq, Int.reduceNe, Int.reduceNeg, Nat.reduceEqDiff, Int.reduceAdd, Int.reduceSub, Int.reduceMul, Int.cast_ofNat_Int, Int.natCast_zero, hgk, List.length_map, s12, ec, ofU8s_nil]; repeat' (refine kont_next ?_ <;> (try simp only [go_sem, Nat.add_assoc, reduceIte, reduceCtorEq, Nat.reduceEqDiff, Nat.reduceAdd, Nat.reduceMul, Nat.reduceSub, Nat.reduceLeDiff, Nat.reduceLT, Nat.reduceBEq, Nat.reduceBNe, Int.reduceLE, Int.reduceLT, Int.reduceToNat, Int.reduceEq, Int.reduceNe, Int.reduceNeg, Nat.reduceEqDiff, Int.reduceAdd, Int.reduceSub, Int.reduceMul, Int.cast_ofNat_Int, Int.natCast_zero, hgk, List.length_map, s12, ec, ofU8s_nil])))
                  refine ⟨innerN ks kd, rfl, by rw [hR]⟩
              · have g3 : decide ((0 : Int) < (l5.length : Int)) = true := decide_eq_true (by have := List.length_pos_iff.2 hl5; omega)
                rw [parse_no (.inr (.inr (.inl (by rw [hR]; exact hl5))))]
                (simp only [go_sem, Nat.add_assoc, reduceIte, reduceCtorEq, Nat.reduceEqDiff, Nat.reduceAdd, Nat.reduceMul, Nat.reduceSub, Nat.reduceLeDiff, Nat.reduceLT, Nat.reduceBEq, Nat.reduceBNe, Int.reduceLE, Int.reduceLT, Int.reduceToNat, Int.reduceEq, Int.reduceNe, Int.reduceNeg, Nat.reduceEqDiff, Int.reduceAdd, Int.reduceSub, Int.reduceMul, Int.cast_ofNat_Int, Int.natCast_zero, hgk, List.length_map, g3]; repeat' (refine kont_next ?_ <;> (try simp only [go_sem, Nat.add_assoc, reduceIte, reduceCtorEq, Nat.reduceEqDiff, Nat.reduceAdd, Nat.reduceMul, Nat.reduceSub, Nat.reduceLeDiff, Nat.reduceLT, Nat.reduceBEq, Nat.reduceBNe, Int.reduceLE, Int.reduceLT, Int.reduceToNat, Int.reduceEq, Int.reduceNe, Int.reduceNeg, Nat.reduceEqDiff, Int.reduceAdd, Int.reduceSub, Int.reduceMul, Int.cast_ofNat_Int, Int.natCast_zero, hgk, List.length_map, g3])))
                exact ⟨emptyN, rfl, rfl⟩
        · have hm0 : m5 ≠ 0 := fun h => hstop5 (.inl h)
          have hb5 : b5 = false := by cases b5; rfl; exact absurd (.inr rfl) hstop5
          subst hb5
          obtain ⟨m', rfl⟩ : ∃ m', m5 = m' + 1 := ⟨m5 - 1, by omega⟩
          rw [many_step] at hA5 hB5
          have ec : acall S 44 [.bx [.sl k z (ofU8s l5), .b false], .i .i64 2048] = _ := e44 (bad := false) ok5 2048 (by omega)
          have ok4 := num_okS (bad := false) ok5 2048
          have len4 := num_len 2048 l5 false
          have gm : decide ((kd.length : Int) ≤ (n : Int)) = true := decide_eq_true (by omega)
          have glim : kd.length + 1 ≤ LIM := by omega
          (simp only [go_sem, Nat.add_assoc, reduceIte, reduceCtorEq, Nat.reduceEqDiff, Nat.reduceAdd, Nat.reduceMul, Nat.reduceSub, Nat.reduceLeDiff, Nat.reduceLT, Nat.reduceBEq, Nat.reduceBNe, Int.reduceLE, Int.reduceLT, Int.reduceToNat, Int.reduceEq, Int.reduceNe, Int.reduceNeg, Nat.reduceEqDiff, Int.reduceAdd, Int.reduceSub, Int.reduceMul, Int.cast_ofNat_Int, Int.natCast_zero, gm, s44, ec, glim, intC]; repeat' (refine kont_next ?_ <;> (try simp only [go_sem, Nat.add_assoc, reduceIte, reduceCtorEq, Nat.reduceEqDiff, Nat.reduceAdd, Nat.reduceMul, Nat.reduceSub, Nat.reduceLeDiff, Nat.reduceLT, Nat.reduceBEq, Nat.reduceBNe, Int.reduceLE, Int.reduceLT, Int.reduceToNat, Int.reduceEq, Int.reduceNe, Int.reduceNeg, Nat.reduceEqDiff, Int.reduceAdd, Int.reduceSub, Int.reduceMul, Int.cast_ofNat_Int, Int.natCast_zero, gm, s44, ec, glim, intC])))
          refine ⟨(kd ++ [((numP 2048 (l5, false)).1 : Int)], m', (numP 2048 (l5, false)).2), ?_, ⟨?_, ok4, ?_, ?_, ?_⟩, ?_⟩
          · simp [intC]
          · simp; omega
          · simp only; omega
          · simp only [List.append_assoc, List.cons_append, List.nil_append]; rw [List.map_cons] at hA5; exact hA5
          · exact hB5
          · simp only; omega
      | false =>
        (simp only [go_sem, Nat.add_assoc, reduceIte, reduceCtorEq, Nat.reduceEqDiff, Nat.reduceAdd, Nat.reduceMul, Nat.reduceSub, Nat.reduceLeDiff, Nat.reduceLT, Nat.reduceBEq, Nat.reduceBNe, Int.reduceLE, Int.reduceLT, Int.reduceToNat, Int.reduceEq, Int.reduceNe, Int.reduceNeg, Nat.reduceEqDiff, Int.reduceAdd, Int.reduceSub, Int.reduceMul, Int.cast_ofNat_Int, Int.natCast_zero, hgk]; repeat' (refine kont_next ?_ <;> (try simp only [go_sem, Nat.add_assoc, reduceIte, reduceCtorEq, Nat.reduceEqDiff, Nat.reduceAdd, Nat.reduceMul, Nat.reduceSub, Nat.reduceLeDiff, Nat.reduceLT, Nat.reduceBEq, Nat.reduceBNe, Int.reduceLE, Int.reduceLT, Int.reduceToNat, Int.reduceEq, Int.reduceNe, Int.reduceNeg, Nat.reduceEqDiff, Int.reduceAdd, Int.reduceSub, Int.reduceMul, Int.cast_ofNat_Int, Int.natCast_zero, hgk])))
        refine kloop_inv (ι := List Int × Nat × List UInt8 × Bool) (fun x => [.bx [.b false, .sl .nil 0 [], .sl .nil 0 [], .sl .nil 0 []], .bx [.sl k z (ofU8s x.2.2.1), .b x.2.2.2], .bx [.b false, .sl .nil 0 [], .ow 27 1 ks.isEmpty (ks.map byC), .ow 3 1 x.1.isEmpty (x.1.map intC)], .i .i64 n])
          (fun x => x.1.length + x.2.1 = n + 1 ∧ OkS k z 1 x.2.2.1 ∧ x.2.2.1.length ≤ l.length ∧ x.1 ++ (manyP (numP 2048) x.2.1 x.2.2).1.map (fun n : Nat => (n : Int)) = (manyP (numP 2048) (n + 1) (l3, b3)).1.map (fun n : Nat => (n : Int)) ∧ (manyP (numP 2048) x.2.1 x.2.2).2 = (manyP (numP 2048) (n + 1) (l3, b3)).2) (fun x => x.2.1) ([], n + 1, l3, b3) rfl ⟨by simp, ok3, by simp only; omega, rfl, rfl⟩ ?_
        have hR0 : rawP l = (⟨false, [], ks.map By.l, (manyP (numP 2048) (n + 1) (l3, b3)).1.map fun n : Nat => (n : Int)⟩, (manyP (numP 2048) (n + 1) (l3, b3)).2) := by
          rw [hraw, ← hA, ← hB]
        clear hgk
        rintro ⟨kd, m5, l5, b5⟩ ⟨hm5, ok5, len5, hA5, hB5⟩
        simp only at hm5 ok5 len5 hA5 hB5
        by_cases hstop5 : m5 = 0 ∨ b5 = true
        · have hmany : manyP (numP 2048) m5 (l5, b5) = ([], (l5, b5)) := by
            rcases hstop5 with rfl | rfl
            · rfl
            · exact many_bad _ _ _
          rw [hmany] at hA5 hB5
          simp only [List.append_nil, List.map_nil] at hA5 hB5
          have hR : rawP l = ((innerN ks kd).p, (l5, b5)) := by
            rw [hR0, ← hA5, ← hB5]; rfl
          cases hgk : decide ((kd.length : Int) ≤ (n : Int)) with
          | true =>
            have hb5 : b5 = true := by
              rcases hstop5 with h | h
              · have := of_decide_eq_true hgk; omega
              · exact h
            subst hb5
            rw [parse_no (.inr (.inl (by rw [hR])))]
            (simp only [go_sem, Nat.add_assoc, reduceIte, reduceCtorEq, Nat.reduceEqDiff, Nat.reduceAdd, Nat.reduceMul, Nat.reduceSub, Nat.reduceLeDiff, Nat.reduceLT, Nat.reduceBEq, Nat.reduceBNe, Int.reduceLE, Int.reduceLT, Int.reduceToNat, Int.reduceEq, Int.reduceNe, Int.reduceNeg, Nat.reduceEqDiff, Int.reduceAdd, Int.reduceSub, Int.reduceMul, Int.cast_ofNat_Int, Int.natCast_zero, hgk]; repeat' (refine kont_next ?_ <;> (try simp only [go_sem, Nat.add_assoc, reduceIte, reduceCtorEq, Nat.reduceEqDiff, Nat.reduceAdd, Nat.reduceMul, Nat.reduceSub, Nat.reduceLeDiff, Nat.reduceLT, Nat.reduceBEq, Nat.reduceBNe, Int.reduceLE, Int.reduceLT, Int.reduceToNat, Int.reduceEq, Int.reduceNe, Int.reduceNeg, Nat.reduceEqDiff, Int.reduceAdd, Int.reduceSub, Int.reduceMul, Int.cast_ofNat_Int, Int.natCast_zero, hgk])))
            exact ⟨emptyN, rfl, rfl⟩
          | false =>
            cases b5 with
            | true =>
              rw [parse_no (.inr (.inl (by rw [hR])))]
              (simp only [go_sem, Nat.add_assoc, reduceIte, reduceCtorEq, Nat.reduceEqDiff, Nat.reduceAdd, Nat.reduceMul, Nat.reduceSub, Nat.reduceLeDiff, Nat.reduceLT, Nat.reduceBEq, Nat.reduceBNe, Int.reduceLE, Int.reduceLT, Int.reduceToNat, Int.reduceEq, Int.reduceNe, Int.reduceNeg, Nat.reduceEqDiff, Int.reduceAdd, Int.reduceSub, Int.reduceMul, Int.cast_ofNat_Int, Int.natCast_zero, hgk, List.length_map]; repeat' (refine kont_next ?_ <;> (try simp only [go_sem, Nat.add_assoc, reduceIte, reduceCtorEq, Nat.reduceEqDiff, Nat.reduceAdd, Nat.reduceMul, Nat.reduceSub, Nat.reduceLeDiff, Nat.reduceLT, Nat.reduceBEq, Nat.reduceBNe, Int.reduceLE, Int.reduceLT, Int.reduceToNat, Int.reduceEq, Int.reduceNe, Int.reduceNeg, Nat.reduceEqDiff, Int.reduceAdd, Int.reduceSub, Int.reduceMul, Int.cast_ofNat_Int, Int.natCast_zero, hgk, List.length_map])))
              exact ⟨emptyN, rfl, rfl⟩
            | false =>
              by_cases hl5 : l5 = []
              · subst hl5
                have ec := e12 (innerN ks kd) ⟨by simp [innerN], by simp only [innerN]; omega, by simp only [innerN]; omega⟩
                have hbp := badP_eq (innerN ks kd)
                by_cases hbad : BadN (innerN ks kd)
                · rw [check_bad hbad] at ec
                  rw [parse_no (.inr (.inr (.inr (by rw [hR]; exact hbp.2 hbad))))]
                  simp only [Nd.v, Nd.cs, innerN, List.map_nil] at ec
                  (simp only [go_sem, Nat.add_assoc, reduceIte, reduceCtorEq, Nat.reduceEqDiff, Nat.reduceAdd, Nat.reduceMul, Nat.reduceSub, Nat.reduceLeDiff, Nat.reduceLT, Nat.reduceBEq, Nat.reduceBNe, Int.reduceLE, Int.reduceLT, Int.reduceToNat, Int.reduceEq, Int.reduceNe, Int.reduceNeg, Nat.reduceEqDiff, Int.reduceAdd, Int.reduceSub, Int.reduceMul, Int.cast_ofNat_Int, Int.natCast_zero, hgk, List.length_map, s12, ec, ofU8s_nil]; repeat' (refine kont_next ?_ <;> (try simp only [go_sem, Nat.add_assoc, reduceIte, reduceCtorEq, Nat.reduceEqDiff, Nat.reduceAdd, Nat.reduceMul, Nat.reduceSub, Nat.reduceLeDiff, Nat.reduceLT, Nat.reduceBEq, Nat.reduceBNe, Int.reduceLE, Int.reduceLT, Int.reduceToNat, Int.reduceEq, Int.reduceNe, Int.reduceNeg, Nat.reduceEqDiff, Int.reduceAdd, Int.reduceSub, Int.reduceMul, Int.cast_ofNat_Int, Int.natCast_zero, hgk, List.length_map, s12, ec, ofU8s_nil])))
                  exact ⟨emptyN, rfl, rfl⟩
                · rw [check_ok hbad] at ec
                  rw [parse_ok (by omega) (by rw [hR]) (by rw [hR]) (by rw [hR]; exact fun hx => hbad (hbp.1 hx))]
                  simp only [Nd.v, Nd.cs, innerN, List.map_nil] at ec
                  (simp only [go_sem, Nat.add_assoc, reduceIte, reduceCtorEq, Nat.reduceEqDiff, Nat.reduceAdd, Nat.reduceMul, Nat.reduceSub, Nat.reduceLeDiff, Nat.reduceLT, Nat.reduceBEq, Nat.reduceBNe, Int.reduceLE, Int.reduceLT, Int.reduceToNat, Int.reduceEq, Int.reduceNe, Int.reduceNeg, Nat.reduceEqDiff, Int.reduceAdd, Int.reduceSub, Int.reduceMul, Int.cast_ofNat_Int, Int.natCast_zero, hgk, List.length_map, s12, ec, ofU8s_nil]; repeat' (refine kont_next ?_ <;> (try simp only [go_sem, Nat.add_assoc, reduceIte, reduceCtorEq, Nat.reduceEqDiff, Nat.reduceAdd, Nat.reduceMul, Nat.reduceSub, Nat.reduceLeDiff, Nat.reduceLT, Nat.reduceBEq, Nat.reduceBNe, Int.reduceLE, Int.reduceLT, Int.reduceToNat, Int.reduceEq, Int.reduceNe, Int.reduceNeg, Nat.reduceEqDiff, Int.reduceAdd, Int.reduceSub, Int.reduceMul, Int.cast_ofNat_Int, Int.natCast_zero, hgk, List.length_map, s12, ec, ofU8s_nil])))
                  refine ⟨innerN ks kd, rfl, by rw [hR]⟩
              · have g3 : decide ((0 : Int) < (l5.length : Int)) = true := decide_eq_true (by have := List.length_pos_iff.2 hl5; omega)
                rw [parse_no (.inr (.inr (.inl (by rw [hR]; exact hl5))))]
                (simp only [go_sem, Nat.add_assoc, reduceIte, reduceCtorEq, Nat.reduceEqDiff, Nat.reduceAdd, Nat.reduceMul, Nat.reduceSub, Nat.reduceLeDiff, Nat.reduceLT, Nat.reduceBEq, Nat.reduceBNe, Int.reduceLE, Int.reduceLT, Int.reduceToNat, Int.reduceEq, Int.reduceNe, Int.reduceNeg, Nat.reduceEqDiff, Int.reduceAdd, Int.reduceSub, Int.reduceMul, Int.cast_ofNat_Int, Int.natCast_zero, hgk, List.length_map, g3]; repeat' (refine kont_next ?_ <;> (try simp only [go_sem, Nat.add_assoc, reduceIte, reduceCtorEq, Nat.reduceEqDiff, Nat.reduceAdd, Nat.reduceMul, Nat.reduceSub, Nat.reduceLeDiff, Nat.reduceLT, Nat.reduceBEq, Nat.reduceBNe, Int.reduceLE, Int.reduceLT, Int.reduceToNat, Int.reduceEq, Int.reduceNe, Int.reduceNeg, Nat.reduceEqDiff, Int.reduceAdd, Int.reduceSub, Int.reduceMul, Int.cast_ofNat_Int, Int.natCast_zero, hgk, List.length_map, g3])))
                exact ⟨emptyN, rfl, rfl⟩
        · have hm0 : m5 ≠ 0 := fun h => hstop5 (.inl h)
          have hb5 : b5 = false := by cases b5; rfl; exact absurd (.inr rfl) hstop5
          subst hb5
          obtain ⟨m', rfl⟩ : ∃ m', m5 = m' + 1 := ⟨m5 - 1, by omega⟩
          rw [many_step] at hA5 hB5
          have ec : acall S 44 [.bx [.sl k z (ofU8s l5), .b false], .i .i64 2048] = _ := e44 (bad := false) ok5 2048 (by omega)
          have ok4 := num_okS (bad := false) ok5 2048
          have len4 := num_len 2048 l5 false
          have gm : decide ((kd.length : Int) ≤ (n : Int)) = true := decide_eq_true (by omega)
          have glim : kd.length + 1 ≤ LIM := by omega
          (simp only [go_sem, Nat.add_assoc, reduceIte, reduceCtorEq, Nat.reduceEqDiff, Nat.reduceAdd, Nat.reduceMul, Nat.reduceSub, Nat.reduceLeDiff, Nat.reduceLT, Nat.reduceBEq, Nat.reduceBNe, Int.reduceLE, Int.reduceLT, Int.reduceToNat, Int.reduceEq, Int.reduceNe, Int.reduceNeg, Nat.reduceEqDiff, Int.reduceAdd, Int.reduceSub, Int.reduceMul, Int.cast_ofNat_Int, Int.natCast_zero, gm, s44, ec, glim, intC]; repeat' (refine kont_next ?_ <;> (try simp only [go_sem, Nat.add_assoc, reduceIte, reduceCtorEq, Nat.reduceEqDiff, Nat.reduceAdd, Nat.reduceMul, Nat.reduceSub, Nat.reduceLeDiff, Nat.reduceLT, Nat.reduceBEq, Nat.reduceBNe, Int.reduceLE, Int.reduceLT, Int.reduceToNat, Int.reduceEq, Int.reduceNe, Int.reduceNeg, Nat.reduceEqDiff, Int.reduceAdd, Int.reduceSub, Int.reduceMul, Int.cast_ofNat_Int, Int.natCast_zero, gm, s44, ec, glim, intC])))
          refine ⟨(kd ++ [((numP 2048 (l5, false)).1 : Int)], m', (numP 2048 (l5, false)).2), ?_, ⟨?_, ok4, ?_, ?_, ?_⟩, ?_⟩
          · simp [intC]
          · simp; omega
          · simp only; omega
          · simp only [List.append_assoc, List.cons_append, List.nil_append]; rw [List.map_cons] at hA5; exact hA5
          · exact hB5
          · simp only; omega
    · have hm0 : m ≠ 0 := fun h => hstop (.inl h)
      have hb3 : b3 = false := by cases b3; rfl; exact absurd (.inr rfl) hstop
      subst hb3
      obtain ⟨m', rfl⟩ : ∃ m', m = m' + 1 := ⟨m - 1, by omega⟩
      rw [many_step] at hA hB
      obtain ⟨cc, ec, hcc⟩ := e46 (bad := false) ok3 (by omega)
      have ok4 := bytes_okS (bad := false) ok3
      have len4 := bytes_len l3 false
      have gm : decide ((ks.length : Int) < (n : Int)) = true := decide_eq_true (by omega)
      have glim : ks.length + 1 ≤ LIM := by omega
      simp only [By.v] at ec
      (simp only [go_sem, Nat.add_assoc, reduceIte, reduceCtorEq, Nat.reduceEqDiff, Nat.reduceAdd, Nat.reduceMul, Nat.reduceSub, Nat.reduceLeDiff, Nat.reduceLT, Nat.reduceBEq, Nat.reduceBNe, Int.reduceLE, Int.reduceLT, Int.reduceToNat, Int.reduceEq, Int.reduceNe, Int.reduceNeg, Nat.reduceEqDiff, Int.reduceAdd, Int.reduceSub, Int.reduceMul, Int.cast_ofNat_Int, Int.natCast_zero, gm, s46, ec, glim, byC, By.v]; repeat' (refine kont_next ?_ <;> (try simp only [go_sem, Nat.add_assoc, reduceIte, reduceCtorEq, Nat.reduceEqDiff, Nat.reduceAdd, Nat.reduceMul, Nat.reduceSub, Nat.reduceLeDiff, Nat.reduceLT, Nat.reduceBEq, Nat.reduceBNe, Int.reduceLE, Int.reduceLT, Int.reduceToNat, Int.reduceEq, Int.reduceNe, Int.reduceNeg, Nat.reduceEqDiff, Int.reduceAdd, Int.reduceSub, Int.reduceMul, Int.cast_ofNat_Int, Int.natCast_zero, gm, s46, ec, glim, byC, By.v])))
      refine ⟨(ks ++ [cc], m', (bytesP (l3, false)).2), ?_, ⟨?_, ok4, ?_, ?_, ?_⟩, ?_⟩
      · simp [byC, By.v]
      · simp; omega
      · simp only; omega
      · simp only [List.map_append, List.map_cons, List.map_nil, hcc, List.append_assoc, List.cons_append, List.nil_append]; exact hA
      · exact hB
      · simp only; omega
  · have g2 : decide ((c.toNat : Int) = 2) = false := decide_eq_false (by omega)
    rw [if_neg c2] at hraw
    rw [parse_no (.inr (.inl (by rw [hraw])))]
    (simp only [go_sem, Nat.add_assoc, reduceIte, reduceCtorEq, Nat.reduceEqDiff, Nat.reduceAdd, Nat.reduceMul, Nat.reduceSub, Nat.reduceLeDiff, Nat.reduceLT, Nat.reduceBEq, Nat.reduceBNe, Int.reduceLE, Int.reduceLT, Int.reduceToNat, Int.reduceEq, Int.reduceNe, Int.reduceNeg, Nat.reduceEqDiff, Int.reduceAdd, Int.reduceSub, Int.reduceMul, Int.cast_ofNat_Int, Int.natCast_zero, a21, g0, s43, e1, g1, g2]; repeat' (refine kont_next ?_ <;> (try simp only [go_sem, Nat.add_assoc, reduceIte, reduceCtorEq, Nat.reduceEqDiff, Nat.reduceAdd, Nat.reduceMul, Nat.reduceSub, Nat.reduceLeDiff, Nat.reduceLT, Nat.reduceBEq, Nat.reduceBNe, Int.reduceLE, Int.reduceLT, Int.reduceToNat, Int.reduceEq, Int.reduceNe, Int.reduceNeg, Nat.reduceEqDiff, Int.reduceAdd, Int.reduceSub, Int.reduceMul, Int.cast_ofNat_Int, Int.natCast_zero, a21, g0, s43, e1, g1, g2])))
    exact ⟨emptyN, rfl, rfl⟩
end Go.Proofs.Ytogjoenpliphdaa
