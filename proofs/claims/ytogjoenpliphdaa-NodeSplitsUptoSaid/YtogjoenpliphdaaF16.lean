import Derived.Test.YtogjoenpliphdaaF15
set_option linter.unusedSimpArgs false
set_option linter.unusedVariables false
set_option maxHeartbeats 4000000
namespace Go.Proofs.Ytogjoenpliphdaa
open Go.Abs

/-! ### cells and nodes, without how their slices stand -/
structure PC where
  key : List UInt8
  val : List UInt8
  over : Int
  len : Int
  deriving DecidableEq
def Ce.p (c : Ce) : PC := ⟨c.key.l, c.val.l, c.over, c.len⟩
def cellP (s : Ps) : PC × Ps :=
  if (flagP (bytesP s).2).1.toNat = 0 then (⟨(bytesP s).1, (bytesP (flagP (bytesP s).2).2).1, 0, 0⟩, (bytesP (flagP (bytesP s).2).2).2)
  else if (flagP (bytesP s).2).1.toNat = 1 then
    (⟨(bytesP s).1, [], (numP 2048 (numP 1099511627776 (flagP (bytesP s).2).2).2).1, (numP 1099511627776 (flagP (bytesP s).2).2).1⟩,
      ((numP 2048 (numP 1099511627776 (flagP (bytesP s).2).2).2).2.1, (numP 2048 (numP 1099511627776 (flagP (bytesP s).2).2).2).2.2 || decide ((numP 2048 (numP 1099511627776 (flagP (bytesP s).2).2).2).1 = 0)))
  else (⟨(bytesP s).1, [], 0, 0⟩, ((flagP (bytesP s).2).2.1, true))
theorem cell_okS {k : SK} {z : Nat} {l : List UInt8} {bad : Bool} (h : OkS k z 1 l) : OkS k z 1 (cellP (l, bad)).2.1 := by
  have h1 := flag_okS (bad := (bytesP (l, bad)).2.2) (bytes_okS (bad := bad) h)
  have h2 := bytes_okS (bad := (flagP (bytesP (l, bad)).2).2.2) h1
  have h3 := num_okS (bad := (numP 1099511627776 (flagP (bytesP (l, bad)).2).2).2.2) (num_okS (bad := (flagP (bytesP (l, bad)).2).2.2) h1 1099511627776) 2048
  unfold cellP
  split
  · exact h2
  · split
    · exact h3
    · exact h1
theorem cell_len (l : List UInt8) (bad : Bool) : (cellP (l, bad)).2.1.length ≤ l.length := by
  have h0 := bytes_len l bad
  have h1 : (flagP (bytesP (l, bad)).2).2.1.length ≤ (bytesP (l, bad)).2.1.length := flag_len _ _
  have h2 : (bytesP (flagP (bytesP (l, bad)).2).2).2.1.length ≤ (flagP (bytesP (l, bad)).2).2.1.length := bytes_len _ _
  have h3 : (numP 1099511627776 (flagP (bytesP (l, bad)).2).2).2.1.length ≤ (flagP (bytesP (l, bad)).2).2.1.length := num_len _ _ _
  have h4 : (numP 2048 (numP 1099511627776 (flagP (bytesP (l, bad)).2).2).2).2.1.length ≤ (numP 1099511627776 (flagP (bytesP (l, bad)).2).2).2.1.length := num_len _ _ _
  unfold cellP
  split
  · exact Nat.le_trans h2 (Nat.le_trans h1 h0)
  · split
    · exact Nat.le_trans h4 (Nat.le_trans h3 (Nat.le_trans h1 h0))
    · exact Nat.le_trans h1 h0

theorem e45 {k : SK} {z : Nat} {l : List UInt8} {bad : Bool} (h : OkS k z 1 l) (hl : l.length ≤ LIM) :
    ∃ c : Ce, acall S 45 [.bx [.sl k z (ofU8s l), .b bad]] = some (.agg (Ce.c c), [.bx [.sl k z (ofU8s (cellP (l, bad)).2.1), .b (cellP (l, bad)).2.2]]) ∧ c.p = (cellP (l, bad)).1 := by
  obtain ⟨kb, e1, hkb⟩ := e46 (bad := bad) h hl
  have ok1 := bytes_okS (bad := bad) h
  have len1 := bytes_len l bad
  unfold cellP
  obtain ⟨⟨kl, l1, b1⟩, hx1⟩ : ∃ x, x = bytesP (l, bad) := ⟨_, rfl⟩
  rw [← hx1] at e1 ok1 len1 hkb ⊢
  simp only at e1 ok1 len1 hkb ⊢
  have e2 := e43 (bad := b1) ok1
  have ok2 := flag_okS (bad := b1) ok1
  have len2 := flag_len l1 b1
  obtain ⟨⟨c, l2, b2⟩, hx2⟩ : ∃ x, x = flagP (l1, b1) := ⟨_, rfl⟩
  rw [← hx2] at e2 ok2 len2 ⊢
  simp only at e2 ok2 len2 ⊢
  by_cases h0 : c.toNat = 0
  · obtain ⟨vb, e3, hvb⟩ := e46 (bad := b2) ok2 (by omega)
    have g0 : decide ((c.toNat : Int) = 0) = true := decide_eq_true (by omega)
    rw [if_pos h0]
    refine ⟨⟨kb, vb, 0, 0⟩, W_eq (g45 rfl ?_), by rw [← hkb, ← hvb]; rfl⟩
    simp only [By.v] at e1 e3
    (simp only [go_sem, Nat.add_assoc, reduceIte, reduceCtorEq, Nat.reduceEqDiff, Nat.reduceAdd, Nat.reduceMul, Nat.reduceSub, Nat.reduceLeDiff, Nat.reduceLT, Nat.reduceBEq, Nat.reduceBNe, Int.reduceLE, Int.reduceLT, Int.reduceToNat, Int.reduceEq, Int.reduceNe, Int.reduceNeg, Nat.reduceEqDiff, Int.reduceAdd, Int.reduceSub, Int.reduceMul, Int.cast_ofNat_Int, Int.natCast_zero, a45, s46, s43, e1, e2, g0, e3, Ce.c, By.v]; repeat' (refine kont_next ?_ <;> (try simp only [go_sem, Nat.add_assoc, reduceIte, reduceCtorEq, Nat.reduceEqDiff, Nat.reduceAdd, Nat.reduceMul, Nat.reduceSub, Nat.reduceLeDiff, Nat.reduceLT, Nat.reduceBEq, Nat.reduceBNe, Int.reduceLE, Int.reduceLT, Int.reduceToNat, Int.reduceEq, Int.reduceNe, Int.reduceNeg, Nat.reduceEqDiff, Int.reduceAdd, Int.reduceSub, Int.reduceMul, Int.cast_ofNat_Int, Int.natCast_zero, a45, s46, s43, e1, e2, g0, e3, Ce.c, By.v])))
  · have g0 : decide ((c.toNat : Int) = 0) = false := decide_eq_false (by omega)
    rw [if_neg h0]
    by_cases h1 : c.toNat = 1
    · have g1 : decide ((c.toNat : Int) = 1) = true := decide_eq_true (by omega)
      rw [if_pos h1]
      have e3 : acall S 44 [.bx [.sl k z (ofU8s l2), .b b2], .i .i64 1099511627776] = _ := e44 (bad := b2) ok2 1099511627776 (by omega)
      have ok3 := num_okS (bad := b2) ok2 1099511627776
      obtain ⟨⟨n3, l3, b3⟩, hx3⟩ : ∃ x, x = numP 1099511627776 (l2, b2) := ⟨_, rfl⟩
      rw [← hx3] at e3 ok3 ⊢
      simp only at e3 ok3 ⊢
      have e4 : acall S 44 [.bx [.sl k z (ofU8s l3), .b b3], .i .i64 2048] = _ := e44 (bad := b3) ok3 2048 (by omega)
      obtain ⟨⟨n4, l4, b4⟩, hx4⟩ : ∃ x, x = numP 2048 (l3, b3) := ⟨_, rfl⟩
      rw [← hx4] at e4 ⊢
      simp only at e4 ⊢
      refine ⟨⟨kb, ⟨.nil, 0, [], .inr rfl, fun _ => rfl⟩, n4, n3⟩, W_eq (g45 rfl ?_), by rw [← hkb]; rfl⟩
      simp only [By.v] at e1
      have hd : decide ((n4 : Int) = 0) = decide (n4 = 0) := by by_cases hz : n4 = 0 <;> simp [hz]
      cases b4 with
      | true => (simp only [go_sem, Nat.add_assoc, reduceIte, reduceCtorEq, Nat.reduceEqDiff, Nat.reduceAdd, Nat.reduceMul, Nat.reduceSub, Nat.reduceLeDiff, Nat.reduceLT, Nat.reduceBEq, Nat.reduceBNe, Int.reduceLE, Int.reduceLT, Int.reduceToNat, Int.reduceEq, Int.reduceNe, Int.reduceNeg, Nat.reduceEqDiff, Int.reduceAdd, Int.reduceSub, Int.reduceMul, Int.cast_ofNat_Int, Int.natCast_zero, a45, s46, s43, s44, e1, e2, g0, g1, e3, e4, Ce.c, By.v, ofU8s_nil]; repeat' (refine kont_next ?_ <;> (try simp only [go_sem, Nat.add_assoc, reduceIte, reduceCtorEq, Nat.reduceEqDiff, Nat.reduceAdd, Nat.reduceMul, Nat.reduceSub, Nat.reduceLeDiff, Nat.reduceLT, Nat.reduceBEq, Nat.reduceBNe, Int.reduceLE, Int.reduceLT, Int.reduceToNat, Int.reduceEq, Int.reduceNe, Int.reduceNeg, Nat.reduceEqDiff, Int.reduceAdd, Int.reduceSub, Int.reduceMul, Int.cast_ofNat_Int, Int.natCast_zero, a45, s46, s43, s44, e1, e2, g0, g1, e3, e4, Ce.c, By.v, ofU8s_nil])))
      | false => (simp only [go_sem, Nat.add_assoc, reduceIte, reduceCtorEq, Nat.reduceEqDiff, Nat.reduceAdd, Nat.reduceMul, Nat.reduceSub, Nat.reduceLeDiff, Nat.reduceLT, Nat.reduceBEq, Nat.reduceBNe, Int.reduceLE, Int.reduceLT, Int.reduceToNat, Int.reduceEq, Int.reduceNe, Int.reduceNeg, Nat.reduceEqDiff, Int.reduceAdd, Int.reduceSub, Int.reduceMul, Int.cast_ofNat_Int, Int.natCast_zero, a45, s46, s43, s44, e1, e2, g0, g1, e3, e4, Ce.c, By.v, ofU8s_nil, hd]; repeat' (refine kont_next ?_ <;> (try simp only [go_sem, Nat.add_assoc, reduceIte, reduceCtorEq, Nat.reduceEqDiff, Nat.reduceAdd, Nat.reduceMul, Nat.reduceSub, Nat.reduceLeDiff, Nat.reduceLT, Nat.reduceBEq, Nat.reduceBNe, Int.reduceLE, Int.reduceLT, Int.reduceToNat, Int.reduceEq, Int.reduceNe, Int.reduceNeg, Nat.reduceEqDiff, Int.reduceAdd, Int.reduceSub, Int.reduceMul, Int.cast_ofNat_Int, Int.natCast_zero, a45, s46, s43, s44, e1, e2, g0, g1, e3, e4, Ce.c, By.v, ofU8s_nil, hd])))
    · have g1 : decide ((c.toNat : Int) = 1) = false := decide_eq_false (by omega)
      rw [if_neg h1]
      refine ⟨⟨kb, ⟨.nil, 0, [], .inr rfl, fun _ => rfl⟩, 0, 0⟩, W_eq (g45 rfl ?_), by rw [← hkb]; rfl⟩
      simp only [By.v] at e1
      (simp only [go_sem, Nat.add_assoc, reduceIte, reduceCtorEq, Nat.reduceEqDiff, Nat.reduceAdd, Nat.reduceMul, Nat.reduceSub, Nat.reduceLeDiff, Nat.reduceLT, Nat.reduceBEq, Nat.reduceBNe, Int.reduceLE, Int.reduceLT, Int.reduceToNat, Int.reduceEq, Int.reduceNe, Int.reduceNeg, Nat.reduceEqDiff, Int.reduceAdd, Int.reduceSub, Int.reduceMul, Int.cast_ofNat_Int, Int.natCast_zero, a45, s46, s43, s44, e1, e2, g0, g1, Ce.c, By.v, ofU8s_nil]; repeat' (refine kont_next ?_ <;> (try simp only [go_sem, Nat.add_assoc, reduceIte, reduceCtorEq, Nat.reduceEqDiff, Nat.reduceAdd, Nat.reduceMul, Nat.reduceSub, Nat.reduceLeDiff, Nat.reduceLT, Nat.reduceBEq, Nat.reduceBNe, Int.reduceLE, Int.reduceLT, Int.reduceToNat, Int.reduceEq, Int.reduceNe, Int.reduceNeg, Nat.reduceEqDiff, Int.reduceAdd, Int.reduceSub, Int.reduceMul, Int.cast_ofNat_Int, Int.natCast_zero, a45, s46, s43, s44, e1, e2, g0, g1, Ce.c, By.v, ofU8s_nil])))

theorem e49 {k : SK} {z : Nat} {l : List UInt8} {bad : Bool} (h : OkS k z 1 l) (hl : l.length ≤ LIM) :
    ∃ c : Ce, acall S 49 [.bx [.sl k z (ofU8s l), .b bad]] = some (.agg (Ce.c c), [.bx [.sl k z (ofU8s (cellP (l, bad)).2.1), .b (cellP (l, bad)).2.2]]) ∧ c.p = (cellP (l, bad)).1 := by
  obtain ⟨kb, e1, hkb⟩ := e50 (bad := bad) h hl
  have ok1 := bytes_okS (bad := bad) h
  have len1 := bytes_len l bad
  unfold cellP
  obtain ⟨⟨kl, l1, b1⟩, hx1⟩ : ∃ x, x = bytesP (l, bad) := ⟨_, rfl⟩
  rw [← hx1] at e1 ok1 len1 hkb ⊢
  simp only at e1 ok1 len1 hkb ⊢
  have e2 := e47 (bad := b1) ok1 (by omega)
  have ok2 := flag_okS (bad := b1) ok1
  have len2 := flag_len l1 b1
  obtain ⟨⟨c, l2, b2⟩, hx2⟩ : ∃ x, x = flagP (l1, b1) := ⟨_, rfl⟩
  rw [← hx2] at e2 ok2 len2 ⊢
  simp only at e2 ok2 len2 ⊢
  by_cases h0 : c.toNat = 0
  · obtain ⟨vb, e3, hvb⟩ := e50 (bad := b2) ok2 (by omega)
    have g0 : decide ((c.toNat : Int) = 0) = true := decide_eq_true (by omega)
    rw [if_pos h0]
    refine ⟨⟨kb, vb, 0, 0⟩, W_eq (g49 rfl ?_), by rw [← hkb, ← hvb]; rfl⟩
    simp only [By.v] at e1 e3
    (simp only [go_sem, Nat.add_assoc, reduceIte, reduceCtorEq, Nat.reduceEqDiff, Nat.reduceAdd, Nat.reduceMul, Nat.reduceSub, Nat.reduceLeDiff, Nat.reduceLT, Nat.reduceBEq, Nat.reduceBNe, Int.reduceLE, Int.reduceLT, Int.reduceToNat, Int.reduceEq, Int.reduceNe, Int.reduceNeg, Nat.reduceEqDiff, Int.reduceAdd, Int.reduceSub, Int.reduceMul, Int.cast_ofNat_Int, Int.natCast_zero, a49, s50, s47, e1, e2, g0, e3, Ce.c, By.v]; repeat' (refine kont_next ?_ <;> (try simp only [go_sem, Nat.add_assoc, reduceIte, reduceCtorEq, Nat.reduceEqDiff, Nat.reduceAdd, Nat.reduceMul, Nat.reduceSub, Nat.reduceLeDiff, Nat.reduceLT, Nat.reduceBEq, Nat.reduceBNe, Int.reduceLE, Int.reduceLT, Int.reduceToNat, Int.reduceEq, Int.reduceNe, Int.reduceNeg, Nat.reduceEqDiff, Int.reduceAdd, Int.reduceSub, Int.reduceMul, Int.cast_ofNat_Int, Int.natCast_zero, a49, s50, s47, e1, e2, g0, e3, Ce.c, By.v])))
  · have g0 : decide ((c.toNat : Int) = 0) = false := decide_eq_false (by omega)
    rw [if_neg h0]
    by_cases h1 : c.toNat = 1
    · have g1 : decide ((c.toNat : Int) = 1) = true := decide_eq_true (by omega)
      rw [if_pos h1]
      have e3 : acall S 48 [.bx [.sl k z (ofU8s l2), .b b2], .i .i64 1099511627776] = _ := e48 (bad := b2) ok2 1099511627776 (by omega)
      have ok3 := num_okS (bad := b2) ok2 1099511627776
      obtain ⟨⟨n3, l3, b3⟩, hx3⟩ : ∃ x, x = numP 1099511627776 (l2, b2) := ⟨_, rfl⟩
      rw [← hx3] at e3 ok3 ⊢
      simp only at e3 ok3 ⊢
      have e4 : acall S 48 [.bx [.sl k z (ofU8s l3), .b b3], .i .i64 2048] = _ := e48 (bad := b3) ok3 2048 (by omega)
      obtain ⟨⟨n4, l4, b4⟩, hx4⟩ : ∃ x, x = numP 2048 (l3, b3) := ⟨_, rfl⟩
      rw [← hx4] at e4 ⊢
      simp only at e4 ⊢
      refine ⟨⟨kb, ⟨.nil, 0, [], .inr rfl, fun _ => rfl⟩, n4, n3⟩, W_eq (g49 rfl ?_), by rw [← hkb]; rfl⟩
      simp only [By.v] at e1
      have hd : decide ((n4 : Int) = 0) = decide (n4 = 0) := by by_cases hz : n4 = 0 <;> simp [hz]
      cases hn : decide (n4 = 0) with
      | true => (simp only [go_sem, Nat.add_assoc, reduceIte, reduceCtorEq, Nat.reduceEqDiff, Nat.reduceAdd, Nat.reduceMul, Nat.reduceSub, Nat.reduceLeDiff, Nat.reduceLT, Nat.reduceBEq, Nat.reduceBNe, Int.reduceLE, Int.reduceLT, Int.reduceToNat, Int.reduceEq, Int.reduceNe, Int.reduceNeg, Nat.reduceEqDiff, Int.reduceAdd, Int.reduceSub, Int.reduceMul, Int.cast_ofNat_Int, Int.natCast_zero, a49, s50, s47, s48, e1, e2, g0, g1, e3, e4, Ce.c, By.v, ofU8s_nil, hd, hn]; repeat' (refine kont_next ?_ <;> (try simp only [go_sem, Nat.add_assoc, reduceIte, reduceCtorEq, Nat.reduceEqDiff, Nat.reduceAdd, Nat.reduceMul, Nat.reduceSub, Nat.reduceLeDiff, Nat.reduceLT, Nat.reduceBEq, Nat.reduceBNe, Int.reduceLE, Int.reduceLT, Int.reduceToNat, Int.reduceEq, Int.reduceNe, Int.reduceNeg, Nat.reduceEqDiff, Int.reduceAdd, Int.reduceSub, Int.reduceMul, Int.cast_ofNat_Int, Int.natCast_zero, a49, s50, s47, s48, e1, e2, g0, g1, e3, e4, Ce.c, By.v, ofU8s_nil, hd, hn])))
      | false => (simp only [go_sem, Nat.add_assoc, reduceIte, reduceCtorEq, Nat.reduceEqDiff, Nat.reduceAdd, Nat.reduceMul, Nat.reduceSub, Nat.reduceLeDiff, Nat.reduceLT, Nat.reduceBEq, Nat.reduceBNe, Int.reduceLE, Int.reduceLT, Int.reduceToNat, Int.reduceEq, Int.reduceNe, Int.reduceNeg, Nat.reduceEqDiff, Int.reduceAdd, Int.reduceSub, Int.reduceMul, Int.cast_ofNat_Int, Int.natCast_zero, a49, s50, s47, s48, e1, e2, g0, g1, e3, e4, Ce.c, By.v, ofU8s_nil, hd, hn]; repeat' (refine kont_next ?_ <;> (try simp only [go_sem, Nat.add_assoc, reduceIte, reduceCtorEq, Nat.reduceEqDiff, Nat.reduceAdd, Nat.reduceMul, Nat.reduceSub, Nat.reduceLeDiff, Nat.reduceLT, Nat.reduceBEq, Nat.reduceBNe, Int.reduceLE, Int.reduceLT, Int.reduceToNat, Int.reduceEq, Int.reduceNe, Int.reduceNeg, Nat.reduceEqDiff, Int.reduceAdd, Int.reduceSub, Int.reduceMul, Int.cast_ofNat_Int, Int.natCast_zero, a49, s50, s47, s48, e1, e2, g0, g1, e3, e4, Ce.c, By.v, ofU8s_nil, hd, hn])))
    · have g1 : decide ((c.toNat : Int) = 1) = false := decide_eq_false (by omega)
      rw [if_neg h1]
      refine ⟨⟨kb, ⟨.nil, 0, [], .inr rfl, fun _ => rfl⟩, 0, 0⟩, W_eq (g49 rfl ?_), by rw [← hkb]; rfl⟩
      simp only [By.v] at e1
      (simp only [go_sem, Nat.add_assoc, reduceIte, reduceCtorEq, Nat.reduceEqDiff, Nat.reduceAdd, Nat.reduceMul, Nat.reduceSub, Nat.reduceLeDiff, Nat.reduceLT, Nat.reduceBEq, Nat.reduceBNe, Int.reduceLE, Int.reduceLT, Int.reduceToNat, Int.reduceEq, Int.reduceNe, Int.reduceNeg, Nat.reduceEqDiff, Int.reduceAdd, Int.reduceSub, Int.reduceMul, Int.cast_ofNat_Int, Int.natCast_zero, a49, s50, s47, s48, e1, e2, g0, g1, Ce.c, By.v, ofU8s_nil]; repeat' (refine kont_next ?_ <;> (try simp only [go_sem, Nat.add_assoc, reduceIte, reduceCtorEq, Nat.reduceEqDiff, Nat.reduceAdd, Nat.reduceMul, Nat.reduceSub, Nat.reduceLeDiff, Nat.reduceLT, Nat.reduceBEq, Nat.reduceBNe, Int.reduceLE, Int.reduceLT, Int.reduceToNat, Int.reduceEq, Int.reduceNe, Int.reduceNeg, Nat.reduceEqDiff, Int.reduceAdd, Int.reduceSub, Int.reduceMul, Int.cast_ofNat_Int, Int.natCast_zero, a49, s50, s47, s48, e1, e2, g0, g1, Ce.c, By.v, ofU8s_nil])))
end Go.Proofs.Ytogjoenpliphdaa
