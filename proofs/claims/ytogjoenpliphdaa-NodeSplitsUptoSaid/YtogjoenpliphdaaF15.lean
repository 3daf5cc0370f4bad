import Derived.Test.YtogjoenpliphdaaF14
set_option linter.unusedSimpArgs false
set_option linter.unusedVariables false
set_option maxHeartbeats 4000000
namespace Go.Proofs.Ytogjoenpliphdaa
open Go.Abs

theorem num_okS {k : SK} {z : Nat} {l : List UInt8} {bad : Bool} (h : OkS k z 1 l) (m : Nat) : OkS k z 1 (numP m (l, bad)).2.1 := by
  unfold numP; split
  · exact h
  · exact OkS.drop h _
theorem flag_okS {k : SK} {z : Nat} {l : List UInt8} {bad : Bool} (h : OkS k z 1 l) : OkS k z 1 (flagP (l, bad)).2.1 := by
  cases l <;> cases bad <;> simp only [flagP] <;> first | exact h | exact OkS.drop h 1
theorem take_okS {k : SK} {z : Nat} {l : List UInt8} {bad : Bool} (h : OkS k z 1 l) (m : Nat) : OkS k z 1 (takeP m (l, bad)).2.1 := by
  unfold takeP; split
  · exact h
  · exact OkS.drop h _
theorem bytes_okS {k : SK} {z : Nat} {l : List UInt8} {bad : Bool} (h : OkS k z 1 l) : OkS k z 1 (bytesP (l, bad)).2.1 := take_okS (num_okS h _) _
theorem num_len (m : Nat) (l : List UInt8) (bad : Bool) : (numP m (l, bad)).2.1.length ≤ l.length := by
  unfold numP; split
  · exact Nat.le_refl _
  · simp
theorem flag_len (l : List UInt8) (bad : Bool) : (flagP (l, bad)).2.1.length ≤ l.length := by cases l <;> cases bad <;> simp [flagP]
theorem take_len (m : Nat) (l : List UInt8) (bad : Bool) : (takeP m (l, bad)).2.1.length ≤ l.length := by
  unfold takeP; split
  · exact Nat.le_refl _
  · simp
theorem bytes_len (l : List UInt8) (bad : Bool) : (bytesP (l, bad)).2.1.length ≤ l.length := Nat.le_trans (take_len _ _ _) (num_len _ _ _)
theorem flag_one (l : List UInt8) (bad : Bool) : takeP 1 (l, bad) = (if (flagP (l, bad)).2.2 then ([], (flagP (l, bad)).2) else ([(flagP (l, bad)).1], (flagP (l, bad)).2)) := by
  cases l <;> cases bad <;> simp [takeP, flagP]

theorem e48 {k : SK} {z : Nat} {l : List UInt8} {bad : Bool} (h : OkS k z 1 l) (most : Nat) (hm : most < 4611686018427387904) :
    acall S 48 [.bx [.sl k z (ofU8s l), .b bad], .i .i64 most] = some (.i .i64 ((numP most (l, bad)).1 : Int), [.bx [.sl k z (ofU8s (numP most (l, bad)).2.1), .b (numP most (l, bad)).2.2]]) := by
  have e := e70 h
  unfold take3 at e
  have h1 := h.1
  have hle := takeS_le l
  have w1 : IntKind.u64.wrap (most : Int) = (most : Int) := wrap_u64 _ (by omega)
  refine W_eq (g48 rfl ?_)
  cases bad with
  | true => (simp only [go_sem, Nat.add_assoc, reduceIte, reduceCtorEq, Nat.reduceEqDiff, Nat.reduceAdd, Nat.reduceMul, Nat.reduceSub, Nat.reduceLeDiff, Nat.reduceLT, Nat.reduceBEq, Nat.reduceBNe, Int.reduceLE, Int.reduceLT, Int.reduceToNat, Int.reduceEq, Int.reduceNe, Int.reduceNeg, Nat.reduceEqDiff, Int.reduceAdd, Int.reduceSub, Int.reduceMul, Int.cast_ofNat_Int, Int.natCast_zero, a48, s70, e, num_bad]; repeat' (refine kont_next ?_ <;> (try simp only [go_sem, Nat.add_assoc, reduceIte, reduceCtorEq, Nat.reduceEqDiff, Nat.reduceAdd, Nat.reduceMul, Nat.reduceSub, Nat.reduceLeDiff, Nat.reduceLT, Nat.reduceBEq, Nat.reduceBNe, Int.reduceLE, Int.reduceLT, Int.reduceToNat, Int.reduceEq, Int.reduceNe, Int.reduceNeg, Nat.reduceEqDiff, Int.reduceAdd, Int.reduceSub, Int.reduceMul, Int.cast_ofNat_Int, Int.natCast_zero, a48, s70, e, num_bad])))
  | false =>
    by_cases h0 : (takeS l).2.2 = 0
    · have g0 : decide ((((takeS l).2.2 : Nat) : Int) = 0) = true := decide_eq_true (by omega)
      by_cases h2 : (takeS l).1 ≤ most
      · have g1 : decide ((most : Int) < ((takeS l).1 : Int)) = false := decide_eq_false (by omega)
        have w2 : IntKind.i64.wrap ((takeS l).1 : Int) = ((takeS l).1 : Int) := wrap_i64 (by omega) (by omega)
        have w3 : (0 : Int) ≤ ((takeS l).2.1 : Int) := by omega
        have hz := (OkS.drop h (takeS l).2.1).1
        (simp only [go_sem, Nat.add_assoc, reduceIte, reduceCtorEq, Nat.reduceEqDiff, Nat.reduceAdd, Nat.reduceMul, Nat.reduceSub, Nat.reduceLeDiff, Nat.reduceLT, Nat.reduceBEq, Nat.reduceBNe, Int.reduceLE, Int.reduceLT, Int.reduceToNat, Int.reduceEq, Int.reduceNe, Int.reduceNeg, Nat.reduceEqDiff, Int.reduceAdd, Int.reduceSub, Int.reduceMul, Int.cast_ofNat_Int, Int.natCast_zero, a48, s70, e, h0, w1, g1, h1, w3, hle, w2, num_ok h0 h2, sk_keep]; repeat' (refine kont_next ?_ <;> (try simp only [go_sem, Nat.add_assoc, reduceIte, reduceCtorEq, Nat.reduceEqDiff, Nat.reduceAdd, Nat.reduceMul, Nat.reduceSub, Nat.reduceLeDiff, Nat.reduceLT, Nat.reduceBEq, Nat.reduceBNe, Int.reduceLE, Int.reduceLT, Int.reduceToNat, Int.reduceEq, Int.reduceNe, Int.reduceNeg, Nat.reduceEqDiff, Int.reduceAdd, Int.reduceSub, Int.reduceMul, Int.cast_ofNat_Int, Int.natCast_zero, a48, s70, e, h0, w1, g1, h1, w3, hle, w2, num_ok h0 h2, sk_keep])))
      · have g1 : decide ((most : Int) < ((takeS l).1 : Int)) = true := decide_eq_true (by omega)
        (simp only [go_sem, Nat.add_assoc, reduceIte, reduceCtorEq, Nat.reduceEqDiff, Nat.reduceAdd, Nat.reduceMul, Nat.reduceSub, Nat.reduceLeDiff, Nat.reduceLT, Nat.reduceBEq, Nat.reduceBNe, Int.reduceLE, Int.reduceLT, Int.reduceToNat, Int.reduceEq, Int.reduceNe, Int.reduceNeg, Nat.reduceEqDiff, Int.reduceAdd, Int.reduceSub, Int.reduceMul, Int.cast_ofNat_Int, Int.natCast_zero, a48, s70, e, h0, w1, g1, num_no (.inr (show (takeS l).1 > most by omega))]; repeat' (refine kont_next ?_ <;> (try simp only [go_sem, Nat.add_assoc, reduceIte, reduceCtorEq, Nat.reduceEqDiff, Nat.reduceAdd, Nat.reduceMul, Nat.reduceSub, Nat.reduceLeDiff, Nat.reduceLT, Nat.reduceBEq, Nat.reduceBNe, Int.reduceLE, Int.reduceLT, Int.reduceToNat, Int.reduceEq, Int.reduceNe, Int.reduceNeg, Nat.reduceEqDiff, Int.reduceAdd, Int.reduceSub, Int.reduceMul, Int.cast_ofNat_Int, Int.natCast_zero, a48, s70, e, h0, w1, g1, num_no (.inr (show (takeS l).1 > most by omega))])))
    · have g0 : decide (¬ (((takeS l).2.2 : Nat) : Int) = 0) = true := decide_eq_true (by omega)
      (simp only [go_sem, Nat.add_assoc, reduceIte, reduceCtorEq, Nat.reduceEqDiff, Nat.reduceAdd, Nat.reduceMul, Nat.reduceSub, Nat.reduceLeDiff, Nat.reduceLT, Nat.reduceBEq, Nat.reduceBNe, Int.reduceLE, Int.reduceLT, Int.reduceToNat, Int.reduceEq, Int.reduceNe, Int.reduceNeg, Nat.reduceEqDiff, Int.reduceAdd, Int.reduceSub, Int.reduceMul, Int.cast_ofNat_Int, Int.natCast_zero, a48, s70, e, g0, num_no (.inl h0)]; repeat' (refine kont_next ?_ <;> (try simp only [go_sem, Nat.add_assoc, reduceIte, reduceCtorEq, Nat.reduceEqDiff, Nat.reduceAdd, Nat.reduceMul, Nat.reduceSub, Nat.reduceLeDiff, Nat.reduceLT, Nat.reduceBEq, Nat.reduceBNe, Int.reduceLE, Int.reduceLT, Int.reduceToNat, Int.reduceEq, Int.reduceNe, Int.reduceNeg, Nat.reduceEqDiff, Int.reduceAdd, Int.reduceSub, Int.reduceMul, Int.cast_ofNat_Int, Int.natCast_zero, a48, s70, e, g0, num_no (.inl h0)])))

theorem e47 {k : SK} {z : Nat} {l : List UInt8} {bad : Bool} (h : OkS k z 1 l) (hl : l.length ≤ LIM) :
    acall S 47 [.bx [.sl k z (ofU8s l), .b bad]] = some (.i .u8 ((flagP (l, bad)).1.toNat : Int), [.bx [.sl k z (ofU8s (flagP (l, bad)).2.1), .b (flagP (l, bad)).2.2]]) := by
  have e := e69 (bad := bad) h 1 hl
  rw [flag_one] at e
  refine W_eq (g47 rfl ?_)
  cases hb : (flagP (l, bad)).2.2 with
  | true =>
    have hc : (flagP (l, bad)).1 = 0 := by revert hb; cases l <;> cases bad <;> simp [flagP]
    rw [hb, if_pos rfl] at e
    have e' : acall S 69 [.bx [.sl k z (ofU8s l), .b bad], .i .i64 1] = _ := e
    (simp only [go_sem, Nat.add_assoc, reduceIte, reduceCtorEq, Nat.reduceEqDiff, Nat.reduceAdd, Nat.reduceMul, Nat.reduceSub, Nat.reduceLeDiff, Nat.reduceLT, Nat.reduceBEq, Nat.reduceBNe, Int.reduceLE, Int.reduceLT, Int.reduceToNat, Int.reduceEq, Int.reduceNe, Int.reduceNeg, Nat.reduceEqDiff, Int.reduceAdd, Int.reduceSub, Int.reduceMul, Int.cast_ofNat_Int, Int.natCast_zero, a47, s69, e', hb, hc]; repeat' (refine kont_next ?_ <;> (try simp only [go_sem, Nat.add_assoc, reduceIte, reduceCtorEq, Nat.reduceEqDiff, Nat.reduceAdd, Nat.reduceMul, Nat.reduceSub, Nat.reduceLeDiff, Nat.reduceLT, Nat.reduceBEq, Nat.reduceBNe, Int.reduceLE, Int.reduceLT, Int.reduceToNat, Int.reduceEq, Int.reduceNe, Int.reduceNeg, Nat.reduceEqDiff, Int.reduceAdd, Int.reduceSub, Int.reduceMul, Int.cast_ofNat_Int, Int.natCast_zero, a47, s69, e', hb, hc])))
    rfl
  | false =>
    rw [hb, if_neg (by simp)] at e
    have hz : takeZ 1 (l, bad) = 1 := by revert hb; cases l <;> cases bad <;> simp [flagP, takeZ]
    rw [hz] at e
    have e' : acall S 69 [.bx [.sl k z (ofU8s l), .b bad], .i .i64 1] = _ := e
    (simp only [go_sem, Nat.add_assoc, reduceIte, reduceCtorEq, Nat.reduceEqDiff, Nat.reduceAdd, Nat.reduceMul, Nat.reduceSub, Nat.reduceLeDiff, Nat.reduceLT, Nat.reduceBEq, Nat.reduceBNe, Int.reduceLE, Int.reduceLT, Int.reduceToNat, Int.reduceEq, Int.reduceNe, Int.reduceNeg, Nat.reduceEqDiff, Int.reduceAdd, Int.reduceSub, Int.reduceMul, Int.cast_ofNat_Int, Int.natCast_zero, a47, s69, e', hb, ofU8s_cons, ofU8s_nil]; repeat' (refine kont_next ?_ <;> (try simp only [go_sem, Nat.add_assoc, reduceIte, reduceCtorEq, Nat.reduceEqDiff, Nat.reduceAdd, Nat.reduceMul, Nat.reduceSub, Nat.reduceLeDiff, Nat.reduceLT, Nat.reduceBEq, Nat.reduceBNe, Int.reduceLE, Int.reduceLT, Int.reduceToNat, Int.reduceEq, Int.reduceNe, Int.reduceNeg, Nat.reduceEqDiff, Int.reduceAdd, Int.reduceSub, Int.reduceMul, Int.cast_ofNat_Int, Int.natCast_zero, a47, s69, e', hb, ofU8s_cons, ofU8s_nil])))

theorem e46 {k : SK} {z : Nat} {l : List UInt8} {bad : Bool} (h : OkS k z 1 l) (hl : l.length ≤ LIM) :
    ∃ b : By, acall S 46 [.bx [.sl k z (ofU8s l), .b bad]] = some (b.v, [.bx [.sl k z (ofU8s (bytesP (l, bad)).2.1), .b (bytesP (l, bad)).2.2]]) ∧ b.l = (bytesP (l, bad)).1 := by
  have e1 : acall S 44 [.bx [.sl k z (ofU8s l), .b bad], .i .i64 448] = _ := e44 (bad := bad) h 448 (by omega)
  have ok1 := num_okS (bad := bad) h 448
  have len1 := num_len 448 l bad
  unfold bytesP
  obtain ⟨⟨n, l1, b1⟩, hn⟩ : ∃ x, x = numP 448 (l, bad) := ⟨_, rfl⟩
  rw [← hn] at e1 ok1 len1 ⊢
  simp only at e1 ok1 len1 ⊢
  have h1 := ok1.1
  cases b1 with
  | true =>
    refine ⟨⟨.nil, 0, [], .inr rfl, fun _ => rfl⟩, W_eq (g46 rfl ?_), by simp [takeP]⟩
    (simp only [go_sem, Nat.add_assoc, reduceIte, reduceCtorEq, Nat.reduceEqDiff, Nat.reduceAdd, Nat.reduceMul, Nat.reduceSub, Nat.reduceLeDiff, Nat.reduceLT, Nat.reduceBEq, Nat.reduceBNe, Int.reduceLE, Int.reduceLT, Int.reduceToNat, Int.reduceEq, Int.reduceNe, Int.reduceNeg, Nat.reduceEqDiff, Int.reduceAdd, Int.reduceSub, Int.reduceMul, Int.cast_ofNat_Int, Int.natCast_zero, a46, s44, e1, takeP, By.v, ofU8s_nil]; repeat' (refine kont_next ?_ <;> (try simp only [go_sem, Nat.add_assoc, reduceIte, reduceCtorEq, Nat.reduceEqDiff, Nat.reduceAdd, Nat.reduceMul, Nat.reduceSub, Nat.reduceLeDiff, Nat.reduceLT, Nat.reduceBEq, Nat.reduceBNe, Int.reduceLE, Int.reduceLT, Int.reduceToNat, Int.reduceEq, Int.reduceNe, Int.reduceNeg, Nat.reduceEqDiff, Int.reduceAdd, Int.reduceSub, Int.reduceMul, Int.cast_ofNat_Int, Int.natCast_zero, a46, s44, e1, takeP, By.v, ofU8s_nil])))
  | false =>
    by_cases hle : n ≤ l1.length
    · have hp : takeP n (l1, false) = (l1.take n, (l1.drop n, false)) := by unfold takeP; rw [if_neg (by simp; omega)]
      have g1 : decide ((l1.length : Int) < (n : Int)) = false := decide_eq_false (by omega)
      have g2 : (0 : Int) ≤ (n : Int) := by omega
      have g3 : (l1.take n).length ≤ LIM := by rw [List.length_take]; omega
      have okt : OkS (if k = .nil then SK.nil else .full) z 1 (l1.take n) := by
        have h4 := OkS.take ok1 n
        refine ⟨h4.1, fun hk => h4.2 ?_⟩
        cases k <;> simp at hk ⊢
      have e2 := e68 okt g3
      have hbk : decide ((if k = .nil then SK.nil else .full) = SK.nil) = decide (k = .nil) := by cases k <;> rfl
      rw [hbk] at e2
      rw [hp]
      refine ⟨⟨skOf (decide (k = .nil)), 1, l1.take n, .inl rfl, fun hk => ?_⟩, W_eq (g46 rfl ?_), rfl⟩
      · refine (OkS.take ok1 n).2 ?_
        cases k <;> simp [skOf] at hk ⊢
      · (simp only [go_sem, Nat.add_assoc, reduceIte, reduceCtorEq, Nat.reduceEqDiff, Nat.reduceAdd, Nat.reduceMul, Nat.reduceSub, Nat.reduceLeDiff, Nat.reduceLT, Nat.reduceBEq, Nat.reduceBNe, Int.reduceLE, Int.reduceLT, Int.reduceToNat, Int.reduceEq, Int.reduceNe, Int.reduceNeg, Nat.reduceEqDiff, Int.reduceAdd, Int.reduceSub, Int.reduceMul, Int.cast_ofNat_Int, Int.natCast_zero, a46, s44, e1, g1, h1, g2, hle, s68, e2, By.v, sk_keep]; repeat' (refine kont_next ?_ <;> (try simp only [go_sem, Nat.add_assoc, reduceIte, reduceCtorEq, Nat.reduceEqDiff, Nat.reduceAdd, Nat.reduceMul, Nat.reduceSub, Nat.reduceLeDiff, Nat.reduceLT, Nat.reduceBEq, Nat.reduceBNe, Int.reduceLE, Int.reduceLT, Int.reduceToNat, Int.reduceEq, Int.reduceNe, Int.reduceNeg, Nat.reduceEqDiff, Int.reduceAdd, Int.reduceSub, Int.reduceMul, Int.cast_ofNat_Int, Int.natCast_zero, a46, s44, e1, g1, h1, g2, hle, s68, e2, By.v, sk_keep])))
    · have hp : takeP n (l1, false) = ([], (l1, true)) := by unfold takeP; rw [if_pos (.inr (by simp; omega))]
      have g1 : decide ((l1.length : Int) < (n : Int)) = true := decide_eq_true (by omega)
      rw [hp]
      refine ⟨⟨.nil, 0, [], .inr rfl, fun _ => rfl⟩, W_eq (g46 rfl ?_), rfl⟩
      (simp only [go_sem, Nat.add_assoc, reduceIte, reduceCtorEq, Nat.reduceEqDiff, Nat.reduceAdd, Nat.reduceMul, Nat.reduceSub, Nat.reduceLeDiff, Nat.reduceLT, Nat.reduceBEq, Nat.reduceBNe, Int.reduceLE, Int.reduceLT, Int.reduceToNat, Int.reduceEq, Int.reduceNe, Int.reduceNeg, Nat.reduceEqDiff, Int.reduceAdd, Int.reduceSub, Int.reduceMul, Int.cast_ofNat_Int, Int.natCast_zero, a46, s44, e1, g1, By.v, ofU8s_nil]; repeat' (refine kont_next ?_ <;> (try simp only [go_sem, Nat.add_assoc, reduceIte, reduceCtorEq, Nat.reduceEqDiff, Nat.reduceAdd, Nat.reduceMul, Nat.reduceSub, Nat.reduceLeDiff, Nat.reduceLT, Nat.reduceBEq, Nat.reduceBNe, Int.reduceLE, Int.reduceLT, Int.reduceToNat, Int.reduceEq, Int.reduceNe, Int.reduceNeg, Nat.reduceEqDiff, Int.reduceAdd, Int.reduceSub, Int.reduceMul, Int.cast_ofNat_Int, Int.natCast_zero, a46, s44, e1, g1, By.v, ofU8s_nil])))

theorem e50 {k : SK} {z : Nat} {l : List UInt8} {bad : Bool} (h : OkS k z 1 l) (hl : l.length ≤ LIM) :
    ∃ b : By, acall S 50 [.bx [.sl k z (ofU8s l), .b bad]] = some (b.v, [.bx [.sl k z (ofU8s (bytesP (l, bad)).2.1), .b (bytesP (l, bad)).2.2]]) ∧ b.l = (bytesP (l, bad)).1 := by
  have e1 : acall S 48 [.bx [.sl k z (ofU8s l), .b bad], .i .i64 448] = _ := e48 (bad := bad) h 448 (by omega)
  have ok1 := num_okS (bad := bad) h 448
  have len1 := num_len 448 l bad
  unfold bytesP
  obtain ⟨⟨n, l1, b1⟩, hn⟩ : ∃ x, x = numP 448 (l, bad) := ⟨_, rfl⟩
  rw [← hn] at e1 ok1 len1 ⊢
  simp only at e1 ok1 len1 ⊢
  have e2 := e69 (bad := b1) ok1 n (by omega)
  refine ⟨⟨skOf (takeP n (l1, b1)).1.isEmpty, takeZ n (l1, b1), (takeP n (l1, b1)).1, ?_, fun hk => ?_⟩, W_eq (g50 rfl ?_), rfl⟩
  · unfold takeZ takeP; split
    · exact .inr rfl
    · exact .inl rfl
  · cases hx : (takeP n (l1, b1)).1 with
    | nil => rfl
    | cons a r => rw [hx] at hk; cases hk
  · (simp only [go_sem, Nat.add_assoc, reduceIte, reduceCtorEq, Nat.reduceEqDiff, Nat.reduceAdd, Nat.reduceMul, Nat.reduceSub, Nat.reduceLeDiff, Nat.reduceLT, Nat.reduceBEq, Nat.reduceBNe, Int.reduceLE, Int.reduceLT, Int.reduceToNat, Int.reduceEq, Int.reduceNe, Int.reduceNeg, Nat.reduceEqDiff, Int.reduceAdd, Int.reduceSub, Int.reduceMul, Int.cast_ofNat_Int, Int.natCast_zero, a50, s48, e1, s69, e2, By.v]; repeat' (refine kont_next ?_ <;> (try simp only [go_sem, Nat.add_assoc, reduceIte, reduceCtorEq, Nat.reduceEqDiff, Nat.reduceAdd, Nat.reduceMul, Nat.reduceSub, Nat.reduceLeDiff, Nat.reduceLT, Nat.reduceBEq, Nat.reduceBNe, Int.reduceLE, Int.reduceLT, Int.reduceToNat, Int.reduceEq, Int.reduceNe, Int.reduceNeg, Nat.reduceEqDiff, Int.reduceAdd, Int.reduceSub, Int.reduceMul, Int.cast_ofNat_Int, Int.natCast_zero, a50, s48, e1, s69, e2, By.v])))
end Go.Proofs.Ytogjoenpliphdaa
