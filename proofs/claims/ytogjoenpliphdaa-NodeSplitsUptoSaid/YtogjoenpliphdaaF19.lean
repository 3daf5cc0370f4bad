import Derived.Test.YtogjoenpliphdaaP3
set_option linter.unusedSimpArgs false
set_option linter.unusedVariables false
set_option maxHeartbeats 8000000
set_option maxRecDepth 100000
namespace Go.Proofs.Ytogjoenpliphdaa
open Go.Abs

theorem map_get {α β : Type} {f : α → β} {l r : List α} (h : l.map f = r.map f) {k : Nat} {c d : α} (hc : l[k]? = some c) (hd : r[k]? = some d) : f c = f d := by
  have := congrArg (fun x : List β => x[k]?) h
  simp only [List.getElem?_map, hc, hd, Option.map_some, Option.some.injEq] at this
  exact this
theorem map_take {α β : Type} {f : α → β} {l r : List α} {k : Nat} {c d : α} (h : (l.take k).map f = (r.take k).map f) (hc : l[k]? = some c) (hd : r[k]? = some d) (hcd : f c = f d) : (l.take (k + 1)).map f = (r.take (k + 1)).map f := by
  rw [take_get hc, take_get hd]
  simp [h, hcd]

theorem e20 (a b : Nd) (ha : Few a) (hb : Few b) : acall S 20 [a.v, b.v] = some (.b (decide (a.p = b.p)), []) := by
  obtain ⟨a1, a2, a3⟩ := ha
  obtain ⟨b1, b2, b3⟩ := hb
  refine W_eq (g20 rfl ?_)
  by_cases hleaf : a.leaf = b.leaf
  case neg =>
    have g0 : (a.leaf == b.leaf) = false := by simpa using hleaf
    rw [decide_eq_false (fun h => hleaf (congrArg PN.leaf h))]
    (simp only [go_sem, Nat.add_assoc, reduceIte, reduceCtorEq, Nat.reduceEqDiff, Nat.reduceAdd, Nat.reduceMul, Nat.reduceSub, Nat.reduceLeDiff, Nat.reduceLT, Nat.reduceBEq, Nat.reduceBNe, Int.reduceLE, Int.reduceLT, Int.reduceToNat, Int.reduceEq, Int.reduceNe, Int.reduceNeg, Nat.reduceEqDiff, Int.reduceAdd, Int.reduceSub, Int.reduceMul, Int.cast_ofNat_Int, Int.natCast_zero, a20, Nd.v, Nd.cs, g0]; repeat' (refine kont_next ?_ <;> (try simp only [go_sem, Nat.add_assoc, reduceIte, reduceCtorEq, Nat.reduceEqDiff, Nat.reduceAdd, Nat.reduceMul, Nat.reduceSub, Nat.reduceLeDiff, Nat.reduceLT, Nat.reduceBEq, Nat.reduceBNe, Int.reduceLE, Int.reduceLT, Int.reduceToNat, Int.reduceEq, Int.reduceNe, Int.reduceNeg, Nat.reduceEqDiff, Int.reduceAdd, Int.reduceSub, Int.reduceMul, Int.cast_ofNat_Int, Int.natCast_zero, a20, Nd.v, Nd.cs, g0])))
  have g0 : (a.leaf == b.leaf) = true := by simpa using hleaf
  by_cases hc : a.cells.length = b.cells.length
  case neg =>
    have g1 : decide (¬ (a.cells.length : Int) = (b.cells.length : Int)) = true := decide_eq_true (by omega)
    rw [decide_eq_false (fun h => hc (by simpa [Nd.p] using congrArg (fun x => x.cells.length) h))]
    (simp only [go_sem, Nat.add_assoc, reduceIte, reduceCtorEq, Nat.reduceEqDiff, Nat.reduceAdd, Nat.reduceMul, Nat.reduceSub, Nat.reduceLeDiff, Nat.reduceLT, Nat.reduceBEq, Nat.reduceBNe, Int.reduceLE, Int.reduceLT, Int.reduceToNat, Int.reduceEq, Int.reduceNe, Int.reduceNeg, Nat.reduceEqDiff, Int.reduceAdd, Int.reduceSub, Int.reduceMul, Int.cast_ofNat_Int, Int.natCast_zero, a20, Nd.v, Nd.cs, g0, g1]; repeat' (refine kont_next ?_ <;> (try simp only [go_sem, Nat.add_assoc, reduceIte, reduceCtorEq, Nat.reduceEqDiff, Nat.reduceAdd, Nat.reduceMul, Nat.reduceSub, Nat.reduceLeDiff, Nat.reduceLT, Nat.reduceBEq, Nat.reduceBNe, Int.reduceLE, Int.reduceLT, Int.reduceToNat, Int.reduceEq, Int.reduceNe, Int.reduceNeg, Nat.reduceEqDiff, Int.reduceAdd, Int.reduceSub, Int.reduceMul, Int.cast_ofNat_Int, Int.natCast_zero, a20, Nd.v, Nd.cs, g0, g1])))
  have g1 : decide (¬ (a.cells.length : Int) = (b.cells.length : Int)) = false := decide_eq_false (by omega)
  by_cases hk : a.keys.length = b.keys.length
  case neg =>
    have g2 : decide (¬ (a.keys.length : Int) = (b.keys.length : Int)) = true := decide_eq_true (by omega)
    rw [decide_eq_false (fun h => hk (by simpa [Nd.p] using congrArg (fun x => x.keys.length) h))]
    (simp only [go_sem, Nat.add_assoc, reduceIte, reduceCtorEq, Nat.reduceEqDiff, Nat.reduceAdd, Nat.reduceMul, Nat.reduceSub, Nat.reduceLeDiff, Nat.reduceLT, Nat.reduceBEq, Nat.reduceBNe, Int.reduceLE, Int.reduceLT, Int.reduceToNat, Int.reduceEq, Int.reduceNe, Int.reduceNeg, Nat.reduceEqDiff, Int.reduceAdd, Int.reduceSub, Int.reduceMul, Int.cast_ofNat_Int, Int.natCast_zero, a20, Nd.v, Nd.cs, g0, g1, g2]; repeat' (refine kont_next ?_ <;> (try simp only [go_sem, Nat.add_assoc, reduceIte, reduceCtorEq, Nat.reduceEqDiff, Nat.reduceAdd, Nat.reduceMul, Nat.reduceSub, Nat.reduceLeDiff, Nat.reduceLT, Nat.reduceBEq, Nat.reduceBNe, Int.reduceLE, Int.reduceLT, Int.reduceToNat, Int.reduceEq, Int.reduceNe, Int.reduceNeg, Nat.reduceEqDiff, Int.reduceAdd, Int.reduceSub, Int.reduceMul, Int.cast_ofNat_Int, Int.natCast_zero, a20, Nd.v, Nd.cs, g0, g1, g2])))
  have g2 : decide (¬ (a.keys.length : Int) = (b.keys.length : Int)) = false := decide_eq_false (by omega)
  by_cases hi : a.kids.length = b.kids.length
  case neg =>
    have g3 : decide (¬ (a.kids.length : Int) = (b.kids.length : Int)) = true := decide_eq_true (by omega)
    rw [decide_eq_false (fun h => hi (by simpa [Nd.p] using congrArg (fun x => x.kids.length) h))]
    (simp only [go_sem, Nat.add_assoc, reduceIte, reduceCtorEq, Nat.reduceEqDiff, Nat.reduceAdd, Nat.reduceMul, Nat.reduceSub, Nat.reduceLeDiff, Nat.reduceLT, Nat.reduceBEq, Nat.reduceBNe, Int.reduceLE, Int.reduceLT, Int.reduceToNat, Int.reduceEq, Int.reduceNe, Int.reduceNeg, Nat.reduceEqDiff, Int.reduceAdd, Int.reduceSub, Int.reduceMul, Int.cast_ofNat_Int, Int.natCast_zero, a20, Nd.v, Nd.cs, g0, g1, g2, g3]; repeat' (refine kont_next ?_ <;> (try simp only [go_sem, Nat.add_assoc, reduceIte, reduceCtorEq, Nat.reduceEqDiff, Nat.reduceAdd, Nat.reduceMul, Nat.reduceSub, Nat.reduceLeDiff, Nat.reduceLT, Nat.reduceBEq, Nat.reduceBNe, Int.reduceLE, Int.reduceLT, Int.reduceToNat, Int.reduceEq, Int.reduceNe, Int.reduceNeg, Nat.reduceEqDiff, Int.reduceAdd, Int.reduceSub, Int.reduceMul, Int.cast_ofNat_Int, Int.natCast_zero, a20, Nd.v, Nd.cs, g0, g1, g2, g3])))
  have g3 : decide (¬ (a.kids.length : Int) = (b.kids.length : Int)) = false := decide_eq_false (by omega)
  (simp only [go_sem, Nat.add_assoc, reduceIte, reduceCtorEq, Nat.reduceEqDiff, Nat.reduceAdd, Nat.reduceMul, Nat.reduceSub, Nat.reduceLeDiff, Nat.reduceLT, Nat.reduceBEq, Nat.reduceBNe, Int.reduceLE, Int.reduceLT, Int.reduceToNat, Int.reduceEq, Int.reduceNe, Int.reduceNeg, Nat.reduceEqDiff, Int.reduceAdd, Int.reduceSub, Int.reduceMul, Int.cast_ofNat_Int, Int.natCast_zero, a20, Nd.v, Nd.cs, g0, g1, g2, g3]; repeat' (refine kont_next ?_ <;> (try simp only [go_sem, Nat.add_assoc, reduceIte, reduceCtorEq, Nat.reduceEqDiff, Nat.reduceAdd, Nat.reduceMul, Nat.reduceSub, Nat.reduceLeDiff, Nat.reduceLT, Nat.reduceBEq, Nat.reduceBNe, Int.reduceLE, Int.reduceLT, Int.reduceToNat, Int.reduceEq, Int.reduceNe, Int.reduceNeg, Nat.reduceEqDiff, Int.reduceAdd, Int.reduceSub, Int.reduceMul, Int.cast_ofNat_Int, Int.natCast_zero, a20, Nd.v, Nd.cs, g0, g1, g2, g3])))
  refine kloop_inv (ι := Nat) (fun k => [.bx a.cs, .bx b.cs, .i .i64 k]) (fun k => k ≤ a.cells.length ∧ (a.cells.take k).map Ce.p = (b.cells.take k).map Ce.p) (fun k => a.cells.length - k) 0 rfl ⟨by omega, rfl⟩ ?_
  rintro k ⟨hkl, hT⟩
  by_cases hlt : k < a.cells.length
  · obtain ⟨c, gc⟩ := get_lt hlt
    obtain ⟨d, gd⟩ := get_lt (show k < b.cells.length by omega)
    have hw := wrap_succ (k := k) (by omega)
    have hbt : decide ((k : Int) < (a.cells.length : Int)) = true := decide_eq_true (by omega)
    have hne : c.p ≠ d.p → decide (a.p = b.p) = false := fun hx => decide_eq_false fun h => hx (map_get (congrArg PN.cells h) gc gd)
    by_cases q1 : c.key.l = d.key.l
    case neg =>
      have r1 : decide (¬ c.key.l = d.key.l) = true := decide_eq_true q1
      rw [hne fun h => q1 (congrArg PC.key h)]
      (simp only [go_sem, Nat.add_assoc, reduceIte, reduceCtorEq, Nat.reduceEqDiff, Nat.reduceAdd, Nat.reduceMul, Nat.reduceSub, Nat.reduceLeDiff, Nat.reduceLT, Nat.reduceBEq, Nat.reduceBNe, Int.reduceLE, Int.reduceLT, Int.reduceToNat, Int.reduceEq, Int.reduceNe, Int.reduceNeg, Nat.reduceEqDiff, Int.reduceAdd, Int.reduceSub, Int.reduceMul, Int.cast_ofNat_Int, Int.natCast_zero, Nd.cs, hbt, a.okc.1, b.okc.1, gc, gd, Ce.c, By.v, c.key.ok.1, d.key.ok.1, r1]; repeat' (refine kont_next ?_ <;> (try simp only [go_sem, Nat.add_assoc, reduceIte, reduceCtorEq, Nat.reduceEqDiff, Nat.reduceAdd, Nat.reduceMul, Nat.reduceSub, Nat.reduceLeDiff, Nat.reduceLT, Nat.reduceBEq, Nat.reduceBNe, Int.reduceLE, Int.reduceLT, Int.reduceToNat, Int.reduceEq, Int.reduceNe, Int.reduceNeg, Nat.reduceEqDiff, Int.reduceAdd, Int.reduceSub, Int.reduceMul, Int.cast_ofNat_Int, Int.natCast_zero, Nd.cs, hbt, a.okc.1, b.okc.1, gc, gd, Ce.c, By.v, c.key.ok.1, d.key.ok.1, r1])))
    have r1 : decide (¬ c.key.l = d.key.l) = false := decide_eq_false (by simpa using q1)
    by_cases q2 : c.val.l = d.val.l
    case neg =>
      have r2 : decide (¬ c.val.l = d.val.l) = true := decide_eq_true q2
      rw [hne fun h => q2 (congrArg PC.val h)]
      (simp only [go_sem, Nat.add_assoc, reduceIte, reduceCtorEq, Nat.reduceEqDiff, Nat.reduceAdd, Nat.reduceMul, Nat.reduceSub, Nat.reduceLeDiff, Nat.reduceLT, Nat.reduceBEq, Nat.reduceBNe, Int.reduceLE, Int.reduceLT, Int.reduceToNat, Int.reduceEq, Int.reduceNe, Int.reduceNeg, Nat.reduceEqDiff, Int.reduceAdd, Int.reduceSub, Int.reduceMul, Int.cast_ofNat_Int, Int.natCast_zero, Nd.cs, hbt, a.okc.1, b.okc.1, gc, gd, Ce.c, By.v, c.key.ok.1, d.key.ok.1, c.val.ok.1, d.val.ok.1, r1, r2]; repeat' (refine kont_next ?_ <;> (try simp only [go_sem, Nat.add_assoc, reduceIte, reduceCtorEq, Nat.reduceEqDiff, Nat.reduceAdd, Nat.reduceMul, Nat.reduceSub, Nat.reduceLeDiff, Nat.reduceLT, Nat.reduceBEq, Nat.reduceBNe, Int.reduceLE, Int.reduceLT, Int.reduceToNat, Int.reduceEq, Int.reduceNe, Int.reduceNeg, Nat.reduceEqDiff, Int.reduceAdd, Int.reduceSub, Int.reduceMul, Int.cast_ofNat_Int, Int.natCast_zero, Nd.cs, hbt, a.okc.1, b.okc.1, gc, gd, Ce.c, By.v, c.key.ok.1, d.key.ok.1, c.val.ok.1, d.val.ok.1, r1, r2])))
    have r2 : decide (¬ c.val.l = d.val.l) = false := decide_eq_false (by simpa using q2)
    by_cases q3 : c.over = d.over
    case neg =>
      have r3 : decide (¬ c.over = d.over) = true := decide_eq_true q3
      rw [hne fun h => q3 (congrArg PC.over h)]
      (simp only [go_sem, Nat.add_assoc, reduceIte, reduceCtorEq, Nat.reduceEqDiff, Nat.reduceAdd, Nat.reduceMul, Nat.reduceSub, Nat.reduceLeDiff, Nat.reduceLT, Nat.reduceBEq, Nat.reduceBNe, Int.reduceLE, Int.reduceLT, Int.reduceToNat, Int.reduceEq, Int.reduceNe, Int.reduceNeg, Nat.reduceEqDiff, Int.reduceAdd, Int.reduceSub, Int.reduceMul, Int.cast_ofNat_Int, Int.natCast_zero, Nd.cs, hbt, a.okc.1, b.okc.1, gc, gd, Ce.c, By.v, c.key.ok.1, d.key.ok.1, c.val.ok.1, d.val.ok.1, r1, r2, r3]; repeat' (refine kont_next ?_ <;> (try simp only [go_sem, Nat.add_assoc, reduceIte, reduceCtorEq, Nat.reduceEqDiff, Nat.reduceAdd, Nat.reduceMul, Nat.reduceSub, Nat.reduceLeDiff, Nat.reduceLT, Nat.reduceBEq, Nat.reduceBNe, Int.reduceLE, Int.reduceLT, Int.reduceToNat, Int.reduceEq, Int.reduceNe, Int.reduceNeg, Nat.reduceEqDiff, Int.reduceAdd, Int.reduceSub, Int.reduceMul, Int.cast_ofNat_Int, Int.natCast_zero, Nd.cs, hbt, a.okc.1, b.okc.1, gc, gd, Ce.c, By.v, c.key.ok.1, d.key.ok.1, c.val.ok.1, d.val.ok.1, r1, r2, r3])))
    have r3 : decide (¬ c.over = d.over) = false := decide_eq_false (by simpa using q3)
    by_cases q4 : c.len = d.len
    case neg =>
      have r4 : decide (¬ c.len = d.len) = true := decide_eq_true q4
      rw [hne fun h => q4 (congrArg PC.len h)]
      (simp only [go_sem, Nat.add_assoc, reduceIte, reduceCtorEq, Nat.reduceEqDiff, Nat.reduceAdd, Nat.reduceMul, Nat.reduceSub, Nat.reduceLeDiff, Nat.reduceLT, Nat.reduceBEq, Nat.reduceBNe, Int.reduceLE, Int.reduceLT, Int.reduceToNat, Int.reduceEq, Int.reduceNe, Int.reduceNeg, Nat.reduceEqDiff, Int.reduceAdd, Int.reduceSub, Int.reduceMul, Int.cast_ofNat_Int, Int.natCast_zero, Nd.cs, hbt, a.okc.1, b.okc.1, gc, gd, Ce.c, By.v, c.key.ok.1, d.key.ok.1, c.val.ok.1, d.val.ok.1, r1, r2, r3, r4]; repeat' (refine kont_next ?_ <;> (try simp only [go_sem, Nat.add_assoc, reduceIte, reduceCtorEq, Nat.reduceEqDiff, Nat.reduceAdd, Nat.reduceMul, Nat.reduceSub, Nat.reduceLeDiff, Nat.reduceLT, Nat.reduceBEq, Nat.reduceBNe, Int.reduceLE, Int.reduceLT, Int.reduceToNat, Int.reduceEq, Int.reduceNe, Int.reduceNeg, Nat.reduceEqDiff, Int.reduceAdd, Int.reduceSub, Int.reduceMul, Int.cast_ofNat_Int, Int.natCast_zero, Nd.cs, hbt, a.okc.1, b.okc.1, gc, gd, Ce.c, By.v, c.key.ok.1, d.key.ok.1, c.val.ok.1, d.val.ok.1, r1, r2, r3, r4])))
    have r4 : decide (¬ c.len = d.len) = false := decide_eq_false (by simpa using q4)
    (simp only [go_sem, Nat.add_assoc, reduceIte, reduceCtorEq, Nat.reduceEqDiff, Nat.reduceAdd, Nat.reduceMul, Nat.reduceSub, Nat.reduceLeDiff, Nat.reduceLT, Nat.reduceBEq, Nat.reduceBNe, Int.reduceLE, Int.reduceLT, Int.reduceToNat, Int.reduceEq, Int.reduceNe, Int.reduceNeg, Nat.reduceEqDiff, Int.reduceAdd, Int.reduceSub, Int.reduceMul, Int.cast_ofNat_Int, Int.natCast_zero, Nd.cs, hbt, a.okc.1, b.okc.1, gc, gd, Ce.c, By.v, c.key.ok.1, d.key.ok.1, c.val.ok.1, d.val.ok.1, r1, r2, r3, r4, hw]; repeat' (refine kont_next ?_ <;> (try simp only [go_sem, Nat.add_assoc, reduceIte, reduceCtorEq, Nat.reduceEqDiff, Nat.reduceAdd, Nat.reduceMul, Nat.reduceSub, Nat.reduceLeDiff, Nat.reduceLT, Nat.reduceBEq, Nat.reduceBNe, Int.reduceLE, Int.reduceLT, Int.reduceToNat, Int.reduceEq, Int.reduceNe, Int.reduceNeg, Nat.reduceEqDiff, Int.reduceAdd, Int.reduceSub, Int.reduceMul, Int.cast_ofNat_Int, Int.natCast_zero, Nd.cs, hbt, a.okc.1, b.okc.1, gc, gd, Ce.c, By.v, c.key.ok.1, d.key.ok.1, c.val.ok.1, d.val.ok.1, r1, r2, r3, r4, hw])))
    exact ⟨k + 1, rfl, ⟨by omega, map_take hT gc gd (by simp [Ce.p, q1, q2, q3, q4])⟩, by omega⟩
  have hkk : k = a.cells.length := by omega
  have hcells : a.cells.map Ce.p = b.cells.map Ce.p := by
    rw [hkk, List.take_length] at hT
    rw [hT, hc, List.take_length]
  have hbf : decide ((k : Int) < (a.cells.length : Int)) = false := decide_eq_false (by omega)
  (simp only [go_sem, Nat.add_assoc, reduceIte, reduceCtorEq, Nat.reduceEqDiff, Nat.reduceAdd, Nat.reduceMul, Nat.reduceSub, Nat.reduceLeDiff, Nat.reduceLT, Nat.reduceBEq, Nat.reduceBNe, Int.reduceLE, Int.reduceLT, Int.reduceToNat, Int.reduceEq, Int.reduceNe, Int.reduceNeg, Nat.reduceEqDiff, Int.reduceAdd, Int.reduceSub, Int.reduceMul, Int.cast_ofNat_Int, Int.natCast_zero, Nd.cs, hbf]; repeat' (refine kont_next ?_ <;> (try simp only [go_sem, Nat.add_assoc, reduceIte, reduceCtorEq, Nat.reduceEqDiff, Nat.reduceAdd, Nat.reduceMul, Nat.reduceSub, Nat.reduceLeDiff, Nat.reduceLT, Nat.reduceBEq, Nat.reduceBNe, Int.reduceLE, Int.reduceLT, Int.reduceToNat, Int.reduceEq, Int.reduceNe, Int.reduceNeg, Nat.reduceEqDiff, Int.reduceAdd, Int.reduceSub, Int.reduceMul, Int.cast_ofNat_Int, Int.natCast_zero, Nd.cs, hbf])))
  clear hT hbf hlt hkl hkk
  clear k
  refine kloop_inv (ι := Nat) (fun k => [.bx a.cs, .bx b.cs, .i .i64 k]) (fun k => k ≤ a.keys.length ∧ (a.keys.take k).map By.l = (b.keys.take k).map By.l) (fun k => a.keys.length - k) 0 rfl ⟨by omega, rfl⟩ ?_
  rintro k ⟨hkl, hT⟩
  by_cases hlt : k < a.keys.length
  · obtain ⟨c, gc⟩ := get_lt hlt
    obtain ⟨d, gd⟩ := get_lt (show k < b.keys.length by omega)
    have hw := wrap_succ (k := k) (by omega)
    have hbt : decide ((k : Int) < (a.keys.length : Int)) = true := decide_eq_true (by omega)
    by_cases q1 : c.l = d.l
    case neg =>
      have r1 : decide (¬ c.l = d.l) = true := decide_eq_true q1
      rw [decide_eq_false fun h => q1 (map_get (congrArg PN.keys h) gc gd)]
      (simp only [go_sem, Nat.add_assoc, reduceIte, reduceCtorEq, Nat.reduceEqDiff, Nat.reduceAdd, Nat.reduceMul, Nat.reduceSub, Nat.reduceLeDiff, Nat.reduceLT, Nat.reduceBEq, Nat.reduceBNe, Int.reduceLE, Int.reduceLT, Int.reduceToNat, Int.reduceEq, Int.reduceNe, Int.reduceNeg, Nat.reduceEqDiff, Int.reduceAdd, Int.reduceSub, Int.reduceMul, Int.cast_ofNat_Int, Int.natCast_zero, Nd.cs, hbt, a.okk.1, b.okk.1, gc, gd, byC, By.v, c.ok.1, d.ok.1, r1]; repeat' (refine kont_next ?_ <;> (try simp only [go_sem, Nat.add_assoc, reduceIte, reduceCtorEq, Nat.reduceEqDiff, Nat.reduceAdd, Nat.reduceMul, Nat.reduceSub, Nat.reduceLeDiff, Nat.reduceLT, Nat.reduceBEq, Nat.reduceBNe, Int.reduceLE, Int.reduceLT, Int.reduceToNat, Int.reduceEq, Int.reduceNe, Int.reduceNeg, Nat.reduceEqDiff, Int.reduceAdd, Int.reduceSub, Int.reduceMul, Int.cast_ofNat_Int, Int.natCast_zero, Nd.cs, hbt, a.okk.1, b.okk.1, gc, gd, byC, By.v, c.ok.1, d.ok.1, r1])))
    have r1 : decide (¬ c.l = d.l) = false := decide_eq_false (by simpa using q1)
    (simp only [go_sem, Nat.add_assoc, reduceIte, reduceCtorEq, Nat.reduceEqDiff, Nat.reduceAdd, Nat.reduceMul, Nat.reduceSub, Nat.reduceLeDiff, Nat.reduceLT, Nat.reduceBEq, Nat.reduceBNe, Int.reduceLE, Int.reduceLT, Int.reduceToNat, Int.reduceEq, Int.reduceNe, Int.reduceNeg, Nat.reduceEqDiff, Int.reduceAdd, Int.reduceSub, Int.reduceMul, Int.cast_ofNat_Int, Int.natCast_zero, Nd.cs, hbt, a.okk.1, b.okk.1, gc, gd, byC, By.v, c.ok.1, d.ok.1, r1, hw]; repeat' (refine kont_next ?_ <;> (try simp only [go_sem, Nat.add_assoc, reduceIte, reduceCtorEq, Nat.reduceEqDiff, Nat.reduceAdd, Nat.reduceMul, Nat.reduceSub, Nat.reduceLeDiff, Nat.reduceLT, Nat.reduceBEq, Nat.reduceBNe, Int.reduceLE, Int.reduceLT, Int.reduceToNat, Int.reduceEq, Int.reduceNe, Int.reduceNeg, Nat.reduceEqDiff, Int.reduceAdd, Int.reduceSub, Int.reduceMul, Int.cast_ofNat_Int, Int.natCast_zero, Nd.cs, hbt, a.okk.1, b.okk.1, gc, gd, byC, By.v, c.ok.1, d.ok.1, r1, hw])))
    exact ⟨k + 1, rfl, ⟨by omega, map_take hT gc gd q1⟩, by omega⟩
  have hkk : k = a.keys.length := by omega
  have hkeys : a.keys.map By.l = b.keys.map By.l := by
    rw [hkk, List.take_length] at hT
    rw [hT, hk, List.take_length]
  have hbf : decide ((k : Int) < (a.keys.length : Int)) = false := decide_eq_false (by omega)
  (simp only [go_sem, Nat.add_assoc, reduceIte, reduceCtorEq, Nat.reduceEqDiff, Nat.reduceAdd, Nat.reduceMul, Nat.reduceSub, Nat.reduceLeDiff, Nat.reduceLT, Nat.reduceBEq, Nat.reduceBNe, Int.reduceLE, Int.reduceLT, Int.reduceToNat, Int.reduceEq, Int.reduceNe, Int.reduceNeg, Nat.reduceEqDiff, Int.reduceAdd, Int.reduceSub, Int.reduceMul, Int.cast_ofNat_Int, Int.natCast_zero, Nd.cs, hbf]; repeat' (refine kont_next ?_ <;> (try simp only [go_sem, Nat.add_assoc, reduceIte, reduceCtorEq, Nat.reduceEqDiff, Nat.reduceAdd, Nat.reduceMul, Nat.reduceSub, Nat.reduceLeDiff, Nat.reduceLT, Nat.reduceBEq, Nat.reduceBNe, Int.reduceLE, Int.reduceLT, Int.reduceToNat, Int.reduceEq, Int.reduceNe, Int.reduceNeg, Nat.reduceEqDiff, Int.reduceAdd, Int.reduceSub, Int.reduceMul, Int.cast_ofNat_Int, Int.natCast_zero, Nd.cs, hbf])))
  clear hT hbf hlt hkl hkk
  clear k
  refine kloop_inv (ι := Nat) (fun k => [.bx a.cs, .bx b.cs, .i .i64 k]) (fun k => k ≤ a.kids.length ∧ (a.kids.take k).map id = (b.kids.take k).map id) (fun k => a.kids.length - k) 0 rfl ⟨by omega, rfl⟩ ?_
  rintro k ⟨hkl, hT⟩
  by_cases hlt : k < a.kids.length
  · obtain ⟨c, gc⟩ := get_lt hlt
    obtain ⟨d, gd⟩ := get_lt (show k < b.kids.length by omega)
    have hw := wrap_succ (k := k) (by omega)
    have hbt : decide ((k : Int) < (a.kids.length : Int)) = true := decide_eq_true (by omega)
    by_cases q1 : c = d
    case neg =>
      have r1 : decide (¬ c = d) = true := decide_eq_true q1
      rw [decide_eq_false fun h => q1 (by
        have : a.kids = b.kids := congrArg PN.kids h
        rw [this, gd] at gc
        injection gc with gc
        exact gc.symm)]
      (simp only [go_sem, Nat.add_assoc, reduceIte, reduceCtorEq, Nat.reduceEqDiff, Nat.reduceAdd, Nat.reduceMul, Nat.reduceSub, Nat.reduceLeDiff, Nat.reduceLT, Nat.reduceBEq, Nat.reduceBNe, Int.reduceLE, Int.reduceLT, Int.reduceToNat, Int.reduceEq, Int.reduceNe, Int.reduceNeg, Nat.reduceEqDiff, Int.reduceAdd, Int.reduceSub, Int.reduceMul, Int.cast_ofNat_Int, Int.natCast_zero, Nd.cs, hbt, a.oki.1, b.oki.1, gc, gd, intC, r1]; repeat' (refine kont_next ?_ <;> (try simp only [go_sem, Nat.add_assoc, reduceIte, reduceCtorEq, Nat.reduceEqDiff, Nat.reduceAdd, Nat.reduceMul, Nat.reduceSub, Nat.reduceLeDiff, Nat.reduceLT, Nat.reduceBEq, Nat.reduceBNe, Int.reduceLE, Int.reduceLT, Int.reduceToNat, Int.reduceEq, Int.reduceNe, Int.reduceNeg, Nat.reduceEqDiff, Int.reduceAdd, Int.reduceSub, Int.reduceMul, Int.cast_ofNat_Int, Int.natCast_zero, Nd.cs, hbt, a.oki.1, b.oki.1, gc, gd, intC, r1])))
    have r1 : decide (¬ c = d) = false := decide_eq_false (by simpa using q1)
    (simp only [go_sem, Nat.add_assoc, reduceIte, reduceCtorEq, Nat.reduceEqDiff, Nat.reduceAdd, Nat.reduceMul, Nat.reduceSub, Nat.reduceLeDiff, Nat.reduceLT, Nat.reduceBEq, Nat.reduceBNe, Int.reduceLE, Int.reduceLT, Int.reduceToNat, Int.reduceEq, Int.reduceNe, Int.reduceNeg, Nat.reduceEqDiff, Int.reduceAdd, Int.reduceSub, Int.reduceMul, Int.cast_ofNat_Int, Int.natCast_zero, Nd.cs, hbt, a.oki.1, b.oki.1, gc, gd, intC, r1, hw]; repeat' (refine kont_next ?_ <;> (try simp only [go_sem, Nat.add_assoc, reduceIte, reduceCtorEq, Nat.reduceEqDiff, Nat.reduceAdd, Nat.reduceMul, Nat.reduceSub, Nat.reduceLeDiff, Nat.reduceLT, Nat.reduceBEq, Nat.reduceBNe, Int.reduceLE, Int.reduceLT, Int.reduceToNat, Int.reduceEq, Int.reduceNe, Int.reduceNeg, Nat.reduceEqDiff, Int.reduceAdd, Int.reduceSub, Int.reduceMul, Int.cast_ofNat_Int, Int.natCast_zero, Nd.cs, hbt, a.oki.1, b.oki.1, gc, gd, intC, r1, hw])))
    exact ⟨k + 1, rfl, ⟨by omega, map_take hT gc gd q1⟩, by omega⟩
  have hkk : k = a.kids.length := by omega
  have hkids : a.kids = b.kids := by
    rw [hkk, List.take_length] at hT
    simpa [hi] using hT
  have hbf : decide ((k : Int) < (a.kids.length : Int)) = false := decide_eq_false (by omega)
  have hp : a.p = b.p := by simp only [Nd.p, hleaf, hcells, hkeys, hkids]
  rw [decide_eq_true hp]
  (simp only [go_sem, Nat.add_assoc, reduceIte, reduceCtorEq, Nat.reduceEqDiff, Nat.reduceAdd, Nat.reduceMul, Nat.reduceSub, Nat.reduceLeDiff, Nat.reduceLT, Nat.reduceBEq, Nat.reduceBNe, Int.reduceLE, Int.reduceLT, Int.reduceToNat, Int.reduceEq, Int.reduceNe, Int.reduceNeg, Nat.reduceEqDiff, Int.reduceAdd, Int.reduceSub, Int.reduceMul, Int.cast_ofNat_Int, Int.natCast_zero, Nd.cs, hbf]; repeat' (refine kont_next ?_ <;> (try simp only [go_sem, Nat.add_assoc, reduceIte, reduceCtorEq, Nat.reduceEqDiff, Nat.reduceAdd, Nat.reduceMul, Nat.reduceSub, Nat.reduceLeDiff, Nat.reduceLT, Nat.reduceBEq, Nat.reduceBNe, Int.reduceLE, Int.reduceLT, Int.reduceToNat, Int.reduceEq, Int.reduceNe, Int.reduceNeg, Nat.reduceEqDiff, Int.reduceAdd, Int.reduceSub, Int.reduceMul, Int.cast_ofNat_Int, Int.natCast_zero, Nd.cs, hbf])))
end Go.Proofs.Ytogjoenpliphdaa
