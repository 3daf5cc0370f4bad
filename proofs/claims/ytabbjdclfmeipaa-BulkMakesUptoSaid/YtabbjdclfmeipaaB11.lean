/-
  The reference's answers: many bags; some times; each once; of values; a value more.
-/
import Derived.Test.YtabbjdclfmeipaaB10
set_option linter.unusedSimpArgs false
set_option linter.unusedVariables false
set_option maxHeartbeats 8000000
set_option maxRecDepth 100000
namespace Go.Proofs.Ytabbjdclfmeipaa
open Go.Abs

theorem pos_fits {b : PB} (hb : Ok b) {n : Int} (h0 : 0 ≤ n) (h1 : n ≤ MC) : ∀ x ∈ b, -9223372036854775808 ≤ x.2 + n ∧ x.2 + n < 9223372036854775808 := fun x hx => by
  have hMC : MC = 9007199254740992 := rfl
  have := hb.pos x hx
  have := mem_tot hb.pos x hx
  have := hb.tot
  omega
/-- a bag of one's own, or one that is only read -/
def slotA : Bool → List (Vl × Int) → AV
  | true, u => rowU u
  | false, u => .sl .open_ 5 (u.map cC)
theorem e21 {k : SK} {z : Nat} {l : List (Vl × Int)} (h : OkL k z l) {k2 : SK} {z2 : Nat} {L : List Bg} (h2 : OkS k2 z2 1 L) (hL : ∀ b ∈ L, b.ok) (hn : l.length + lens L ≤ 68719476736) (hLl : L.length ≤ 68719476736) :
    ∃ g : Bg, acall S 21 [.sl k z (l.map cC), .sl k2 z2 (L.map Bg.c)] = some (.tup [g.a, .i .i64 (errB (addsB (mayB (cPs l)) (L.map Bg.p)))], []) ∧ g.ok ∧ g.p = outB (addsB (mayB (cPs l)) (L.map Bg.p)) ∧ g.l.length ≤ l.length + lens L := by
  have hMC : MC = 9007199254740992 := rfl
  obtain ⟨u0, e0, p0, o0, n0⟩ := e38 h
  have hok0 := ok_mayB (cPs l)
  suffices hW : W (acall S 21 [.sl k z (l.map cC), .sl k2 z2 (L.map Bg.c)]) (fun r => ∃ g : Bg, r = (.tup [g.a, .i .i64 (errB (addsB (mayB (cPs l)) (L.map Bg.p)))], []) ∧ g.ok ∧ g.p = outB (addsB (mayB (cPs l)) (L.map Bg.p)) ∧ g.l.length ≤ l.length + lens L) by
    obtain ⟨r, h1, g, rfl, h2⟩ := hW
    exact ⟨g, h1, h2⟩
  refine g21 rfl ?_
  generalize mayB (cPs l) = B at *
  (simp only [go_sem, Nat.add_assoc, reduceIte, reduceCtorEq, Nat.reduceEqDiff, Nat.reduceAdd, Nat.reduceMul, Nat.reduceSub, Nat.reduceLeDiff, Nat.reduceLT, Nat.reduceBEq, Nat.reduceBNe, Int.reduceLE, Int.reduceLT, Int.reduceToNat, Int.reduceEq, Int.reduceNe, Int.reduceNeg, Nat.reduceEqDiff, Int.reduceAdd, Int.reduceSub, Int.reduceMul, Int.cast_ofNat_Int, Int.natCast_zero, a21, s38, e0]; repeat' ((first | refine kont_next ?_ | refine kont_nextn ?_ | refine ikont_next ?_ | refine ikont_nextn ?_) <;> (try simp only [go_sem, Nat.add_assoc, reduceIte, reduceCtorEq, Nat.reduceEqDiff, Nat.reduceAdd, Nat.reduceMul, Nat.reduceSub, Nat.reduceLeDiff, Nat.reduceLT, Nat.reduceBEq, Nat.reduceBNe, Int.reduceLE, Int.reduceLT, Int.reduceToNat, Int.reduceEq, Int.reduceNe, Int.reduceNeg, Nat.reduceEqDiff, Int.reduceAdd, Int.reduceSub, Int.reduceMul, Int.cast_ofNat_Int, Int.natCast_zero, a21, s38, e0])))
  refine kloop_inv (ι := Bool × List (Vl × Int) × Nat) (fun x => [slotA x.1 x.2.1, .sl k2 z2 (L.map Bg.c), .i .i64 x.2.2])
    (fun x => x.2.2 ≤ L.length ∧ (∀ y ∈ x.2.1, y.1.ok) ∧ Ok (cPs x.2.1) ∧ x.2.1.length + lens (L.drop x.2.2) ≤ l.length + lens L ∧ addsB (cPs x.2.1) ((L.drop x.2.2).map Bg.p) = addsB B (L.map Bg.p)) (fun x => L.length - x.2.2) (true, u0, 0) (by simp [slotA]) ⟨by simp, o0.ok, by rw [p0]; exact hok0, by simp; omega, by rw [p0]; rfl⟩ ?_
  rintro ⟨q, u, i⟩ ⟨hi, huo, hub, hlen, hT⟩
  simp only at hi huo hub hlen hT
  by_cases hlt : i < L.length
  · obtain ⟨b, gb⟩ := get_lt3 hlt
    have g1 : decide ((i : Int) < (L.length : Int)) = true := decide_eq_true (by omega)
    have b1 : (0 : Int) ≤ (i : Int) := by omega
    have hw := wrap_succ (k := i) (by omega)
    have hlg := lens_get gb
    rw [drop_get3 gb, List.map_cons] at hT
    simp only [addsB] at hT
    have hbo : b.ok := hL b (List.mem_of_getElem? gb)
    obtain ⟨w, ew, pw, ow, nw⟩ := e38 hbo
    have hwb : Ok (cPs w) := by rw [pw]; exact ok_mayB _
    have et := e28 ow.l
    have huU : OkU u := ⟨by omega, huo⟩
    have hu2 : OkL .open_ 5 u := ⟨OkS.open_ 5 u, by omega, huo⟩
    have eu := e28 huU.l
    have eu2 := e28 hu2
    rw [mayB_ok hwb] at et
    rw [mayB_ok hub] at eu eu2
    have hbp : b.p = cPs b.l := rfl
    rw [hbp, ← pw] at hT
    obtain ⟨bk, bz, bl⟩ := b
    simp only at ew hlg pw nw
    have ht1 := hub.tot
    have ht2 := tot_nonneg hub.pos
    have hws : IntKind.i64.wrap (9007199254740992 - totB (cPs u)) = 9007199254740992 - totB (cPs u) := wrap_i64 (by omega) (by omega)
    by_cases hov : 9007199254740992 - totB (cPs u) < totB (cPs w)
    · have g2 := decide_eq_true hov
      rw [if_pos (by omega)] at hT
      rw [← hT]
      cases q with
      | true =>
        (simp only [go_sem, Nat.add_assoc, reduceIte, reduceCtorEq, Nat.reduceEqDiff, Nat.reduceAdd, Nat.reduceMul, Nat.reduceSub, Nat.reduceLeDiff, Nat.reduceLT, Nat.reduceBEq, Nat.reduceBNe, Int.reduceLE, Int.reduceLT, Int.reduceToNat, Int.reduceEq, Int.reduceNe, Int.reduceNeg, Nat.reduceEqDiff, Int.reduceAdd, Int.reduceSub, Int.reduceMul, Int.cast_ofNat_Int, Int.natCast_zero, g1, b1, gb, h2.1, Bg.c, Bg.a, slotA, s38, ew, s28, et, eu, hws, g2]; repeat' ((first | refine kont_next ?_ | refine kont_nextn ?_ | refine ikont_next ?_ | refine ikont_nextn ?_) <;> (try simp only [go_sem, Nat.add_assoc, reduceIte, reduceCtorEq, Nat.reduceEqDiff, Nat.reduceAdd, Nat.reduceMul, Nat.reduceSub, Nat.reduceLeDiff, Nat.reduceLT, Nat.reduceBEq, Nat.reduceBNe, Int.reduceLE, Int.reduceLT, Int.reduceToNat, Int.reduceEq, Int.reduceNe, Int.reduceNeg, Nat.reduceEqDiff, Int.reduceAdd, Int.reduceSub, Int.reduceMul, Int.cast_ofNat_Int, Int.natCast_zero, g1, b1, gb, h2.1, Bg.c, Bg.a, slotA, s38, ew, s28, et, eu, hws, g2])))
        exact ⟨⟨.nil, 0, []⟩, rfl, ok_nilB, rfl, by simp⟩
      | false =>
        (simp only [go_sem, Nat.add_assoc, reduceIte, reduceCtorEq, Nat.reduceEqDiff, Nat.reduceAdd, Nat.reduceMul, Nat.reduceSub, Nat.reduceLeDiff, Nat.reduceLT, Nat.reduceBEq, Nat.reduceBNe, Int.reduceLE, Int.reduceLT, Int.reduceToNat, Int.reduceEq, Int.reduceNe, Int.reduceNeg, Nat.reduceEqDiff, Int.reduceAdd, Int.reduceSub, Int.reduceMul, Int.cast_ofNat_Int, Int.natCast_zero, g1, b1, gb, h2.1, Bg.c, Bg.a, slotA, s38, ew, s28, et, eu2, hws, g2]; repeat' ((first | refine kont_next ?_ | refine kont_nextn ?_ | refine ikont_next ?_ | refine ikont_nextn ?_) <;> (try simp only [go_sem, Nat.add_assoc, reduceIte, reduceCtorEq, Nat.reduceEqDiff, Nat.reduceAdd, Nat.reduceMul, Nat.reduceSub, Nat.reduceLeDiff, Nat.reduceLT, Nat.reduceBEq, Nat.reduceBNe, Int.reduceLE, Int.reduceLT, Int.reduceToNat, Int.reduceEq, Int.reduceNe, Int.reduceNeg, Nat.reduceEqDiff, Int.reduceAdd, Int.reduceSub, Int.reduceMul, Int.cast_ofNat_Int, Int.natCast_zero, g1, b1, gb, h2.1, Bg.c, Bg.a, slotA, s38, ew, s28, et, eu2, hws, g2])))
        exact ⟨⟨.nil, 0, []⟩, rfl, ok_nilB, rfl, by simp⟩
    · have g2 := decide_eq_false hov
      rw [if_neg (by omega)] at hT
      cases q with
      | true =>
        (simp only [go_sem, Nat.add_assoc, reduceIte, reduceCtorEq, Nat.reduceEqDiff, Nat.reduceAdd, Nat.reduceMul, Nat.reduceSub, Nat.reduceLeDiff, Nat.reduceLT, Nat.reduceBEq, Nat.reduceBNe, Int.reduceLE, Int.reduceLT, Int.reduceToNat, Int.reduceEq, Int.reduceNe, Int.reduceNeg, Nat.reduceEqDiff, Int.reduceAdd, Int.reduceSub, Int.reduceMul, Int.cast_ofNat_Int, Int.natCast_zero, g1, b1, gb, h2.1, Bg.c, Bg.a, slotA, s38, ew, s28, et, eu, hws, g2]; repeat' ((first | refine kont_next ?_ | refine kont_nextn ?_ | refine ikont_next ?_ | refine ikont_nextn ?_) <;> (try simp only [go_sem, Nat.add_assoc, reduceIte, reduceCtorEq, Nat.reduceEqDiff, Nat.reduceAdd, Nat.reduceMul, Nat.reduceSub, Nat.reduceLeDiff, Nat.reduceLT, Nat.reduceBEq, Nat.reduceBNe, Int.reduceLE, Int.reduceLT, Int.reduceToNat, Int.reduceEq, Int.reduceNe, Int.reduceNeg, Nat.reduceEqDiff, Int.reduceAdd, Int.reduceSub, Int.reduceMul, Int.cast_ofNat_Int, Int.natCast_zero, g1, b1, gb, h2.1, Bg.c, Bg.a, slotA, s38, ew, s28, et, eu, hws, g2])))
        refine kloop_inv (ι := Bool × List (Vl × Int) × Nat) (fun x => [slotA x.1 x.2.1, .sl k2 z2 (L.map Bg.c), .i .i64 i, rowU w, .i .i64 x.2.2])
          (fun x => x.2.2 ≤ w.length ∧ (∀ y ∈ x.2.1, y.1.ok) ∧ Ok (cPs x.2.1) ∧ x.2.1.length + (w.length - x.2.2) + lens (L.drop (i + 1)) ≤ l.length + lens L ∧ totB (cPs x.2.1) + totB ((cPs w).drop x.2.2) ≤ MC ∧ addB (cPs x.2.1) ((cPs w).drop x.2.2) = addB (cPs u) (cPs w)) (fun x => w.length - x.2.2) (true, u, 0) (by simp [slotA]) ⟨by simp, huo, hub, by simp; omega, by simp only [List.drop_zero]; omega, rfl⟩ ?_
        rintro ⟨q2, v, j⟩ ⟨hj, hvo, hvb, hvl, hvt, hvT⟩
        simp only at hj hvo hvb hvl hvt hvT
        have hvU : OkU v := ⟨by omega, hvo⟩
        have hv2 : OkL .open_ 5 v := ⟨OkS.open_ 5 v, by omega, hvo⟩
        by_cases hjl : j < w.length
        · obtain ⟨⟨c, m⟩, gc⟩ := get_lt3 hjl
          have g3 : decide ((j : Int) < (w.length : Int)) = true := decide_eq_true (by omega)
          have b3 : (0 : Int) ≤ (j : Int) := by omega
          have b4 : (j : Int) < (w.length : Int) := by omega
          have hwj := wrap_succ (k := j) (by have := ow.ln; omega)
          have gp := cPs_get gc
          have hmem := List.mem_of_getElem? gp
          have hm1 := hwb.pos _ hmem
          have hm2 := mem_tot hwb.pos _ hmem
          have hm3 := hwb.may _ hmem
          have hm4 := hwb.tot
          rw [drop_get3 gp] at hvT hvt
          simp only [cP] at hm1 hm2 hm3 hvT hvt gp
          rw [addB_cons] at hvT
          simp only [totB] at hvt
          have hdn := tot_nonneg (b := (cPs w).drop (j + 1)) fun y hy => hwb.pos y (List.mem_of_mem_drop hy)
          have hfit := pos_fits (n := m) hvb (by omega) (by omega)
          have hco := ow.ok _ (List.mem_of_getElem? gc)
          have hlv := len_put c.p m (cPs v)
          simp only [List.length_map] at hlv
          cases q2 with
          | true =>
            obtain ⟨v', ev, pv, ov⟩ := e50 hvU.l c hco m hfit
            rw [← pv] at hlv
            simp only [List.length_map] at hlv
            obtain ⟨ck, cn, cs, ckk, cz, cl⟩ := c
            simp only [Vl.c] at ev
            (simp only [go_sem, Nat.add_assoc, reduceIte, reduceCtorEq, Nat.reduceEqDiff, Nat.reduceAdd, Nat.reduceMul, Nat.reduceSub, Nat.reduceLeDiff, Nat.reduceLT, Nat.reduceBEq, Nat.reduceBNe, Int.reduceLE, Int.reduceLT, Int.reduceToNat, Int.reduceEq, Int.reduceNe, Int.reduceNeg, Nat.reduceEqDiff, Int.reduceAdd, Int.reduceSub, Int.reduceMul, Int.cast_ofNat_Int, Int.natCast_zero, g3, b3, b4, hjl, List.length_map, gc, cC, slotA, s50, ev, hwj]; repeat' ((first | refine kont_next ?_ | refine kont_nextn ?_ | refine ikont_next ?_ | refine ikont_nextn ?_) <;> (try simp only [go_sem, Nat.add_assoc, reduceIte, reduceCtorEq, Nat.reduceEqDiff, Nat.reduceAdd, Nat.reduceMul, Nat.reduceSub, Nat.reduceLeDiff, Nat.reduceLT, Nat.reduceBEq, Nat.reduceBNe, Int.reduceLE, Int.reduceLT, Int.reduceToNat, Int.reduceEq, Int.reduceNe, Int.reduceNeg, Nat.reduceEqDiff, Int.reduceAdd, Int.reduceSub, Int.reduceMul, Int.cast_ofNat_Int, Int.natCast_zero, g3, b3, b4, hjl, List.length_map, gc, cC, slotA, s50, ev, hwj])))
            exact ⟨(false, v', j + 1), rfl, ⟨by simp only; omega, ov, by simp only; rw [pv]; exact ok_put hvb hm3 hm1 (by omega), by simp only; omega, by simp only; rw [pv, tot_put]; omega, by simp only; rw [pv]; exact hvT⟩, by simp only; omega⟩
          | false =>
            obtain ⟨v', ev, pv, ov⟩ := e50 hv2 c hco m hfit
            rw [← pv] at hlv
            simp only [List.length_map] at hlv
            obtain ⟨ck, cn, cs, ckk, cz, cl⟩ := c
            simp only [Vl.c] at ev
            (simp only [go_sem, Nat.add_assoc, reduceIte, reduceCtorEq, Nat.reduceEqDiff, Nat.reduceAdd, Nat.reduceMul, Nat.reduceSub, Nat.reduceLeDiff, Nat.reduceLT, Nat.reduceBEq, Nat.reduceBNe, Int.reduceLE, Int.reduceLT, Int.reduceToNat, Int.reduceEq, Int.reduceNe, Int.reduceNeg, Nat.reduceEqDiff, Int.reduceAdd, Int.reduceSub, Int.reduceMul, Int.cast_ofNat_Int, Int.natCast_zero, g3, b3, b4, hjl, List.length_map, gc, cC, slotA, s50, ev, hwj]; repeat' ((first | refine kont_next ?_ | refine kont_nextn ?_ | refine ikont_next ?_ | refine ikont_nextn ?_) <;> (try simp only [go_sem, Nat.add_assoc, reduceIte, reduceCtorEq, Nat.reduceEqDiff, Nat.reduceAdd, Nat.reduceMul, Nat.reduceSub, Nat.reduceLeDiff, Nat.reduceLT, Nat.reduceBEq, Nat.reduceBNe, Int.reduceLE, Int.reduceLT, Int.reduceToNat, Int.reduceEq, Int.reduceNe, Int.reduceNeg, Nat.reduceEqDiff, Int.reduceAdd, Int.reduceSub, Int.reduceMul, Int.cast_ofNat_Int, Int.natCast_zero, g3, b3, b4, hjl, List.length_map, gc, cC, slotA, s50, ev, hwj])))
            exact ⟨(false, v', j + 1), rfl, ⟨by simp only; omega, ov, by simp only; rw [pv]; exact ok_put hvb hm3 hm1 (by omega), by simp only; omega, by simp only; rw [pv, tot_put]; omega, by simp only; rw [pv]; exact hvT⟩, by simp only; omega⟩
        · have g3 : decide ((j : Int) < (w.length : Int)) = false := decide_eq_false (by omega)
          rw [List.drop_of_length_le (by simp; omega)] at hvT
          have hvT' : cPs v = addB (cPs u) (cPs w) := hvT
          have hfin : addsB (cPs v) ((L.drop (i + 1)).map Bg.p) = addsB B (L.map Bg.p) := by rw [hvT']; exact hT
          cases q2 with
          | true =>
            (simp only [go_sem, Nat.add_assoc, reduceIte, reduceCtorEq, Nat.reduceEqDiff, Nat.reduceAdd, Nat.reduceMul, Nat.reduceSub, Nat.reduceLeDiff, Nat.reduceLT, Nat.reduceBEq, Nat.reduceBNe, Int.reduceLE, Int.reduceLT, Int.reduceToNat, Int.reduceEq, Int.reduceNe, Int.reduceNeg, Nat.reduceEqDiff, Int.reduceAdd, Int.reduceSub, Int.reduceMul, Int.cast_ofNat_Int, Int.natCast_zero, g3, hw, slotA]; repeat' ((first | refine kont_next ?_ | refine kont_nextn ?_ | refine ikont_next ?_ | refine ikont_nextn ?_) <;> (try simp only [go_sem, Nat.add_assoc, reduceIte, reduceCtorEq, Nat.reduceEqDiff, Nat.reduceAdd, Nat.reduceMul, Nat.reduceSub, Nat.reduceLeDiff, Nat.reduceLT, Nat.reduceBEq, Nat.reduceBNe, Int.reduceLE, Int.reduceLT, Int.reduceToNat, Int.reduceEq, Int.reduceNe, Int.reduceNeg, Nat.reduceEqDiff, Int.reduceAdd, Int.reduceSub, Int.reduceMul, Int.cast_ofNat_Int, Int.natCast_zero, g3, hw, slotA])))
            exact ⟨(true, v, i + 1), rfl, ⟨by simp only; omega, hvo, hvb, by simp only; omega, hfin⟩, by simp only; omega⟩
          | false =>
            (simp only [go_sem, Nat.add_assoc, reduceIte, reduceCtorEq, Nat.reduceEqDiff, Nat.reduceAdd, Nat.reduceMul, Nat.reduceSub, Nat.reduceLeDiff, Nat.reduceLT, Nat.reduceBEq, Nat.reduceBNe, Int.reduceLE, Int.reduceLT, Int.reduceToNat, Int.reduceEq, Int.reduceNe, Int.reduceNeg, Nat.reduceEqDiff, Int.reduceAdd, Int.reduceSub, Int.reduceMul, Int.cast_ofNat_Int, Int.natCast_zero, g3, hw, slotA]; repeat' ((first | refine kont_next ?_ | refine kont_nextn ?_ | refine ikont_next ?_ | refine ikont_nextn ?_) <;> (try simp only [go_sem, Nat.add_assoc, reduceIte, reduceCtorEq, Nat.reduceEqDiff, Nat.reduceAdd, Nat.reduceMul, Nat.reduceSub, Nat.reduceLeDiff, Nat.reduceLT, Nat.reduceBEq, Nat.reduceBNe, Int.reduceLE, Int.reduceLT, Int.reduceToNat, Int.reduceEq, Int.reduceNe, Int.reduceNeg, Nat.reduceEqDiff, Int.reduceAdd, Int.reduceSub, Int.reduceMul, Int.cast_ofNat_Int, Int.natCast_zero, g3, hw, slotA])))
            exact ⟨(false, v, i + 1), rfl, ⟨by simp only; omega, hvo, hvb, by simp only; omega, hfin⟩, by simp only; omega⟩
      | false =>
        (simp only [go_sem, Nat.add_assoc, reduceIte, reduceCtorEq, Nat.reduceEqDiff, Nat.reduceAdd, Nat.reduceMul, Nat.reduceSub, Nat.reduceLeDiff, Nat.reduceLT, Nat.reduceBEq, Nat.reduceBNe, Int.reduceLE, Int.reduceLT, Int.reduceToNat, Int.reduceEq, Int.reduceNe, Int.reduceNeg, Nat.reduceEqDiff, Int.reduceAdd, Int.reduceSub, Int.reduceMul, Int.cast_ofNat_Int, Int.natCast_zero, g1, b1, gb, h2.1, Bg.c, Bg.a, slotA, s38, ew, s28, et, eu2, hws, g2]; repeat' ((first | refine kont_next ?_ | refine kont_nextn ?_ | refine ikont_next ?_ | refine ikont_nextn ?_) <;> (try simp only [go_sem, Nat.add_assoc, reduceIte, reduceCtorEq, Nat.reduceEqDiff, Nat.reduceAdd, Nat.reduceMul, Nat.reduceSub, Nat.reduceLeDiff, Nat.reduceLT, Nat.reduceBEq, Nat.reduceBNe, Int.reduceLE, Int.reduceLT, Int.reduceToNat, Int.reduceEq, Int.reduceNe, Int.reduceNeg, Nat.reduceEqDiff, Int.reduceAdd, Int.reduceSub, Int.reduceMul, Int.cast_ofNat_Int, Int.natCast_zero, g1, b1, gb, h2.1, Bg.c, Bg.a, slotA, s38, ew, s28, et, eu2, hws, g2])))
        refine kloop_inv (ι := Bool × List (Vl × Int) × Nat) (fun x => [slotA x.1 x.2.1, .sl k2 z2 (L.map Bg.c), .i .i64 i, rowU w, .i .i64 x.2.2])
          (fun x => x.2.2 ≤ w.length ∧ (∀ y ∈ x.2.1, y.1.ok) ∧ Ok (cPs x.2.1) ∧ x.2.1.length + (w.length - x.2.2) + lens (L.drop (i + 1)) ≤ l.length + lens L ∧ totB (cPs x.2.1) + totB ((cPs w).drop x.2.2) ≤ MC ∧ addB (cPs x.2.1) ((cPs w).drop x.2.2) = addB (cPs u) (cPs w)) (fun x => w.length - x.2.2) (false, u, 0) (by simp [slotA]) ⟨by simp, huo, hub, by simp; omega, by simp only [List.drop_zero]; omega, rfl⟩ ?_
        rintro ⟨q2, v, j⟩ ⟨hj, hvo, hvb, hvl, hvt, hvT⟩
        simp only at hj hvo hvb hvl hvt hvT
        have hvU : OkU v := ⟨by omega, hvo⟩
        have hv2 : OkL .open_ 5 v := ⟨OkS.open_ 5 v, by omega, hvo⟩
        by_cases hjl : j < w.length
        · obtain ⟨⟨c, m⟩, gc⟩ := get_lt3 hjl
          have g3 : decide ((j : Int) < (w.length : Int)) = true := decide_eq_true (by omega)
          have b3 : (0 : Int) ≤ (j : Int) := by omega
          have b4 : (j : Int) < (w.length : Int) := by omega
          have hwj := wrap_succ (k := j) (by have := ow.ln; omega)
          have gp := cPs_get gc
          have hmem := List.mem_of_getElem? gp
          have hm1 := hwb.pos _ hmem
          have hm2 := mem_tot hwb.pos _ hmem
          have hm3 := hwb.may _ hmem
          have hm4 := hwb.tot
          rw [drop_get3 gp] at hvT hvt
          simp only [cP] at hm1 hm2 hm3 hvT hvt gp
          rw [addB_cons] at hvT
          simp only [totB] at hvt
          have hdn := tot_nonneg (b := (cPs w).drop (j + 1)) fun y hy => hwb.pos y (List.mem_of_mem_drop hy)
          have hfit := pos_fits (n := m) hvb (by omega) (by omega)
          have hco := ow.ok _ (List.mem_of_getElem? gc)
          have hlv := len_put c.p m (cPs v)
          simp only [List.length_map] at hlv
          cases q2 with
          | true =>
            obtain ⟨v', ev, pv, ov⟩ := e50 hvU.l c hco m hfit
            rw [← pv] at hlv
            simp only [List.length_map] at hlv
            obtain ⟨ck, cn, cs, ckk, cz, cl⟩ := c
            simp only [Vl.c] at ev
            (simp only [go_sem, Nat.add_assoc, reduceIte, reduceCtorEq, Nat.reduceEqDiff, Nat.reduceAdd, Nat.reduceMul, Nat.reduceSub, Nat.reduceLeDiff, Nat.reduceLT, Nat.reduceBEq, Nat.reduceBNe, Int.reduceLE, Int.reduceLT, Int.reduceToNat, Int.reduceEq, Int.reduceNe, Int.reduceNeg, Nat.reduceEqDiff, Int.reduceAdd, Int.reduceSub, Int.reduceMul, Int.cast_ofNat_Int, Int.natCast_zero, g3, b3, b4, hjl, List.length_map, gc, cC, slotA, s50, ev, hwj]; repeat' ((first | refine kont_next ?_ | refine kont_nextn ?_ | refine ikont_next ?_ | refine ikont_nextn ?_) <;> (try simp only [go_sem, Nat.add_assoc, reduceIte, reduceCtorEq, Nat.reduceEqDiff, Nat.reduceAdd, Nat.reduceMul, Nat.reduceSub, Nat.reduceLeDiff, Nat.reduceLT, Nat.reduceBEq, Nat.reduceBNe, Int.reduceLE, Int.reduceLT, Int.reduceToNat, Int.reduceEq, Int.reduceNe, Int.reduceNeg, Nat.reduceEqDiff, Int.reduceAdd, Int.reduceSub, Int.reduceMul, Int.cast_ofNat_Int, Int.natCast_zero, g3, b3, b4, hjl, List.length_map, gc, cC, slotA, s50, ev, hwj])))
            exact ⟨(false, v', j + 1), rfl, ⟨by simp only; omega, ov, by simp only; rw [pv]; exact ok_put hvb hm3 hm1 (by omega), by simp only; omega, by simp only; rw [pv, tot_put]; omega, by simp only; rw [pv]; exact hvT⟩, by simp only; omega⟩
          | false =>
            obtain ⟨v', ev, pv, ov⟩ := e50 hv2 c hco m hfit
            rw [← pv] at hlv
            simp only [List.length_map] at hlv
            obtain ⟨ck, cn, cs, ckk, cz, cl⟩ := c
            simp only [Vl.c] at ev
            (simp only [go_sem, Nat.add_assoc, reduceIte, reduceCtorEq, Nat.reduceEqDiff, Nat.reduceAdd, Nat.reduceMul, Nat.reduceSub, Nat.reduceLeDiff, Nat.reduceLT, Nat.reduceBEq, Nat.reduceBNe, Int.reduceLE, Int.reduceLT, Int.reduceToNat, Int.reduceEq, Int.reduceNe, Int.reduceNeg, Nat.reduceEqDiff, Int.reduceAdd, Int.reduceSub, Int.reduceMul, Int.cast_ofNat_Int, Int.natCast_zero, g3, b3, b4, hjl, List.length_map, gc, cC, slotA, s50, ev, hwj]; repeat' ((first | refine kont_next ?_ | refine kont_nextn ?_ | refine ikont_next ?_ | refine ikont_nextn ?_) <;> (try simp only [go_sem, Nat.add_assoc, reduceIte, reduceCtorEq, Nat.reduceEqDiff, Nat.reduceAdd, Nat.reduceMul, Nat.reduceSub, Nat.reduceLeDiff, Nat.reduceLT, Nat.reduceBEq, Nat.reduceBNe, Int.reduceLE, Int.reduceLT, Int.reduceToNat, Int.reduceEq, Int.reduceNe, Int.reduceNeg, Nat.reduceEqDiff, Int.reduceAdd, Int.reduceSub, Int.reduceMul, Int.cast_ofNat_Int, Int.natCast_zero, g3, b3, b4, hjl, List.length_map, gc, cC, slotA, s50, ev, hwj])))
            exact ⟨(false, v', j + 1), rfl, ⟨by simp only; omega, ov, by simp only; rw [pv]; exact ok_put hvb hm3 hm1 (by omega), by simp only; omega, by simp only; rw [pv, tot_put]; omega, by simp only; rw [pv]; exact hvT⟩, by simp only; omega⟩
        · have g3 : decide ((j : Int) < (w.length : Int)) = false := decide_eq_false (by omega)
          rw [List.drop_of_length_le (by simp; omega)] at hvT
          have hvT' : cPs v = addB (cPs u) (cPs w) := hvT
          have hfin : addsB (cPs v) ((L.drop (i + 1)).map Bg.p) = addsB B (L.map Bg.p) := by rw [hvT']; exact hT
          cases q2 with
          | true =>
            (simp only [go_sem, Nat.add_assoc, reduceIte, reduceCtorEq, Nat.reduceEqDiff, Nat.reduceAdd, Nat.reduceMul, Nat.reduceSub, Nat.reduceLeDiff, Nat.reduceLT, Nat.reduceBEq, Nat.reduceBNe, Int.reduceLE, Int.reduceLT, Int.reduceToNat, Int.reduceEq, Int.reduceNe, Int.reduceNeg, Nat.reduceEqDiff, Int.reduceAdd, Int.reduceSub, Int.reduceMul, Int.cast_ofNat_Int, Int.natCast_zero, g3, hw, slotA]; repeat' ((first | refine kont_next ?_ | refine kont_nextn ?_ | refine ikont_next ?_ | refine ikont_nextn ?_) <;> (try simp only [go_sem, Nat.add_assoc, reduceIte, reduceCtorEq, Nat.reduceEqDiff, Nat.reduceAdd, Nat.reduceMul, Nat.reduceSub, Nat.reduceLeDiff, Nat.reduceLT, Nat.reduceBEq, Nat.reduceBNe, Int.reduceLE, Int.reduceLT, Int.reduceToNat, Int.reduceEq, Int.reduceNe, Int.reduceNeg, Nat.reduceEqDiff, Int.reduceAdd, Int.reduceSub, Int.reduceMul, Int.cast_ofNat_Int, Int.natCast_zero, g3, hw, slotA])))
            exact ⟨(true, v, i + 1), rfl, ⟨by simp only; omega, hvo, hvb, by simp only; omega, hfin⟩, by simp only; omega⟩
          | false =>
            (simp only [go_sem, Nat.add_assoc, reduceIte, reduceCtorEq, Nat.reduceEqDiff, Nat.reduceAdd, Nat.reduceMul, Nat.reduceSub, Nat.reduceLeDiff, Nat.reduceLT, Nat.reduceBEq, Nat.reduceBNe, Int.reduceLE, Int.reduceLT, Int.reduceToNat, Int.reduceEq, Int.reduceNe, Int.reduceNeg, Nat.reduceEqDiff, Int.reduceAdd, Int.reduceSub, Int.reduceMul, Int.cast_ofNat_Int, Int.natCast_zero, g3, hw, slotA]; repeat' ((first | refine kont_next ?_ | refine kont_nextn ?_ | refine ikont_next ?_ | refine ikont_nextn ?_) <;> (try simp only [go_sem, Nat.add_assoc, reduceIte, reduceCtorEq, Nat.reduceEqDiff, Nat.reduceAdd, Nat.reduceMul, Nat.reduceSub, Nat.reduceLeDiff, Nat.reduceLT, Nat.reduceBEq, Nat.reduceBNe, Int.reduceLE, Int.reduceLT, Int.reduceToNat, Int.reduceEq, Int.reduceNe, Int.reduceNeg, Nat.reduceEqDiff, Int.reduceAdd, Int.reduceSub, Int.reduceMul, Int.cast_ofNat_Int, Int.natCast_zero, g3, hw, slotA])))
            exact ⟨(false, v, i + 1), rfl, ⟨by simp only; omega, hvo, hvb, by simp only; omega, hfin⟩, by simp only; omega⟩
  · have g1 : decide ((i : Int) < (L.length : Int)) = false := decide_eq_false (by omega)
    rw [List.drop_of_length_le (by omega)] at hT hlen
    simp only [List.map_nil, addsB] at hT
    rw [← hT]
    have huU : OkU u := ⟨by omega, huo⟩
    cases q with
    | true =>
      (simp only [go_sem, Nat.add_assoc, reduceIte, reduceCtorEq, Nat.reduceEqDiff, Nat.reduceAdd, Nat.reduceMul, Nat.reduceSub, Nat.reduceLeDiff, Nat.reduceLT, Nat.reduceBEq, Nat.reduceBNe, Int.reduceLE, Int.reduceLT, Int.reduceToNat, Int.reduceEq, Int.reduceNe, Int.reduceNeg, Nat.reduceEqDiff, Int.reduceAdd, Int.reduceSub, Int.reduceMul, Int.cast_ofNat_Int, Int.natCast_zero, g1, errB, outB, slotA]; repeat' ((first | refine kont_next ?_ | refine kont_nextn ?_ | refine ikont_next ?_ | refine ikont_nextn ?_) <;> (try simp only [go_sem, Nat.add_assoc, reduceIte, reduceCtorEq, Nat.reduceEqDiff, Nat.reduceAdd, Nat.reduceMul, Nat.reduceSub, Nat.reduceLeDiff, Nat.reduceLT, Nat.reduceBEq, Nat.reduceBNe, Int.reduceLE, Int.reduceLT, Int.reduceToNat, Int.reduceEq, Int.reduceNe, Int.reduceNeg, Nat.reduceEqDiff, Int.reduceAdd, Int.reduceSub, Int.reduceMul, Int.cast_ofNat_Int, Int.natCast_zero, g1, errB, outB, slotA])))
      exact ⟨⟨skOf (decide (u = [])), 5, u⟩, rfl, huU.l, rfl, by simp only [lens] at hlen; simp only; omega⟩
    | false =>
      (simp only [go_sem, Nat.add_assoc, reduceIte, reduceCtorEq, Nat.reduceEqDiff, Nat.reduceAdd, Nat.reduceMul, Nat.reduceSub, Nat.reduceLeDiff, Nat.reduceLT, Nat.reduceBEq, Nat.reduceBNe, Int.reduceLE, Int.reduceLT, Int.reduceToNat, Int.reduceEq, Int.reduceNe, Int.reduceNeg, Nat.reduceEqDiff, Int.reduceAdd, Int.reduceSub, Int.reduceMul, Int.cast_ofNat_Int, Int.natCast_zero, g1, errB, outB, slotA]; repeat' ((first | refine kont_next ?_ | refine kont_nextn ?_ | refine ikont_next ?_ | refine ikont_nextn ?_) <;> (try simp only [go_sem, Nat.add_assoc, reduceIte, reduceCtorEq, Nat.reduceEqDiff, Nat.reduceAdd, Nat.reduceMul, Nat.reduceSub, Nat.reduceLeDiff, Nat.reduceLT, Nat.reduceBEq, Nat.reduceBNe, Int.reduceLE, Int.reduceLT, Int.reduceToNat, Int.reduceEq, Int.reduceNe, Int.reduceNeg, Nat.reduceEqDiff, Int.reduceAdd, Int.reduceSub, Int.reduceMul, Int.cast_ofNat_Int, Int.natCast_zero, g1, errB, outB, slotA])))
      exact ⟨⟨.open_, 5, u⟩, rfl, ⟨OkS.open_ 5 u, by simp only; omega, huo⟩, rfl, by simp only [lens] at hlen; simp only; omega⟩

theorem e22 {k : SK} {z : Nat} {l : List (Vl × Int)} (h : OkL k z l) (n : Int) :
    ∃ g : Bg, acall S 22 [.sl k z (l.map cC), .i .i64 n] = some (.tup [g.a, .i .i64 (scR (mayB (cPs l)) n).2], []) ∧ g.ok ∧ g.p = (scR (mayB (cPs l)) n).1 ∧ g.l.length ≤ l.length := by
  have hMC : MC = 9007199254740992 := rfl
  obtain ⟨u, e0, p0, o0, n0⟩ := e38 h
  have hok0 := ok_mayB (cPs l)
  suffices hW : W (acall S 22 [.sl k z (l.map cC), .i .i64 n]) (fun r => ∃ g : Bg, r = (.tup [g.a, .i .i64 (scR (mayB (cPs l)) n).2], []) ∧ g.ok ∧ g.p = (scR (mayB (cPs l)) n).1 ∧ g.l.length ≤ l.length) by
    obtain ⟨r, h1, g, rfl, h2⟩ := hW
    exact ⟨g, h1, h2⟩
  refine g22 rfl ?_
  generalize mayB (cPs l) = B at *
  rw [← p0] at hok0
  have et := e28 o0.l
  rw [mayB_ok hok0] at et
  unfold scR
  by_cases h1 : n < 0
  · have g1 := decide_eq_true h1
    rw [if_pos h1]
    (simp only [go_sem, Nat.add_assoc, reduceIte, reduceCtorEq, Nat.reduceEqDiff, Nat.reduceAdd, Nat.reduceMul, Nat.reduceSub, Nat.reduceLeDiff, Nat.reduceLT, Nat.reduceBEq, Nat.reduceBNe, Int.reduceLE, Int.reduceLT, Int.reduceToNat, Int.reduceEq, Int.reduceNe, Int.reduceNeg, Nat.reduceEqDiff, Int.reduceAdd, Int.reduceSub, Int.reduceMul, Int.cast_ofNat_Int, Int.natCast_zero, a22, s38, e0, g1]; repeat' ((first | refine kont_next ?_ | refine kont_nextn ?_ | refine ikont_next ?_ | refine ikont_nextn ?_) <;> (try simp only [go_sem, Nat.add_assoc, reduceIte, reduceCtorEq, Nat.reduceEqDiff, Nat.reduceAdd, Nat.reduceMul, Nat.reduceSub, Nat.reduceLeDiff, Nat.reduceLT, Nat.reduceBEq, Nat.reduceBNe, Int.reduceLE, Int.reduceLT, Int.reduceToNat, Int.reduceEq, Int.reduceNe, Int.reduceNeg, Nat.reduceEqDiff, Int.reduceAdd, Int.reduceSub, Int.reduceMul, Int.cast_ofNat_Int, Int.natCast_zero, a22, s38, e0, g1])))
    exact ⟨⟨.nil, 0, []⟩, rfl, ok_nilB, rfl, by simp⟩
  have g1 := decide_eq_false h1
  rw [if_neg h1]
  by_cases h2 : n = 0
  · have g2 := decide_eq_true h2
    rw [if_pos h2]
    (simp only [go_sem, Nat.add_assoc, reduceIte, reduceCtorEq, Nat.reduceEqDiff, Nat.reduceAdd, Nat.reduceMul, Nat.reduceSub, Nat.reduceLeDiff, Nat.reduceLT, Nat.reduceBEq, Nat.reduceBNe, Int.reduceLE, Int.reduceLT, Int.reduceToNat, Int.reduceEq, Int.reduceNe, Int.reduceNeg, Nat.reduceEqDiff, Int.reduceAdd, Int.reduceSub, Int.reduceMul, Int.cast_ofNat_Int, Int.natCast_zero, a22, s38, e0, g1, g2]; repeat' ((first | refine kont_next ?_ | refine kont_nextn ?_ | refine ikont_next ?_ | refine ikont_nextn ?_) <;> (try simp only [go_sem, Nat.add_assoc, reduceIte, reduceCtorEq, Nat.reduceEqDiff, Nat.reduceAdd, Nat.reduceMul, Nat.reduceSub, Nat.reduceLeDiff, Nat.reduceLT, Nat.reduceBEq, Nat.reduceBNe, Int.reduceLE, Int.reduceLT, Int.reduceToNat, Int.reduceEq, Int.reduceNe, Int.reduceNeg, Nat.reduceEqDiff, Int.reduceAdd, Int.reduceSub, Int.reduceMul, Int.cast_ofNat_Int, Int.natCast_zero, a22, s38, e0, g1, g2])))
    exact ⟨⟨.nil, 0, []⟩, rfl, ok_nilB, rfl, by simp⟩
  have g2 := decide_eq_false h2
  rw [if_neg h2]
  by_cases h3 : u = []
  · subst h3
    have : B = [] := p0.symm
    rw [if_pos this]
    (simp only [go_sem, Nat.add_assoc, reduceIte, reduceCtorEq, Nat.reduceEqDiff, Nat.reduceAdd, Nat.reduceMul, Nat.reduceSub, Nat.reduceLeDiff, Nat.reduceLT, Nat.reduceBEq, Nat.reduceBNe, Int.reduceLE, Int.reduceLT, Int.reduceToNat, Int.reduceEq, Int.reduceNe, Int.reduceNeg, Nat.reduceEqDiff, Int.reduceAdd, Int.reduceSub, Int.reduceMul, Int.cast_ofNat_Int, Int.natCast_zero, a22, s38, e0, g1, g2]; repeat' ((first | refine kont_next ?_ | refine kont_nextn ?_ | refine ikont_next ?_ | refine ikont_nextn ?_) <;> (try simp only [go_sem, Nat.add_assoc, reduceIte, reduceCtorEq, Nat.reduceEqDiff, Nat.reduceAdd, Nat.reduceMul, Nat.reduceSub, Nat.reduceLeDiff, Nat.reduceLT, Nat.reduceBEq, Nat.reduceBNe, Int.reduceLE, Int.reduceLT, Int.reduceToNat, Int.reduceEq, Int.reduceNe, Int.reduceNeg, Nat.reduceEqDiff, Int.reduceAdd, Int.reduceSub, Int.reduceMul, Int.cast_ofNat_Int, Int.natCast_zero, a22, s38, e0, g1, g2])))
    exact ⟨⟨.nil, 0, []⟩, rfl, ok_nilB, rfl, by simp⟩
  have hBne : B ≠ [] := by rw [← p0]; simpa using h3
  have hul : u.length ≠ 0 := fun h => h3 (List.length_eq_zero_iff.1 h)
  have g3 : decide ((u.length : Int) = 0) = false := decide_eq_false (by omega)
  have hnd : decide (u = []) = false := by simp [h3]
  rw [if_neg hBne]
  have ht0 : 1 ≤ totB B := by
    have := len_tot hok0.pos
    rw [p0] at this
    have : (B.length : Int) = u.length := by rw [← p0]; simp
    omega
  have htm := hok0.tot
  rw [p0] at htm
  have hq : IntKind.i64.wrap ((9007199254740992 : Int).tdiv (totB B)) = MC / totB B := by
    rw [Int.tdiv_eq_ediv_of_nonneg (by decide), ← hMC]
    have h1 : 0 ≤ MC / totB B := Int.ediv_nonneg (by omega) (by omega)
    have h2 : MC / totB B ≤ MC := Int.ediv_le_self _ (by omega)
    exact wrap_i64 (by omega) (by omega)
  have g5 : decide (totB B = 0) = false := decide_eq_false (by omega)
  have g6 : ¬ totB B = 0 := by omega
  rw [p0] at et
  by_cases h4 : MC / totB B < n
  · have g4 := decide_eq_true h4
    rw [if_pos h4]
    (simp only [go_sem, Nat.add_assoc, reduceIte, reduceCtorEq, Nat.reduceEqDiff, Nat.reduceAdd, Nat.reduceMul, Nat.reduceSub, Nat.reduceLeDiff, Nat.reduceLT, Nat.reduceBEq, Nat.reduceBNe, Int.reduceLE, Int.reduceLT, Int.reduceToNat, Int.reduceEq, Int.reduceNe, Int.reduceNeg, Nat.reduceEqDiff, Int.reduceAdd, Int.reduceSub, Int.reduceMul, Int.cast_ofNat_Int, Int.natCast_zero, a22, s38, e0, g1, g2, g3, s28, et, hq, g4, g5, g6]; repeat' ((first | refine kont_next ?_ | refine kont_nextn ?_ | refine ikont_next ?_ | refine ikont_nextn ?_) <;> (try simp only [go_sem, Nat.add_assoc, reduceIte, reduceCtorEq, Nat.reduceEqDiff, Nat.reduceAdd, Nat.reduceMul, Nat.reduceSub, Nat.reduceLeDiff, Nat.reduceLT, Nat.reduceBEq, Nat.reduceBNe, Int.reduceLE, Int.reduceLT, Int.reduceToNat, Int.reduceEq, Int.reduceNe, Int.reduceNeg, Nat.reduceEqDiff, Int.reduceAdd, Int.reduceSub, Int.reduceMul, Int.cast_ofNat_Int, Int.natCast_zero, a22, s38, e0, g1, g2, g3, s28, et, hq, g4, g5, g6])))
    exact ⟨⟨.nil, 0, []⟩, rfl, ok_nilB, rfl, by simp⟩
  have g4 := decide_eq_false h4
  rw [if_neg h4]
  have hfit := mul_fits (by rw [← p0]; exact hok0) (by omega) h4 hBne
  have hfitx : ∀ x ∈ cPs u, x.2 * n ≤ MC ∧ 0 ≤ x.2 * n := fun x hx => by
    have h5 := mem_tot hok0.pos x hx
    rw [p0] at h5
    have h6 := hok0.pos x hx
    have := Int.mul_le_mul_of_nonneg_right h5 (show 0 ≤ n by omega)
    exact ⟨by omega, Int.mul_nonneg (by omega) (by omega)⟩
  have hln := o0.ln
  (simp only [go_sem, Nat.add_assoc, reduceIte, reduceCtorEq, Nat.reduceEqDiff, Nat.reduceAdd, Nat.reduceMul, Nat.reduceSub, Nat.reduceLeDiff, Nat.reduceLT, Nat.reduceBEq, Nat.reduceBNe, Int.reduceLE, Int.reduceLT, Int.reduceToNat, Int.reduceEq, Int.reduceNe, Int.reduceNeg, Nat.reduceEqDiff, Int.reduceAdd, Int.reduceSub, Int.reduceMul, Int.cast_ofNat_Int, Int.natCast_zero, a22, s38, e0, g1, g2, g3, s28, et, hq, g4, g5, g6]; repeat' ((first | refine kont_next ?_ | refine kont_nextn ?_ | refine ikont_next ?_ | refine ikont_nextn ?_) <;> (try simp only [go_sem, Nat.add_assoc, reduceIte, reduceCtorEq, Nat.reduceEqDiff, Nat.reduceAdd, Nat.reduceMul, Nat.reduceSub, Nat.reduceLeDiff, Nat.reduceLT, Nat.reduceBEq, Nat.reduceBNe, Int.reduceLE, Int.reduceLT, Int.reduceToNat, Int.reduceEq, Int.reduceNe, Int.reduceNeg, Nat.reduceEqDiff, Int.reduceAdd, Int.reduceSub, Int.reduceMul, Int.cast_ofNat_Int, Int.natCast_zero, a22, s38, e0, g1, g2, g3, s28, et, hq, g4, g5, g6])))
  refine kloop_inv (ι := List (Vl × Int) × Nat) (fun x => [.ow 67 5 false (x.1.map cC), .i .i64 n, .i .i64 x.2])
    (fun x => x.2 ≤ u.length ∧ x.1.length = u.length ∧ (∀ y ∈ x.1, y.1.ok) ∧ cPs x.1 = scaleB n ((cPs u).take x.2) ++ (cPs u).drop x.2) (fun x => u.length - x.2) (u, 0) (by simp [hnd]) ⟨by simp, rfl, o0.ok, by simp [scaleB]⟩ ?_
  rintro ⟨v, j⟩ ⟨hj, hvl, hvo, hvT⟩
  simp only at hj hvl hvo hvT
  by_cases hjl : j < u.length
  · obtain ⟨⟨c, m⟩, gc⟩ := get_lt3 (show j < v.length by omega)
    have k1 : decide ((j : Int) < (v.length : Int)) = true := decide_eq_true (by omega)
    have b3 : (0 : Int) ≤ (j : Int) := by omega
    have b4 : (j : Int) < (v.length : Int) := by omega
    have b5 : j < v.length := by omega
    have hwj := wrap_succ (k := j) (by omega)
    have gp := cPs_get gc
    have gu : (cPs u)[j]? = some (cP (c, m)) := by
      rw [hvT, List.getElem?_append_right (by simp [scaleB]; omega)] at gp
      simp only [scaleB, List.length_map, List.length_take, List.getElem?_drop] at gp
      rw [show j + (j - min j (u.length)) = j by omega] at gp
      exact gp
    have hf := hfitx _ (List.mem_of_getElem? gu)
    simp only [cP] at hf
    have hwm : IntKind.i64.wrap (m * n) = m * n := wrap_i64 (by omega) (by omega)
    have hco := hvo _ (List.mem_of_getElem? gc)
    have hst := scale_take (n := n) gu
    rw [← hvT] at hst
    simp only [cP] at hst
    obtain ⟨ck, cn, cs, ckk, cz, cl⟩ := c
    (simp only [go_sem, Nat.add_assoc, reduceIte, reduceCtorEq, Nat.reduceEqDiff, Nat.reduceAdd, Nat.reduceMul, Nat.reduceSub, Nat.reduceLeDiff, Nat.reduceLT, Nat.reduceBEq, Nat.reduceBNe, Int.reduceLE, Int.reduceLT, Int.reduceToNat, Int.reduceEq, Int.reduceNe, Int.reduceNeg, Nat.reduceEqDiff, Int.reduceAdd, Int.reduceSub, Int.reduceMul, Int.cast_ofNat_Int, Int.natCast_zero, k1, b3, b4, b5, List.length_map, List.length_set, gc, cC, hwm, hwj]; repeat' ((first | refine kont_next ?_ | refine kont_nextn ?_ | refine ikont_next ?_ | refine ikont_nextn ?_) <;> (try simp only [go_sem, Nat.add_assoc, reduceIte, reduceCtorEq, Nat.reduceEqDiff, Nat.reduceAdd, Nat.reduceMul, Nat.reduceSub, Nat.reduceLeDiff, Nat.reduceLT, Nat.reduceBEq, Nat.reduceBNe, Int.reduceLE, Int.reduceLT, Int.reduceToNat, Int.reduceEq, Int.reduceNe, Int.reduceNeg, Nat.reduceEqDiff, Int.reduceAdd, Int.reduceSub, Int.reduceMul, Int.cast_ofNat_Int, Int.natCast_zero, k1, b3, b4, b5, List.length_map, List.length_set, gc, cC, hwm, hwj])))
    refine ⟨(v.set j (.mk ck cn cs ckk cz cl, m * n), j + 1), by simp [List.map_set, cC], ⟨by simp only; omega, by simpa using hvl, ?_, ?_⟩, by simp only; omega⟩
    · intro y hy
      rcases List.mem_or_eq_of_mem_set hy with hy | rfl
      · exact hvo y hy
      · exact hco
    · simp only
      rw [← hst, cPs, List.map_set]
      rfl
  · have k1 : decide ((j : Int) < (v.length : Int)) = false := decide_eq_false (by omega)
    rw [List.take_of_length_le (by simp; omega), List.drop_of_length_le (by simp; omega), List.append_nil, p0] at hvT
    (simp only [go_sem, Nat.add_assoc, reduceIte, reduceCtorEq, Nat.reduceEqDiff, Nat.reduceAdd, Nat.reduceMul, Nat.reduceSub, Nat.reduceLeDiff, Nat.reduceLT, Nat.reduceBEq, Nat.reduceBNe, Int.reduceLE, Int.reduceLT, Int.reduceToNat, Int.reduceEq, Int.reduceNe, Int.reduceNeg, Nat.reduceEqDiff, Int.reduceAdd, Int.reduceSub, Int.reduceMul, Int.cast_ofNat_Int, Int.natCast_zero, k1, List.length_map]; repeat' ((first | refine kont_next ?_ | refine kont_nextn ?_ | refine ikont_next ?_ | refine ikont_nextn ?_) <;> (try simp only [go_sem, Nat.add_assoc, reduceIte, reduceCtorEq, Nat.reduceEqDiff, Nat.reduceAdd, Nat.reduceMul, Nat.reduceSub, Nat.reduceLeDiff, Nat.reduceLT, Nat.reduceBEq, Nat.reduceBNe, Int.reduceLE, Int.reduceLT, Int.reduceToNat, Int.reduceEq, Int.reduceNe, Int.reduceNeg, Nat.reduceEqDiff, Int.reduceAdd, Int.reduceSub, Int.reduceMul, Int.cast_ofNat_Int, Int.natCast_zero, k1, List.length_map])))
    exact ⟨⟨.open_, 5, v⟩, rfl, ⟨OkS.open_ 5 v, by simp only; omega, hvo⟩, hvT, by simp only; omega⟩
end Go.Proofs.Ytabbjdclfmeipaa
