/-
  Bags together; a bag some times.
-/
import Derived.Test.YtabbjdclfmeipaaB4
set_option linter.unusedSimpArgs false
set_option linter.unusedVariables false
set_option maxHeartbeats 8000000
set_option maxRecDepth 100000
namespace Go.Proofs.Ytabbjdclfmeipaa
open Go.Abs

/-- bags as they lie -/
structure Bg where
  k : SK
  z : Nat
  l : List (Vl × Int)
def Bg.a (b : Bg) : AV := .sl b.k b.z (b.l.map cC)
def Bg.c (b : Bg) : List AV := [b.a]
def Bg.ok (b : Bg) : Prop := OkL b.k b.z b.l
def Bg.p (b : Bg) : PB := cPs b.l
def lens : List Bg → Nat
  | [] => 0
  | b :: r => b.l.length + lens r
theorem lens_get : ∀ {L : List Bg} {i : Nat} {b : Bg}, L[i]? = some b → lens (L.drop i) = b.l.length + lens (L.drop (i + 1))
  | L, i, b, h => by rw [drop_get3 h]; rfl
/-- what comes of adding: none if it is too many -/
def addsB : PB → List PB → Option PB
  | b, [] => some b
  | b, c :: r => if MC - totB b < totB (mayB c) then none else addsB (addB b (mayB c)) r
def outB : Option PB → PB
  | some b => b
  | none => []
def errB : Option PB → Int
  | some _ => 0
  | none => 7
theorem ok_app {u : List (Vl × Int)} (h : OkU u) : OkL (skOf (decide (u = []))) 5 u := h.l
theorem ok_nilB : OkL .nil 0 [] := ⟨⟨.inr rfl, fun _ => rfl⟩, by simp, by simp⟩
theorem e8 {k : SK} {z : Nat} {l : List (Vl × Int)} (h : OkL k z l) {k2 : SK} {z2 : Nat} {L : List Bg} (h2 : OkS k2 z2 1 L) (hL : ∀ b ∈ L, b.ok) (hn : l.length + lens L ≤ 68719476736) (hLl : L.length ≤ 68719476736) :
    ∃ g : Bg, acall S 8 [.sl k z (l.map cC), .sl k2 z2 (L.map Bg.c)] = some (.tup [g.a, .i .i64 (errB (addsB (mayB (cPs l)) (L.map Bg.p)))], []) ∧ g.ok ∧ g.p = outB (addsB (mayB (cPs l)) (L.map Bg.p)) ∧ g.l.length ≤ l.length + lens L := by
  have hMC : MC = 9007199254740992 := rfl
  obtain ⟨u0, e0, p0, o0, n0⟩ := e44 h
  have hok0 := ok_mayB (cPs l)
  suffices hW : W (acall S 8 [.sl k z (l.map cC), .sl k2 z2 (L.map Bg.c)]) (fun r => ∃ g : Bg, r = (.tup [g.a, .i .i64 (errB (addsB (mayB (cPs l)) (L.map Bg.p)))], []) ∧ g.ok ∧ g.p = outB (addsB (mayB (cPs l)) (L.map Bg.p)) ∧ g.l.length ≤ l.length + lens L) by
    obtain ⟨r, h1, g, rfl, h2⟩ := hW
    exact ⟨g, h1, h2⟩
  refine g8 rfl ?_
  generalize mayB (cPs l) = B at *
  (simp only [go_sem, Nat.add_assoc, reduceIte, reduceCtorEq, Nat.reduceEqDiff, Nat.reduceAdd, Nat.reduceMul, Nat.reduceSub, Nat.reduceLeDiff, Nat.reduceLT, Nat.reduceBEq, Nat.reduceBNe, Int.reduceLE, Int.reduceLT, Int.reduceToNat, Int.reduceEq, Int.reduceNe, Int.reduceNeg, Nat.reduceEqDiff, Int.reduceAdd, Int.reduceSub, Int.reduceMul, Int.cast_ofNat_Int, Int.natCast_zero, a8, s44, e0]; repeat' ((first | refine kont_next ?_ | refine kont_nextn ?_ | refine ikont_next ?_ | refine ikont_nextn ?_) <;> (try simp only [go_sem, Nat.add_assoc, reduceIte, reduceCtorEq, Nat.reduceEqDiff, Nat.reduceAdd, Nat.reduceMul, Nat.reduceSub, Nat.reduceLeDiff, Nat.reduceLT, Nat.reduceBEq, Nat.reduceBNe, Int.reduceLE, Int.reduceLT, Int.reduceToNat, Int.reduceEq, Int.reduceNe, Int.reduceNeg, Nat.reduceEqDiff, Int.reduceAdd, Int.reduceSub, Int.reduceMul, Int.cast_ofNat_Int, Int.natCast_zero, a8, s44, e0])))
  refine kloop_inv (ι := List (Vl × Int) × Nat) (fun x => [rowU x.1, .sl k2 z2 (L.map Bg.c), .i .i64 L.length, .i .i64 x.2])
    (fun x => x.2 ≤ L.length ∧ (∀ y ∈ x.1, y.1.ok) ∧ Ok (cPs x.1) ∧ x.1.length + lens (L.drop x.2) ≤ l.length + lens L ∧ addsB (cPs x.1) ((L.drop x.2).map Bg.p) = addsB B (L.map Bg.p)) (fun x => L.length - x.2) (u0, 0) (by simp) ⟨by simp, o0.ok, by rw [p0]; exact hok0, by simp; omega, by rw [p0]; rfl⟩ ?_
  rintro ⟨u, i⟩ ⟨hi, huo, hub, hlen, hT⟩
  simp only at hi huo hub hlen hT
  by_cases hlt : i < L.length
  · obtain ⟨b, gb⟩ := get_lt3 hlt
    have g1 : decide ((i : Int) < (L.length : Int)) = true := decide_eq_true (by omega)
    have b1 : (0 : Int) ≤ (i : Int) := by omega
    have hw := wrap_succ (k := i) (by omega)
    have hlg := lens_get gb
    rw [drop_get3 gb, List.map_cons] at hT
    simp only [addsB] at hT
    have hbo : b.ok := hL b (List.mem_of_getElem? gb)
    obtain ⟨w, ew, pw, ow, nw⟩ := e44 hbo
    have hwb : Ok (cPs w) := by rw [pw]; exact ok_mayB _
    have et := e45 ow.l hwb
    have huU : OkU u := ⟨by omega, huo⟩
    have eu := e45 huU.l hub
    have hbp : b.p = cPs b.l := rfl
    rw [hbp, ← pw] at hT
    obtain ⟨bk, bz, bl⟩ := b
    simp only at ew hlg pw nw
    have ht1 := hub.tot
    have ht2 := tot_nonneg hub.pos
    have hws : IntKind.i64.wrap (9007199254740992 - totB (cPs u)) = 9007199254740992 - totB (cPs u) := wrap_i64 (by omega) (by omega)
    by_cases hov : 9007199254740992 - totB (cPs u) < totB (cPs w)
    · have g2 := decide_eq_true hov
      rw [if_pos (by omega)] at hT
      rw [← hT]
      (simp only [go_sem, Nat.add_assoc, reduceIte, reduceCtorEq, Nat.reduceEqDiff, Nat.reduceAdd, Nat.reduceMul, Nat.reduceSub, Nat.reduceLeDiff, Nat.reduceLT, Nat.reduceBEq, Nat.reduceBNe, Int.reduceLE, Int.reduceLT, Int.reduceToNat, Int.reduceEq, Int.reduceNe, Int.reduceNeg, Nat.reduceEqDiff, Int.reduceAdd, Int.reduceSub, Int.reduceMul, Int.cast_ofNat_Int, Int.natCast_zero, g1, b1, gb, h2.1, Bg.c, Bg.a, s44, ew, s45, et, eu, hws, g2]; repeat' ((first | refine kont_next ?_ | refine kont_nextn ?_ | refine ikont_next ?_ | refine ikont_nextn ?_) <;> (try simp only [go_sem, Nat.add_assoc, reduceIte, reduceCtorEq, Nat.reduceEqDiff, Nat.reduceAdd, Nat.reduceMul, Nat.reduceSub, Nat.reduceLeDiff, Nat.reduceLT, Nat.reduceBEq, Nat.reduceBNe, Int.reduceLE, Int.reduceLT, Int.reduceToNat, Int.reduceEq, Int.reduceNe, Int.reduceNeg, Nat.reduceEqDiff, Int.reduceAdd, Int.reduceSub, Int.reduceMul, Int.cast_ofNat_Int, Int.natCast_zero, g1, b1, gb, h2.1, Bg.c, Bg.a, s44, ew, s45, et, eu, hws, g2])))
      exact ⟨⟨.nil, 0, []⟩, rfl, ok_nilB, rfl, by simp⟩
    · have g2 := decide_eq_false hov
      rw [if_neg (by omega)] at hT
      (simp only [go_sem, Nat.add_assoc, reduceIte, reduceCtorEq, Nat.reduceEqDiff, Nat.reduceAdd, Nat.reduceMul, Nat.reduceSub, Nat.reduceLeDiff, Nat.reduceLT, Nat.reduceBEq, Nat.reduceBNe, Int.reduceLE, Int.reduceLT, Int.reduceToNat, Int.reduceEq, Int.reduceNe, Int.reduceNeg, Nat.reduceEqDiff, Int.reduceAdd, Int.reduceSub, Int.reduceMul, Int.cast_ofNat_Int, Int.natCast_zero, g1, b1, gb, h2.1, Bg.c, Bg.a, s44, ew, s45, et, eu, hws, g2]; repeat' ((first | refine kont_next ?_ | refine kont_nextn ?_ | refine ikont_next ?_ | refine ikont_nextn ?_) <;> (try simp only [go_sem, Nat.add_assoc, reduceIte, reduceCtorEq, Nat.reduceEqDiff, Nat.reduceAdd, Nat.reduceMul, Nat.reduceSub, Nat.reduceLeDiff, Nat.reduceLT, Nat.reduceBEq, Nat.reduceBNe, Int.reduceLE, Int.reduceLT, Int.reduceToNat, Int.reduceEq, Int.reduceNe, Int.reduceNeg, Nat.reduceEqDiff, Int.reduceAdd, Int.reduceSub, Int.reduceMul, Int.cast_ofNat_Int, Int.natCast_zero, g1, b1, gb, h2.1, Bg.c, Bg.a, s44, ew, s45, et, eu, hws, g2])))
      refine kloop_inv (ι := List (Vl × Int) × Nat) (fun x => [rowU x.1, .sl k2 z2 (L.map Bg.c), .i .i64 L.length, .i .i64 i, rowU w, .i .i64 w.length, .i .i64 x.2])
        (fun x => x.2 ≤ w.length ∧ (∀ y ∈ x.1, y.1.ok) ∧ Ok (cPs x.1) ∧ x.1.length + (w.length - x.2) + lens (L.drop (i + 1)) ≤ l.length + lens L ∧ totB (cPs x.1) + totB ((cPs w).drop x.2) ≤ MC ∧ addB (cPs x.1) ((cPs w).drop x.2) = addB (cPs u) (cPs w)) (fun x => w.length - x.2) (u, 0) (by simp) ⟨by simp, huo, hub, by simp; omega, by simp only [List.drop_zero]; omega, rfl⟩ ?_
      rintro ⟨v, j⟩ ⟨hj, hvo, hvb, hvl, hvt, hvT⟩
      simp only at hj hvo hvb hvl hvt hvT
      by_cases hjl : j < w.length
      · obtain ⟨⟨c, m⟩, gc⟩ := get_lt3 hjl
        have g3 : decide ((j : Int) < (w.length : Int)) = true := decide_eq_true (by omega)
        have b3 : (0 : Int) ≤ (j : Int) := by omega
        have b4 : (j : Int) < (w.length : Int) := by omega
        have hwj := wrap_succ (k := j) (by have := ow.ln; omega)
        have gp := cPs_get gc
        have hmem := List.mem_of_getElem? gp
        have hm1 := hwb.pos _ hmem
        have hm2 := mem_tot hwb.pos _ hmem
        have hm3 := hwb.may _ hmem
        have hm4 := hwb.tot
        rw [drop_get3 gp] at hvT hvt
        simp only [cP] at hm1 hm2 hm3 hvT hvt gp
        rw [addB_cons] at hvT
        simp only [totB] at hvt
        have hvU : OkU v := ⟨by omega, hvo⟩
        have hdn := tot_nonneg (b := (cPs w).drop (j + 1)) fun y hy => hwb.pos y (List.mem_of_mem_drop hy)
        obtain ⟨v', ev, pv, ov, _⟩ := e46 hvU hvb c (ow.ok _ (List.mem_of_getElem? gc)) m hm1 (by omega)
        have hlv := len_put c.p m (cPs v)
        rw [← pv] at hlv
        simp only [List.length_map] at hlv
        obtain ⟨ck, cn, cs, ckk, cz, cl⟩ := c
        simp only [Vl.c] at ev
        (simp only [go_sem, Nat.add_assoc, reduceIte, reduceCtorEq, Nat.reduceEqDiff, Nat.reduceAdd, Nat.reduceMul, Nat.reduceSub, Nat.reduceLeDiff, Nat.reduceLT, Nat.reduceBEq, Nat.reduceBNe, Int.reduceLE, Int.reduceLT, Int.reduceToNat, Int.reduceEq, Int.reduceNe, Int.reduceNeg, Nat.reduceEqDiff, Int.reduceAdd, Int.reduceSub, Int.reduceMul, Int.cast_ofNat_Int, Int.natCast_zero, g3, b3, b4, hjl, List.length_map, gc, cC, s46, ev, hwj]; repeat' ((first | refine kont_next ?_ | refine kont_nextn ?_ | refine ikont_next ?_ | refine ikont_nextn ?_) <;> (try simp only [go_sem, Nat.add_assoc, reduceIte, reduceCtorEq, Nat.reduceEqDiff, Nat.reduceAdd, Nat.reduceMul, Nat.reduceSub, Nat.reduceLeDiff, Nat.reduceLT, Nat.reduceBEq, Nat.reduceBNe, Int.reduceLE, Int.reduceLT, Int.reduceToNat, Int.reduceEq, Int.reduceNe, Int.reduceNeg, Nat.reduceEqDiff, Int.reduceAdd, Int.reduceSub, Int.reduceMul, Int.cast_ofNat_Int, Int.natCast_zero, g3, b3, b4, hjl, List.length_map, gc, cC, s46, ev, hwj])))
        refine ⟨(v', j + 1), rfl, ⟨by simp only; omega, ov, by simp only; rw [pv]; exact ok_put hvb hm3 hm1 (by omega), by simp only; omega, by simp only; rw [pv, tot_put]; omega, by simp only; rw [pv]; exact hvT⟩, by simp only; omega⟩
      · have g3 : decide ((j : Int) < (w.length : Int)) = false := decide_eq_false (by omega)
        rw [List.drop_of_length_le (by simp; omega)] at hvT
        have hvT' : cPs v = addB (cPs u) (cPs w) := hvT
        (simp only [go_sem, Nat.add_assoc, reduceIte, reduceCtorEq, Nat.reduceEqDiff, Nat.reduceAdd, Nat.reduceMul, Nat.reduceSub, Nat.reduceLeDiff, Nat.reduceLT, Nat.reduceBEq, Nat.reduceBNe, Int.reduceLE, Int.reduceLT, Int.reduceToNat, Int.reduceEq, Int.reduceNe, Int.reduceNeg, Nat.reduceEqDiff, Int.reduceAdd, Int.reduceSub, Int.reduceMul, Int.cast_ofNat_Int, Int.natCast_zero, g3, hw]; repeat' ((first | refine kont_next ?_ | refine kont_nextn ?_ | refine ikont_next ?_ | refine ikont_nextn ?_) <;> (try simp only [go_sem, Nat.add_assoc, reduceIte, reduceCtorEq, Nat.reduceEqDiff, Nat.reduceAdd, Nat.reduceMul, Nat.reduceSub, Nat.reduceLeDiff, Nat.reduceLT, Nat.reduceBEq, Nat.reduceBNe, Int.reduceLE, Int.reduceLT, Int.reduceToNat, Int.reduceEq, Int.reduceNe, Int.reduceNeg, Nat.reduceEqDiff, Int.reduceAdd, Int.reduceSub, Int.reduceMul, Int.cast_ofNat_Int, Int.natCast_zero, g3, hw])))
        exact ⟨(v, i + 1), rfl, ⟨by simp only; omega, hvo, hvb, by simp only; omega, by simp only; rw [hvT']; exact hT⟩, by simp only; omega⟩
  · have g1 : decide ((i : Int) < (L.length : Int)) = false := decide_eq_false (by omega)
    rw [List.drop_of_length_le (by omega)] at hT hlen
    simp only [List.map_nil, addsB] at hT
    rw [← hT]
    have huU : OkU u := ⟨by omega, huo⟩
    (simp only [go_sem, Nat.add_assoc, reduceIte, reduceCtorEq, Nat.reduceEqDiff, Nat.reduceAdd, Nat.reduceMul, Nat.reduceSub, Nat.reduceLeDiff, Nat.reduceLT, Nat.reduceBEq, Nat.reduceBNe, Int.reduceLE, Int.reduceLT, Int.reduceToNat, Int.reduceEq, Int.reduceNe, Int.reduceNeg, Nat.reduceEqDiff, Int.reduceAdd, Int.reduceSub, Int.reduceMul, Int.cast_ofNat_Int, Int.natCast_zero, g1, errB, outB]; repeat' ((first | refine kont_next ?_ | refine kont_nextn ?_ | refine ikont_next ?_ | refine ikont_nextn ?_) <;> (try simp only [go_sem, Nat.add_assoc, reduceIte, reduceCtorEq, Nat.reduceEqDiff, Nat.reduceAdd, Nat.reduceMul, Nat.reduceSub, Nat.reduceLeDiff, Nat.reduceLT, Nat.reduceBEq, Nat.reduceBNe, Int.reduceLE, Int.reduceLT, Int.reduceToNat, Int.reduceEq, Int.reduceNe, Int.reduceNeg, Nat.reduceEqDiff, Int.reduceAdd, Int.reduceSub, Int.reduceMul, Int.cast_ofNat_Int, Int.natCast_zero, g1, errB, outB])))
    exact ⟨⟨skOf (decide (u = [])), 5, u⟩, rfl, huU.l, rfl, by simp only [lens] at hlen; omega⟩

end Go.Proofs.Ytabbjdclfmeipaa
