/-
  Which traversers are the same; which never were at a value twice.
-/
import Derived.Test.YtmdbfbcolofelaaDoorD2
import Derived.Test.YtmdbfbcolofelaaDoorV8
import Derived.Test.YtmdbfbcolofelaaDoorV7
set_option linter.unusedSimpArgs false
set_option linter.unusedVariables false
set_option maxHeartbeats 8000000
set_option maxRecDepth 100000
namespace Go.Proofs.YtmdbfbcolofelaaDoor
open Go.Abs

open Classical in
theorem e18 (a b : Tv) (ha : a.ok) (hb : b.ok) : acall S 18 [.agg a.cs, .agg b.cs] = some (.b (decide (a.p = b.p)), []) := by
  have e1 := e15 a.v b.v ha.v hb.v
  have e2 := e12 ha.ps hb.ps (by have := ha.pl; omega) (by have := hb.pl; omega) ha.po hb.po
  have n1 : a.v.p ≠ b.v.p → decide (a.p = b.p) = false := fun h => decide_eq_false fun e => h (congrArg PT.v e)
  have n2 : a.path.map Vl.p ≠ b.path.map Vl.p → decide (a.p = b.p) = false := fun h => decide_eq_false fun e => h (congrArg PT.path e)
  have n3 : a.tags.map tagP ≠ b.tags.map tagP → decide (a.p = b.p) = false := fun h => decide_eq_false fun e => h (congrArg PT.tags e)
  have n4 : a.loops ≠ b.loops → decide (a.p = b.p) = false := fun h => decide_eq_false fun e => h (congrArg PT.loops e)
  have yes : a.v.p = b.v.p → a.path.map Vl.p = b.path.map Vl.p → a.tags.map tagP = b.tags.map tagP → a.loops = b.loops → decide (a.p = b.p) = true := fun h1 h2 h3 h4 => decide_eq_true (by
    unfold Tv.p; rw [h1, h2, h3, h4])
  have hts := ha.ts
  have hts' := hb.ts
  have hto := ha.to
  have hto' := hb.to
  have htl := ha.tl
  clear ha hb
  generalize decide (a.p = b.p) = R at n1 n2 n3 n4 yes
  obtain ⟨⟨ak, an, as_, akk, az, al⟩, apk, apz, apath, atk, atz, atags, aloops⟩ := a
  obtain ⟨⟨bk, bn, bs, bkk, bz, bl⟩, bpk, bpz, bpath, btk, btz, btags, bloops⟩ := b
  simp only at n1 n2 n3 n4 yes hts hts' hto hto' htl
  simp only [Tv.cs, Vl.c, Vl.cs_map, List.cons_append, List.nil_append] at e1 e2 ⊢
  refine W_eq (g18 rfl ?_)
  by_cases q1 : Vl.p (.mk ak an as_ akk az al) = Vl.p (.mk bk bn bs bkk bz bl)
  case neg =>
    rw [decide_eq_false q1] at e1
    rw [n1 q1]
    (simp only [go_sem, Nat.add_assoc, reduceIte, reduceCtorEq, Nat.reduceEqDiff, Nat.reduceAdd, Nat.reduceMul, Nat.reduceSub, Nat.reduceLeDiff, Nat.reduceLT, Nat.reduceBEq, Nat.reduceBNe, Int.reduceLE, Int.reduceLT, Int.reduceToNat, Int.reduceEq, Int.reduceNe, Int.reduceNeg, Nat.reduceEqDiff, Int.reduceAdd, Int.reduceSub, Int.reduceMul, Int.cast_ofNat_Int, Int.natCast_zero, a18, s15, e1]; repeat' (refine kont_next ?_ <;> (try simp only [go_sem, Nat.add_assoc, reduceIte, reduceCtorEq, Nat.reduceEqDiff, Nat.reduceAdd, Nat.reduceMul, Nat.reduceSub, Nat.reduceLeDiff, Nat.reduceLT, Nat.reduceBEq, Nat.reduceBNe, Int.reduceLE, Int.reduceLT, Int.reduceToNat, Int.reduceEq, Int.reduceNe, Int.reduceNeg, Nat.reduceEqDiff, Int.reduceAdd, Int.reduceSub, Int.reduceMul, Int.cast_ofNat_Int, Int.natCast_zero, a18, s15, e1])))
  rw [decide_eq_true q1] at e1
  by_cases q2 : apath.map Vl.p = bpath.map Vl.p
  case neg =>
    rw [decide_eq_false q2] at e2
    rw [n2 q2]
    (simp only [go_sem, Nat.add_assoc, reduceIte, reduceCtorEq, Nat.reduceEqDiff, Nat.reduceAdd, Nat.reduceMul, Nat.reduceSub, Nat.reduceLeDiff, Nat.reduceLT, Nat.reduceBEq, Nat.reduceBNe, Int.reduceLE, Int.reduceLT, Int.reduceToNat, Int.reduceEq, Int.reduceNe, Int.reduceNeg, Nat.reduceEqDiff, Int.reduceAdd, Int.reduceSub, Int.reduceMul, Int.cast_ofNat_Int, Int.natCast_zero, a18, s15, e1, s12, e2]; repeat' (refine kont_next ?_ <;> (try simp only [go_sem, Nat.add_assoc, reduceIte, reduceCtorEq, Nat.reduceEqDiff, Nat.reduceAdd, Nat.reduceMul, Nat.reduceSub, Nat.reduceLeDiff, Nat.reduceLT, Nat.reduceBEq, Nat.reduceBNe, Int.reduceLE, Int.reduceLT, Int.reduceToNat, Int.reduceEq, Int.reduceNe, Int.reduceNeg, Nat.reduceEqDiff, Int.reduceAdd, Int.reduceSub, Int.reduceMul, Int.cast_ofNat_Int, Int.natCast_zero, a18, s15, e1, s12, e2])))
  rw [decide_eq_true q2] at e2
  by_cases q3 : atags.length = btags.length
  case neg =>
    have g3 : decide (¬ (atags.length : Int) = (btags.length : Int)) = true := decide_eq_true (by omega)
    rw [n3 fun e => q3 (by simpa using congrArg List.length e)]
    (simp only [go_sem, Nat.add_assoc, reduceIte, reduceCtorEq, Nat.reduceEqDiff, Nat.reduceAdd, Nat.reduceMul, Nat.reduceSub, Nat.reduceLeDiff, Nat.reduceLT, Nat.reduceBEq, Nat.reduceBNe, Int.reduceLE, Int.reduceLT, Int.reduceToNat, Int.reduceEq, Int.reduceNe, Int.reduceNeg, Nat.reduceEqDiff, Int.reduceAdd, Int.reduceSub, Int.reduceMul, Int.cast_ofNat_Int, Int.natCast_zero, a18, s15, e1, s12, e2, g3]; repeat' (refine kont_next ?_ <;> (try simp only [go_sem, Nat.add_assoc, reduceIte, reduceCtorEq, Nat.reduceEqDiff, Nat.reduceAdd, Nat.reduceMul, Nat.reduceSub, Nat.reduceLeDiff, Nat.reduceLT, Nat.reduceBEq, Nat.reduceBNe, Int.reduceLE, Int.reduceLT, Int.reduceToNat, Int.reduceEq, Int.reduceNe, Int.reduceNeg, Nat.reduceEqDiff, Int.reduceAdd, Int.reduceSub, Int.reduceMul, Int.cast_ofNat_Int, Int.natCast_zero, a18, s15, e1, s12, e2, g3])))
  have g3 : decide (¬ (atags.length : Int) = (btags.length : Int)) = false := decide_eq_false (by omega)
  by_cases q4 : aloops = bloops
  case neg =>
    have g4 : decide (¬ aloops = bloops) = true := decide_eq_true q4
    rw [n4 q4]
    (simp only [go_sem, Nat.add_assoc, reduceIte, reduceCtorEq, Nat.reduceEqDiff, Nat.reduceAdd, Nat.reduceMul, Nat.reduceSub, Nat.reduceLeDiff, Nat.reduceLT, Nat.reduceBEq, Nat.reduceBNe, Int.reduceLE, Int.reduceLT, Int.reduceToNat, Int.reduceEq, Int.reduceNe, Int.reduceNeg, Nat.reduceEqDiff, Int.reduceAdd, Int.reduceSub, Int.reduceMul, Int.cast_ofNat_Int, Int.natCast_zero, a18, s15, e1, s12, e2, g3, g4]; repeat' (refine kont_next ?_ <;> (try simp only [go_sem, Nat.add_assoc, reduceIte, reduceCtorEq, Nat.reduceEqDiff, Nat.reduceAdd, Nat.reduceMul, Nat.reduceSub, Nat.reduceLeDiff, Nat.reduceLT, Nat.reduceBEq, Nat.reduceBNe, Int.reduceLE, Int.reduceLT, Int.reduceToNat, Int.reduceEq, Int.reduceNe, Int.reduceNeg, Nat.reduceEqDiff, Int.reduceAdd, Int.reduceSub, Int.reduceMul, Int.cast_ofNat_Int, Int.natCast_zero, a18, s15, e1, s12, e2, g3, g4])))
  have g4 : decide (¬ aloops = bloops) = false := decide_eq_false (by simpa using q4)
  have yes' := fun h => yes q1 q2 h q4
  clear yes
  (simp only [go_sem, Nat.add_assoc, reduceIte, reduceCtorEq, Nat.reduceEqDiff, Nat.reduceAdd, Nat.reduceMul, Nat.reduceSub, Nat.reduceLeDiff, Nat.reduceLT, Nat.reduceBEq, Nat.reduceBNe, Int.reduceLE, Int.reduceLT, Int.reduceToNat, Int.reduceEq, Int.reduceNe, Int.reduceNeg, Nat.reduceEqDiff, Int.reduceAdd, Int.reduceSub, Int.reduceMul, Int.cast_ofNat_Int, Int.natCast_zero, a18, s15, e1, s12, e2, g3, g4]; repeat' (refine kont_next ?_ <;> (try simp only [go_sem, Nat.add_assoc, reduceIte, reduceCtorEq, Nat.reduceEqDiff, Nat.reduceAdd, Nat.reduceMul, Nat.reduceSub, Nat.reduceLeDiff, Nat.reduceLT, Nat.reduceBEq, Nat.reduceBNe, Int.reduceLE, Int.reduceLT, Int.reduceToNat, Int.reduceEq, Int.reduceNe, Int.reduceNeg, Nat.reduceEqDiff, Int.reduceAdd, Int.reduceSub, Int.reduceMul, Int.cast_ofNat_Int, Int.natCast_zero, a18, s15, e1, s12, e2, g3, g4])))
  refine kloop_inv (ι := Nat) (fun i => [.bx [.i .i64 ak, .i .i64 an, .str as_, .sl akk az (al.map Vl.c), .sl apk apz (apath.map Vl.c), .sl atk atz (atags.map tagC), .i .i64 aloops], .bx [.i .i64 bk, .i .i64 bn, .str bs, .sl bkk bz (bl.map Vl.c), .sl bpk bpz (bpath.map Vl.c), .sl btk btz (btags.map tagC), .i .i64 bloops], .i .i64 i])
    (fun i => i ≤ atags.length ∧ (atags.take i).map tagP = (btags.take i).map tagP) (fun i => atags.length - i) 0 rfl ⟨by omega, rfl⟩ ?_
  rintro i ⟨hi, hT⟩
  by_cases hlt : i < atags.length
  · obtain ⟨c, gc⟩ := get_lt hlt
    obtain ⟨d, gd⟩ := get_lt (show i < btags.length by omega)
    have hw := wrap_succ (k := i) (by omega)
    have r1 : decide ((i : Int) < (atags.length : Int)) = true := decide_eq_true (by omega)
    have b1 : (0 : Int) ≤ (i : Int) := by omega
    have hco := (hto c (List.mem_of_getElem? gc)).1
    have hdo := (hto' d (List.mem_of_getElem? gd)).1
    have es := e15 c.2 d.2 hco hdo
    have hne : tagP c ≠ tagP d → R = false := fun hx => n3 fun e => hx (by
      have := congrArg (fun x : List (List UInt8 × PV) => x[i]?) e
      simp only [List.getElem?_map, gc, gd, Option.map_some, Option.some.injEq] at this
      exact this)
    have hst : tagP c = tagP d → (atags.take (i + 1)).map tagP = (btags.take (i + 1)).map tagP := fun hx => by
      rw [take_get gc, take_get gd]
      simp [hT, hx]
    obtain ⟨cn, ck, cm, cs, ckk, cz, cl⟩ := c
    obtain ⟨dn, dk, dm, ds, dkk, dz, dl⟩ := d
    simp only [Vl.c, Vl.cs_map] at es
    by_cases hn : cn = dn
    · have r2 : decide (¬ cn = dn) = false := decide_eq_false (by simpa using hn)
      by_cases hp : Vl.p (.mk ck cm cs ckk cz cl) = Vl.p (.mk dk dm ds dkk dz dl)
      · rw [decide_eq_true hp] at es
        have hst' := hst (by simp only [tagP, hn, hp])
        (simp only [go_sem, Nat.add_assoc, reduceIte, reduceCtorEq, Nat.reduceEqDiff, Nat.reduceAdd, Nat.reduceMul, Nat.reduceSub, Nat.reduceLeDiff, Nat.reduceLT, Nat.reduceBEq, Nat.reduceBNe, Int.reduceLE, Int.reduceLT, Int.reduceToNat, Int.reduceEq, Int.reduceNe, Int.reduceNeg, Nat.reduceEqDiff, Int.reduceAdd, Int.reduceSub, Int.reduceMul, Int.cast_ofNat_Int, Int.natCast_zero, r1, b1, hts.1, hts'.1, gc, gd, tagC, Vl.c, Vl.cs_map, s15, es, r2, hw]; repeat' (refine kont_next ?_ <;> (try simp only [go_sem, Nat.add_assoc, reduceIte, reduceCtorEq, Nat.reduceEqDiff, Nat.reduceAdd, Nat.reduceMul, Nat.reduceSub, Nat.reduceLeDiff, Nat.reduceLT, Nat.reduceBEq, Nat.reduceBNe, Int.reduceLE, Int.reduceLT, Int.reduceToNat, Int.reduceEq, Int.reduceNe, Int.reduceNeg, Nat.reduceEqDiff, Int.reduceAdd, Int.reduceSub, Int.reduceMul, Int.cast_ofNat_Int, Int.natCast_zero, r1, b1, hts.1, hts'.1, gc, gd, tagC, Vl.c, Vl.cs_map, s15, es, r2, hw])))
        exact ⟨i + 1, rfl, ⟨by omega, hst'⟩, by omega⟩
      · rw [decide_eq_false hp] at es
        rw [hne fun e => hp (congrArg Prod.snd e)]
        (simp only [go_sem, Nat.add_assoc, reduceIte, reduceCtorEq, Nat.reduceEqDiff, Nat.reduceAdd, Nat.reduceMul, Nat.reduceSub, Nat.reduceLeDiff, Nat.reduceLT, Nat.reduceBEq, Nat.reduceBNe, Int.reduceLE, Int.reduceLT, Int.reduceToNat, Int.reduceEq, Int.reduceNe, Int.reduceNeg, Nat.reduceEqDiff, Int.reduceAdd, Int.reduceSub, Int.reduceMul, Int.cast_ofNat_Int, Int.natCast_zero, r1, b1, hts.1, hts'.1, gc, gd, tagC, Vl.c, Vl.cs_map, s15, es, r2]; repeat' (refine kont_next ?_ <;> (try simp only [go_sem, Nat.add_assoc, reduceIte, reduceCtorEq, Nat.reduceEqDiff, Nat.reduceAdd, Nat.reduceMul, Nat.reduceSub, Nat.reduceLeDiff, Nat.reduceLT, Nat.reduceBEq, Nat.reduceBNe, Int.reduceLE, Int.reduceLT, Int.reduceToNat, Int.reduceEq, Int.reduceNe, Int.reduceNeg, Nat.reduceEqDiff, Int.reduceAdd, Int.reduceSub, Int.reduceMul, Int.cast_ofNat_Int, Int.natCast_zero, r1, b1, hts.1, hts'.1, gc, gd, tagC, Vl.c, Vl.cs_map, s15, es, r2])))
    · have r2 : decide (¬ cn = dn) = true := decide_eq_true hn
      rw [hne fun e => hn (congrArg Prod.fst e)]
      (simp only [go_sem, Nat.add_assoc, reduceIte, reduceCtorEq, Nat.reduceEqDiff, Nat.reduceAdd, Nat.reduceMul, Nat.reduceSub, Nat.reduceLeDiff, Nat.reduceLT, Nat.reduceBEq, Nat.reduceBNe, Int.reduceLE, Int.reduceLT, Int.reduceToNat, Int.reduceEq, Int.reduceNe, Int.reduceNeg, Nat.reduceEqDiff, Int.reduceAdd, Int.reduceSub, Int.reduceMul, Int.cast_ofNat_Int, Int.natCast_zero, r1, b1, hts.1, hts'.1, gc, gd, tagC, Vl.c, Vl.cs_map, r2]; repeat' (refine kont_next ?_ <;> (try simp only [go_sem, Nat.add_assoc, reduceIte, reduceCtorEq, Nat.reduceEqDiff, Nat.reduceAdd, Nat.reduceMul, Nat.reduceSub, Nat.reduceLeDiff, Nat.reduceLT, Nat.reduceBEq, Nat.reduceBNe, Int.reduceLE, Int.reduceLT, Int.reduceToNat, Int.reduceEq, Int.reduceNe, Int.reduceNeg, Nat.reduceEqDiff, Int.reduceAdd, Int.reduceSub, Int.reduceMul, Int.cast_ofNat_Int, Int.natCast_zero, r1, b1, hts.1, hts'.1, gc, gd, tagC, Vl.c, Vl.cs_map, r2])))
  · have r1 : decide ((i : Int) < (atags.length : Int)) = false := decide_eq_false (by omega)
    rw [List.take_of_length_le (by omega), List.take_of_length_le (by omega)] at hT
    rw [yes' hT]
    (simp only [go_sem, Nat.add_assoc, reduceIte, reduceCtorEq, Nat.reduceEqDiff, Nat.reduceAdd, Nat.reduceMul, Nat.reduceSub, Nat.reduceLeDiff, Nat.reduceLT, Nat.reduceBEq, Nat.reduceBNe, Int.reduceLE, Int.reduceLT, Int.reduceToNat, Int.reduceEq, Int.reduceNe, Int.reduceNeg, Nat.reduceEqDiff, Int.reduceAdd, Int.reduceSub, Int.reduceMul, Int.cast_ofNat_Int, Int.natCast_zero, r1]; repeat' (refine kont_next ?_ <;> (try simp only [go_sem, Nat.add_assoc, reduceIte, reduceCtorEq, Nat.reduceEqDiff, Nat.reduceAdd, Nat.reduceMul, Nat.reduceSub, Nat.reduceLeDiff, Nat.reduceLT, Nat.reduceBEq, Nat.reduceBNe, Int.reduceLE, Int.reduceLT, Int.reduceToNat, Int.reduceEq, Int.reduceNe, Int.reduceNeg, Nat.reduceEqDiff, Int.reduceAdd, Int.reduceSub, Int.reduceMul, Int.cast_ofNat_Int, Int.natCast_zero, r1])))
open Classical in
theorem e20 (a b : Tv) (ha : a.ok) (hb : b.ok) : acall S 20 [.agg a.cs, .agg b.cs] = some (.b (decide (a.p = b.p)), []) := by
  have e1 := e18 a b ha hb
  generalize decide (a.p = b.p) = R at e1 ⊢
  obtain ⟨⟨ak, an, as_, akk, az, al⟩, apk, apz, apath, atk, atz, atags, aloops⟩ := a
  obtain ⟨⟨bk, bn, bs, bkk, bz, bl⟩, bpk, bpz, bpath, btk, btz, btags, bloops⟩ := b
  simp only [Tv.cs, Vl.c, Vl.cs_map, List.cons_append, List.nil_append] at e1 ⊢
  refine W_eq (g20 rfl ?_)
  (simp only [go_sem, Nat.add_assoc, reduceIte, reduceCtorEq, Nat.reduceEqDiff, Nat.reduceAdd, Nat.reduceMul, Nat.reduceSub, Nat.reduceLeDiff, Nat.reduceLT, Nat.reduceBEq, Nat.reduceBNe, Int.reduceLE, Int.reduceLT, Int.reduceToNat, Int.reduceEq, Int.reduceNe, Int.reduceNeg, Nat.reduceEqDiff, Int.reduceAdd, Int.reduceSub, Int.reduceMul, Int.cast_ofNat_Int, Int.natCast_zero, a20, s18, e1]; repeat' (refine kont_next ?_ <;> (try simp only [go_sem, Nat.add_assoc, reduceIte, reduceCtorEq, Nat.reduceEqDiff, Nat.reduceAdd, Nat.reduceMul, Nat.reduceSub, Nat.reduceLeDiff, Nat.reduceLT, Nat.reduceBEq, Nat.reduceBNe, Int.reduceLE, Int.reduceLT, Int.reduceToNat, Int.reduceEq, Int.reduceNe, Int.reduceNeg, Nat.reduceEqDiff, Int.reduceAdd, Int.reduceSub, Int.reduceMul, Int.cast_ofNat_Int, Int.natCast_zero, a20, s18, e1])))
end Go.Proofs.YtmdbfbcolofelaaDoor
