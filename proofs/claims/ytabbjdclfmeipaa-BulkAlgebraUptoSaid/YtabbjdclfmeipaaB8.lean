/-
  BulkAlgebra answers true.
-/
import Derived.Test.YtabbjdclfmeipaaB7
set_option linter.unusedSimpArgs false
set_option linter.unusedVariables false
set_option maxHeartbeats 8000000
set_option maxRecDepth 100000
namespace Go.Proofs.Ytabbjdclfmeipaa
open Go.Abs

theorem adds_ok : ∀ (L : List PB) (b c : PB), Ok b → addsB b L = some c → Ok c
  | [], b, c, hb, h => by simp only [addsB, Option.some.injEq] at h; rw [← h]; exact hb
  | d :: r, b, c, hb, h => by
    simp only [addsB] at h
    split at h
    · cases h
    · have hd := ok_mayB d
      exact adds_ok r _ c (ok_add hb hd.pos hd.may (by omega)) h
theorem wrap8 {n : Int} (h0 : 0 ≤ n) (h : n < 256) : IntKind.i64.wrap n = n := wrap_i64 (by omega) (by omega)
theorem alg (ak bk ck : SK) (az bz cz : Nat) (al bl cl : List (Vl × Int)) (ha : OkL ak az al) (hb : OkL bk bz bl) (hc : OkL ck cz cl) (n m : Int) (hn0 : 0 ≤ n) (hn : n < 256) (hm0 : 0 ≤ m) (hm : m < 256) :
    acall S 3 [.sl ak az (al.map cC), .sl bk bz (bl.map cC), .sl ck cz (cl.map cC), .i .u8 n, .i .u8 m] = some (.b true, []) := by
  have hMC : MC = 9007199254740992 := rfl
  have fa := e7 ak az (al.map cC)
  have fb := e7 bk bz (bl.map cC)
  have fc := e7 ck cz (cl.map cC)
  rw [List.length_map] at fa fb fc
  have hbeg := e9
  refine W_eq (g3 rfl ?_)
  cases qa : decide ((al.length : Int) ≤ 60) with
  | false =>
    rw [qa] at fa
    (simp only [go_sem, Nat.add_assoc, reduceIte, reduceCtorEq, Nat.reduceEqDiff, Nat.reduceAdd, Nat.reduceMul, Nat.reduceSub, Nat.reduceLeDiff, Nat.reduceLT, Nat.reduceBEq, Nat.reduceBNe, Int.reduceLE, Int.reduceLT, Int.reduceToNat, Int.reduceEq, Int.reduceNe, Int.reduceNeg, Nat.reduceEqDiff, Int.reduceAdd, Int.reduceSub, Int.reduceMul, Int.cast_ofNat_Int, Int.natCast_zero, a3, s7, fa]; repeat' ((first | refine kont_next ?_ | refine kont_nextn ?_ | refine ikont_next ?_ | refine ikont_nextn ?_) <;> (try simp only [go_sem, Nat.add_assoc, reduceIte, reduceCtorEq, Nat.reduceEqDiff, Nat.reduceAdd, Nat.reduceMul, Nat.reduceSub, Nat.reduceLeDiff, Nat.reduceLT, Nat.reduceBEq, Nat.reduceBNe, Int.reduceLE, Int.reduceLT, Int.reduceToNat, Int.reduceEq, Int.reduceNe, Int.reduceNeg, Nat.reduceEqDiff, Int.reduceAdd, Int.reduceSub, Int.reduceMul, Int.cast_ofNat_Int, Int.natCast_zero, a3, s7, fa])))
  | true =>
  rw [qa] at fa
  cases qb : decide ((bl.length : Int) ≤ 60) with
  | false =>
    rw [qb] at fb
    (simp only [go_sem, Nat.add_assoc, reduceIte, reduceCtorEq, Nat.reduceEqDiff, Nat.reduceAdd, Nat.reduceMul, Nat.reduceSub, Nat.reduceLeDiff, Nat.reduceLT, Nat.reduceBEq, Nat.reduceBNe, Int.reduceLE, Int.reduceLT, Int.reduceToNat, Int.reduceEq, Int.reduceNe, Int.reduceNeg, Nat.reduceEqDiff, Int.reduceAdd, Int.reduceSub, Int.reduceMul, Int.cast_ofNat_Int, Int.natCast_zero, a3, s7, fa, fb]; repeat' ((first | refine kont_next ?_ | refine kont_nextn ?_ | refine ikont_next ?_ | refine ikont_nextn ?_) <;> (try simp only [go_sem, Nat.add_assoc, reduceIte, reduceCtorEq, Nat.reduceEqDiff, Nat.reduceAdd, Nat.reduceMul, Nat.reduceSub, Nat.reduceLeDiff, Nat.reduceLT, Nat.reduceBEq, Nat.reduceBNe, Int.reduceLE, Int.reduceLT, Int.reduceToNat, Int.reduceEq, Int.reduceNe, Int.reduceNeg, Nat.reduceEqDiff, Int.reduceAdd, Int.reduceSub, Int.reduceMul, Int.cast_ofNat_Int, Int.natCast_zero, a3, s7, fa, fb])))
  | true =>
  rw [qb] at fb
  cases qc : decide ((cl.length : Int) ≤ 60) with
  | false =>
    rw [qc] at fc
    (simp only [go_sem, Nat.add_assoc, reduceIte, reduceCtorEq, Nat.reduceEqDiff, Nat.reduceAdd, Nat.reduceMul, Nat.reduceSub, Nat.reduceLeDiff, Nat.reduceLT, Nat.reduceBEq, Nat.reduceBNe, Int.reduceLE, Int.reduceLT, Int.reduceToNat, Int.reduceEq, Int.reduceNe, Int.reduceNeg, Nat.reduceEqDiff, Int.reduceAdd, Int.reduceSub, Int.reduceMul, Int.cast_ofNat_Int, Int.natCast_zero, a3, s7, fa, fb, fc]; repeat' ((first | refine kont_next ?_ | refine kont_nextn ?_ | refine ikont_next ?_ | refine ikont_nextn ?_) <;> (try simp only [go_sem, Nat.add_assoc, reduceIte, reduceCtorEq, Nat.reduceEqDiff, Nat.reduceAdd, Nat.reduceMul, Nat.reduceSub, Nat.reduceLeDiff, Nat.reduceLT, Nat.reduceBEq, Nat.reduceBNe, Int.reduceLE, Int.reduceLT, Int.reduceToNat, Int.reduceEq, Int.reduceNe, Int.reduceNeg, Nat.reduceEqDiff, Int.reduceAdd, Int.reduceSub, Int.reduceMul, Int.cast_ofNat_Int, Int.natCast_zero, a3, s7, fa, fb, fc])))
  | true =>
  rw [qc] at fc
  have la := of_decide_eq_true qa
  have lb := of_decide_eq_true qb
  have lc := of_decide_eq_true qc
  clear qa qb qc
  let A : Bg := ⟨ak, az, al⟩
  let B : Bg := ⟨bk, bz, bl⟩
  let C : Bg := ⟨ck, cz, cl⟩
  obtain ⟨⟨k1, z1, l1⟩, e1, o1, p1, n1⟩ := e8 ha (L := [B]) (OkS.open_ 1 _) (by simp; exact hb) (by simp [lens, B]; omega) (by simp)
  obtain ⟨⟨k2, z2, l2⟩, e2, o2, p2, n2⟩ := e8 hb (L := [A]) (OkS.open_ 1 _) (by simp; exact ha) (by simp [lens, A]; omega) (by simp)
  have hX := ok_mayB (cPs al)
  have hY := ok_mayB (cPs bl)
  have hZ := ok_mayB (cPs cl)
  have t1 := tot_nonneg hX.pos
  have t2 := tot_nonneg hY.pos
  have t3 := hX.tot
  have t4 := hY.tot
  by_cases hov : totB (mayB (cPs al)) + totB (mayB (cPs bl)) ≤ MC
  case neg =>
    have r1 : addsB (mayB (cPs al)) ([B].map Bg.p) = none := by
      show (if _ < _ then _ else _) = _
      rw [if_pos]
      simp only [Bg.p, B]; omega
    have r2 : addsB (mayB (cPs bl)) ([A].map Bg.p) = none := by
      show (if _ < _ then _ else _) = _
      rw [if_pos]
      simp only [Bg.p, A]; omega
    rw [r1] at e1 p1
    rw [r2] at e2 p2
    have es := same_t o1 o2 (p1.trans p2.symm)
    simp only [A, B, List.map_cons, List.map_nil, Bg.c, Bg.a, errB] at e1 e2 es
    (simp only [go_sem, Nat.add_assoc, reduceIte, reduceCtorEq, Nat.reduceEqDiff, Nat.reduceAdd, Nat.reduceMul, Nat.reduceSub, Nat.reduceLeDiff, Nat.reduceLT, Nat.reduceBEq, Nat.reduceBNe, Int.reduceLE, Int.reduceLT, Int.reduceToNat, Int.reduceEq, Int.reduceNe, Int.reduceNeg, Nat.reduceEqDiff, Int.reduceAdd, Int.reduceSub, Int.reduceMul, Int.cast_ofNat_Int, Int.natCast_zero, a3, s7, fa, fb, fc, s8, e1, e2, s9, hbeg, s10, es]; repeat' ((first | refine kont_next ?_ | refine kont_nextn ?_ | refine ikont_next ?_ | refine ikont_nextn ?_) <;> (try simp only [go_sem, Nat.add_assoc, reduceIte, reduceCtorEq, Nat.reduceEqDiff, Nat.reduceAdd, Nat.reduceMul, Nat.reduceSub, Nat.reduceLeDiff, Nat.reduceLT, Nat.reduceBEq, Nat.reduceBNe, Int.reduceLE, Int.reduceLT, Int.reduceToNat, Int.reduceEq, Int.reduceNe, Int.reduceNeg, Nat.reduceEqDiff, Int.reduceAdd, Int.reduceSub, Int.reduceMul, Int.cast_ofNat_Int, Int.natCast_zero, a3, s7, fa, fb, fc, s8, e1, e2, s9, hbeg, s10, es])))
  have r1 : addsB (mayB (cPs al)) ([B].map Bg.p) = some (addB (mayB (cPs al)) (mayB (cPs bl))) := by
    show (if _ < _ then _ else _) = _
    rw [if_neg]
    · rfl
    · simp only [Bg.p, B]; omega
  have r2 : addsB (mayB (cPs bl)) ([A].map Bg.p) = some (addB (mayB (cPs bl)) (mayB (cPs al))) := by
    show (if _ < _ then _ else _) = _
    rw [if_neg]
    · rfl
    · simp only [Bg.p, A]; omega
  rw [r1] at e1 p1
  rw [r2] at e2 p2
  have es := same_t o1 o2 (p1.trans ((add_comm' hX hY hov).trans p2.symm))
  simp only [A, B, List.map_cons, List.map_nil, Bg.c, Bg.a, errB] at e1 e2 es
  have hXY := ok_add hX hY.pos hY.may hov
  have p1' : cPs l1 = addB (mayB (cPs al)) (mayB (cPs bl)) := p1
  have hmXY : mayB (cPs l1) = addB (mayB (cPs al)) (mayB (cPs bl)) := by rw [p1', mayB_ok hXY]
  simp only [lens, B] at n1
  obtain ⟨⟨k3, z3, l3⟩, e3, o3, p3, n3⟩ := e8 o1 (L := [C]) (OkS.open_ 1 _) (by simp; exact hc) (by simp [lens, C]; omega) (by simp)
  obtain ⟨⟨k4, z4, l4⟩, e4, o4, p4, n4⟩ := e8 ha (L := [B, C]) (OkS.open_ 1 _) (by simp; exact ⟨hb, hc⟩) (by simp [lens, B, C]; omega) (by simp)
  have hq : addsB (mayB (cPs al)) ([B, C].map Bg.p) = addsB (mayB (cPs l1)) ([C].map Bg.p) := by
    rw [hmXY]
    show (if _ < _ then _ else _) = _
    rw [if_neg]
    · rfl
    · simp only [Bg.p, B]; omega
  rw [hq] at e4 p4
  have es2 := same_t o3 o4 (p3.trans p4.symm)
  simp only [B, C, List.map_cons, List.map_nil, Bg.c, Bg.a] at e3 e4 es2
  generalize errB (addsB (mayB (cPs l1)) [Bg.p ⟨ck, cz, cl⟩]) = E at e3 e4
  have wn := wrap8 hn0 hn
  have wm := wrap8 hm0 hm
  obtain ⟨⟨k5, z5, l5⟩, e5, o5, p5, n5⟩ := e11 o1 n
  simp only [Bg.a] at e5
  rw [hmXY] at e5 p5
  by_cases hf : totB (addB (mayB (cPs al)) (mayB (cPs bl))) * n ≤ MC
  case neg =>
    rw [scR_err hXY hn0 hf] at e5
    (simp only [go_sem, Nat.add_assoc, reduceIte, reduceCtorEq, Nat.reduceEqDiff, Nat.reduceAdd, Nat.reduceMul, Nat.reduceSub, Nat.reduceLeDiff, Nat.reduceLT, Nat.reduceBEq, Nat.reduceBNe, Int.reduceLE, Int.reduceLT, Int.reduceToNat, Int.reduceEq, Int.reduceNe, Int.reduceNeg, Nat.reduceEqDiff, Int.reduceAdd, Int.reduceSub, Int.reduceMul, Int.cast_ofNat_Int, Int.natCast_zero, a3, s7, fa, fb, fc, s8, e1, e2, e3, e4, s9, hbeg, s10, es, es2, wn, wm, s11, e5]; repeat' ((first | refine kont_next ?_ | refine kont_nextn ?_ | refine ikont_next ?_ | refine ikont_nextn ?_) <;> (try simp only [go_sem, Nat.add_assoc, reduceIte, reduceCtorEq, Nat.reduceEqDiff, Nat.reduceAdd, Nat.reduceMul, Nat.reduceSub, Nat.reduceLeDiff, Nat.reduceLT, Nat.reduceBEq, Nat.reduceBNe, Int.reduceLE, Int.reduceLT, Int.reduceToNat, Int.reduceEq, Int.reduceNe, Int.reduceNeg, Nat.reduceEqDiff, Int.reduceAdd, Int.reduceSub, Int.reduceMul, Int.cast_ofNat_Int, Int.natCast_zero, a3, s7, fa, fb, fc, s8, e1, e2, e3, e4, s9, hbeg, s10, es, es2, wn, wm, s11, e5])))
  have hval := scR_val hXY hn0 hf
  rw [hval] at e5 p5
  obtain ⟨v1, v2, v3⟩ := scR_add hX hY hn0 hov hf
  obtain ⟨⟨k6, z6, l6⟩, e6, o6, p6, n6⟩ := e11 ha n
  obtain ⟨⟨k7, z7, l7⟩, e7, o7, p7, n7⟩ := e11 hb n
  rw [v1] at e6
  rw [v2] at e7
  simp only at n6 n7
  obtain ⟨⟨k8, z8, l8⟩, e8, o8, p8, n8⟩ := e8 o6 (L := [⟨k7, z7, l7⟩]) (OkS.open_ 1 _) (by simp; exact o7) (by simp [lens]; omega) (by simp)
  have p6' : cPs l6 = _ := p6
  have p7' : Bg.p ⟨k7, z7, l7⟩ = _ := p7
  have r8 : addsB (mayB (cPs l6)) ([(⟨k7, z7, l7⟩ : Bg)].map Bg.p) = some (if n = 0 then [] else scaleB n (addB (mayB (cPs al)) (mayB (cPs bl)))) := by
    rw [p6', List.map_cons, List.map_nil, p7', v3]
  rw [r8] at e8 p8
  have es3 := same_t o5 o8 (p5.trans p8.symm)
  obtain ⟨⟨k9, z9, l9⟩, e9, o9, p9, n9⟩ := e11 o5 m
  obtain ⟨⟨k10, z10, l10⟩, e10, o10, p10, n10⟩ := e11 o1 (n * m)
  have p5' : cPs l5 = _ := p5
  have htw := scR_twice hXY hn0 hm0 hf
  rw [p5', htw] at e9 p9
  rw [hmXY] at e10 p10
  have es4 := same_t o9 o10 (p9.trans p10.symm)
  have hnm : n * m ≤ 255 * 255 := Int.mul_le_mul (by omega) (by omega) hm0 (by omega)
  have hnm0 : 0 ≤ n * m := Int.mul_nonneg hn0 hm0
  have wnm : IntKind.i64.wrap (n * m) = n * m := wrap_i64 (by omega) (by omega)
  simp only [List.map_cons, List.map_nil, Bg.c, Bg.a, errB] at e6 e7 e8 e9 e10 es3 es4
  generalize (scR (addB (mayB (cPs al)) (mayB (cPs bl))) (n * m)).2 = E2 at e9 e10
  (simp only [go_sem, Nat.add_assoc, reduceIte, reduceCtorEq, Nat.reduceEqDiff, Nat.reduceAdd, Nat.reduceMul, Nat.reduceSub, Nat.reduceLeDiff, Nat.reduceLT, Nat.reduceBEq, Nat.reduceBNe, Int.reduceLE, Int.reduceLT, Int.reduceToNat, Int.reduceEq, Int.reduceNe, Int.reduceNeg, Nat.reduceEqDiff, Int.reduceAdd, Int.reduceSub, Int.reduceMul, Int.cast_ofNat_Int, Int.natCast_zero, a3, s7, fa, fb, fc, s8, e1, e2, e3, e4, s9, hbeg, s10, es, es2, wn, wm, s11, e5, e6, e7, e8, es3, e9, e10, es4, wnm]; repeat' ((first | refine kont_next ?_ | refine kont_nextn ?_ | refine ikont_next ?_ | refine ikont_nextn ?_) <;> (try simp only [go_sem, Nat.add_assoc, reduceIte, reduceCtorEq, Nat.reduceEqDiff, Nat.reduceAdd, Nat.reduceMul, Nat.reduceSub, Nat.reduceLeDiff, Nat.reduceLT, Nat.reduceBEq, Nat.reduceBNe, Int.reduceLE, Int.reduceLT, Int.reduceToNat, Int.reduceEq, Int.reduceNe, Int.reduceNeg, Nat.reduceEqDiff, Int.reduceAdd, Int.reduceSub, Int.reduceMul, Int.cast_ofNat_Int, Int.natCast_zero, a3, s7, fa, fb, fc, s8, e1, e2, e3, e4, s9, hbeg, s10, es, es2, wn, wm, s11, e5, e6, e7, e8, es3, e9, e10, es4, wnm])))
end Go.Proofs.Ytabbjdclfmeipaa
