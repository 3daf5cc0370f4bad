import Derived.Test.YtgeaibhgaihobaaDoorK2
import Derived.Test.YtgeaibhgaihobaaDoorJ12
import Derived.Test.YtgeaibhgaihobaaDoorGB
set_option linter.unusedSimpArgs false
set_option linter.unusedVariables false
set_option maxHeartbeats 8000000
set_option maxRecDepth 100000
namespace Go.Proofs.YtgeaibhgaihobaaDoor
open Go.Abs
open Nat renaming add_assoc → J0, reduceEqDiff → Ja, reduceAdd → Jb, reduceMul → Jc, reduceSub → Jd, reduceLeDiff → Je, reduceLT → Jf, reduceBEq → Jg, reduceBNe → Jh
open Int renaming reduceLE → Ji, reduceLT → Jj, reduceToNat → Jk, reduceEq → Jl, reduceNe → Jm, reduceNeg → Jn, reduceAdd → Jo, reduceSub → Jp, reduceMul → Jq, cast_ofNat_Int → Jr, natCast_zero → Js
open Classical in
theorem just_true {g : Gr} (h : g.ok) {ec v : Vl} (hv : v.ok) {name : List UInt8} (hn : name.length ≤ 137438953472) :
    acall S 4 [.agg g.c, .agg ec.c, .str name, .agg v.c] = some (.b true, []) := by
  have hbg := e5
  have hck := e6 g h
  have hec0 : ec = ec := rfl
  obtain ⟨kd, n, s, kk, z, ls⟩ := ec
  cases hc : okG g.p with
  | false =>
    rw [hc] at hck
    obtain ⟨yk, ym, ys, ykk, yz, yll⟩ := v
    simp only [Gr.c, Vl.c, Vl.cs_map] at hck ⊢
    refine W_eq (g4 rfl ?_)
    (repeat' (first | (with_reducible first | refine kont_next ?_ | refine lkont_next ?_ | refine kont_nextn ?_ | refine ikont_next ?_ | refine ikont_nextn ?_) | simp only [go_sem, J0, reduceIte, reduceCtorEq, Ja, Jb, Jc, Jd, Je, Jf, Jg, Jh, Ji, Jj, Jk, Jl, Jm, Jn, Jo, Jp, Jq, Jr, Js, a4, s5, hbg, s6, hck]))
  | true =>
    rw [hc] at hck
    obtain ⟨w, had, hp1, hwo, hwp⟩ := propX h (name := name) hec0
    obtain ⟨q, e, hs1, hqo, hqe⟩ := setX h hv hn hec0
    have hq1 : q.p = (setG g.p kd n name v.p).1 := congrArg Prod.fst hqe
    have hq2 : e = (setG g.p kd n name v.p).2 := congrArg Prod.snd hqe
    by_cases he : e = 0
    · subst he
      obtain ⟨l1, l2, l3, l4, l5⟩ := just_law hc hq2.symm
      rw [← hq1] at l1 l2 l3 l4 l5
      obtain ⟨w2, b2, hp2, hwo2, hwp2⟩ := propX hqo (name := name) hec0
      rw [l1] at hwp2
      obtain ⟨r, b3, e3, hun, hro, hre⟩ := unsetX hqo (name := name) hec0
      have hr1 : r.p = (unsetG q.p kd n name).1 := congrArg Prod.fst hre
      have hr2 : (b3, e3) = (unsetG q.p kd n name).2 := congrArg Prod.snd hre
      rw [l2] at hr2
      rw [← hr1] at l3 l4 l5
      obtain ⟨rfl, rfl⟩ := Prod.mk.injEq .. ▸ hr2
      obtain ⟨w4, b4, hp4, hwo4, hwp4⟩ := propX hro (name := name) hec0
      rw [l3] at hwp4
      obtain rfl : b2 = true := by cases b2 with
        | true => rfl
        | false => cases hwp2
      obtain rfl : b4 = false := by cases b4 with
        | false => rfl
        | true => cases hwp4
      have hw2 : w2.p = v.p := by simpa using hwp2
      have hsv := e16 w2 v hwo2 hv
      rw [decide_eq_true hw2] at hsv
      cases had with
      | false =>
        have hrg := l4 (by rw [← hwp]; rfl)
        have hsm := e15 r g hro h
        rw [decide_eq_true hrg] at hsm
        obtain ⟨yk, ym, ys, ykk, yz, yll⟩ := v
        obtain ⟨wk, wm, ws, wkk, wz, wll⟩ := w
        obtain ⟨w2k, w2m, w2s, w2kk, w2z, w2ll⟩ := w2
        obtain ⟨w4k, w4m, w4s, w4kk, w4z, w4ll⟩ := w4
        simp only [Gr.c, Vl.c, Vl.cs_map] at hck hp1 hs1 hp2 hun hp4 hsv hsm ⊢
        refine W_eq (g4 rfl ?_)
        (repeat' (first | (with_reducible first | refine kont_next ?_ | refine lkont_next ?_ | refine kont_nextn ?_ | refine ikont_next ?_ | refine ikont_nextn ?_) | simp only [go_sem, J0, reduceIte, reduceCtorEq, Ja, Jb, Jc, Jd, Je, Jf, Jg, Jh, Ji, Jj, Jk, Jl, Jm, Jn, Jo, Jp, Jq, Jr, Js, a4, s5, hbg, s6, hck, s13, hp1, hp2, hp4, s14, hs1, s17, hun, s16, hsv, s15, hsm]))
      | true =>
        have hpw : propG g.p kd n name = some w.p := by rw [← hwp]; rfl
        obtain ⟨t, e5, hs2, hto, hte⟩ := setX hro hwo hn hec0
        rw [l5 _ hpw] at hte
        obtain ⟨htg, rfl⟩ := Prod.mk.injEq .. ▸ hte
        have hsm := e15 t g hto h
        rw [decide_eq_true htg] at hsm
        obtain ⟨yk, ym, ys, ykk, yz, yll⟩ := v
        obtain ⟨wk, wm, ws, wkk, wz, wll⟩ := w
        obtain ⟨w2k, w2m, w2s, w2kk, w2z, w2ll⟩ := w2
        obtain ⟨w4k, w4m, w4s, w4kk, w4z, w4ll⟩ := w4
        simp only [Gr.c, Vl.c, Vl.cs_map] at hck hp1 hs1 hp2 hun hp4 hsv hsm hs2 ⊢
        refine W_eq (g4 rfl ?_)
        (repeat' (first | (with_reducible first | refine kont_next ?_ | refine lkont_next ?_ | refine kont_nextn ?_ | refine ikont_next ?_ | refine ikont_nextn ?_) | simp only [go_sem, J0, reduceIte, reduceCtorEq, Ja, Jb, Jc, Jd, Je, Jf, Jg, Jh, Ji, Jj, Jk, Jl, Jm, Jn, Jo, Jp, Jq, Jr, Js, a4, s5, hbg, s6, hck, s13, hp1, hp2, hp4, s14, hs1, hs2, s17, hun, s16, hsv, s15, hsm]))
    · have hqg : q.p = g.p := by rw [hq1]; exact setG_ne (by rw [← hq2]; exact he)
      have hsm := e15 q g hqo h
      rw [decide_eq_true hqg] at hsm
      have d1 : decide (¬ e = 0) = true := decide_eq_true he
      obtain ⟨yk, ym, ys, ykk, yz, yll⟩ := v
      obtain ⟨wk, wm, ws, wkk, wz, wll⟩ := w
      simp only [Gr.c, Vl.c, Vl.cs_map] at hck hp1 hs1 hsm ⊢
      refine W_eq (g4 rfl ?_)
      (repeat' (first | (with_reducible first | refine kont_next ?_ | refine lkont_next ?_ | refine kont_nextn ?_ | refine ikont_next ?_ | refine ikont_nextn ?_) | simp only [go_sem, J0, reduceIte, reduceCtorEq, Ja, Jb, Jc, Jd, Je, Jf, Jg, Jh, Ji, Jj, Jk, Jl, Jm, Jn, Jo, Jp, Jq, Jr, Js, a4, s5, hbg, s6, hck, s13, hp1, s14, hs1, s15, hsm, d1]))
end Go.Proofs.YtgeaibhgaihobaaDoor
