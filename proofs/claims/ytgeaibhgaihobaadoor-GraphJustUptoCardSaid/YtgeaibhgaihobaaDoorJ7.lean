import Derived.Test.YtgeaibhgaihobaaDoorJ6
set_option linter.unusedSimpArgs false
set_option linter.unusedVariables false
set_option maxHeartbeats 8000000
set_option maxRecDepth 100000
namespace Go.Proofs.YtgeaibhgaihobaaDoor
open Go.Abs
open Nat renaming add_assoc → J0, reduceEqDiff → Ja, reduceAdd → Jb, reduceMul → Jc, reduceSub → Jd, reduceLeDiff → Je, reduceLT → Jf, reduceBEq → Jg, reduceBNe → Jh
open Int renaming reduceLE → Ji, reduceLT → Jj, reduceToNat → Jk, reduceEq → Jl, reduceNe → Jm, reduceNeg → Jn, reduceAdd → Jo, reduceSub → Jp, reduceMul → Jq, cast_ofNat_Int → Jr, natCast_zero → Js
theorem set_fullm_v {g : Gr} (h : g.ok) {v : Vl} (hv : v.ok) {name s : List UInt8} {n : Int} {kk : SK} {z : Nat} {ll : List (List AV)} {i : Nat} {x : Vx} (hn : name.length ≤ 137438953472) (hc : okG g.p = true) (hi : idxJ (isV n) (g.vs.map Vx.cl) 0 = (i : Int)) (hx : g.vs[i]? = some x) (hq : nameB name = true) (hw : mayV v.p 0 = true) {m : Nat} {w : Vl} {nm : List UInt8} (hm : idxJ (geP name) (x.props.map clT) 0 = (m : Int)) (hpm : (x.props.map clT)[m]? = some (nm, w)) (hne : ¬ nm = name) (hxo : x.ok) (hfull : 16 ≤ x.props.length) :
    acall S 14 [.agg g.c, .agg [.i .i64 6, .i .i64 n, .str s, .sl kk z ll], .str name, .agg v.c] = some (.tup [.agg g.cl.c, .i .i64 102], []) := by
  have hcl := e1000031 g h
  have hck := e6 g.cl (Gr.cl_ok h)
  rw [Gr.cl_p, hc] at hck
  have hvl := h.vl
  have hel := h.el
  have hv0 := clV_c (ClV_cl g.vs)
  have he0 := clE_c (ClE_cl g.es)
  have hx2 : (g.vs.map Vx.cl)[i]? = some x.cl := by rw [List.getElem?_map, hx]; rfl
  have hlt : i < g.vs.length := (List.getElem?_eq_some_iff.1 hx).1
  have hp := fun hp hh => props_some_v (hp := hp) (kv := 1024) (ke := 1025) (Kv := 1025000000000000000) (Ke := 1026000000000000000) (last := g.last) (s := s) (y := .sl kk z ll) hh (lies_cl h (by omega) (by omega) (by omega) (by omega)) hi hx2
  have hnm := e22 name (Nat.le_trans hn (by decide))
  have hvk := e33 v hv
  rw [hq] at hnm
  rw [hw] at hvk
  have hu := clV_e hv
  have hidx := idxG name (OkS.open_ 5 (x.props.map clT)) (by rw [List.length_map]; exact hxo.ps.len)
  rw [hm] at hidx
  have hi37 : i < 137438953472 := by omega
  have hpl : x.props.length ≤ 137438953472 := hxo.ps.len
  have b0 : decide ((0 : Int) ≤ (m : Int)) = true := decide_eq_true (by omega)
  have b1 : (0 : Int) ≤ (m : Int) := by omega
  have hml := (List.getElem?_eq_some_iff.1 hpm).1
  rw [List.length_map] at hml
  have b2 : (m : Int) < (x.props.length : Int) := by omega
  have bne : decide (nm = name) = false := decide_eq_false hne
  have b3 : decide ((m : Int) < 0) = false := decide_eq_false (by omega)
  have b16 : decide ((16 : Int) ≤ (x.props.length : Int)) = true := decide_eq_true (by omega)
  obtain ⟨xid, xl,  xpk, xpz, xps⟩ := x
  simp only at hpm hml b2 hpl b16 hidx
  obtain ⟨wk, wn, ws, wkk, wz, wl⟩ := w
  generalize clV v = u at hu ⊢
  obtain ⟨uk, un, us, ukk, uz, ul⟩ := u
  obtain ⟨yk, ym, ys, ykk, yz, yll⟩ := v
  simp only [growd, Gr.c, Gr.cl, Vl.c, Vl.cs_map] at hcl hck hvk ⊢
  simp only [gCells, List.length_map, LiesH, vBlk, eBlk, bxB] at hp
  refine W_eq (g14 rfl ?_)
  simp only [Vl.c, Vl.cs_map] at hu
  (repeat' (first | (with_reducible first | refine kont_next ?_ | refine lkont_next ?_ | refine kont_nextn ?_ | refine ikont_next ?_ | refine ikont_nextn ?_) | simp -implicitDefEqProofs only [go_sem, J0, reduceIte, reduceCtorEq, Ja, Jb, Jc, Jd, Je, Jf, Jg, Jh, Ji, Jj, Jk, Jl, Jm, Jn, Jo, Jp, Jq, Jr, Js, a14, s1000031, hcl, s6, hck, List.length_map, hvl, hel, hv0, he0, snapR (ty := 73) (sz := 5), packRF (ty := 73) (sz := 5), hp, s22, hnm, s33, hvk, s34, hu, s35, hidx, hi37, hlt, hx, hx2, RE.b, RE.r, Vx.re, Vx.cl, tagC, Vl.c, Vl.cs_map, b16, b0, b1, b2, b3, hml, hpm, bne]))
theorem set_fullm_e {g : Gr} (h : g.ok) {v : Vl} (hv : v.ok) {name s : List UInt8} {n : Int} {kk : SK} {z : Nat} {ll : List (List AV)} {i : Nat} {x : Lk} (hn : name.length ≤ 137438953472) (hc : okG g.p = true) (hi : idxJ (isE n) (g.es.map Lk.cl) 0 = (i : Int)) (hx : g.es[i]? = some x) (hq : nameB name = true) (hw : mayV v.p 0 = true) {m : Nat} {w : Vl} {nm : List UInt8} (hm : idxJ (geP name) (x.props.map clT) 0 = (m : Int)) (hpm : (x.props.map clT)[m]? = some (nm, w)) (hne : ¬ nm = name) (hxo : x.ok) (hfull : 16 ≤ x.props.length) :
    acall S 14 [.agg g.c, .agg [.i .i64 7, .i .i64 n, .str s, .sl kk z ll], .str name, .agg v.c] = some (.tup [.agg g.cl.c, .i .i64 102], []) := by
  have hcl := e1000031 g h
  have hck := e6 g.cl (Gr.cl_ok h)
  rw [Gr.cl_p, hc] at hck
  have hvl := h.vl
  have hel := h.el
  have hv0 := clV_c (ClV_cl g.vs)
  have he0 := clE_c (ClE_cl g.es)
  have hx2 : (g.es.map Lk.cl)[i]? = some x.cl := by rw [List.getElem?_map, hx]; rfl
  have hlt : i < g.es.length := (List.getElem?_eq_some_iff.1 hx).1
  have hp := fun hp hh => props_some_e (hp := hp) (kv := 1024) (ke := 1025) (Kv := 1025000000000000000) (Ke := 1026000000000000000) (last := g.last) (s := s) (y := .sl kk z ll) hh (lies_cl h (by omega) (by omega) (by omega) (by omega)) hi hx2
  have hnm := e22 name (Nat.le_trans hn (by decide))
  have hvk := e33 v hv
  rw [hq] at hnm
  rw [hw] at hvk
  have hu := clV_e hv
  have hidx := idxG name (OkS.open_ 5 (x.props.map clT)) (by rw [List.length_map]; exact hxo.ps.len)
  rw [hm] at hidx
  have hi37 : i < 137438953472 := by omega
  have hpl : x.props.length ≤ 137438953472 := hxo.ps.len
  have b0 : decide ((0 : Int) ≤ (m : Int)) = true := decide_eq_true (by omega)
  have b1 : (0 : Int) ≤ (m : Int) := by omega
  have hml := (List.getElem?_eq_some_iff.1 hpm).1
  rw [List.length_map] at hml
  have b2 : (m : Int) < (x.props.length : Int) := by omega
  have bne : decide (nm = name) = false := decide_eq_false hne
  have b3 : decide ((m : Int) < 0) = false := decide_eq_false (by omega)
  have b16 : decide ((16 : Int) ≤ (x.props.length : Int)) = true := decide_eq_true (by omega)
  obtain ⟨xid, xl, xo, xi, xpk, xpz, xps⟩ := x
  simp only at hpm hml b2 hpl b16 hidx
  obtain ⟨wk, wn, ws, wkk, wz, wl⟩ := w
  generalize clV v = u at hu ⊢
  obtain ⟨uk, un, us, ukk, uz, ul⟩ := u
  obtain ⟨yk, ym, ys, ykk, yz, yll⟩ := v
  simp only [growd, Gr.c, Gr.cl, Vl.c, Vl.cs_map] at hcl hck hvk ⊢
  simp only [gCells, List.length_map, LiesH, vBlk, eBlk, bxB] at hp
  refine W_eq (g14 rfl ?_)
  simp only [Vl.c, Vl.cs_map] at hu
  (repeat' (first | (with_reducible first | refine kont_next ?_ | refine lkont_next ?_ | refine kont_nextn ?_ | refine ikont_next ?_ | refine ikont_nextn ?_) | simp -implicitDefEqProofs only [go_sem, J0, reduceIte, reduceCtorEq, Ja, Jb, Jc, Jd, Je, Jf, Jg, Jh, Ji, Jj, Jk, Jl, Jm, Jn, Jo, Jp, Jq, Jr, Js, a14, s1000031, hcl, s6, hck, List.length_map, hvl, hel, hv0, he0, snapR (ty := 73) (sz := 5), packRF (ty := 73) (sz := 5), hp, s22, hnm, s33, hvk, s34, hu, s35, hidx, hi37, hlt, hx, hx2, RE.b, RE.r, Lk.re, Lk.cl, tagC, Vl.c, Vl.cs_map, b16, b0, b1, b2, b3, hml, hpm, bne]))
theorem set_fulll_v {g : Gr} (h : g.ok) {v : Vl} (hv : v.ok) {name s : List UInt8} {n : Int} {kk : SK} {z : Nat} {ll : List (List AV)} {i : Nat} {x : Vx} (hn : name.length ≤ 137438953472) (hc : okG g.p = true) (hi : idxJ (isV n) (g.vs.map Vx.cl) 0 = (i : Int)) (hx : g.vs[i]? = some x) (hq : nameB name = true) (hw : mayV v.p 0 = true) (hm : idxJ (geP name) (x.props.map clT) 0 = -1) (hxo : x.ok) (hfull : 16 ≤ x.props.length) :
    acall S 14 [.agg g.c, .agg [.i .i64 6, .i .i64 n, .str s, .sl kk z ll], .str name, .agg v.c] = some (.tup [.agg g.cl.c, .i .i64 102], []) := by
  have hcl := e1000031 g h
  have hck := e6 g.cl (Gr.cl_ok h)
  rw [Gr.cl_p, hc] at hck
  have hvl := h.vl
  have hel := h.el
  have hv0 := clV_c (ClV_cl g.vs)
  have he0 := clE_c (ClE_cl g.es)
  have hx2 : (g.vs.map Vx.cl)[i]? = some x.cl := by rw [List.getElem?_map, hx]; rfl
  have hlt : i < g.vs.length := (List.getElem?_eq_some_iff.1 hx).1
  have hp := fun hp hh => props_some_v (hp := hp) (kv := 1024) (ke := 1025) (Kv := 1025000000000000000) (Ke := 1026000000000000000) (last := g.last) (s := s) (y := .sl kk z ll) hh (lies_cl h (by omega) (by omega) (by omega) (by omega)) hi hx2
  have hnm := e22 name (Nat.le_trans hn (by decide))
  have hvk := e33 v hv
  rw [hq] at hnm
  rw [hw] at hvk
  have hu := clV_e hv
  have hidx := idxG name (OkS.open_ 5 (x.props.map clT)) (by rw [List.length_map]; exact hxo.ps.len)
  rw [hm] at hidx
  have hi37 : i < 137438953472 := by omega
  have hpl : x.props.length ≤ 137438953472 := hxo.ps.len
  have b16 : decide ((16 : Int) ≤ (x.props.length : Int)) = true := decide_eq_true (by omega)
  obtain ⟨xid, xl,  xpk, xpz, xps⟩ := x
  simp only at  hpl b16 hidx
  generalize clV v = u at hu ⊢
  obtain ⟨uk, un, us, ukk, uz, ul⟩ := u
  obtain ⟨yk, ym, ys, ykk, yz, yll⟩ := v
  simp only [growd, Gr.c, Gr.cl, Vl.c, Vl.cs_map] at hcl hck hvk ⊢
  simp only [gCells, List.length_map, LiesH, vBlk, eBlk, bxB] at hp
  refine W_eq (g14 rfl ?_)
  simp only [Vl.c, Vl.cs_map] at hu
  (repeat' (first | (with_reducible first | refine kont_next ?_ | refine lkont_next ?_ | refine kont_nextn ?_ | refine ikont_next ?_ | refine ikont_nextn ?_) | simp -implicitDefEqProofs only [go_sem, J0, reduceIte, reduceCtorEq, Ja, Jb, Jc, Jd, Je, Jf, Jg, Jh, Ji, Jj, Jk, Jl, Jm, Jn, Jo, Jp, Jq, Jr, Js, a14, s1000031, hcl, s6, hck, List.length_map, hvl, hel, hv0, he0, snapR (ty := 73) (sz := 5), packRF (ty := 73) (sz := 5), hp, s22, hnm, s33, hvk, s34, hu, s35, hidx, hi37, hlt, hx, hx2, RE.b, RE.r, Vx.re, Vx.cl, tagC, Vl.c, Vl.cs_map, b16]))
theorem set_fulll_e {g : Gr} (h : g.ok) {v : Vl} (hv : v.ok) {name s : List UInt8} {n : Int} {kk : SK} {z : Nat} {ll : List (List AV)} {i : Nat} {x : Lk} (hn : name.length ≤ 137438953472) (hc : okG g.p = true) (hi : idxJ (isE n) (g.es.map Lk.cl) 0 = (i : Int)) (hx : g.es[i]? = some x) (hq : nameB name = true) (hw : mayV v.p 0 = true) (hm : idxJ (geP name) (x.props.map clT) 0 = -1) (hxo : x.ok) (hfull : 16 ≤ x.props.length) :
    acall S 14 [.agg g.c, .agg [.i .i64 7, .i .i64 n, .str s, .sl kk z ll], .str name, .agg v.c] = some (.tup [.agg g.cl.c, .i .i64 102], []) := by
  have hcl := e1000031 g h
  have hck := e6 g.cl (Gr.cl_ok h)
  rw [Gr.cl_p, hc] at hck
  have hvl := h.vl
  have hel := h.el
  have hv0 := clV_c (ClV_cl g.vs)
  have he0 := clE_c (ClE_cl g.es)
  have hx2 : (g.es.map Lk.cl)[i]? = some x.cl := by rw [List.getElem?_map, hx]; rfl
  have hlt : i < g.es.length := (List.getElem?_eq_some_iff.1 hx).1
  have hp := fun hp hh => props_some_e (hp := hp) (kv := 1024) (ke := 1025) (Kv := 1025000000000000000) (Ke := 1026000000000000000) (last := g.last) (s := s) (y := .sl kk z ll) hh (lies_cl h (by omega) (by omega) (by omega) (by omega)) hi hx2
  have hnm := e22 name (Nat.le_trans hn (by decide))
  have hvk := e33 v hv
  rw [hq] at hnm
  rw [hw] at hvk
  have hu := clV_e hv
  have hidx := idxG name (OkS.open_ 5 (x.props.map clT)) (by rw [List.length_map]; exact hxo.ps.len)
  rw [hm] at hidx
  have hi37 : i < 137438953472 := by omega
  have hpl : x.props.length ≤ 137438953472 := hxo.ps.len
  have b16 : decide ((16 : Int) ≤ (x.props.length : Int)) = true := decide_eq_true (by omega)
  obtain ⟨xid, xl, xo, xi, xpk, xpz, xps⟩ := x
  simp only at  hpl b16 hidx
  generalize clV v = u at hu ⊢
  obtain ⟨uk, un, us, ukk, uz, ul⟩ := u
  obtain ⟨yk, ym, ys, ykk, yz, yll⟩ := v
  simp only [growd, Gr.c, Gr.cl, Vl.c, Vl.cs_map] at hcl hck hvk ⊢
  simp only [gCells, List.length_map, LiesH, vBlk, eBlk, bxB] at hp
  refine W_eq (g14 rfl ?_)
  simp only [Vl.c, Vl.cs_map] at hu
  (repeat' (first | (with_reducible first | refine kont_next ?_ | refine lkont_next ?_ | refine kont_nextn ?_ | refine ikont_next ?_ | refine ikont_nextn ?_) | simp -implicitDefEqProofs only [go_sem, J0, reduceIte, reduceCtorEq, Ja, Jb, Jc, Jd, Je, Jf, Jg, Jh, Ji, Jj, Jk, Jl, Jm, Jn, Jo, Jp, Jq, Jr, Js, a14, s1000031, hcl, s6, hck, List.length_map, hvl, hel, hv0, he0, snapR (ty := 73) (sz := 5), packRF (ty := 73) (sz := 5), hp, s22, hnm, s33, hvk, s34, hu, s35, hidx, hi37, hlt, hx, hx2, RE.b, RE.r, Lk.re, Lk.cl, tagC, Vl.c, Vl.cs_map, b16]))
end Go.Proofs.YtgeaibhgaihobaaDoor
