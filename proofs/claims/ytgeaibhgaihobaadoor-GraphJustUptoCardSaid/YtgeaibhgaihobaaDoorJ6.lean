import Derived.Test.YtgeaibhgaihobaaDoorJ5
set_option linter.unusedSimpArgs false
set_option linter.unusedVariables false
set_option maxHeartbeats 8000000
set_option maxRecDepth 100000
namespace Go.Proofs.YtgeaibhgaihobaaDoor
open Go.Abs
open Nat renaming add_assoc → J0, reduceEqDiff → Ja, reduceAdd → Jb, reduceMul → Jc, reduceSub → Jd, reduceLeDiff → Je, reduceLT → Jf, reduceBEq → Jg, reduceBNe → Jh
open Int renaming reduceLE → Ji, reduceLT → Jj, reduceToNat → Jk, reduceEq → Jl, reduceNe → Jm, reduceNeg → Jn, reduceAdd → Jo, reduceSub → Jp, reduceMul → Jq, cast_ofNat_Int → Jr, natCast_zero → Js
theorem hq_v {vs : List Vx} (hv : ClV vs) {i : Nat} {x : Vx} (hx : vs[i]? = some x) (y : Vx) (h1 : y.id = x.id) (h2 : y.label = x.label) (h3 : y.props.length = x.props.length) (h4 : y.pk = .open_) (h5 : y.pz = 5) {es : List (List AV)} (he : y.props.map tagC = es) {K : Nat} (n : Nat) (hp : Hp)
    (h : Laid hp 73 5 K ((vs.map Vx.re).set i ⟨[.i .i64 x.id, .s x.label], false, es⟩)) :
    mapPackEs (pack false (n + 1)) (refsR K (vs.map Vx.re)) hp = some ((vs.set i y).map Vx.c, keysR K vs.length, drops (keysR K vs.length) hp) := by
  have hr : Vx.re y = ⟨[.i .i64 x.id, .s x.label], false, es⟩ := by simp only [Vx.re, h1, h2, he]
  have hm : (vs.map Vx.re)[i]? = some x.re := by rw [List.getElem?_map, hx]; rfl
  rw [← refsR_set (vs.map Vx.re) K i x.re ⟨[.i .i64 x.id, .s x.label], false, es⟩ hm rfl (by rw [← he]; simp only [Vx.re, List.length_map, h3]), packRF h, List.length_set, List.length_map, ← hr, ← List.map_set, clV_c]
  intro z hz
  rcases List.mem_or_eq_of_mem_set hz with h | rfl
  · exact hv z h
  · exact ⟨h4, h5⟩
theorem hq_e {vs : List Lk} (hv : ClE vs) {i : Nat} {x : Lk} (hx : vs[i]? = some x) (y : Lk) (h1 : y.id = x.id) (h2 : y.label = x.label) (h6 : y.out = x.out) (h7 : y.inn = x.inn) (h3 : y.props.length = x.props.length) (h4 : y.pk = .open_) (h5 : y.pz = 5) {es : List (List AV)} (he : y.props.map tagC = es) {K : Nat} (n : Nat) (hp : Hp)
    (h : Laid hp 73 5 K ((vs.map Lk.re).set i ⟨[.i .i64 x.id, .s x.label, .i .i64 x.out, .i .i64 x.inn], false, es⟩)) :
    mapPackEs (pack false (n + 1)) (refsR K (vs.map Lk.re)) hp = some ((vs.set i y).map Lk.c, keysR K vs.length, drops (keysR K vs.length) hp) := by
  have hr : Lk.re y = ⟨[.i .i64 x.id, .s x.label, .i .i64 x.out, .i .i64 x.inn], false, es⟩ := by simp only [Lk.re, h1, h2, h6, h7, he]
  have hm : (vs.map Lk.re)[i]? = some x.re := by rw [List.getElem?_map, hx]; rfl
  rw [← refsR_set (vs.map Lk.re) K i x.re ⟨[.i .i64 x.id, .s x.label, .i .i64 x.out, .i .i64 x.inn], false, es⟩ hm rfl (by rw [← he]; simp only [Lk.re, List.length_map, h3]), packRF h, List.length_set, List.length_map, ← hr, ← List.map_set, clE_c]
  intro z hz
  rcases List.mem_or_eq_of_mem_set hz with h | rfl
  · exact hv z h
  · exact ⟨h4, h5⟩
theorem set_rep_v {g : Gr} (h : g.ok) {v : Vl} (hv : v.ok) {name s : List UInt8} {n : Int} {kk : SK} {z : Nat} {ll : List (List AV)} {i : Nat} {x : Vx} (hn : name.length ≤ 137438953472) (hc : okG g.p = true) (hi : idxJ (isV n) (g.vs.map Vx.cl) 0 = (i : Int)) (hx : g.vs[i]? = some x) (hq : nameB name = true) (hw : mayV v.p 0 = true) {m : Nat} {w : Vl} (hm : idxJ (geP name) (x.props.map clT) 0 = (m : Int)) (hpm : (x.props.map clT)[m]? = some (name, w)) (hxo : x.ok) :
    acall S 14 [.agg g.c, .agg [.i .i64 6, .i .i64 n, .str s, .sl kk z ll], .str name, .agg v.c] = some (.tup [.agg { g.cl with vs := g.cl.vs.set i { x.cl with props := (x.props.map clT).set m (name, clV v) } }.c, .i .i64 0], []) := by
  have hcl := e1000031 g h
  have hck := e6 g.cl (Gr.cl_ok h)
  rw [Gr.cl_p, hc] at hck
  have hvl := h.vl
  have hel := h.el
  have hv0 := clV_c (ClV_cl g.vs)
  have he0 := clE_c (ClE_cl g.es)
  have hx2 : (g.vs.map Vx.cl)[i]? = some x.cl := by rw [List.getElem?_map, hx]; rfl
  have hlt : i < g.vs.length := (List.getElem?_eq_some_iff.1 hx).1
  have hp := fun hp hh => props_some_v (hp := hp) (kv := 1024) (ke := 1025) (Kv := 1025000000000000000) (Ke := 1026000000000000000) (last := g.last) (s := s) (y := .sl kk z ll) hh (lies_cl h (by omega) (by omega) (by omega) (by omega)) hi hx2
  have hnm := e22 name (Nat.le_trans hn (by decide))
  have hvk := e33 v hv
  rw [hq] at hnm
  rw [hw] at hvk
  have hu := clV_e hv
  have hidx := idxG name (OkS.open_ 5 (x.props.map clT)) (by rw [List.length_map]; exact hxo.ps.len)
  rw [hm] at hidx
  have hi37 : i < 137438953472 := by omega
  have b0 : decide ((0 : Int) ≤ (m : Int)) = true := decide_eq_true (by omega)
  have b1 : (0 : Int) ≤ (m : Int) := by omega
  have hml := (List.getElem?_eq_some_iff.1 hpm).1
  rw [List.length_map] at hml
  have b2 : (m : Int) < (x.props.length : Int) := by omega
  obtain ⟨xid, xl,  xpk, xpz, xps⟩ := x
  simp only at hpm hml b2 hidx
  have hqp := hq_v (K := 1025000000000000000) (ClV_cl g.vs) hx2 ⟨xid, xl,  .open_, 5, (xps.map clT).set m (name, clV v)⟩ rfl rfl  (by simp only [Vx.cl, List.length_set]) rfl rfl rfl
  rw [List.map_set] at hqp
  simp only [List.length_map, Vx.cl, tagC] at hqp
  obtain ⟨wk, wn, ws, wkk, wz, wl⟩ := w
  generalize clV v = u at hu hqp ⊢
  obtain ⟨uk, un, us, ukk, uz, ul⟩ := u
  obtain ⟨yk, ym, ys, ykk, yz, yll⟩ := v
  simp only [growd, Gr.c, Gr.cl, Vl.c, Vl.cs_map] at hcl hck hvk ⊢
  simp only [gCells, List.length_map, LiesH, vBlk, eBlk, bxB] at hp
  refine W_eq (g14 rfl ?_)
  simp only [Vl.c, Vl.cs_map] at hu hqp
  (repeat' (first | (with_reducible first | refine kont_next ?_ | refine lkont_next ?_ | refine kont_nextn ?_ | refine ikont_next ?_ | refine ikont_nextn ?_) | simp -implicitDefEqProofs only [go_sem, J0, reduceIte, reduceCtorEq, Ja, Jb, Jc, Jd, Je, Jf, Jg, Jh, Ji, Jj, Jk, Jl, Jm, Jn, Jo, Jp, Jq, Jr, Js, a14, s1000031, hcl, s6, hck, List.length_map, hvl, hel, hv0, he0, snapR (ty := 73) (sz := 5), packRF (ty := 73) (sz := 5), hp, s22, hnm, s33, hvk, s34, hu, s35, hidx, hi37, hlt, hx, hx2, RE.b, RE.r, Vx.re, Vx.cl, b0, b1, b2, hml, hpm, tagC, Vl.c, Vl.cs_map, hqp]))
theorem set_rep_e {g : Gr} (h : g.ok) {v : Vl} (hv : v.ok) {name s : List UInt8} {n : Int} {kk : SK} {z : Nat} {ll : List (List AV)} {i : Nat} {x : Lk} (hn : name.length ≤ 137438953472) (hc : okG g.p = true) (hi : idxJ (isE n) (g.es.map Lk.cl) 0 = (i : Int)) (hx : g.es[i]? = some x) (hq : nameB name = true) (hw : mayV v.p 0 = true) {m : Nat} {w : Vl} (hm : idxJ (geP name) (x.props.map clT) 0 = (m : Int)) (hpm : (x.props.map clT)[m]? = some (name, w)) (hxo : x.ok) :
    acall S 14 [.agg g.c, .agg [.i .i64 7, .i .i64 n, .str s, .sl kk z ll], .str name, .agg v.c] = some (.tup [.agg { g.cl with es := g.cl.es.set i { x.cl with props := (x.props.map clT).set m (name, clV v) } }.c, .i .i64 0], []) := by
  have hcl := e1000031 g h
  have hck := e6 g.cl (Gr.cl_ok h)
  rw [Gr.cl_p, hc] at hck
  have hvl := h.vl
  have hel := h.el
  have hv0 := clV_c (ClV_cl g.vs)
  have he0 := clE_c (ClE_cl g.es)
  have hx2 : (g.es.map Lk.cl)[i]? = some x.cl := by rw [List.getElem?_map, hx]; rfl
  have hlt : i < g.es.length := (List.getElem?_eq_some_iff.1 hx).1
  have hp := fun hp hh => props_some_e (hp := hp) (kv := 1024) (ke := 1025) (Kv := 1025000000000000000) (Ke := 1026000000000000000) (last := g.last) (s := s) (y := .sl kk z ll) hh (lies_cl h (by omega) (by omega) (by omega) (by omega)) hi hx2
  have hnm := e22 name (Nat.le_trans hn (by decide))
  have hvk := e33 v hv
  rw [hq] at hnm
  rw [hw] at hvk
  have hu := clV_e hv
  have hidx := idxG name (OkS.open_ 5 (x.props.map clT)) (by rw [List.length_map]; exact hxo.ps.len)
  rw [hm] at hidx
  have hi37 : i < 137438953472 := by omega
  have b0 : decide ((0 : Int) ≤ (m : Int)) = true := decide_eq_true (by omega)
  have b1 : (0 : Int) ≤ (m : Int) := by omega
  have hml := (List.getElem?_eq_some_iff.1 hpm).1
  rw [List.length_map] at hml
  have b2 : (m : Int) < (x.props.length : Int) := by omega
  obtain ⟨xid, xl, xo, xi, xpk, xpz, xps⟩ := x
  simp only at hpm hml b2 hidx
  have hqp := hq_e (K := 1026000000000000000) (ClE_cl g.es) hx2 ⟨xid, xl, xo, xi, .open_, 5, (xps.map clT).set m (name, clV v)⟩ rfl rfl rfl rfl (by simp only [Lk.cl, List.length_set]) rfl rfl rfl
  rw [List.map_set] at hqp
  simp only [List.length_map, Lk.cl, tagC] at hqp
  obtain ⟨wk, wn, ws, wkk, wz, wl⟩ := w
  generalize clV v = u at hu hqp ⊢
  obtain ⟨uk, un, us, ukk, uz, ul⟩ := u
  obtain ⟨yk, ym, ys, ykk, yz, yll⟩ := v
  simp only [growd, Gr.c, Gr.cl, Vl.c, Vl.cs_map] at hcl hck hvk ⊢
  simp only [gCells, List.length_map, LiesH, vBlk, eBlk, bxB] at hp
  refine W_eq (g14 rfl ?_)
  simp only [Vl.c, Vl.cs_map] at hu hqp
  (repeat' (first | (with_reducible first | refine kont_next ?_ | refine lkont_next ?_ | refine kont_nextn ?_ | refine ikont_next ?_ | refine ikont_nextn ?_) | simp -implicitDefEqProofs only [go_sem, J0, reduceIte, reduceCtorEq, Ja, Jb, Jc, Jd, Je, Jf, Jg, Jh, Ji, Jj, Jk, Jl, Jm, Jn, Jo, Jp, Jq, Jr, Js, a14, s1000031, hcl, s6, hck, List.length_map, hvl, hel, hv0, he0, snapR (ty := 73) (sz := 5), packRF (ty := 73) (sz := 5), hp, s22, hnm, s33, hvk, s34, hu, s35, hidx, hi37, hlt, hx, hx2, RE.b, RE.r, Lk.re, Lk.cl, b0, b1, b2, hml, hpm, tagC, Vl.c, Vl.cs_map, hqp]))
end Go.Proofs.YtgeaibhgaihobaaDoor
