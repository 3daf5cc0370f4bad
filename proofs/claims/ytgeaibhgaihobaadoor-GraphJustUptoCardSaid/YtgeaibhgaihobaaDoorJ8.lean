import Derived.Test.YtgeaibhgaihobaaDoorJ6
set_option linter.unusedSimpArgs false
set_option linter.unusedVariables false
set_option maxHeartbeats 8000000
set_option maxRecDepth 100000
namespace Go.Proofs.YtgeaibhgaihobaaDoor
open Go.Abs
open Nat renaming add_assoc → J0, reduceEqDiff → Ja, reduceAdd → Jb, reduceMul → Jc, reduceSub → Jd, reduceLeDiff → Je, reduceLT → Jf, reduceBEq → Jg, reduceBNe → Jh
open Int renaming reduceLE → Ji, reduceLT → Jj, reduceToNat → Jk, reduceEq → Jl, reduceNe → Jm, reduceNeg → Jn, reduceAdd → Jo, reduceSub → Jp, reduceMul → Jq, cast_ofNat_Int → Jr, natCast_zero → Js
theorem hi_v {vs : List Vx} (hv : ClV vs) {i : Nat} {x : Vx} (hx : vs[i]? = some x) (y : Vx) (h1 : y.id = x.id) (h2 : y.label = x.label) (h4 : y.pk = .open_) (h5 : y.pz = 5) {es : List (List AV)} (he : y.props.map tagC = es) {K k : Nat} (hk : k < K) (n : Nat) (hp : Hp)
    (h : LaidX hp 73 5 K (vs.map Vx.re) i) (hl : Go.Abs.look hp k = some { ver := 0, row := true, nl := false, ty := 73, sz := 5, es }) :
    mapPackEs (pack false (n + 1)) ((refsR K (vs.map Vx.re)).set i [.i .i64 x.id, .str x.label, .ms k 0 0 es.length]) hp = some ((vs.set i y).map Vx.c, keysI K vs.length i k, drops (keysI K vs.length i k) hp) := by
  have hlt := lt_of_get hx
  have := packRF_at (n := n) (ty := 73) (sz := 5) (x := ⟨[.i .i64 x.id, .s x.label], false, es⟩) (L := vs.map Vx.re) (by rw [List.length_map]; exact hlt) hk h hl
  rw [clV_c hv, List.length_map] at this
  refine Eq.trans this ?_
  rw [List.map_set]
  congr 3
  simp only [RE.s, Vx.c, h1, h2, h4, h5, he, List.map_cons, List.map_nil, SC.a, List.cons_append, List.nil_append, skOf_false]
theorem hi_e {vs : List Lk} (hv : ClE vs) {i : Nat} {x : Lk} (hx : vs[i]? = some x) (y : Lk) (h1 : y.id = x.id) (h2 : y.label = x.label) (h6 : y.out = x.out) (h7 : y.inn = x.inn) (h4 : y.pk = .open_) (h5 : y.pz = 5) {es : List (List AV)} (he : y.props.map tagC = es) {K k : Nat} (hk : k < K) (n : Nat) (hp : Hp)
    (h : LaidX hp 73 5 K (vs.map Lk.re) i) (hl : Go.Abs.look hp k = some { ver := 0, row := true, nl := false, ty := 73, sz := 5, es }) :
    mapPackEs (pack false (n + 1)) ((refsR K (vs.map Lk.re)).set i [.i .i64 x.id, .str x.label, .i .i64 x.out, .i .i64 x.inn, .ms k 0 0 es.length]) hp = some ((vs.set i y).map Lk.c, keysI K vs.length i k, drops (keysI K vs.length i k) hp) := by
  have hlt := lt_of_get hx
  have := packRF_at (n := n) (ty := 73) (sz := 5) (x := ⟨[.i .i64 x.id, .s x.label, .i .i64 x.out, .i .i64 x.inn], false, es⟩) (L := vs.map Lk.re) (by rw [List.length_map]; exact hlt) hk h hl
  rw [clE_c hv, List.length_map] at this
  refine Eq.trans this ?_
  rw [List.map_set]
  congr 3
  simp only [RE.s, Lk.c, h1, h2, h4, h5, h6, h7, he, List.map_cons, List.map_nil, SC.a, List.cons_append, List.nil_append, skOf_false]
theorem set_insm_v {g : Gr} (h : g.ok) {v : Vl} (hv : v.ok) {name s : List UInt8} {n : Int} {kk : SK} {z : Nat} {ll : List (List AV)} {i : Nat} {x : Vx} (hn : name.length ≤ 137438953472) (hc : okG g.p = true) (hi : idxJ (isV n) (g.vs.map Vx.cl) 0 = (i : Int)) (hx : g.vs[i]? = some x) (hq : nameB name = true) (hw : mayV v.p 0 = true) {m : Nat} {w : Vl} {nm : List UInt8} (hm : idxJ (geP name) (x.props.map clT) 0 = (m : Int)) (hpm : (x.props.map clT)[m]? = some (nm, w)) (hne : ¬ nm = name) (hxo : x.ok) (hfew : x.props.length < 16) :
    acall S 14 [.agg g.c, .agg [.i .i64 6, .i .i64 n, .str s, .sl kk z ll], .str name, .agg v.c] = some (.tup [.agg { g.cl with vs := g.cl.vs.set i { x.cl with props := (x.props.map clT).take m ++ (name, clV v) :: (x.props.map clT).drop m } }.c, .i .i64 0], []) := by
  have hcl := e1000031 g h
  have hck := e6 g.cl (Gr.cl_ok h)
  rw [Gr.cl_p, hc] at hck
  have hvl := h.vl
  have hel := h.el
  have hv0 := clV_c (ClV_cl g.vs)
  have he0 := clE_c (ClE_cl g.es)
  have hx2 : (g.vs.map Vx.cl)[i]? = some x.cl := by rw [List.getElem?_map, hx]; rfl
  have hlt : i < g.vs.length := (List.getElem?_eq_some_iff.1 hx).1
  have hp := fun hp hh => props_some_v (hp := hp) (kv := 1024) (ke := 1025) (Kv := 1025000000000000000) (Ke := 1026000000000000000) (last := g.last) (s := s) (y := .sl kk z ll) hh (lies_cl h (by omega) (by omega) (by omega) (by omega)) hi hx2
  have hnm := e22 name (Nat.le_trans hn (by decide))
  have hvk := e33 v hv
  rw [hq] at hnm
  rw [hw] at hvk
  have hu := clV_e hv
  have hidx := idxG name (OkS.open_ 5 (x.props.map clT)) (by rw [List.length_map]; exact hxo.ps.len)
  rw [hm] at hidx
  have hi37 : i < 137438953472 := by omega
  have hpl : x.props.length ≤ 137438953472 := hxo.ps.len
  have b0 : decide ((0 : Int) ≤ (m : Int)) = true := decide_eq_true (by omega)
  have b1 : (0 : Int) ≤ (m : Int) := by omega
  have hml := (List.getElem?_eq_some_iff.1 hpm).1
  rw [List.length_map] at hml
  have b2 : (m : Int) < (x.props.length : Int) := by omega
  have bne : decide (nm = name) = false := decide_eq_false hne
  have b3 : decide ((m : Int) < 0) = false := decide_eq_false (by omega)
  have b16 : decide ((16 : Int) ≤ (x.props.length : Int)) = false := decide_eq_false (by omega)
  obtain ⟨xid, xl,  xpk, xpz, xps⟩ := x
  simp only at hpm hml b2 hpl b16 hidx hfew
  obtain ⟨wk, wn, ws, wkk, wz, wl⟩ := w
  have hr : ∃ R : List (List AV), R = ((xps.map clT).take m ++ (name, clV v) :: (xps.map clT).drop m).map tagC := ⟨_, rfl⟩
  obtain ⟨R, hR⟩ := hr
  have hqp := fun n hp => hi_v (K := 1025000000000000000) (k := 5760) (ClV_cl g.vs) hx2 ⟨xid, xl,  .open_, 5, (xps.map clT).take m ++ (name, clV v) :: (xps.map clT).drop m⟩ rfl rfl  rfl rfl hR.symm (by omega) n hp
  have hins : ∀ nl nl2, acall S 37 [.ow 73 5 nl ((xps.map clT).map tagC), .i .i64 (m : Int), .ow 73 5 nl2 [tagC (name, clV v)]] = some (.ow 73 5 false R, []) := by
    intro nl nl2
    refine acall_prim (p := primInsert) rfl rfl ?_
    have hle : m ≤ xps.length := by omega
    have hlim : xps.length + 1 ≤ 274877906944 := by omega
    simp only [primInsert, and_self, Int.natCast_nonneg, Int.toNat_natCast, List.length_map, hle, List.length_singleton, hlim, Nat.lt_add_one, ask_true, Nat.zero_lt_one, true_and, hR, List.map_append, List.map_cons, List.map_take, List.map_drop, List.append_assoc, List.cons_append, List.nil_append]
  simp only [List.length_map, Vx.cl, tagC] at hqp hins
  generalize clV v = u at hu hqp hins ⊢
  obtain ⟨uk, un, us, ukk, uz, ul⟩ := u
  obtain ⟨yk, ym, ys, ykk, yz, yll⟩ := v
  simp only [growd, Gr.c, Gr.cl, Vl.c, Vl.cs_map] at hcl hck hvk ⊢
  simp only [gCells, List.length_map, LiesH, vBlk, eBlk, bxB] at hp
  refine W_eq (g14 rfl ?_)
  simp only [Vl.c, Vl.cs_map] at hu hqp hins
  (repeat' (first | (with_reducible first | refine kont_next ?_ | refine lkont_next ?_ | refine kont_nextn ?_ | refine ikont_next ?_ | refine ikont_nextn ?_) | simp -implicitDefEqProofs only [go_sem, J0, reduceIte, reduceCtorEq, Ja, Jb, Jc, Jd, Je, Jf, Jg, Jh, Ji, Jj, Jk, Jl, Jm, Jn, Jo, Jp, Jq, Jr, Js, a14, s1000031, hcl, s6, hck, List.length_map, hvl, hel, hv0, he0, snapR (ty := 73) (sz := 5), packRF (ty := 73) (sz := 5), hp, s22, hnm, s33, hvk, s34, hu, s35, hidx, hi37, hlt, hx, hx2, RE.b, RE.r, Vx.re, Vx.cl, tagC, Vl.c, Vl.cs_map, b16, s37, hins, hqp, List.length_set, b0, b1, b2, b3, hml, hpm, bne]))
theorem set_insm_e {g : Gr} (h : g.ok) {v : Vl} (hv : v.ok) {name s : List UInt8} {n : Int} {kk : SK} {z : Nat} {ll : List (List AV)} {i : Nat} {x : Lk} (hn : name.length ≤ 137438953472) (hc : okG g.p = true) (hi : idxJ (isE n) (g.es.map Lk.cl) 0 = (i : Int)) (hx : g.es[i]? = some x) (hq : nameB name = true) (hw : mayV v.p 0 = true) {m : Nat} {w : Vl} {nm : List UInt8} (hm : idxJ (geP name) (x.props.map clT) 0 = (m : Int)) (hpm : (x.props.map clT)[m]? = some (nm, w)) (hne : ¬ nm = name) (hxo : x.ok) (hfew : x.props.length < 16) :
    acall S 14 [.agg g.c, .agg [.i .i64 7, .i .i64 n, .str s, .sl kk z ll], .str name, .agg v.c] = some (.tup [.agg { g.cl with es := g.cl.es.set i { x.cl with props := (x.props.map clT).take m ++ (name, clV v) :: (x.props.map clT).drop m } }.c, .i .i64 0], []) := by
  have hcl := e1000031 g h
  have hck := e6 g.cl (Gr.cl_ok h)
  rw [Gr.cl_p, hc] at hck
  have hvl := h.vl
  have hel := h.el
  have hv0 := clV_c (ClV_cl g.vs)
  have he0 := clE_c (ClE_cl g.es)
  have hx2 : (g.es.map Lk.cl)[i]? = some x.cl := by rw [List.getElem?_map, hx]; rfl
  have hlt : i < g.es.length := (List.getElem?_eq_some_iff.1 hx).1
  have hp := fun hp hh => props_some_e (hp := hp) (kv := 1024) (ke := 1025) (Kv := 1025000000000000000) (Ke := 1026000000000000000) (last := g.last) (s := s) (y := .sl kk z ll) hh (lies_cl h (by omega) (by omega) (by omega) (by omega)) hi hx2
  have hnm := e22 name (Nat.le_trans hn (by decide))
  have hvk := e33 v hv
  rw [hq] at hnm
  rw [hw] at hvk
  have hu := clV_e hv
  have hidx := idxG name (OkS.open_ 5 (x.props.map clT)) (by rw [List.length_map]; exact hxo.ps.len)
  rw [hm] at hidx
  have hi37 : i < 137438953472 := by omega
  have hpl : x.props.length ≤ 137438953472 := hxo.ps.len
  have b0 : decide ((0 : Int) ≤ (m : Int)) = true := decide_eq_true (by omega)
  have b1 : (0 : Int) ≤ (m : Int) := by omega
  have hml := (List.getElem?_eq_some_iff.1 hpm).1
  rw [List.length_map] at hml
  have b2 : (m : Int) < (x.props.length : Int) := by omega
  have bne : decide (nm = name) = false := decide_eq_false hne
  have b3 : decide ((m : Int) < 0) = false := decide_eq_false (by omega)
  have b16 : decide ((16 : Int) ≤ (x.props.length : Int)) = false := decide_eq_false (by omega)
  obtain ⟨xid, xl, xo, xi, xpk, xpz, xps⟩ := x
  simp only at hpm hml b2 hpl b16 hidx hfew
  obtain ⟨wk, wn, ws, wkk, wz, wl⟩ := w
  have hr : ∃ R : List (List AV), R = ((xps.map clT).take m ++ (name, clV v) :: (xps.map clT).drop m).map tagC := ⟨_, rfl⟩
  obtain ⟨R, hR⟩ := hr
  have hqp := fun n hp => hi_e (K := 1026000000000000000) (k := 5760) (ClE_cl g.es) hx2 ⟨xid, xl, xo, xi, .open_, 5, (xps.map clT).take m ++ (name, clV v) :: (xps.map clT).drop m⟩ rfl rfl rfl rfl rfl rfl hR.symm (by omega) n hp
  have hins : ∀ nl nl2, acall S 37 [.ow 73 5 nl ((xps.map clT).map tagC), .i .i64 (m : Int), .ow 73 5 nl2 [tagC (name, clV v)]] = some (.ow 73 5 false R, []) := by
    intro nl nl2
    refine acall_prim (p := primInsert) rfl rfl ?_
    have hle : m ≤ xps.length := by omega
    have hlim : xps.length + 1 ≤ 274877906944 := by omega
    simp only [primInsert, and_self, Int.natCast_nonneg, Int.toNat_natCast, List.length_map, hle, List.length_singleton, hlim, Nat.lt_add_one, ask_true, Nat.zero_lt_one, true_and, hR, List.map_append, List.map_cons, List.map_take, List.map_drop, List.append_assoc, List.cons_append, List.nil_append]
  simp only [List.length_map, Lk.cl, tagC] at hqp hins
  generalize clV v = u at hu hqp hins ⊢
  obtain ⟨uk, un, us, ukk, uz, ul⟩ := u
  obtain ⟨yk, ym, ys, ykk, yz, yll⟩ := v
  simp only [growd, Gr.c, Gr.cl, Vl.c, Vl.cs_map] at hcl hck hvk ⊢
  simp only [gCells, List.length_map, LiesH, vBlk, eBlk, bxB] at hp
  refine W_eq (g14 rfl ?_)
  simp only [Vl.c, Vl.cs_map] at hu hqp hins
  (repeat' (first | (with_reducible first | refine kont_next ?_ | refine lkont_next ?_ | refine kont_nextn ?_ | refine ikont_next ?_ | refine ikont_nextn ?_) | simp -implicitDefEqProofs only [go_sem, J0, reduceIte, reduceCtorEq, Ja, Jb, Jc, Jd, Je, Jf, Jg, Jh, Ji, Jj, Jk, Jl, Jm, Jn, Jo, Jp, Jq, Jr, Js, a14, s1000031, hcl, s6, hck, List.length_map, hvl, hel, hv0, he0, snapR (ty := 73) (sz := 5), packRF (ty := 73) (sz := 5), hp, s22, hnm, s33, hvk, s34, hu, s35, hidx, hi37, hlt, hx, hx2, RE.b, RE.r, Lk.re, Lk.cl, tagC, Vl.c, Vl.cs_map, b16, s37, hins, hqp, List.length_set, b0, b1, b2, b3, hml, hpm, bne]))
theorem set_insl_v {g : Gr} (h : g.ok) {v : Vl} (hv : v.ok) {name s : List UInt8} {n : Int} {kk : SK} {z : Nat} {ll : List (List AV)} {i : Nat} {x : Vx} (hn : name.length ≤ 137438953472) (hc : okG g.p = true) (hi : idxJ (isV n) (g.vs.map Vx.cl) 0 = (i : Int)) (hx : g.vs[i]? = some x) (hq : nameB name = true) (hw : mayV v.p 0 = true) (hm : idxJ (geP name) (x.props.map clT) 0 = -1) (hxo : x.ok) (hfew : x.props.length < 16) :
    acall S 14 [.agg g.c, .agg [.i .i64 6, .i .i64 n, .str s, .sl kk z ll], .str name, .agg v.c] = some (.tup [.agg { g.cl with vs := g.cl.vs.set i { x.cl with props := (x.props.map clT).take x.props.length ++ (name, clV v) :: (x.props.map clT).drop x.props.length } }.c, .i .i64 0], []) := by
  have hcl := e1000031 g h
  have hck := e6 g.cl (Gr.cl_ok h)
  rw [Gr.cl_p, hc] at hck
  have hvl := h.vl
  have hel := h.el
  have hv0 := clV_c (ClV_cl g.vs)
  have he0 := clE_c (ClE_cl g.es)
  have hx2 : (g.vs.map Vx.cl)[i]? = some x.cl := by rw [List.getElem?_map, hx]; rfl
  have hlt : i < g.vs.length := (List.getElem?_eq_some_iff.1 hx).1
  have hp := fun hp hh => props_some_v (hp := hp) (kv := 1024) (ke := 1025) (Kv := 1025000000000000000) (Ke := 1026000000000000000) (last := g.last) (s := s) (y := .sl kk z ll) hh (lies_cl h (by omega) (by omega) (by omega) (by omega)) hi hx2
  have hnm := e22 name (Nat.le_trans hn (by decide))
  have hvk := e33 v hv
  rw [hq] at hnm
  rw [hw] at hvk
  have hu := clV_e hv
  have hidx := idxG name (OkS.open_ 5 (x.props.map clT)) (by rw [List.length_map]; exact hxo.ps.len)
  rw [hm] at hidx
  have hi37 : i < 137438953472 := by omega
  have hpl : x.props.length ≤ 137438953472 := hxo.ps.len
  have b16 : decide ((16 : Int) ≤ (x.props.length : Int)) = false := decide_eq_false (by omega)
  obtain ⟨xid, xl,  xpk, xpz, xps⟩ := x
  simp only at  hpl b16 hidx hfew
  have hr : ∃ R : List (List AV), R = ((xps.map clT).take xps.length ++ (name, clV v) :: (xps.map clT).drop xps.length).map tagC := ⟨_, rfl⟩
  obtain ⟨R, hR⟩ := hr
  have hqp := fun n hp => hi_v (K := 1025000000000000000) (k := 5760) (ClV_cl g.vs) hx2 ⟨xid, xl,  .open_, 5, (xps.map clT).take xps.length ++ (name, clV v) :: (xps.map clT).drop xps.length⟩ rfl rfl  rfl rfl hR.symm (by omega) n hp
  have hins : ∀ nl nl2, acall S 37 [.ow 73 5 nl ((xps.map clT).map tagC), .i .i64 (xps.length : Int), .ow 73 5 nl2 [tagC (name, clV v)]] = some (.ow 73 5 false R, []) := by
    intro nl nl2
    refine acall_prim (p := primInsert) rfl rfl ?_
    have hle : xps.length ≤ xps.length := by omega
    have hlim : xps.length + 1 ≤ 274877906944 := by omega
    simp only [primInsert, and_self, Int.natCast_nonneg, Int.toNat_natCast, List.length_map, hle, List.length_singleton, hlim, Nat.lt_add_one, ask_true, Nat.zero_lt_one, true_and, hR, List.map_append, List.map_cons, List.map_take, List.map_drop, List.append_assoc, List.cons_append, List.nil_append]
  simp only [List.length_map, Vx.cl, tagC] at hqp hins
  generalize clV v = u at hu hqp hins ⊢
  obtain ⟨uk, un, us, ukk, uz, ul⟩ := u
  obtain ⟨yk, ym, ys, ykk, yz, yll⟩ := v
  simp only [growd, Gr.c, Gr.cl, Vl.c, Vl.cs_map] at hcl hck hvk ⊢
  simp only [gCells, List.length_map, LiesH, vBlk, eBlk, bxB] at hp
  refine W_eq (g14 rfl ?_)
  simp only [Vl.c, Vl.cs_map] at hu hqp hins
  (repeat' (first | (with_reducible first | refine kont_next ?_ | refine lkont_next ?_ | refine kont_nextn ?_ | refine ikont_next ?_ | refine ikont_nextn ?_) | simp -implicitDefEqProofs only [go_sem, J0, reduceIte, reduceCtorEq, Ja, Jb, Jc, Jd, Je, Jf, Jg, Jh, Ji, Jj, Jk, Jl, Jm, Jn, Jo, Jp, Jq, Jr, Js, a14, s1000031, hcl, s6, hck, List.length_map, hvl, hel, hv0, he0, snapR (ty := 73) (sz := 5), packRF (ty := 73) (sz := 5), hp, s22, hnm, s33, hvk, s34, hu, s35, hidx, hi37, hlt, hx, hx2, RE.b, RE.r, Vx.re, Vx.cl, tagC, Vl.c, Vl.cs_map, b16, s37, hins, hqp, List.length_set]))
theorem set_insl_e {g : Gr} (h : g.ok) {v : Vl} (hv : v.ok) {name s : List UInt8} {n : Int} {kk : SK} {z : Nat} {ll : List (List AV)} {i : Nat} {x : Lk} (hn : name.length ≤ 137438953472) (hc : okG g.p = true) (hi : idxJ (isE n) (g.es.map Lk.cl) 0 = (i : Int)) (hx : g.es[i]? = some x) (hq : nameB name = true) (hw : mayV v.p 0 = true) (hm : idxJ (geP name) (x.props.map clT) 0 = -1) (hxo : x.ok) (hfew : x.props.length < 16) :
    acall S 14 [.agg g.c, .agg [.i .i64 7, .i .i64 n, .str s, .sl kk z ll], .str name, .agg v.c] = some (.tup [.agg { g.cl with es := g.cl.es.set i { x.cl with props := (x.props.map clT).take x.props.length ++ (name, clV v) :: (x.props.map clT).drop x.props.length } }.c, .i .i64 0], []) := by
  have hcl := e1000031 g h
  have hck := e6 g.cl (Gr.cl_ok h)
  rw [Gr.cl_p, hc] at hck
  have hvl := h.vl
  have hel := h.el
  have hv0 := clV_c (ClV_cl g.vs)
  have he0 := clE_c (ClE_cl g.es)
  have hx2 : (g.es.map Lk.cl)[i]? = some x.cl := by rw [List.getElem?_map, hx]; rfl
  have hlt : i < g.es.length := (List.getElem?_eq_some_iff.1 hx).1
  have hp := fun hp hh => props_some_e (hp := hp) (kv := 1024) (ke := 1025) (Kv := 1025000000000000000) (Ke := 1026000000000000000) (last := g.last) (s := s) (y := .sl kk z ll) hh (lies_cl h (by omega) (by omega) (by omega) (by omega)) hi hx2
  have hnm := e22 name (Nat.le_trans hn (by decide))
  have hvk := e33 v hv
  rw [hq] at hnm
  rw [hw] at hvk
  have hu := clV_e hv
  have hidx := idxG name (OkS.open_ 5 (x.props.map clT)) (by rw [List.length_map]; exact hxo.ps.len)
  rw [hm] at hidx
  have hi37 : i < 137438953472 := by omega
  have hpl : x.props.length ≤ 137438953472 := hxo.ps.len
  have b16 : decide ((16 : Int) ≤ (x.props.length : Int)) = false := decide_eq_false (by omega)
  obtain ⟨xid, xl, xo, xi, xpk, xpz, xps⟩ := x
  simp only at  hpl b16 hidx hfew
  have hr : ∃ R : List (List AV), R = ((xps.map clT).take xps.length ++ (name, clV v) :: (xps.map clT).drop xps.length).map tagC := ⟨_, rfl⟩
  obtain ⟨R, hR⟩ := hr
  have hqp := fun n hp => hi_e (K := 1026000000000000000) (k := 5760) (ClE_cl g.es) hx2 ⟨xid, xl, xo, xi, .open_, 5, (xps.map clT).take xps.length ++ (name, clV v) :: (xps.map clT).drop xps.length⟩ rfl rfl rfl rfl rfl rfl hR.symm (by omega) n hp
  have hins : ∀ nl nl2, acall S 37 [.ow 73 5 nl ((xps.map clT).map tagC), .i .i64 (xps.length : Int), .ow 73 5 nl2 [tagC (name, clV v)]] = some (.ow 73 5 false R, []) := by
    intro nl nl2
    refine acall_prim (p := primInsert) rfl rfl ?_
    have hle : xps.length ≤ xps.length := by omega
    have hlim : xps.length + 1 ≤ 274877906944 := by omega
    simp only [primInsert, and_self, Int.natCast_nonneg, Int.toNat_natCast, List.length_map, hle, List.length_singleton, hlim, Nat.lt_add_one, ask_true, Nat.zero_lt_one, true_and, hR, List.map_append, List.map_cons, List.map_take, List.map_drop, List.append_assoc, List.cons_append, List.nil_append]
  simp only [List.length_map, Lk.cl, tagC] at hqp hins
  generalize clV v = u at hu hqp hins ⊢
  obtain ⟨uk, un, us, ukk, uz, ul⟩ := u
  obtain ⟨yk, ym, ys, ykk, yz, yll⟩ := v
  simp only [growd, Gr.c, Gr.cl, Vl.c, Vl.cs_map] at hcl hck hvk ⊢
  simp only [gCells, List.length_map, LiesH, vBlk, eBlk, bxB] at hp
  refine W_eq (g14 rfl ?_)
  simp only [Vl.c, Vl.cs_map] at hu hqp hins
  (repeat' (first | (with_reducible first | refine kont_next ?_ | refine lkont_next ?_ | refine kont_nextn ?_ | refine ikont_next ?_ | refine ikont_nextn ?_) | simp -implicitDefEqProofs only [go_sem, J0, reduceIte, reduceCtorEq, Ja, Jb, Jc, Jd, Je, Jf, Jg, Jh, Ji, Jj, Jk, Jl, Jm, Jn, Jo, Jp, Jq, Jr, Js, a14, s1000031, hcl, s6, hck, List.length_map, hvl, hel, hv0, he0, snapR (ty := 73) (sz := 5), packRF (ty := 73) (sz := 5), hp, s22, hnm, s33, hvk, s34, hu, s35, hidx, hi37, hlt, hx, hx2, RE.b, RE.r, Lk.re, Lk.cl, tagC, Vl.c, Vl.cs_map, b16, s37, hins, hqp, List.length_set]))
end Go.Proofs.YtgeaibhgaihobaaDoor
