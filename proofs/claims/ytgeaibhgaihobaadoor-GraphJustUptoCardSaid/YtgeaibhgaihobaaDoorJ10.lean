import Derived.Test.YtgeaibhgaihobaaDoorJ8
import Derived.Test.YtgeaibhgaihobaaDoorJ9
set_option linter.unusedSimpArgs false
set_option linter.unusedVariables false
set_option maxHeartbeats 8000000
set_option maxRecDepth 100000
namespace Go.Proofs.YtgeaibhgaihobaaDoor
open Go.Abs
open Nat renaming add_assoc → J0, reduceEqDiff → Ja, reduceAdd → Jb, reduceMul → Jc, reduceSub → Jd, reduceLeDiff → Je, reduceLT → Jf, reduceBEq → Jg, reduceBNe → Jh
open Int renaming reduceLE → Ji, reduceLT → Jj, reduceToNat → Jk, reduceEq → Jl, reduceNe → Jm, reduceNeg → Jn, reduceAdd → Jo, reduceSub → Jp, reduceMul → Jq, cast_ofNat_Int → Jr, natCast_zero → Js
theorem refsR_set_at {K i : Nat} {L : List RE} {y : List AV} (h : i < L.length) : ((refsR K L).set i y)[i]? = some y := List.getElem?_set_self (by rw [refsR_len]; exact h)
theorem beq_at {t i K : Nat} (h : t < K) : (t == 64 * i + K) = false := by simp only [beq_eq_false_iff_ne]; omega
theorem hf_v {vs : List Vx} (hv : ClV vs) {i : Nat} {x : Vx} (hx : vs[i]? = some x) (y : Vx) (h1 : y.id = x.id) (h2 : y.label = x.label) (h4 : y.pk = .open_) (h5 : y.pz = 5) {K : Nat} (n : Nat) (hp : Hp) (h : LaidX hp 73 5 K (vs.map Vx.re) i) :
    mapPackEs (pack false (n + 1)) ((refsR K (vs.map Vx.re)).set i [.i .i64 x.id, .str x.label, .sl .open_ 5 (y.props.map tagC)]) hp = some ((vs.set i y).map Vx.c, keysF K vs.length i, drops (keysF K vs.length i) hp) := by
  have hlt := lt_of_get hx
  have := packRF_fl (n := n) (ty := 73) (sz := 5) (p := [.i .i64 x.id, .s x.label]) (z := 5) (es := y.props.map tagC) (L := vs.map Vx.re) (by rw [List.length_map]; exact hlt) h
  rw [clV_c hv, List.length_map] at this
  refine Eq.trans this ?_
  rw [List.map_set]
  congr 3
  simp only [Vx.c, h1, h2, h4, h5, List.map_cons, List.map_nil, SC.a, List.cons_append, List.nil_append]
theorem hf_e {vs : List Lk} (hv : ClE vs) {i : Nat} {x : Lk} (hx : vs[i]? = some x) (y : Lk) (h1 : y.id = x.id) (h2 : y.label = x.label) (h6 : y.out = x.out) (h7 : y.inn = x.inn) (h4 : y.pk = .open_) (h5 : y.pz = 5) {K : Nat} (n : Nat) (hp : Hp) (h : LaidX hp 73 5 K (vs.map Lk.re) i) :
    mapPackEs (pack false (n + 1)) ((refsR K (vs.map Lk.re)).set i [.i .i64 x.id, .str x.label, .i .i64 x.out, .i .i64 x.inn, .sl .open_ 5 (y.props.map tagC)]) hp = some ((vs.set i y).map Lk.c, keysF K vs.length i, drops (keysF K vs.length i) hp) := by
  have hlt := lt_of_get hx
  have := packRF_fl (n := n) (ty := 73) (sz := 5) (p := [.i .i64 x.id, .s x.label, .i .i64 x.out, .i .i64 x.inn]) (z := 5) (es := y.props.map tagC) (L := vs.map Lk.re) (by rw [List.length_map]; exact hlt) h
  rw [clE_c hv, List.length_map] at this
  refine Eq.trans this ?_
  rw [List.map_set]
  congr 3
  simp only [Lk.c, h1, h2, h4, h5, h6, h7, List.map_cons, List.map_nil, SC.a, List.cons_append, List.nil_append]
theorem unset_bad {g : Gr} (h : g.ok) {ec : Vl} {name : List UInt8} (hc : okG g.p = false) : acall S 17 [.agg g.c, .agg ec.c, .str name] = some (.tup [.agg g.cl.c, .b false, .i .i64 103], []) := by
  have hcl := e1000031 g h
  have hck := e6 g.cl (Gr.cl_ok h)
  rw [Gr.cl_p, hc] at hck
  have hvl := h.vl
  have hel := h.el
  have hv0 := clV_c (ClV_cl g.vs)
  have he0 := clE_c (ClE_cl g.es)
  obtain ⟨xk, xm, xs, xkk, xz, xll⟩ := ec
  simp only [growd, Gr.c, Gr.cl, Vl.c, Vl.cs_map] at hcl hck ⊢
  refine W_eq (g17 rfl ?_)
  (repeat' (first | (with_reducible first | refine kont_next ?_ | refine lkont_next ?_ | refine kont_nextn ?_ | refine ikont_next ?_ | refine ikont_nextn ?_) | simp only [go_sem, J0, reduceIte, reduceCtorEq, Ja, Jb, Jc, Jd, Je, Jf, Jg, Jh, Ji, Jj, Jk, Jl, Jm, Jn, Jo, Jp, Jq, Jr, Js, a17, s1000031, hcl, s6, hck, List.length_map, hvl, hel, hv0, he0, snapR (ty := 73) (sz := 5), packRF (ty := 73) (sz := 5)]))
theorem unset_nil {g : Gr} (h : g.ok) {name s : List UInt8} {kd n : Int} {kk : SK} {z : Nat} {ll : List (List AV)} (hc : okG g.p = true) (h6 : kd = 6 → ¬ 0 ≤ idxJ (isV n) (g.vs.map Vx.cl) 0) (h7 : kd = 7 → ¬ 0 ≤ idxJ (isE n) (g.es.map Lk.cl) 0) :
    acall S 17 [.agg g.c, .agg [.i .i64 kd, .i .i64 n, .str s, .sl kk z ll], .str name] = some (.tup [.agg g.cl.c, .b false, .i .i64 101], []) := by
  have hcl := e1000031 g h
  have hck := e6 g.cl (Gr.cl_ok h)
  rw [Gr.cl_p, hc] at hck
  have hvl := h.vl
  have hel := h.el
  have hv0 := clV_c (ClV_cl g.vs)
  have he0 := clE_c (ClE_cl g.es)
  have hp := fun hp hh => props_none (hp := hp) (kv := 832) (ke := 833) (Kv := 833000000000000000) (Ke := 834000000000000000) (last := g.last) (s := s) (y := .sl kk z ll) hh (lies_cl h (by omega) (by omega) (by omega) (by omega)) h6 h7
  simp only [growd, Gr.c, Gr.cl] at hcl hck ⊢
  simp only [gCells, List.length_map, LiesH, vBlk, eBlk, bxB] at hp
  refine W_eq (g17 rfl ?_)
  (repeat' (first | (with_reducible first | refine kont_next ?_ | refine lkont_next ?_ | refine kont_nextn ?_ | refine ikont_next ?_ | refine ikont_nextn ?_) | simp only [go_sem, J0, reduceIte, reduceCtorEq, Ja, Jb, Jc, Jd, Je, Jf, Jg, Jh, Ji, Jj, Jk, Jl, Jm, Jn, Jo, Jp, Jq, Jr, Js, a17, s1000031, hcl, s6, hck, List.length_map, hvl, hel, hv0, he0, snapR (ty := 73) (sz := 5), packRF (ty := 73) (sz := 5), hp]))
theorem unset_none_v {g : Gr} (h : g.ok) {name s : List UInt8} {n : Int} {kk : SK} {z : Nat} {ll : List (List AV)} {i : Nat} {x : Vx} (hc : okG g.p = true) (hi : idxJ (isV n) (g.vs.map Vx.cl) 0 = (i : Int)) (hx : g.vs[i]? = some x) (hxo : x.ok) (hm : idxJ (eqP name) (x.props.map clT) 0 = -1) :
    acall S 17 [.agg g.c, .agg [.i .i64 6, .i .i64 n, .str s, .sl kk z ll], .str name] = some (.tup [.agg { g.cl with vs := g.cl.vs.set i x.cl }.c, .b false, .i .i64 0], []) := by
  have hcl := e1000031 g h
  have hck := e6 g.cl (Gr.cl_ok h)
  rw [Gr.cl_p, hc] at hck
  have hvl := h.vl
  have hel := h.el
  have hv0 := clV_c (ClV_cl g.vs)
  have he0 := clE_c (ClE_cl g.es)
  have hx2 : (g.vs.map Vx.cl)[i]? = some x.cl := by rw [List.getElem?_map, hx]; rfl
  have hlt : i < g.vs.length := (List.getElem?_eq_some_iff.1 hx).1
  have hp := fun hp hh => props_some_v (hp := hp) (kv := 832) (ke := 833) (Kv := 833000000000000000) (Ke := 834000000000000000) (last := g.last) (s := s) (y := .sl kk z ll) hh (lies_cl h (by omega) (by omega) (by omega) (by omega)) hi hx2
  have hi37 : i < 137438953472 := by omega
  have hpl : x.props.length ≤ 137438953472 := hxo.ps.len
  obtain ⟨xid, xl,  xpk, xpz, xps⟩ := x
  simp only at hpl hm
  have hdel := del_none name (l := xps.map clT) (by rw [List.length_map]; exact hpl) hm
  have hqp := fun n hp => hi_v (K := 833000000000000000) (k := 2240) (ClV_cl g.vs) hx2 ⟨xid, xl,  .open_, 5, xps.map clT⟩ rfl rfl  rfl rfl rfl (by omega) n hp
  simp only [List.length_map, Vx.cl, tagC] at hqp
  simp only [growd, Gr.c, Gr.cl, Vl.c, Vl.cs_map] at hcl hck ⊢
  simp only [gCells, List.length_map, LiesH, vBlk, eBlk, bxB] at hp
  refine W_eq (g17 rfl ?_)
  (repeat' (first | (with_reducible first | refine kont_next ?_ | refine lkont_next ?_ | refine kont_nextn ?_ | refine ikont_next ?_ | refine ikont_nextn ?_) | simp -implicitDefEqProofs only [go_sem, J0, reduceIte, reduceCtorEq, Ja, Jb, Jc, Jd, Je, Jf, Jg, Jh, Ji, Jj, Jk, Jl, Jm, Jn, Jo, Jp, Jq, Jr, Js, a17, s1000031, hcl, s6, hck, List.length_map, hvl, hel, hv0, he0, snapR (ty := 73) (sz := 5), packRF (ty := 73) (sz := 5), hp, hi37, hlt, hx, hx2, RE.b, RE.r, Vx.re, Vx.cl, s41, hdel, List.length_set, hqp, beq_at, refsR_set_at, Int.lt_irrefl, decide_false]))
theorem unset_some_v {g : Gr} (h : g.ok) {name s : List UInt8} {n : Int} {kk : SK} {z : Nat} {ll : List (List AV)} {i : Nat} {x : Vx} (hc : okG g.p = true) (hi : idxJ (isV n) (g.vs.map Vx.cl) 0 = (i : Int)) (hx : g.vs[i]? = some x) (hxo : x.ok) {m : Nat} (hm : idxJ (eqP name) (x.props.map clT) 0 = (m : Int)) :
    acall S 17 [.agg g.c, .agg [.i .i64 6, .i .i64 n, .str s, .sl kk z ll], .str name] = some (.tup [.agg { g.cl with vs := g.cl.vs.set i { x.cl with props := (x.props.map clT).filter fun y => !eqP name y } }.c, .b true, .i .i64 0], []) := by
  have hcl := e1000031 g h
  have hck := e6 g.cl (Gr.cl_ok h)
  rw [Gr.cl_p, hc] at hck
  have hvl := h.vl
  have hel := h.el
  have hv0 := clV_c (ClV_cl g.vs)
  have he0 := clE_c (ClE_cl g.es)
  have hx2 : (g.vs.map Vx.cl)[i]? = some x.cl := by rw [List.getElem?_map, hx]; rfl
  have hlt : i < g.vs.length := (List.getElem?_eq_some_iff.1 hx).1
  have hp := fun hp hh => props_some_v (hp := hp) (kv := 832) (ke := 833) (Kv := 833000000000000000) (Ke := 834000000000000000) (last := g.last) (s := s) (y := .sl kk z ll) hh (lies_cl h (by omega) (by omega) (by omega) (by omega)) hi hx2
  have hi37 : i < 137438953472 := by omega
  have hpl : x.props.length ≤ 137438953472 := hxo.ps.len
  obtain ⟨xid, xl,  xpk, xpz, xps⟩ := x
  simp only at hpl hm
  have hdel := del_some name (l := xps.map clT) (by rw [List.length_map]; exact hpl) hm
  have hless : ((xps.map clT).filter fun y => !eqP name y).length < xps.length := by
    obtain ⟨y, h1, h2, h3⟩ := idxJ_some' hm
    have := List.length_filter_lt_length_iff_exists (p := fun y => !eqP name y) (l := xps.map clT)
    rw [List.length_map] at this
    exact this.2 ⟨y, List.mem_of_getElem? h1, by rw [h2]; decide⟩
  have bl : decide ((((xps.map clT).filter fun y => !eqP name y).length : Int) < (xps.length : Int)) = true := decide_eq_true (by omega)
  have hqp := fun n hp => hf_v (K := 833000000000000000) (ClV_cl g.vs) hx2 ⟨xid, xl,  .open_, 5, (xps.map clT).filter fun y => !eqP name y⟩ rfl rfl  rfl rfl n hp
  generalize ((xps.map clT).filter fun y => !eqP name y) = F at *
  simp only [List.length_map, Vx.cl, tagC] at hqp
  simp only [growd, Gr.c, Gr.cl, Vl.c, Vl.cs_map] at hcl hck ⊢
  simp only [gCells, List.length_map, LiesH, vBlk, eBlk, bxB] at hp
  refine W_eq (g17 rfl ?_)
  (repeat' (first | (with_reducible first | refine kont_next ?_ | refine lkont_next ?_ | refine kont_nextn ?_ | refine ikont_next ?_ | refine ikont_nextn ?_) | simp -implicitDefEqProofs only [go_sem, J0, reduceIte, reduceCtorEq, Ja, Jb, Jc, Jd, Je, Jf, Jg, Jh, Ji, Jj, Jk, Jl, Jm, Jn, Jo, Jp, Jq, Jr, Js, a17, s1000031, hcl, s6, hck, List.length_map, hvl, hel, hv0, he0, snapR (ty := 73) (sz := 5), packRF (ty := 73) (sz := 5), hp, hi37, hlt, hx, hx2, RE.b, RE.r, Vx.re, Vx.cl, s41, hdel, List.length_set, hqp, beq_at, refsR_set_at, bl]))
theorem unset_none_e {g : Gr} (h : g.ok) {name s : List UInt8} {n : Int} {kk : SK} {z : Nat} {ll : List (List AV)} {i : Nat} {x : Lk} (hc : okG g.p = true) (hi : idxJ (isE n) (g.es.map Lk.cl) 0 = (i : Int)) (hx : g.es[i]? = some x) (hxo : x.ok) (hm : idxJ (eqP name) (x.props.map clT) 0 = -1) :
    acall S 17 [.agg g.c, .agg [.i .i64 7, .i .i64 n, .str s, .sl kk z ll], .str name] = some (.tup [.agg { g.cl with es := g.cl.es.set i x.cl }.c, .b false, .i .i64 0], []) := by
  have hcl := e1000031 g h
  have hck := e6 g.cl (Gr.cl_ok h)
  rw [Gr.cl_p, hc] at hck
  have hvl := h.vl
  have hel := h.el
  have hv0 := clV_c (ClV_cl g.vs)
  have he0 := clE_c (ClE_cl g.es)
  have hx2 : (g.es.map Lk.cl)[i]? = some x.cl := by rw [List.getElem?_map, hx]; rfl
  have hlt : i < g.es.length := (List.getElem?_eq_some_iff.1 hx).1
  have hp := fun hp hh => props_some_e (hp := hp) (kv := 832) (ke := 833) (Kv := 833000000000000000) (Ke := 834000000000000000) (last := g.last) (s := s) (y := .sl kk z ll) hh (lies_cl h (by omega) (by omega) (by omega) (by omega)) hi hx2
  have hi37 : i < 137438953472 := by omega
  have hpl : x.props.length ≤ 137438953472 := hxo.ps.len
  obtain ⟨xid, xl, xo, xi, xpk, xpz, xps⟩ := x
  simp only at hpl hm
  have hdel := del_none name (l := xps.map clT) (by rw [List.length_map]; exact hpl) hm
  have hqp := fun n hp => hi_e (K := 834000000000000000) (k := 2240) (ClE_cl g.es) hx2 ⟨xid, xl, xo, xi, .open_, 5, xps.map clT⟩ rfl rfl rfl rfl rfl rfl rfl (by omega) n hp
  simp only [List.length_map, Lk.cl, tagC] at hqp
  simp only [growd, Gr.c, Gr.cl, Vl.c, Vl.cs_map] at hcl hck ⊢
  simp only [gCells, List.length_map, LiesH, vBlk, eBlk, bxB] at hp
  refine W_eq (g17 rfl ?_)
  (repeat' (first | (with_reducible first | refine kont_next ?_ | refine lkont_next ?_ | refine kont_nextn ?_ | refine ikont_next ?_ | refine ikont_nextn ?_) | simp -implicitDefEqProofs only [go_sem, J0, reduceIte, reduceCtorEq, Ja, Jb, Jc, Jd, Je, Jf, Jg, Jh, Ji, Jj, Jk, Jl, Jm, Jn, Jo, Jp, Jq, Jr, Js, a17, s1000031, hcl, s6, hck, List.length_map, hvl, hel, hv0, he0, snapR (ty := 73) (sz := 5), packRF (ty := 73) (sz := 5), hp, hi37, hlt, hx, hx2, RE.b, RE.r, Lk.re, Lk.cl, s41, hdel, List.length_set, hqp, beq_at, refsR_set_at, Int.lt_irrefl, decide_false]))
theorem unset_some_e {g : Gr} (h : g.ok) {name s : List UInt8} {n : Int} {kk : SK} {z : Nat} {ll : List (List AV)} {i : Nat} {x : Lk} (hc : okG g.p = true) (hi : idxJ (isE n) (g.es.map Lk.cl) 0 = (i : Int)) (hx : g.es[i]? = some x) (hxo : x.ok) {m : Nat} (hm : idxJ (eqP name) (x.props.map clT) 0 = (m : Int)) :
    acall S 17 [.agg g.c, .agg [.i .i64 7, .i .i64 n, .str s, .sl kk z ll], .str name] = some (.tup [.agg { g.cl with es := g.cl.es.set i { x.cl with props := (x.props.map clT).filter fun y => !eqP name y } }.c, .b true, .i .i64 0], []) := by
  have hcl := e1000031 g h
  have hck := e6 g.cl (Gr.cl_ok h)
  rw [Gr.cl_p, hc] at hck
  have hvl := h.vl
  have hel := h.el
  have hv0 := clV_c (ClV_cl g.vs)
  have he0 := clE_c (ClE_cl g.es)
  have hx2 : (g.es.map Lk.cl)[i]? = some x.cl := by rw [List.getElem?_map, hx]; rfl
  have hlt : i < g.es.length := (List.getElem?_eq_some_iff.1 hx).1
  have hp := fun hp hh => props_some_e (hp := hp) (kv := 832) (ke := 833) (Kv := 833000000000000000) (Ke := 834000000000000000) (last := g.last) (s := s) (y := .sl kk z ll) hh (lies_cl h (by omega) (by omega) (by omega) (by omega)) hi hx2
  have hi37 : i < 137438953472 := by omega
  have hpl : x.props.length ≤ 137438953472 := hxo.ps.len
  obtain ⟨xid, xl, xo, xi, xpk, xpz, xps⟩ := x
  simp only at hpl hm
  have hdel := del_some name (l := xps.map clT) (by rw [List.length_map]; exact hpl) hm
  have hless : ((xps.map clT).filter fun y => !eqP name y).length < xps.length := by
    obtain ⟨y, h1, h2, h3⟩ := idxJ_some' hm
    have := List.length_filter_lt_length_iff_exists (p := fun y => !eqP name y) (l := xps.map clT)
    rw [List.length_map] at this
    exact this.2 ⟨y, List.mem_of_getElem? h1, by rw [h2]; decide⟩
  have bl : decide ((((xps.map clT).filter fun y => !eqP name y).length : Int) < (xps.length : Int)) = true := decide_eq_true (by omega)
  have hqp := fun n hp => hf_e (K := 834000000000000000) (ClE_cl g.es) hx2 ⟨xid, xl, xo, xi, .open_, 5, (xps.map clT).filter fun y => !eqP name y⟩ rfl rfl rfl rfl rfl rfl n hp
  generalize ((xps.map clT).filter fun y => !eqP name y) = F at *
  simp only [List.length_map, Lk.cl, tagC] at hqp
  simp only [growd, Gr.c, Gr.cl, Vl.c, Vl.cs_map] at hcl hck ⊢
  simp only [gCells, List.length_map, LiesH, vBlk, eBlk, bxB] at hp
  refine W_eq (g17 rfl ?_)
  (repeat' (first | (with_reducible first | refine kont_next ?_ | refine lkont_next ?_ | refine kont_nextn ?_ | refine ikont_next ?_ | refine ikont_nextn ?_) | simp -implicitDefEqProofs only [go_sem, J0, reduceIte, reduceCtorEq, Ja, Jb, Jc, Jd, Je, Jf, Jg, Jh, Ji, Jj, Jk, Jl, Jm, Jn, Jo, Jp, Jq, Jr, Js, a17, s1000031, hcl, s6, hck, List.length_map, hvl, hel, hv0, he0, snapR (ty := 73) (sz := 5), packRF (ty := 73) (sz := 5), hp, hi37, hlt, hx, hx2, RE.b, RE.r, Lk.re, Lk.cl, s41, hdel, List.length_set, hqp, beq_at, refsR_set_at, bl]))
end Go.Proofs.YtgeaibhgaihobaaDoor
