import Derived.Test.YtgeaibhgaihobaaDoorJ3
import Derived.Test.YtgeaibhgaihobaaDoorG4
set_option linter.unusedSimpArgs false
set_option linter.unusedVariables false
set_option maxHeartbeats 8000000
set_option maxRecDepth 100000
namespace Go.Proofs.YtgeaibhgaihobaaDoor
open Go.Abs
open Nat renaming add_assoc → J0, reduceEqDiff → Ja, reduceAdd → Jb, reduceMul → Jc, reduceSub → Jd, reduceLeDiff → Je, reduceLT → Jf, reduceBEq → Jg, reduceBNe → Jh
open Int renaming reduceLE → Ji, reduceLT → Jj, reduceToNat → Jk, reduceEq → Jl, reduceNe → Jm, reduceNeg → Jn, reduceAdd → Jo, reduceSub → Jp, reduceMul → Jq, cast_ofNat_Int → Jr, natCast_zero → Js
noncomputable def Gr.cl (g : Gr) : Gr := ⟨skOf (decide (g.vs = [])), 3, g.vs.map Vx.cl, skOf (decide (g.es = [])), 5, g.es.map Lk.cl, g.last⟩
theorem ClV_cl (vs : List Vx) : ClV (vs.map Vx.cl) := fun v hv => by obtain ⟨x, _, rfl⟩ := List.mem_map.1 hv; exact ⟨rfl, rfl⟩
theorem ClE_cl (es : List Lk) : ClE (es.map Lk.cl) := fun v hv => by obtain ⟨x, _, rfl⟩ := List.mem_map.1 hv; exact ⟨rfl, rfl⟩
theorem okS_sk {α : Type} (n : Nat) (l : List α) : OkS (skOf (decide (l = []))) n n l := by
  by_cases h : l = []
  · rw [decide_eq_true h, h]; exact ⟨.inr rfl, fun _ => rfl⟩
  · rw [decide_eq_false h]; exact OkS.open_ n _
theorem okS_map {α β : Type} {k : SK} {z n : Nat} {l : List α} (f : α → β) (h : OkS k z n l) : OkS k z n (l.map f) := by
  obtain ⟨h1, h2⟩ := h
  refine ⟨h1.imp id (fun e => by rw [e]; rfl), fun e => ?_⟩
  rw [h2 e]; rfl
theorem Gr.cl_ok {g : Gr} (h : g.ok) : g.cl.ok :=
  ⟨okS_map _ (okS_sk 3 g.vs), okS_map _ (okS_sk 5 g.es), by simp only [Gr.cl, List.length_map]; exact h.vl, by simp only [Gr.cl, List.length_map]; exact h.el,
    fun x hx => by obtain ⟨y, hy, rfl⟩ := List.mem_map.1 hx; exact Vx.cl_ok (h.va y hy), fun x hx => by obtain ⟨y, hy, rfl⟩ := List.mem_map.1 hx; exact Lk.cl_ok (h.ea y hy)⟩
theorem Gr.cl_p (g : Gr) : g.cl.p = g.p := by
  simp only [Gr.cl, Gr.p, List.map_map]
  congr 1
  · exact List.map_congr_left fun x _ => Vx.cl_p x
  · exact List.map_congr_left fun x _ => Lk.cl_p x
theorem lies_cl {g : Gr} (h : g.ok) {kv ke Kv Ke : Nat} (h1 : kv < 44800128) (h2 : ke < 44800128) (h3 : 44800192 < Kv) (h4 : 44800192 < Ke) : Lies kv ke Kv Ke (decide (g.vs = [])) (decide (g.es = [])) (g.vs.map Vx.cl) (g.es.map Lk.cl) :=
  ⟨h1, h2, h3, h4, by rw [List.length_map]; exact h.vl, by rw [List.length_map]; exact h.el, ClV_cl _, ClE_cl _, fun e => by rw [of_decide_eq_true e]; rfl, fun e => by rw [of_decide_eq_true e]; rfl⟩
theorem set_bad {g : Gr} (h : g.ok) {ec v : Vl} {name : List UInt8} (hc : okG g.p = false) : acall S 14 [.agg g.c, .agg ec.c, .str name, .agg v.c] = some (.tup [.agg g.cl.c, .i .i64 103], []) := by
  have hcl := e1000031 g h
  have hck := e6 g.cl (Gr.cl_ok h)
  rw [Gr.cl_p, hc] at hck
  have hvl := h.vl
  have hel := h.el
  have hv0 := clV_c (ClV_cl g.vs)
  have he0 := clE_c (ClE_cl g.es)
  obtain ⟨xk, xm, xs, xkk, xz, xll⟩ := ec
  obtain ⟨yk, ym, ys, ykk, yz, yll⟩ := v
  simp only [growd, Gr.c, Gr.cl, Vl.c, Vl.cs_map] at hcl hck ⊢
  refine W_eq (g14 rfl ?_)
  (repeat' (first | (with_reducible first | refine kont_next ?_ | refine lkont_next ?_ | refine kont_nextn ?_ | refine ikont_next ?_ | refine ikont_nextn ?_) | simp only [go_sem, J0, reduceIte, reduceCtorEq, Ja, Jb, Jc, Jd, Je, Jf, Jg, Jh, Ji, Jj, Jk, Jl, Jm, Jn, Jo, Jp, Jq, Jr, Js, a14, s1000031, hcl, s6, hck, List.length_map, hvl, hel, hv0, he0, snapR (ty := 73) (sz := 5), packRF (ty := 73) (sz := 5)]))
theorem set_nil {g : Gr} (h : g.ok) {v : Vl} {name s : List UInt8} {kd n : Int} {kk : SK} {z : Nat} {ll : List (List AV)} (hc : okG g.p = true) (h6 : kd = 6 → ¬ 0 ≤ idxJ (isV n) (g.vs.map Vx.cl) 0) (h7 : kd = 7 → ¬ 0 ≤ idxJ (isE n) (g.es.map Lk.cl) 0) :
    acall S 14 [.agg g.c, .agg [.i .i64 kd, .i .i64 n, .str s, .sl kk z ll], .str name, .agg v.c] = some (.tup [.agg g.cl.c, .i .i64 101], []) := by
  have hcl := e1000031 g h
  have hck := e6 g.cl (Gr.cl_ok h)
  rw [Gr.cl_p, hc] at hck
  have hvl := h.vl
  have hel := h.el
  have hv0 := clV_c (ClV_cl g.vs)
  have he0 := clE_c (ClE_cl g.es)
  have hp := fun hp hh => props_none (hp := hp) (kv := 1024) (ke := 1025) (Kv := 1025000000000000000) (Ke := 1026000000000000000) (last := g.last) (s := s) (y := .sl kk z ll) hh (lies_cl h (by omega) (by omega) (by omega) (by omega)) h6 h7
  obtain ⟨yk, ym, ys, ykk, yz, yll⟩ := v
  simp only [growd, Gr.c, Gr.cl, Vl.c, Vl.cs_map] at hcl hck ⊢
  simp only [gCells, List.length_map, LiesH, vBlk, eBlk, bxB] at hp
  refine W_eq (g14 rfl ?_)
  (repeat' (first | (with_reducible first | refine kont_next ?_ | refine lkont_next ?_ | refine kont_nextn ?_ | refine ikont_next ?_ | refine ikont_nextn ?_) | simp only [go_sem, J0, reduceIte, reduceCtorEq, Ja, Jb, Jc, Jd, Je, Jf, Jg, Jh, Ji, Jj, Jk, Jl, Jm, Jn, Jo, Jp, Jq, Jr, Js, a14, s1000031, hcl, s6, hck, List.length_map, hvl, hel, hv0, he0, snapR (ty := 73) (sz := 5), packRF (ty := 73) (sz := 5), hp]))
end Go.Proofs.YtgeaibhgaihobaaDoor
