import Derived.Test.YtgeaibhgaihobaaDoorG2
import Derived.Test.YtgeaibhgaihobaaDoorFf
set_option linter.unusedSimpArgs false
set_option linter.unusedVariables false
set_option maxHeartbeats 8000000
set_option maxRecDepth 100000
namespace Go.Proofs.YtgeaibhgaihobaaDoor
open Go.Abs
open Nat renaming add_assoc → J0, reduceEqDiff → Ja, reduceAdd → Jb, reduceMul → Jc, reduceSub → Jd, reduceLeDiff → Je, reduceLT → Jf, reduceBEq → Jg, reduceBNe → Jh
open Int renaming reduceLE → Ji, reduceLT → Jj, reduceToNat → Jk, reduceEq → Jl, reduceNe → Jm, reduceNeg → Jn, reduceAdd → Jo, reduceSub → Jp, reduceMul → Jq, cast_ofNat_Int → Jr, natCast_zero → Js
def Vx.re (v : Vx) : RE := ⟨[.i .i64 v.id, .s v.label], false, v.props.map tagC⟩
def Lk.re (e : Lk) : RE := ⟨[.i .i64 e.id, .s e.label, .i .i64 e.out, .i .i64 e.inn], false, e.props.map tagC⟩
def growd (a b : Bool) (vs : List Vx) (es : List Lk) (last : Int) : AV := .agg [.od 31 3 a ((vs.map Vx.re).map (RE.o 73 5)), .od 37 5 b ((es.map Lk.re).map (RE.o 73 5)), .i .i64 last]
theorem e1000031 (g : Gr) (h : g.ok) : acall S 1000031 [.agg g.c] = some (growd (decide (g.vs = [])) (decide (g.es = [])) (g.vs.map Vx.cl) (g.es.map Lk.cl) g.last, []) := by
  have hv1 := h.v.1
  have he1 := h.e.1
  have hvl := h.vl
  have hel := h.el
  have hL : LIM = 274877906944 := rfl
  obtain ⟨vk, vz, vs, ek, ez, es, last⟩ := g
  simp only at hv1 he1 hvl hel
  have hva := h.va
  have hea := h.ea
  simp only at hva hea
  refine W_eq (g1000031 rfl ?_)
  (repeat' (first | (with_reducible first | refine kont_next ?_ | refine lkont_next ?_ | refine kont_nextn ?_ | refine ikont_next ?_ | refine ikont_nextn ?_) | simp only [go_sem, J0, reduceIte, reduceCtorEq, Ja, Jb, Jc, Jd, Je, Jf, Jg, Jh, Ji, Jj, Jk, Jl, Jm, Jn, Jo, Jp, Jq, Jr, Js, a1000031, Gr.c]))
  refine kloop_inv (ι := Nat) (fun i => [.bx [.sl vk vz (vs.map Vx.c), .sl ek ez (es.map Lk.c), .i .i64 last], .bx [.sl .nil 0 [], .sl .nil 0 [], .i .i64 0], .bx [.od 31 3 (decide (i = 0)) ((((vs.take i).map Vx.cl).map Vx.re).map (RE.o 73 5)), .sl .nil 0 [], .i .i64 last], .sl vk vz (vs.map Vx.c), .i .i64 vs.length, .i .i64 i])
    (fun i => i ≤ vs.length) (fun i => vs.length - i) 0 (by simp) (Nat.zero_le _) ?_
  intro i hi
  by_cases hlt : i < vs.length
  · obtain ⟨x, gx⟩ := get_lt hlt
    have hx := hva x (List.mem_of_getElem? gx)
    have ec := e54 x.id x.label hx.ps
    have hw := wrap_succ (k := i) (by omega)
    have hbt : decide ((i : Int) < (vs.length : Int)) = true := decide_eq_true (by omega)
    have b1 : (0 : Int) ≤ (i : Int) := by omega
    have gap : ((((vs.take i).map Vx.cl).map Vx.re).map (RE.o 73 5)) ++ [RE.o 73 5 (Vx.re x.cl)] = (((vs.take (i + 1)).map Vx.cl).map Vx.re).map (RE.o 73 5) := by rw [take_map_snoc gx, List.map_append, List.map_append]; rfl
    have hl3 : (vs.take i).length = i := by rw [List.length_take]; omega
    have hl4 : (vs.take (i + 1)).length = i + 1 := by rw [List.length_take]; omega
    obtain ⟨xid, xl, xpk, xpz, xps⟩ := x
    simp only [Vx.re, Vx.cl, RE.o, List.map_cons, List.map_nil, SC.a, List.cons_append, List.nil_append] at gap ec
    have hlim : i + 1 ≤ LIM := by omega
    have hz : decide (i + 1 = 0) = false := rfl
    (repeat' (first | (with_reducible first | refine kont_next ?_ | refine lkont_next ?_ | refine kont_nextn ?_ | refine ikont_next ?_ | refine ikont_nextn ?_) | simp only [go_sem, J0, reduceIte, reduceCtorEq, Ja, Jb, Jc, Jd, Je, Jf, Jg, Jh, Ji, Jj, Jk, Jl, Jm, Jn, Jo, Jp, Jq, Jr, Js, hbt, hv1, b1, gx, Vx.c, s54, ec, hw, List.length_map, hl3, hl4, hlim, Nat.le_refl, packR_snoc (ty := 73) (sz := 5), gap]))
    exact ⟨i + 1, by rw [hz], by omega, by omega⟩
  · have hbf : decide ((i : Int) < (vs.length : Int)) = false := decide_eq_false (by omega)
    obtain rfl : i = vs.length := by omega
    have hnv : decide (vs.length = 0) = decide (vs = []) := decide_eq_decide.2 List.length_eq_zero_iff
    rw [List.take_length, hnv]
    (repeat' (first | (with_reducible first | refine kont_next ?_ | refine lkont_next ?_ | refine kont_nextn ?_ | refine ikont_next ?_ | refine ikont_nextn ?_) | simp only [go_sem, J0, reduceIte, reduceCtorEq, Ja, Jb, Jc, Jd, Je, Jf, Jg, Jh, Ji, Jj, Jk, Jl, Jm, Jn, Jo, Jp, Jq, Jr, Js, hbf, List.length_map, hvl, packR (ty := 73) (sz := 5)]))
    refine kloop_inv (ι := Nat) (fun i => [.bx [.sl .nil 0 [], .sl .nil 0 [], .i .i64 0], .bx [.od 31 3 (decide (vs = [])) (((vs.map Vx.cl).map Vx.re).map (RE.o 73 5)), .od 37 5 (decide (i = 0)) ((((es.take i).map Lk.cl).map Lk.re).map (RE.o 73 5)), .i .i64 last], .sl ek ez (es.map Lk.c), .i .i64 es.length, .i .i64 i])
      (fun i => i ≤ es.length) (fun i => es.length - i) 0 (by simp) (Nat.zero_le _) ?_
    intro i hi
    by_cases hlt : i < es.length
    · obtain ⟨x, gx⟩ := get_lt hlt
      have hx := hea x (List.mem_of_getElem? gx)
      have ec := e51 x.id x.label x.out x.inn hx.ps
      have hw := wrap_succ (k := i) (by omega)
      have hbt : decide ((i : Int) < (es.length : Int)) = true := decide_eq_true (by omega)
      have b1 : (0 : Int) ≤ (i : Int) := by omega
      have gap : ((((es.take i).map Lk.cl).map Lk.re).map (RE.o 73 5)) ++ [RE.o 73 5 (Lk.re x.cl)] = (((es.take (i + 1)).map Lk.cl).map Lk.re).map (RE.o 73 5) := by rw [take_map_snoc gx, List.map_append, List.map_append]; rfl
      have hl3 : (es.take i).length = i := by rw [List.length_take]; omega
      have hl4 : (es.take (i + 1)).length = i + 1 := by rw [List.length_take]; omega
      have hi37 : i ≤ 137438953472 := by omega
      obtain ⟨xid, xl, xo, xi, xpk, xpz, xps⟩ := x
      simp only [Lk.re, Lk.cl, RE.o, List.map_cons, List.map_nil, SC.a, List.cons_append, List.nil_append] at gap ec
      have hlim : i + 1 ≤ LIM := by omega
      have hz : decide (i + 1 = 0) = false := rfl
      (repeat' (first | (with_reducible first | refine kont_next ?_ | refine lkont_next ?_ | refine kont_nextn ?_ | refine ikont_next ?_ | refine ikont_nextn ?_) | simp only [go_sem, J0, reduceIte, reduceCtorEq, Ja, Jb, Jc, Jd, Je, Jf, Jg, Jh, Ji, Jj, Jk, Jl, Jm, Jn, Jo, Jp, Jq, Jr, Js, hbt, he1, b1, gx, Lk.c, s51, ec, hw, List.length_map, hl3, hl4, hlim, hvl, hi37, Nat.le_refl, packR (ty := 73) (sz := 5), packR_snoc (ty := 73) (sz := 5), gap]))
      exact ⟨i + 1, by rw [hz], by omega, by omega⟩
    · have hbf : decide ((i : Int) < (es.length : Int)) = false := decide_eq_false (by omega)
      obtain rfl : i = es.length := by omega
      have hnv : decide (es.length = 0) = decide (es = []) := decide_eq_decide.2 List.length_eq_zero_iff
      rw [List.take_length, hnv]
      (repeat' (first | (with_reducible first | refine kont_next ?_ | refine lkont_next ?_ | refine kont_nextn ?_ | refine ikont_next ?_ | refine ikont_nextn ?_) | simp only [go_sem, J0, reduceIte, reduceCtorEq, Ja, Jb, Jc, Jd, Je, Jf, Jg, Jh, Ji, Jj, Jk, Jl, Jm, Jn, Jo, Jp, Jq, Jr, Js, hbf, List.length_map, hvl, hel, packR (ty := 73) (sz := 5), growd]))
end Go.Proofs.YtgeaibhgaihobaaDoor
