import Derived.Test.YtgeaibhgaihobaaDoorG1
set_option linter.unusedSimpArgs false
set_option linter.unusedVariables false
set_option maxHeartbeats 8000000
set_option maxRecDepth 100000
namespace Go.Proofs.YtgeaibhgaihobaaDoor
open Go.Abs
open Nat renaming add_assoc → J0, reduceEqDiff → Ja, reduceAdd → Jb, reduceMul → Jc, reduceSub → Jd, reduceLeDiff → Je, reduceLT → Jf, reduceBEq → Jg, reduceBNe → Jh
open Int renaming reduceLE → Ji, reduceLT → Jj, reduceToNat → Jk, reduceEq → Jl, reduceNe → Jm, reduceNeg → Jn, reduceAdd → Jo, reduceSub → Jp, reduceMul → Jq, cast_ofNat_Int → Jr, natCast_zero → Js
structure Vx where
  id : Int
  label : List UInt8
  pk : SK
  pz : Nat
  props : List Pp
structure Lk where
  id : Int
  label : List UInt8
  out : Int
  inn : Int
  pk : SK
  pz : Nat
  props : List Pp
structure PVx where
  id : Int
  label : List UInt8
  props : List (List UInt8 × PV)
structure PLk where
  id : Int
  label : List UInt8
  out : Int
  inn : Int
  props : List (List UInt8 × PV)
def Vx.c (v : Vx) : List AV := [.i .i64 v.id, .str v.label, .sl v.pk v.pz (v.props.map tagC)]
def Lk.c (e : Lk) : List AV := [.i .i64 e.id, .str e.label, .i .i64 e.out, .i .i64 e.inn, .sl e.pk e.pz (e.props.map tagC)]
def Vx.p (v : Vx) : PVx := ⟨v.id, v.label, v.props.map tagP⟩
def Lk.p (e : Lk) : PLk := ⟨e.id, e.label, e.out, e.inn, e.props.map tagP⟩
structure Vx.ok (v : Vx) : Prop where
  lab : v.label.length ≤ 137438953472
  ps : PsOk v.pk v.pz v.props
structure Lk.ok (e : Lk) : Prop where
  lab : e.label.length ≤ 137438953472
  ps : PsOk e.pk e.pz e.props
noncomputable def Vx.cl (v : Vx) : Vx := { v with pk := .open_, pz := 5, props := v.props.map clT }
noncomputable def Lk.cl (e : Lk) : Lk := { e with pk := .open_, pz := 5, props := e.props.map clT }
theorem clTs_p (l : List Pp) : (l.map clT).map tagP = l.map tagP := by
  rw [List.map_map]
  exact List.map_congr_left fun x _ => clT_p x
theorem Vx.cl_p (v : Vx) : v.cl.p = v.p := by simp only [Vx.cl, Vx.p, clTs_p]
theorem Lk.cl_p (e : Lk) : e.cl.p = e.p := by simp only [Lk.cl, Lk.p, clTs_p]
theorem Vx.cl_ok {v : Vx} (h : v.ok) : v.cl.ok := ⟨h.lab, h.ps.cl⟩
theorem Lk.cl_ok {e : Lk} (h : e.ok) : e.cl.ok := ⟨h.lab, h.ps.cl⟩
structure Gr where
  vk : SK
  vz : Nat
  vs : List Vx
  ek : SK
  ez : Nat
  es : List Lk
  last : Int
structure PG where
  v : List PVx
  e : List PLk
  last : Int
def Gr.c (g : Gr) : List AV := [.sl g.vk g.vz (g.vs.map Vx.c), .sl g.ek g.ez (g.es.map Lk.c), .i .i64 g.last]
def Gr.p (g : Gr) : PG := ⟨g.vs.map Vx.p, g.es.map Lk.p, g.last⟩
structure Gr.ok (g : Gr) : Prop where
  v : OkS g.vk g.vz 3 g.vs
  e : OkS g.ek g.ez 5 g.es
  vl : g.vs.length ≤ 137438953472
  el : g.es.length ≤ 137438953472
  va : ∀ x ∈ g.vs, x.ok
  ea : ∀ x ∈ g.es, x.ok
def grow (a b : Bool) (vs : List Vx) (es : List Lk) (last : Int) : AV := .agg [.ow 31 3 a (vs.map Vx.c), .ow 37 5 b (es.map Lk.c), .i .i64 last]
theorem take_map_snoc {α β : Type} {f : α → β} {l : List α} {i : Nat} {x : α} (h : l[i]? = some x) : (l.take (i + 1)).map f = (l.take i).map f ++ [f x] := by rw [take_get h, List.map_append]; rfl
theorem e31 (g : Gr) (h : g.ok) : acall S 31 [.agg g.c] = some (grow (decide (g.vs = [])) (decide (g.es = [])) (g.vs.map Vx.cl) (g.es.map Lk.cl) g.last, []) := by
  have hv1 := h.v.1
  have he1 := h.e.1
  have hvl := h.vl
  have hel := h.el
  have hL : LIM = 274877906944 := rfl
  obtain ⟨vk, vz, vs, ek, ez, es, last⟩ := g
  simp only at hv1 he1 hvl hel
  have hva := h.va
  have hea := h.ea
  simp only at hva hea
  refine W_eq (g31 rfl ?_)
  (repeat' (first | (with_reducible first | refine kont_next ?_ | refine lkont_next ?_ | refine kont_nextn ?_ | refine ikont_next ?_ | refine ikont_nextn ?_) | simp only [go_sem, J0, reduceIte, reduceCtorEq, Ja, Jb, Jc, Jd, Je, Jf, Jg, Jh, Ji, Jj, Jk, Jl, Jm, Jn, Jo, Jp, Jq, Jr, Js, a31, Gr.c]))
  refine kloop_inv (ι := Nat) (fun i => [.bx [.sl vk vz (vs.map Vx.c), .sl ek ez (es.map Lk.c), .i .i64 last], .bx [.sl .nil 0 [], .sl .nil 0 [], .i .i64 0], .bx [.ow 31 3 (decide (i = 0)) (((vs.take i).map Vx.cl).map Vx.c), .sl .nil 0 [], .i .i64 last], .sl vk vz (vs.map Vx.c), .i .i64 vs.length, .i .i64 i])
    (fun i => i ≤ vs.length) (fun i => vs.length - i) 0 (by simp) (Nat.zero_le _) ?_
  intro i hi
  by_cases hlt : i < vs.length
  · obtain ⟨x, gx⟩ := get_lt hlt
    have hx := hva x (List.mem_of_getElem? gx)
    have ec := e54 x.id x.label hx.ps
    have hw := wrap_succ (k := i) (by omega)
    have hbt : decide ((i : Int) < (vs.length : Int)) = true := decide_eq_true (by omega)
    have b1 : (0 : Int) ≤ (i : Int) := by omega
    have gap : ((vs.take i).map Vx.cl).map Vx.c ++ [Vx.c x.cl] = ((vs.take (i + 1)).map Vx.cl).map Vx.c := by rw [take_map_snoc gx, List.map_append]; rfl
    have hl3 : (vs.take i).length = i := by rw [List.length_take]; omega
    have hl4 : (vs.take (i + 1)).length = i + 1 := by rw [List.length_take]; omega
    obtain ⟨xid, xl, xpk, xpz, xps⟩ := x
    simp only [Vx.c, Vx.cl] at gap ec
    have hlim : i + 1 ≤ LIM := by omega
    have hz : decide (i + 1 = 0) = false := rfl
    (repeat' (first | (with_reducible first | refine kont_next ?_ | refine lkont_next ?_ | refine kont_nextn ?_ | refine ikont_next ?_ | refine ikont_nextn ?_) | simp only [go_sem, J0, reduceIte, reduceCtorEq, Ja, Jb, Jc, Jd, Je, Jf, Jg, Jh, Ji, Jj, Jk, Jl, Jm, Jn, Jo, Jp, Jq, Jr, Js, hbt, hv1, b1, gx, Vx.c, s54, ec, hw, List.length_map, hl3, hl4, hlim, gap, Nat.le_refl]))
    exact ⟨i + 1, by rw [hz], by omega, by omega⟩
  · have hbf : decide ((i : Int) < (vs.length : Int)) = false := decide_eq_false (by omega)
    obtain rfl : i = vs.length := by omega
    have hnv : decide (vs.length = 0) = decide (vs = []) := decide_eq_decide.2 List.length_eq_zero_iff
    rw [List.take_length, hnv]
    (repeat' (first | (with_reducible first | refine kont_next ?_ | refine lkont_next ?_ | refine kont_nextn ?_ | refine ikont_next ?_ | refine ikont_nextn ?_) | simp only [go_sem, J0, reduceIte, reduceCtorEq, Ja, Jb, Jc, Jd, Je, Jf, Jg, Jh, Ji, Jj, Jk, Jl, Jm, Jn, Jo, Jp, Jq, Jr, Js, hbf]))
    refine kloop_inv (ι := Nat) (fun i => [.bx [.sl .nil 0 [], .sl .nil 0 [], .i .i64 0], .bx [.ow 31 3 (decide (vs = [])) ((vs.map Vx.cl).map Vx.c), .ow 37 5 (decide (i = 0)) (((es.take i).map Lk.cl).map Lk.c), .i .i64 last], .sl ek ez (es.map Lk.c), .i .i64 es.length, .i .i64 i])
      (fun i => i ≤ es.length) (fun i => es.length - i) 0 (by simp) (Nat.zero_le _) ?_
    intro i hi
    by_cases hlt : i < es.length
    · obtain ⟨x, gx⟩ := get_lt hlt
      have hx := hea x (List.mem_of_getElem? gx)
      have ec := e51 x.id x.label x.out x.inn hx.ps
      have hw := wrap_succ (k := i) (by omega)
      have hbt : decide ((i : Int) < (es.length : Int)) = true := decide_eq_true (by omega)
      have b1 : (0 : Int) ≤ (i : Int) := by omega
      have gap : ((es.take i).map Lk.cl).map Lk.c ++ [Lk.c x.cl] = ((es.take (i + 1)).map Lk.cl).map Lk.c := by rw [take_map_snoc gx, List.map_append]; rfl
      have hl3 : (es.take i).length = i := by rw [List.length_take]; omega
      have hl4 : (es.take (i + 1)).length = i + 1 := by rw [List.length_take]; omega
      obtain ⟨xid, xl, xo, xi, xpk, xpz, xps⟩ := x
      simp only [Lk.c, Lk.cl] at gap ec
      have hlim : i + 1 ≤ LIM := by omega
      have hz : decide (i + 1 = 0) = false := rfl
      (repeat' (first | (with_reducible first | refine kont_next ?_ | refine lkont_next ?_ | refine kont_nextn ?_ | refine ikont_next ?_ | refine ikont_nextn ?_) | simp only [go_sem, J0, reduceIte, reduceCtorEq, Ja, Jb, Jc, Jd, Je, Jf, Jg, Jh, Ji, Jj, Jk, Jl, Jm, Jn, Jo, Jp, Jq, Jr, Js, hbt, he1, b1, gx, Lk.c, s51, ec, hw, List.length_map, hl3, hl4, hlim, gap, Nat.le_refl]))
      exact ⟨i + 1, by rw [hz], by omega, by omega⟩
    · have hbf : decide ((i : Int) < (es.length : Int)) = false := decide_eq_false (by omega)
      obtain rfl : i = es.length := by omega
      have hnv : decide (es.length = 0) = decide (es = []) := decide_eq_decide.2 List.length_eq_zero_iff
      rw [List.take_length, hnv]
      (repeat' (first | (with_reducible first | refine kont_next ?_ | refine lkont_next ?_ | refine kont_nextn ?_ | refine ikont_next ?_ | refine ikont_nextn ?_) | simp only [go_sem, J0, reduceIte, reduceCtorEq, Ja, Jb, Jc, Jd, Je, Jf, Jg, Jh, Ji, Jj, Jk, Jl, Jm, Jn, Jo, Jp, Jq, Jr, Js, hbf, grow]))
end Go.Proofs.YtgeaibhgaihobaaDoor
