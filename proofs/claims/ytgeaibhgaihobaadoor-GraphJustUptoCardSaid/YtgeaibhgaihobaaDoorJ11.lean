import Derived.Test.YtgeaibhgaihobaaDoorJ3
set_option linter.unusedSimpArgs false
set_option linter.unusedVariables false
set_option maxHeartbeats 8000000
set_option maxRecDepth 100000
namespace Go.Proofs.YtgeaibhgaihobaaDoor
open Go.Abs
open Nat renaming add_assoc → J0, reduceEqDiff → Ja, reduceAdd → Jb, reduceMul → Jc, reduceSub → Jd, reduceLeDiff → Je, reduceLT → Jf, reduceBEq → Jg, reduceBNe → Jh
open Int renaming reduceLE → Ji, reduceLT → Jj, reduceToNat → Jk, reduceEq → Jl, reduceNe → Jm, reduceNeg → Jn, reduceAdd → Jo, reduceSub → Jp, reduceMul → Jq, cast_ofNat_Int → Jr, natCast_zero → Js
def Vl0 : Vl := .mk 0 0 [] .nil 0 []
def propV (nm : List UInt8) (l : List Pp) : AV := match l.find? (eqP nm) with
  | some x => .tup [.agg x.2.c, .b true]
  | none => .tup [.agg Vl0.c, .b false]
theorem e29 (nm : List UInt8) {k : SK} {z : Nat} {l : List Pp} (h : OkS k z 5 l) (hl : l.length ≤ 137438953472) : acall S 29 [.sl k z (l.map tagC), .str nm] = some (propV nm l, []) := by
  refine W_eq (g29 rfl ?_)
  (repeat' (first | (with_reducible first | refine kont_next ?_ | refine lkont_next ?_ | refine kont_nextn ?_ | refine ikont_next ?_ | refine ikont_nextn ?_) | simp only [go_sem, J0, reduceIte, reduceCtorEq, Ja, Jb, Jc, Jd, Je, Jf, Jg, Jh, Ji, Jj, Jk, Jl, Jm, Jn, Jo, Jp, Jq, Jr, Js, a29, List.length_map]))
  refine kloop_inv (ι := Nat) (fun i => [.str nm, .bx [.i .i64 0, .i .i64 0, .str [], .sl .nil 0 []], .sl k z (l.map tagC), .i .i64 l.length, .i .i64 i]) (fun i => i ≤ l.length ∧ (l.drop i).find? (eqP nm) = l.find? (eqP nm)) (fun i => l.length - i) 0 rfl ⟨by omega, rfl⟩ ?_
  rintro i ⟨hi, hT⟩
  by_cases hlt : i < l.length
  · obtain ⟨c, gc⟩ := get_lt3 hlt
    have g1 : decide ((i : Int) < (l.length : Int)) = true := decide_eq_true (by omega)
    have b1 : (0 : Int) ≤ (i : Int) := by omega
    have hw := wrap_succ (k := i) (by omega)
    rw [drop_get3 gc, List.find?_cons] at hT
    cases hc : eqP nm c with
    | true =>
      rw [hc] at hT
      unfold propV
      rw [← hT]
      obtain ⟨xn, xv⟩ := c
      obtain ⟨xk, xm, xs, xkk, xz, xll⟩ := xv
      simp only [eqP] at hc
      (repeat' (first | (with_reducible first | refine kont_next ?_ | refine lkont_next ?_ | refine kont_nextn ?_ | refine ikont_next ?_ | refine ikont_nextn ?_) | simp only [go_sem, J0, reduceIte, reduceCtorEq, Ja, Jb, Jc, Jd, Je, Jf, Jg, Jh, Ji, Jj, Jk, Jl, Jm, Jn, Jo, Jp, Jq, Jr, Js, g1, b1, gc, h.1, tagC, Vl.c, Vl.cs_map, hc]))
    | false =>
      rw [hc] at hT
      obtain ⟨xn, xv⟩ := c
      obtain ⟨xk, xm, xs, xkk, xz, xll⟩ := xv
      simp only [eqP] at hc
      (repeat' (first | (with_reducible first | refine kont_next ?_ | refine lkont_next ?_ | refine kont_nextn ?_ | refine ikont_next ?_ | refine ikont_nextn ?_) | simp only [go_sem, J0, reduceIte, reduceCtorEq, Ja, Jb, Jc, Jd, Je, Jf, Jg, Jh, Ji, Jj, Jk, Jl, Jm, Jn, Jo, Jp, Jq, Jr, Js, g1, b1, gc, h.1, tagC, Vl.c, Vl.cs_map, hc, hw]))
      exact ⟨i + 1, rfl, ⟨by omega, hT⟩, by omega⟩
  · have g1 : decide ((i : Int) < (l.length : Int)) = false := decide_eq_false (by omega)
    rw [List.drop_of_length_le (by omega), List.find?_nil] at hT
    unfold propV
    rw [← hT]
    (repeat' (first | (with_reducible first | refine kont_next ?_ | refine lkont_next ?_ | refine kont_nextn ?_ | refine ikont_next ?_ | refine ikont_nextn ?_) | simp only [go_sem, J0, reduceIte, reduceCtorEq, Ja, Jb, Jc, Jd, Je, Jf, Jg, Jh, Ji, Jj, Jk, Jl, Jm, Jn, Jo, Jp, Jq, Jr, Js, g1, Vl0, Vl.c, Vl.cs]))
theorem pp_v {g : Gr} (h : g.ok) {s : List UInt8} {n : Int} {kk : SK} {z : Nat} {ll : List (List AV)} {i : Nat} {x : Vx} (hi : idxJ (isV n) g.vs 0 = (i : Int)) (hx : g.vs[i]? = some x) :
    acall S 1000032 [.agg g.c, .agg [.i .i64 6, .i .i64 n, .str s, .sl kk z ll]] = some (.ip [.sl x.pk x.pz (x.props.map tagC)], []) := by
  have hv1 := h.v.1
  have he1 := h.e.1
  have ev := e43 n (.sl g.ek g.ez (g.es.map Lk.c)) (.i .i64 g.last) h.v h.vl rfl rfl
  have ee := e55 n (.sl g.vk g.vz (g.vs.map Vx.c)) (.i .i64 g.last) h.e h.el rfl rfl
  have hi0 : decide ((0 : Int) ≤ (i : Int)) = true := decide_eq_true (by omega)
  rw [hi, hi0] at ev
  have b1 : (0 : Int) ≤ (i : Int) := by omega
  have hlt := lt_of_get hx
  have b2 : (i : Int) < (g.vs.length : Int) := by omega
  refine W_eq (g1000032 rfl ?_)
  unfold Gr.c
  obtain ⟨xid, xl,  xpk, xpz, xps⟩ := x
  (repeat' (first | (with_reducible first | refine kont_next ?_ | refine lkont_next ?_ | refine kont_nextn ?_ | refine ikont_next ?_ | refine ikont_nextn ?_) | simp only [go_sem, J0, reduceIte, reduceCtorEq, Ja, Jb, Jc, Jd, Je, Jf, Jg, Jh, Ji, Jj, Jk, Jl, Jm, Jn, Jo, Jp, Jq, Jr, Js, a1000032, s43, s55, ev, ee, b1, b2, hlt, hx, hv1, he1, List.length_map, Vx.c, Lk.c]))
theorem props_v {g : Gr} (h : g.ok) {s : List UInt8} {n : Int} {kk : SK} {z : Nat} {ll : List (List AV)} {i : Nat} {x : Vx} (hi : idxJ (isV n) g.vs 0 = (i : Int)) (hx : g.vs[i]? = some x) (hxo : x.ok) :
    acall S 30 [.agg g.c, .agg [.i .i64 6, .i .i64 n, .str s, .sl kk z ll]] = some (.sl .open_ 5 ((x.props.map clT).map tagC), []) := by
  have e1 := pp_v h (s := s) (kk := kk) (z := z) (ll := ll) hi hx
  have e2 := e53 hxo.ps
  unfold Gr.c at e1 ⊢
  refine W_eq (g30 rfl ?_)
  (repeat' (first | (with_reducible first | refine kont_next ?_ | refine lkont_next ?_ | refine kont_nextn ?_ | refine ikont_next ?_ | refine ikont_nextn ?_) | simp only [go_sem, J0, reduceIte, reduceCtorEq, Ja, Jb, Jc, Jd, Je, Jf, Jg, Jh, Ji, Jj, Jk, Jl, Jm, Jn, Jo, Jp, Jq, Jr, Js, a30, s1000032, e1, s53, e2, skOf_false, List.length_map, Nat.le_refl]))
theorem prop_v {g : Gr} (h : g.ok) {name s : List UInt8} {n : Int} {kk : SK} {z : Nat} {ll : List (List AV)} {i : Nat} {x : Vx} (hi : idxJ (isV n) g.vs 0 = (i : Int)) (hx : g.vs[i]? = some x) (hxo : x.ok) :
    acall S 13 [.agg g.c, .agg [.i .i64 6, .i .i64 n, .str s, .sl kk z ll], .str name] = some (propV name (x.props.map clT), []) := by
  have e1 := props_v h (s := s) (kk := kk) (z := z) (ll := ll) hi hx hxo
  have e2 := e29 name (OkS.open_ 5 (x.props.map clT)) (by rw [List.length_map]; exact hxo.ps.len)
  unfold Gr.c at e1 ⊢
  unfold propV at e2 ⊢
  refine W_eq (g13 rfl ?_)
  cases hf : (x.props.map clT).find? (eqP name) with
  | none =>
    rw [hf] at e2
    simp only [Vl0, Vl.c, Vl.cs] at e2 ⊢
    (repeat' (first | (with_reducible first | refine kont_next ?_ | refine lkont_next ?_ | refine kont_nextn ?_ | refine ikont_next ?_ | refine ikont_nextn ?_) | simp only [go_sem, J0, reduceIte, reduceCtorEq, Ja, Jb, Jc, Jd, Je, Jf, Jg, Jh, Ji, Jj, Jk, Jl, Jm, Jn, Jo, Jp, Jq, Jr, Js, a13, s30, e1, s29, e2]))
  | some y =>
    rw [hf] at e2
    obtain ⟨yn, yv⟩ := y
    obtain ⟨yk, ym, ys, ykk, yz, yll⟩ := yv
    simp only [Vl.c, Vl.cs_map] at e2 ⊢
    (repeat' (first | (with_reducible first | refine kont_next ?_ | refine lkont_next ?_ | refine kont_nextn ?_ | refine ikont_next ?_ | refine ikont_nextn ?_) | simp only [go_sem, J0, reduceIte, reduceCtorEq, Ja, Jb, Jc, Jd, Je, Jf, Jg, Jh, Ji, Jj, Jk, Jl, Jm, Jn, Jo, Jp, Jq, Jr, Js, a13, s30, e1, s29, e2]))
theorem pp_e {g : Gr} (h : g.ok) {s : List UInt8} {n : Int} {kk : SK} {z : Nat} {ll : List (List AV)} {i : Nat} {x : Lk} (hi : idxJ (isE n) g.es 0 = (i : Int)) (hx : g.es[i]? = some x) :
    acall S 1000032 [.agg g.c, .agg [.i .i64 7, .i .i64 n, .str s, .sl kk z ll]] = some (.ip [.sl x.pk x.pz (x.props.map tagC)], []) := by
  have hv1 := h.v.1
  have he1 := h.e.1
  have ev := e43 n (.sl g.ek g.ez (g.es.map Lk.c)) (.i .i64 g.last) h.v h.vl rfl rfl
  have ee := e55 n (.sl g.vk g.vz (g.vs.map Vx.c)) (.i .i64 g.last) h.e h.el rfl rfl
  have hi0 : decide ((0 : Int) ≤ (i : Int)) = true := decide_eq_true (by omega)
  rw [hi, hi0] at ee
  have b1 : (0 : Int) ≤ (i : Int) := by omega
  have hlt := lt_of_get hx
  have b2 : (i : Int) < (g.es.length : Int) := by omega
  refine W_eq (g1000032 rfl ?_)
  unfold Gr.c
  obtain ⟨xid, xl, xo, xi, xpk, xpz, xps⟩ := x
  (repeat' (first | (with_reducible first | refine kont_next ?_ | refine lkont_next ?_ | refine kont_nextn ?_ | refine ikont_next ?_ | refine ikont_nextn ?_) | simp only [go_sem, J0, reduceIte, reduceCtorEq, Ja, Jb, Jc, Jd, Je, Jf, Jg, Jh, Ji, Jj, Jk, Jl, Jm, Jn, Jo, Jp, Jq, Jr, Js, a1000032, s43, s55, ev, ee, b1, b2, hlt, hx, hv1, he1, List.length_map, Vx.c, Lk.c]))
theorem props_e {g : Gr} (h : g.ok) {s : List UInt8} {n : Int} {kk : SK} {z : Nat} {ll : List (List AV)} {i : Nat} {x : Lk} (hi : idxJ (isE n) g.es 0 = (i : Int)) (hx : g.es[i]? = some x) (hxo : x.ok) :
    acall S 30 [.agg g.c, .agg [.i .i64 7, .i .i64 n, .str s, .sl kk z ll]] = some (.sl .open_ 5 ((x.props.map clT).map tagC), []) := by
  have e1 := pp_e h (s := s) (kk := kk) (z := z) (ll := ll) hi hx
  have e2 := e53 hxo.ps
  unfold Gr.c at e1 ⊢
  refine W_eq (g30 rfl ?_)
  (repeat' (first | (with_reducible first | refine kont_next ?_ | refine lkont_next ?_ | refine kont_nextn ?_ | refine ikont_next ?_ | refine ikont_nextn ?_) | simp only [go_sem, J0, reduceIte, reduceCtorEq, Ja, Jb, Jc, Jd, Je, Jf, Jg, Jh, Ji, Jj, Jk, Jl, Jm, Jn, Jo, Jp, Jq, Jr, Js, a30, s1000032, e1, s53, e2, skOf_false, List.length_map, Nat.le_refl]))
theorem prop_e {g : Gr} (h : g.ok) {name s : List UInt8} {n : Int} {kk : SK} {z : Nat} {ll : List (List AV)} {i : Nat} {x : Lk} (hi : idxJ (isE n) g.es 0 = (i : Int)) (hx : g.es[i]? = some x) (hxo : x.ok) :
    acall S 13 [.agg g.c, .agg [.i .i64 7, .i .i64 n, .str s, .sl kk z ll], .str name] = some (propV name (x.props.map clT), []) := by
  have e1 := props_e h (s := s) (kk := kk) (z := z) (ll := ll) hi hx hxo
  have e2 := e29 name (OkS.open_ 5 (x.props.map clT)) (by rw [List.length_map]; exact hxo.ps.len)
  unfold Gr.c at e1 ⊢
  unfold propV at e2 ⊢
  refine W_eq (g13 rfl ?_)
  cases hf : (x.props.map clT).find? (eqP name) with
  | none =>
    rw [hf] at e2
    simp only [Vl0, Vl.c, Vl.cs] at e2 ⊢
    (repeat' (first | (with_reducible first | refine kont_next ?_ | refine lkont_next ?_ | refine kont_nextn ?_ | refine ikont_next ?_ | refine ikont_nextn ?_) | simp only [go_sem, J0, reduceIte, reduceCtorEq, Ja, Jb, Jc, Jd, Je, Jf, Jg, Jh, Ji, Jj, Jk, Jl, Jm, Jn, Jo, Jp, Jq, Jr, Js, a13, s30, e1, s29, e2]))
  | some y =>
    rw [hf] at e2
    obtain ⟨yn, yv⟩ := y
    obtain ⟨yk, ym, ys, ykk, yz, yll⟩ := yv
    simp only [Vl.c, Vl.cs_map] at e2 ⊢
    (repeat' (first | (with_reducible first | refine kont_next ?_ | refine lkont_next ?_ | refine kont_nextn ?_ | refine ikont_next ?_ | refine ikont_nextn ?_) | simp only [go_sem, J0, reduceIte, reduceCtorEq, Ja, Jb, Jc, Jd, Je, Jf, Jg, Jh, Ji, Jj, Jk, Jl, Jm, Jn, Jo, Jp, Jq, Jr, Js, a13, s30, e1, s29, e2]))
theorem pp_nil {g : Gr} (h : g.ok) {s : List UInt8} {kd n : Int} {kk : SK} {z : Nat} {ll : List (List AV)} (h6 : kd = 6 → ¬ 0 ≤ idxJ (isV n) g.vs 0) (h7 : kd = 7 → ¬ 0 ≤ idxJ (isE n) g.es 0) :
    acall S 1000032 [.agg g.c, .agg [.i .i64 kd, .i .i64 n, .str s, .sl kk z ll]] = some (.nilp, []) := by
  have ev := e43 n (.sl g.ek g.ez (g.es.map Lk.c)) (.i .i64 g.last) h.v h.vl rfl rfl
  have ee := e55 n (.sl g.vk g.vz (g.vs.map Vx.c)) (.i .i64 g.last) h.e h.el rfl rfl
  refine W_eq (g1000032 rfl ?_)
  unfold Gr.c
  by_cases k6 : kd = 6
  · subst k6
    have hi0 : decide ((0 : Int) ≤ idxJ (isV n) g.vs 0) = false := decide_eq_false (h6 rfl)
    rw [hi0] at ev
    (repeat' (first | (with_reducible first | refine kont_next ?_ | refine lkont_next ?_ | refine kont_nextn ?_ | refine ikont_next ?_ | refine ikont_nextn ?_) | simp only [go_sem, J0, reduceIte, reduceCtorEq, Ja, Jb, Jc, Jd, Je, Jf, Jg, Jh, Ji, Jj, Jk, Jl, Jm, Jn, Jo, Jp, Jq, Jr, Js, a1000032, s43, s55, ev, ee]))
  · by_cases k7 : kd = 7
    · subst k7
      have hi0 : decide ((0 : Int) ≤ idxJ (isE n) g.es 0) = false := decide_eq_false (h7 rfl)
      rw [hi0] at ee
      (repeat' (first | (with_reducible first | refine kont_next ?_ | refine lkont_next ?_ | refine kont_nextn ?_ | refine ikont_next ?_ | refine ikont_nextn ?_) | simp only [go_sem, J0, reduceIte, reduceCtorEq, Ja, Jb, Jc, Jd, Je, Jf, Jg, Jh, Ji, Jj, Jk, Jl, Jm, Jn, Jo, Jp, Jq, Jr, Js, a1000032, s43, s55, ev, ee]))
    · (repeat' (first | (with_reducible first | refine kont_next ?_ | refine lkont_next ?_ | refine kont_nextn ?_ | refine ikont_next ?_ | refine ikont_nextn ?_) | simp only [go_sem, J0, reduceIte, reduceCtorEq, Ja, Jb, Jc, Jd, Je, Jf, Jg, Jh, Ji, Jj, Jk, Jl, Jm, Jn, Jo, Jp, Jq, Jr, Js, a1000032, k6, k7, decide_false]))
theorem props_nil {g : Gr} (h : g.ok) {s : List UInt8} {kd n : Int} {kk : SK} {z : Nat} {ll : List (List AV)} (h6 : kd = 6 → ¬ 0 ≤ idxJ (isV n) g.vs 0) (h7 : kd = 7 → ¬ 0 ≤ idxJ (isE n) g.es 0) :
    acall S 30 [.agg g.c, .agg [.i .i64 kd, .i .i64 n, .str s, .sl kk z ll]] = some (.sl .nil 0 [], []) := by
  have e1 := pp_nil h (s := s) (kk := kk) (z := z) (ll := ll) h6 h7
  unfold Gr.c at e1 ⊢
  refine W_eq (g30 rfl ?_)
  (repeat' (first | (with_reducible first | refine kont_next ?_ | refine lkont_next ?_ | refine kont_nextn ?_ | refine ikont_next ?_ | refine ikont_nextn ?_) | simp only [go_sem, J0, reduceIte, reduceCtorEq, Ja, Jb, Jc, Jd, Je, Jf, Jg, Jh, Ji, Jj, Jk, Jl, Jm, Jn, Jo, Jp, Jq, Jr, Js, a30, s1000032, e1]))
theorem prop_nil {g : Gr} (h : g.ok) {name s : List UInt8} {kd n : Int} {kk : SK} {z : Nat} {ll : List (List AV)} (h6 : kd = 6 → ¬ 0 ≤ idxJ (isV n) g.vs 0) (h7 : kd = 7 → ¬ 0 ≤ idxJ (isE n) g.es 0) :
    acall S 13 [.agg g.c, .agg [.i .i64 kd, .i .i64 n, .str s, .sl kk z ll], .str name] = some (.tup [.agg Vl0.c, .b false], []) := by
  have e1 := props_nil h (s := s) (kk := kk) (z := z) (ll := ll) h6 h7
  have e2 := e29 name (k := .nil) (z := 0) (l := []) ⟨.inr rfl, fun _ => rfl⟩ (by decide)
  unfold Gr.c at e1 ⊢
  simp only [propV, List.find?_nil, Vl0, Vl.c, Vl.cs, List.map_nil] at e2 ⊢
  refine W_eq (g13 rfl ?_)
  (repeat' (first | (with_reducible first | refine kont_next ?_ | refine lkont_next ?_ | refine kont_nextn ?_ | refine ikont_next ?_ | refine ikont_nextn ?_) | simp only [go_sem, J0, reduceIte, reduceCtorEq, Ja, Jb, Jc, Jd, Je, Jf, Jg, Jh, Ji, Jj, Jk, Jl, Jm, Jn, Jo, Jp, Jq, Jr, Js, a13, s30, e1, s29, e2]))
end Go.Proofs.YtgeaibhgaihobaaDoor
