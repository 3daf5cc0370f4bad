import Derived.Test.YtgeaibhgaihobaaDoorG2
import Derived.Test.YtgeaibhgaihobaaDoorV3
set_option linter.unusedSimpArgs false
set_option linter.unusedVariables false
set_option maxHeartbeats 8000000
set_option maxRecDepth 100000
namespace Go.Proofs.YtgeaibhgaihobaaDoor
open Go.Abs
open Nat renaming add_assoc → J0, reduceEqDiff → Ja, reduceAdd → Jb, reduceMul → Jc, reduceSub → Jd, reduceLeDiff → Je, reduceLT → Jf, reduceBEq → Jg, reduceBNe → Jh
open Int renaming reduceLE → Ji, reduceLT → Jj, reduceToNat → Jk, reduceEq → Jl, reduceNe → Jm, reduceNeg → Jn, reduceAdd → Jo, reduceSub → Jp, reduceMul → Jq, cast_ofNat_Int → Jr, natCast_zero → Js
open Classical
theorem drop_iff {α β : Type} {f : α → β} {l m : List α} {i : Nat} {x y : α} (gx : l[i]? = some x) (gy : m[i]? = some y) (hT : (l.drop i).map f = (m.drop i).map f ↔ l.map f = m.map f) :
    (f x = f y → ((l.drop (i + 1)).map f = (m.drop (i + 1)).map f ↔ l.map f = m.map f)) ∧ (¬ f x = f y → ¬ l.map f = m.map f) := by
  rw [drop_get3 gx, drop_get3 gy, List.map_cons, List.map_cons, List.cons.injEq] at hT
  exact ⟨fun e => by rw [← hT]; exact ⟨fun h => ⟨e, h⟩, fun h => h.2⟩, fun e h => e (hT.2 h).1⟩
theorem e60 {k k' : SK} {z z' : Nat} {l m : List Pp} (hl : PsOk k z l) (hm : PsOk k' z' m) : acall S 60 [.sl k z (l.map tagC), .sl k' z' (m.map tagC)] = some (.b (decide (l.map tagP = m.map tagP)), []) := by
  have h1 := hl.s.1
  have h2 := hm.s.1
  have hll := hl.len
  refine W_eq (g60 rfl ?_)
  by_cases hlen : l.length = m.length
  · have d1 : decide (¬ (l.length : Int) = (m.length : Int)) = false := decide_eq_false (by omega)
    (repeat' (first | (with_reducible first | refine kont_next ?_ | refine lkont_next ?_ | refine kont_nextn ?_ | refine ikont_next ?_ | refine ikont_nextn ?_) | simp only [go_sem, J0, reduceIte, reduceCtorEq, Ja, Jb, Jc, Jd, Je, Jf, Jg, Jh, Ji, Jj, Jk, Jl, Jm, Jn, Jo, Jp, Jq, Jr, Js, a60, List.length_map, d1]))
    refine kloop_inv (ι := Nat) (fun i => [.sl k z (l.map tagC), .sl k' z' (m.map tagC), .i .i64 i]) (fun i => i ≤ l.length ∧ ((l.drop i).map tagP = (m.drop i).map tagP ↔ l.map tagP = m.map tagP)) (fun i => l.length - i) 0 rfl ⟨by omega, Iff.rfl⟩ ?_
    rintro i ⟨hi, hT⟩
    by_cases hlt : i < l.length
    · obtain ⟨c, gc⟩ := get_lt3 hlt
      obtain ⟨d, gd⟩ := get_lt3 (show i < m.length by omega)
      have g1 : decide ((i : Int) < (l.length : Int)) = true := decide_eq_true (by omega)
      have b1 : (0 : Int) ≤ (i : Int) := by omega
      have hw := wrap_succ (k := i) (by omega)
      have hq := drop_iff gc gd hT
      have es := e16 c.2 d.2 (hl.get gc).2 (hm.get gd).2
      obtain ⟨xn, xv⟩ := c
      obtain ⟨yn, yv⟩ := d
      simp only [tagP, Prod.mk.injEq] at hq es
      by_cases hn : xn = yn
      · subst hn
        have d2 : decide (¬ xn = xn) = false := decide_eq_false (fun h => h rfl)
        by_cases hv : xv.p = yv.p
        · have d3 : decide (xv.p = yv.p) = true := decide_eq_true hv
          rw [d3] at es
          have hT2 := hq.1 ⟨rfl, hv⟩
          obtain ⟨xk, xm, xs, xkk, xz, xll⟩ := xv
          obtain ⟨yk, ym, ys, ykk, yz, yll⟩ := yv
          simp only [Vl.c, Vl.cs_map] at es
          (repeat' (first | (with_reducible first | refine kont_next ?_ | refine lkont_next ?_ | refine kont_nextn ?_ | refine ikont_next ?_ | refine ikont_nextn ?_) | simp only [go_sem, J0, reduceIte, reduceCtorEq, Ja, Jb, Jc, Jd, Je, Jf, Jg, Jh, Ji, Jj, Jk, Jl, Jm, Jn, Jo, Jp, Jq, Jr, Js, g1, b1, gc, gd, h1, h2, tagC, Vl.c, Vl.cs_map, hw, s16, es, d2]))
          exact ⟨i + 1, rfl, ⟨by omega, hT2⟩, by omega⟩
        · have d3 : decide (xv.p = yv.p) = false := decide_eq_false hv
          rw [d3] at es
          have d4 : decide (l.map tagP = m.map tagP) = false := decide_eq_false (hq.2 fun h => hv h.2)
          obtain ⟨xk, xm, xs, xkk, xz, xll⟩ := xv
          obtain ⟨yk, ym, ys, ykk, yz, yll⟩ := yv
          simp only [Vl.c, Vl.cs_map] at es
          (repeat' (first | (with_reducible first | refine kont_next ?_ | refine lkont_next ?_ | refine kont_nextn ?_ | refine ikont_next ?_ | refine ikont_nextn ?_) | simp only [go_sem, J0, reduceIte, reduceCtorEq, Ja, Jb, Jc, Jd, Je, Jf, Jg, Jh, Ji, Jj, Jk, Jl, Jm, Jn, Jo, Jp, Jq, Jr, Js, g1, b1, gc, gd, h1, h2, tagC, Vl.c, Vl.cs_map, hw, s16, es, d2, d4]))
      · have d2 : decide (¬ xn = yn) = true := decide_eq_true hn
        have d4 : decide (l.map tagP = m.map tagP) = false := decide_eq_false (hq.2 fun h => hn h.1)
        obtain ⟨xk, xm, xs, xkk, xz, xll⟩ := xv
        obtain ⟨yk, ym, ys, ykk, yz, yll⟩ := yv
        (repeat' (first | (with_reducible first | refine kont_next ?_ | refine lkont_next ?_ | refine kont_nextn ?_ | refine ikont_next ?_ | refine ikont_nextn ?_) | simp only [go_sem, J0, reduceIte, reduceCtorEq, Ja, Jb, Jc, Jd, Je, Jf, Jg, Jh, Ji, Jj, Jk, Jl, Jm, Jn, Jo, Jp, Jq, Jr, Js, g1, b1, gc, gd, h1, h2, tagC, Vl.c, Vl.cs_map, d2, d4]))
    · have g1 : decide ((i : Int) < (l.length : Int)) = false := decide_eq_false (by omega)
      rw [List.drop_of_length_le (by omega), List.drop_of_length_le (by omega)] at hT
      have d4 : decide (l.map tagP = m.map tagP) = true := decide_eq_true (hT.1 rfl)
      (repeat' (first | (with_reducible first | refine kont_next ?_ | refine lkont_next ?_ | refine kont_nextn ?_ | refine ikont_next ?_ | refine ikont_nextn ?_) | simp only [go_sem, J0, reduceIte, reduceCtorEq, Ja, Jb, Jc, Jd, Je, Jf, Jg, Jh, Ji, Jj, Jk, Jl, Jm, Jn, Jo, Jp, Jq, Jr, Js, g1, d4, List.length_map]))
  · have d1 : decide (¬ (l.length : Int) = (m.length : Int)) = true := decide_eq_true (by omega)
    have d4 : decide (l.map tagP = m.map tagP) = false := decide_eq_false fun h => hlen (by have := congrArg List.length h; simpa using this)
    (repeat' (first | (with_reducible first | refine kont_next ?_ | refine lkont_next ?_ | refine kont_nextn ?_ | refine ikont_next ?_ | refine ikont_nextn ?_) | simp only [go_sem, J0, reduceIte, reduceCtorEq, Ja, Jb, Jc, Jd, Je, Jf, Jg, Jh, Ji, Jj, Jk, Jl, Jm, Jn, Jo, Jp, Jq, Jr, Js, a60, List.length_map, d1, d4]))
theorem e38 (x y : Vx) (hx : x.ok) (hy : y.ok) : acall S 38 [.agg x.c, .agg y.c] = some (.b (decide (x.p = y.p)), []) := by
  have es := e60 hx.ps hy.ps
  obtain ⟨xid, xl, xpk, xpz, xps⟩ := x
  obtain ⟨yid, yl, ypk, ypz, yps⟩ := y
  simp only [Vx.p, PVx.mk.injEq]
  refine W_eq (g38 rfl ?_)
  by_cases h1 : xid = yid
  · by_cases h2 : xl = yl
    · subst h1 h2
      (repeat' (first | (with_reducible first | refine kont_next ?_ | refine lkont_next ?_ | refine kont_nextn ?_ | refine ikont_next ?_ | refine ikont_nextn ?_) | simp only [go_sem, J0, reduceIte, reduceCtorEq, Ja, Jb, Jc, Jd, Je, Jf, Jg, Jh, Ji, Jj, Jk, Jl, Jm, Jn, Jo, Jp, Jq, Jr, Js, a38, Vx.c, s60, es, true_and]))
    · (repeat' (first | (with_reducible first | refine kont_next ?_ | refine lkont_next ?_ | refine kont_nextn ?_ | refine ikont_next ?_ | refine ikont_nextn ?_) | simp only [go_sem, J0, reduceIte, reduceCtorEq, Ja, Jb, Jc, Jd, Je, Jf, Jg, Jh, Ji, Jj, Jk, Jl, Jm, Jn, Jo, Jp, Jq, Jr, Js, a38, Vx.c, h1, h2, false_and, and_false, decide_false, decide_true]))
  · (repeat' (first | (with_reducible first | refine kont_next ?_ | refine lkont_next ?_ | refine kont_nextn ?_ | refine ikont_next ?_ | refine ikont_nextn ?_) | simp only [go_sem, J0, reduceIte, reduceCtorEq, Ja, Jb, Jc, Jd, Je, Jf, Jg, Jh, Ji, Jj, Jk, Jl, Jm, Jn, Jo, Jp, Jq, Jr, Js, a38, Vx.c, h1, false_and, decide_false, decide_true]))
theorem e39 (x y : Lk) (hx : x.ok) (hy : y.ok) : acall S 39 [.agg x.c, .agg y.c] = some (.b (decide (x.p = y.p)), []) := by
  have es := e60 hx.ps hy.ps
  obtain ⟨xid, xl, xo, xi, xpk, xpz, xps⟩ := x
  obtain ⟨yid, yl, yo, yi, ypk, ypz, yps⟩ := y
  simp only [Lk.p, PLk.mk.injEq]
  refine W_eq (g39 rfl ?_)
  by_cases h1 : xid = yid
  · by_cases h2 : xl = yl
    · by_cases h3 : xo = yo
      · by_cases h4 : xi = yi
        · subst h1 h2 h3 h4
          (repeat' (first | (with_reducible first | refine kont_next ?_ | refine lkont_next ?_ | refine kont_nextn ?_ | refine ikont_next ?_ | refine ikont_nextn ?_) | simp only [go_sem, J0, reduceIte, reduceCtorEq, Ja, Jb, Jc, Jd, Je, Jf, Jg, Jh, Ji, Jj, Jk, Jl, Jm, Jn, Jo, Jp, Jq, Jr, Js, a39, Lk.c, s60, es, true_and]))
        · (repeat' (first | (with_reducible first | refine kont_next ?_ | refine lkont_next ?_ | refine kont_nextn ?_ | refine ikont_next ?_ | refine ikont_nextn ?_) | simp only [go_sem, J0, reduceIte, reduceCtorEq, Ja, Jb, Jc, Jd, Je, Jf, Jg, Jh, Ji, Jj, Jk, Jl, Jm, Jn, Jo, Jp, Jq, Jr, Js, a39, Lk.c, h1, h2, h3, h4, false_and, and_false, decide_false, decide_true]))
      · (repeat' (first | (with_reducible first | refine kont_next ?_ | refine lkont_next ?_ | refine kont_nextn ?_ | refine ikont_next ?_ | refine ikont_nextn ?_) | simp only [go_sem, J0, reduceIte, reduceCtorEq, Ja, Jb, Jc, Jd, Je, Jf, Jg, Jh, Ji, Jj, Jk, Jl, Jm, Jn, Jo, Jp, Jq, Jr, Js, a39, Lk.c, h1, h2, h3, false_and, and_false, decide_false, decide_true]))
    · (repeat' (first | (with_reducible first | refine kont_next ?_ | refine lkont_next ?_ | refine kont_nextn ?_ | refine ikont_next ?_ | refine ikont_nextn ?_) | simp only [go_sem, J0, reduceIte, reduceCtorEq, Ja, Jb, Jc, Jd, Je, Jf, Jg, Jh, Ji, Jj, Jk, Jl, Jm, Jn, Jo, Jp, Jq, Jr, Js, a39, Lk.c, h1, h2, false_and, and_false, decide_false, decide_true]))
  · (repeat' (first | (with_reducible first | refine kont_next ?_ | refine lkont_next ?_ | refine kont_nextn ?_ | refine ikont_next ?_ | refine ikont_nextn ?_) | simp only [go_sem, J0, reduceIte, reduceCtorEq, Ja, Jb, Jc, Jd, Je, Jf, Jg, Jh, Ji, Jj, Jk, Jl, Jm, Jn, Jo, Jp, Jq, Jr, Js, a39, Lk.c, h1, false_and, decide_false, decide_true]))
theorem e15 (g q : Gr) (h : g.ok) (h' : q.ok) : acall S 15 [.agg g.c, .agg q.c] = some (.b (decide (g.p = q.p)), []) := by
  have hv1 := h.v.1
  have he1 := h.e.1
  have hv2 := h'.v.1
  have he2 := h'.e.1
  have hvl := h.vl
  have hel := h.el
  have hp : (g.p = q.p) ↔ g.vs.map Vx.p = q.vs.map Vx.p ∧ g.es.map Lk.p = q.es.map Lk.p ∧ g.last = q.last := by simp only [Gr.p, PG.mk.injEq]
  rw [decide_eq_decide.2 hp]
  refine W_eq (g15 rfl ?_)
  by_cases hlast : g.last = q.last
  rotate_left
  · have d0 : decide (¬ g.last = q.last) = true := decide_eq_true hlast
    have d4 : decide (g.vs.map Vx.p = q.vs.map Vx.p ∧ g.es.map Lk.p = q.es.map Lk.p ∧ g.last = q.last) = false := decide_eq_false fun h => hlast h.2.2
    rw [d4]
    unfold Gr.c
    (repeat' (first | (with_reducible first | refine kont_next ?_ | refine lkont_next ?_ | refine kont_nextn ?_ | refine ikont_next ?_ | refine ikont_nextn ?_) | simp only [go_sem, J0, reduceIte, reduceCtorEq, Ja, Jb, Jc, Jd, Je, Jf, Jg, Jh, Ji, Jj, Jk, Jl, Jm, Jn, Jo, Jp, Jq, Jr, Js, a15, List.length_map, d0]))
  have d0 : decide (¬ g.last = q.last) = false := decide_eq_false (fun h => h hlast)
  by_cases hvlen : g.vs.length = q.vs.length
  rotate_left
  · have d1 : decide (¬ (g.vs.length : Int) = (q.vs.length : Int)) = true := decide_eq_true (by omega)
    have d4 : decide (g.vs.map Vx.p = q.vs.map Vx.p ∧ g.es.map Lk.p = q.es.map Lk.p ∧ g.last = q.last) = false := decide_eq_false fun h => hvlen (by have := congrArg List.length h.1; simpa using this)
    rw [d4]
    unfold Gr.c
    (repeat' (first | (with_reducible first | refine kont_next ?_ | refine lkont_next ?_ | refine kont_nextn ?_ | refine ikont_next ?_ | refine ikont_nextn ?_) | simp only [go_sem, J0, reduceIte, reduceCtorEq, Ja, Jb, Jc, Jd, Je, Jf, Jg, Jh, Ji, Jj, Jk, Jl, Jm, Jn, Jo, Jp, Jq, Jr, Js, a15, List.length_map, d0, d1]))
  have d1 : decide (¬ (g.vs.length : Int) = (q.vs.length : Int)) = false := decide_eq_false (by omega)
  by_cases helen : g.es.length = q.es.length
  rotate_left
  · have d2 : decide (¬ (g.es.length : Int) = (q.es.length : Int)) = true := decide_eq_true (by omega)
    have d4 : decide (g.vs.map Vx.p = q.vs.map Vx.p ∧ g.es.map Lk.p = q.es.map Lk.p ∧ g.last = q.last) = false := decide_eq_false fun h => helen (by have := congrArg List.length h.2.1; simpa using this)
    rw [d4]
    unfold Gr.c
    (repeat' (first | (with_reducible first | refine kont_next ?_ | refine lkont_next ?_ | refine kont_nextn ?_ | refine ikont_next ?_ | refine ikont_nextn ?_) | simp only [go_sem, J0, reduceIte, reduceCtorEq, Ja, Jb, Jc, Jd, Je, Jf, Jg, Jh, Ji, Jj, Jk, Jl, Jm, Jn, Jo, Jp, Jq, Jr, Js, a15, List.length_map, d0, d1, d2]))
  have d2 : decide (¬ (g.es.length : Int) = (q.es.length : Int)) = false := decide_eq_false (by omega)
  have hva := h.va
  have hea := h.ea
  have hva' := h'.va
  have hea' := h'.ea
  obtain ⟨vk, vz, vs, ek, ez, es, last⟩ := g
  obtain ⟨vk', vz', vs', ek', ez', es', last'⟩ := q
  simp only at hv1 he1 hv2 he2 hvl hel hlast hvlen helen d0 d1 d2 hva hea hva' hea' ⊢
  unfold Gr.c
  (repeat' (first | (with_reducible first | refine kont_next ?_ | refine lkont_next ?_ | refine kont_nextn ?_ | refine ikont_next ?_ | refine ikont_nextn ?_) | simp only [go_sem, J0, reduceIte, reduceCtorEq, Ja, Jb, Jc, Jd, Je, Jf, Jg, Jh, Ji, Jj, Jk, Jl, Jm, Jn, Jo, Jp, Jq, Jr, Js, a15, List.length_map, d0, d1, d2]))
  refine kloop_inv (ι := Nat) (fun i => [.bx [.sl vk vz (vs.map Vx.c), .sl ek ez (es.map Lk.c), .i .i64 last], .bx [.sl vk' vz' (vs'.map Vx.c), .sl ek' ez' (es'.map Lk.c), .i .i64 last'], .i .i64 i]) (fun i => i ≤ vs.length ∧ ((vs.drop i).map Vx.p = (vs'.drop i).map Vx.p ↔ vs.map Vx.p = vs'.map Vx.p)) (fun i => vs.length - i) 0 rfl ⟨by omega, Iff.rfl⟩ ?_
  rintro i ⟨hi, hT⟩
  by_cases hlt : i < vs.length
  · obtain ⟨c, gc⟩ := get_lt hlt
    obtain ⟨d, gd⟩ := get_lt (show i < vs'.length by omega)
    have g1 : decide ((i : Int) < (vs.length : Int)) = true := decide_eq_true (by omega)
    have b1 : (0 : Int) ≤ (i : Int) := by omega
    have hw := wrap_succ (k := i) (by omega)
    have hq := drop_iff gc gd hT
    have ec := e38 c d (hva c (List.mem_of_getElem? gc)) (hva' d (List.mem_of_getElem? gd))
    by_cases hv : c.p = d.p
    · rw [decide_eq_true hv] at ec
      have hT2 := hq.1 hv
      obtain ⟨xid, xl, xpk, xpz, xps⟩ := c
      obtain ⟨yid, yl, ypk, ypz, yps⟩ := d
      simp only [Vx.c] at ec
      (repeat' (first | (with_reducible first | refine kont_next ?_ | refine lkont_next ?_ | refine kont_nextn ?_ | refine ikont_next ?_ | refine ikont_nextn ?_) | simp only [go_sem, J0, reduceIte, reduceCtorEq, Ja, Jb, Jc, Jd, Je, Jf, Jg, Jh, Ji, Jj, Jk, Jl, Jm, Jn, Jo, Jp, Jq, Jr, Js, g1, b1, gc, gd, hv1, hv2, he1, he2, Vx.c, s38, ec, hw, List.length_map]))
      exact ⟨i + 1, rfl, ⟨by omega, hT2⟩, by omega⟩
    · rw [decide_eq_false hv] at ec
      have d4 : decide (vs.map Vx.p = vs'.map Vx.p ∧ es.map Lk.p = es'.map Lk.p ∧ last = last') = false := decide_eq_false fun h => hq.2 hv h.1
      obtain ⟨xid, xl, xpk, xpz, xps⟩ := c
      obtain ⟨yid, yl, ypk, ypz, yps⟩ := d
      simp only [Vx.c] at ec
      (repeat' (first | (with_reducible first | refine kont_next ?_ | refine lkont_next ?_ | refine kont_nextn ?_ | refine ikont_next ?_ | refine ikont_nextn ?_) | simp only [go_sem, J0, reduceIte, reduceCtorEq, Ja, Jb, Jc, Jd, Je, Jf, Jg, Jh, Ji, Jj, Jk, Jl, Jm, Jn, Jo, Jp, Jq, Jr, Js, g1, b1, gc, gd, hv1, hv2, he1, he2, Vx.c, s38, ec, hw, d4, List.length_map]))
  have g1 : decide ((i : Int) < (vs.length : Int)) = false := decide_eq_false (by omega)
  rw [List.drop_of_length_le (by omega), List.drop_of_length_le (by omega)] at hT
  have hV : vs.map Vx.p = vs'.map Vx.p := hT.1 rfl
  (repeat' (first | (with_reducible first | refine kont_next ?_ | refine lkont_next ?_ | refine kont_nextn ?_ | refine ikont_next ?_ | refine ikont_nextn ?_) | simp only [go_sem, J0, reduceIte, reduceCtorEq, Ja, Jb, Jc, Jd, Je, Jf, Jg, Jh, Ji, Jj, Jk, Jl, Jm, Jn, Jo, Jp, Jq, Jr, Js, g1, List.length_map]))
  refine kloop_inv (ι := Nat) (fun i => [.bx [.sl vk vz (vs.map Vx.c), .sl ek ez (es.map Lk.c), .i .i64 last], .bx [.sl vk' vz' (vs'.map Vx.c), .sl ek' ez' (es'.map Lk.c), .i .i64 last'], .i .i64 i]) (fun i => i ≤ es.length ∧ ((es.drop i).map Lk.p = (es'.drop i).map Lk.p ↔ es.map Lk.p = es'.map Lk.p)) (fun i => es.length - i) 0 rfl ⟨by omega, Iff.rfl⟩ ?_
  rintro i ⟨hi, hT⟩
  by_cases hlt : i < es.length
  · obtain ⟨c, gc⟩ := get_lt hlt
    obtain ⟨d, gd⟩ := get_lt (show i < es'.length by omega)
    have g1 : decide ((i : Int) < (es.length : Int)) = true := decide_eq_true (by omega)
    have b1 : (0 : Int) ≤ (i : Int) := by omega
    have hw := wrap_succ (k := i) (by omega)
    have hq := drop_iff gc gd hT
    have ec := e39 c d (hea c (List.mem_of_getElem? gc)) (hea' d (List.mem_of_getElem? gd))
    by_cases hv : c.p = d.p
    · rw [decide_eq_true hv] at ec
      have hT2 := hq.1 hv
      obtain ⟨xid, xl, xo, xi, xpk, xpz, xps⟩ := c
      obtain ⟨yid, yl, yo, yi, ypk, ypz, yps⟩ := d
      simp only [Lk.c] at ec
      (repeat' (first | (with_reducible first | refine kont_next ?_ | refine lkont_next ?_ | refine kont_nextn ?_ | refine ikont_next ?_ | refine ikont_nextn ?_) | simp only [go_sem, J0, reduceIte, reduceCtorEq, Ja, Jb, Jc, Jd, Je, Jf, Jg, Jh, Ji, Jj, Jk, Jl, Jm, Jn, Jo, Jp, Jq, Jr, Js, g1, b1, gc, gd, hv1, hv2, he1, he2, Lk.c, s39, ec, hw, List.length_map]))
      exact ⟨i + 1, rfl, ⟨by omega, hT2⟩, by omega⟩
    · rw [decide_eq_false hv] at ec
      have d4 : decide (vs.map Vx.p = vs'.map Vx.p ∧ es.map Lk.p = es'.map Lk.p ∧ last = last') = false := decide_eq_false fun h => hq.2 hv h.2.1
      obtain ⟨xid, xl, xo, xi, xpk, xpz, xps⟩ := c
      obtain ⟨yid, yl, yo, yi, ypk, ypz, yps⟩ := d
      simp only [Lk.c] at ec
      (repeat' (first | (with_reducible first | refine kont_next ?_ | refine lkont_next ?_ | refine kont_nextn ?_ | refine ikont_next ?_ | refine ikont_nextn ?_) | simp only [go_sem, J0, reduceIte, reduceCtorEq, Ja, Jb, Jc, Jd, Je, Jf, Jg, Jh, Ji, Jj, Jk, Jl, Jm, Jn, Jo, Jp, Jq, Jr, Js, g1, b1, gc, gd, hv1, hv2, he1, he2, Lk.c, s39, ec, hw, d4, List.length_map]))
  have g1 : decide ((i : Int) < (es.length : Int)) = false := decide_eq_false (by omega)
  rw [List.drop_of_length_le (by omega), List.drop_of_length_le (by omega)] at hT
  have d4 : decide (vs.map Vx.p = vs'.map Vx.p ∧ es.map Lk.p = es'.map Lk.p ∧ last = last') = true := decide_eq_true ⟨hV, hT.1 rfl, hlast⟩
  (repeat' (first | (with_reducible first | refine kont_next ?_ | refine lkont_next ?_ | refine kont_nextn ?_ | refine ikont_next ?_ | refine ikont_nextn ?_) | simp only [go_sem, J0, reduceIte, reduceCtorEq, Ja, Jb, Jc, Jd, Je, Jf, Jg, Jh, Ji, Jj, Jk, Jl, Jm, Jn, Jo, Jp, Jq, Jr, Js, g1, d4, List.length_map]))
end Go.Proofs.YtgeaibhgaihobaaDoor
