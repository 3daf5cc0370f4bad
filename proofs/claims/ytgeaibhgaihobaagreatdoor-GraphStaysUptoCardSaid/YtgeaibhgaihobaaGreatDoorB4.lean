/-
  Own work. Contracts of the functions, and the plain law: many texts, merged by program.
-/
import Derived.Test.YtgeaibhgaihobaaGreatDoorB3
import Derived.Test.YtgeaibhgaihobaaGreatDoorB1
import Derived.Test.YtgeaibhgaihobaaGreatDoorB2
set_option linter.unusedSimpArgs false
set_option linter.unusedVariables false
set_option maxHeartbeats 8000000
set_option maxRecDepth 100000
namespace Go.Proofs.YtgeaibhgaihobaaGreatDoor
open Go.Abs
open Nat renaming add_assoc → J0, reduceEqDiff → Ja, reduceAdd → Jb, reduceMul → Jc, reduceSub → Jd, reduceLeDiff → Je, reduceLT → Jf, reduceBEq → Jg, reduceBNe → Jh
open Int renaming reduceLE → Ji, reduceLT → Jj, reduceToNat → Jk, reduceEq → Jl, reduceNe → Jm, reduceNeg → Jn, reduceAdd → Jo, reduceSub → Jp, reduceMul → Jq, cast_ofNat_Int → Jr, natCast_zero → Js
section
theorem r_at {g : Gr} (h : g.ok) {kd n : Int} {s : List UInt8} {kk : SK} {z : Nat} {ll : List (List AV)} :
   ∃ (a b : Int), acall S 83 [.agg g.c, .agg [.i .i64 kd, .i .i64 n, .str s, .sl kk z ll]] = some (.tup [.i .i64 a, .i .i64 b], []) ∧ a < g.vs.length ∧ b < g.es.length := by
 suffices hW : W (acall S 83 [.agg g.c, .agg [.i .i64 kd, .i .i64 n, .str s, .sl kk z ll]]) (fun r => ∃ (a b : Int), r = (.tup [.i .i64 a, .i .i64 b], []) ∧ a < g.vs.length ∧ b < g.es.length) by
   obtain ⟨r, h1, a, b, rfl, h2⟩ := hW
   exact ⟨a, b, h1, h2⟩
 have hv1 := h.v.1
 have he1 := h.e.1
 have hvl := h.vl
 have hel := h.el
 obtain ⟨vk, vz, vs, ek, ez, es, last⟩ := g
 simp only at hv1 hvl he1 hel ⊢
 unfold Gr.c
 refine g83 rfl ?_
 (repeat' (first | with_reducible refine zab ?_ | simp only [go_sem, J0, reduceIte, reduceCtorEq, Ja, Jb, Jc, Jd, Je, Jf, Jg, Jh, Ji, Jj, Jk, Jl, Jm, Jn, Jo, Jp, Jq, Jr, Js, a83, List.length_map]))
 refine zag (ι := Nat) (fun i => [.bx [.sl vk vz (vs.map Vx.c), .sl ek ez (es.map Lk.c), .i .i64 last], .bx [.i .i64 kd, .i .i64 n, .str s, .sl kk z ll], .i .i64 i]) (fun i => i ≤ vs.length) (fun i => vs.length - i) 0 rfl (Nat.zero_le _) ?_
 intro i hi
 have out1 : decide (kd = 6) = false ∨ decide ((i : Int) < (vs.length : Int)) = false → decide (kd = 6) = false ∨ (decide (kd = 6) = true ∧ decide ((i : Int) < (vs.length : Int)) = false) := fun h => by
   cases hk : decide (kd = 6) with
   | false => exact .inl rfl
   | true => exact .inr ⟨rfl, h.resolve_left (by rw [hk]; decide)⟩
 by_cases hlt : kd = 6 ∧ i < vs.length
 · obtain ⟨k6, hlt⟩ := hlt
   subst k6
   obtain ⟨x, gx⟩ := zbe hlt
   have hw := wrap_succ (k := i) (by omega)
   have hbt : decide ((i : Int) < (vs.length : Int)) = true := decide_eq_true (by omega)
   have b1 : (0 : Int) ≤ (i : Int) := by omega
   obtain ⟨xid, xl, xpk, xpz, xps⟩ := x
   cases hq : decide (xid = n) with
   | true =>
     (repeat' (first | with_reducible refine zab ?_ | simp only [go_sem, J0, reduceIte, reduceCtorEq, Ja, Jb, Jc, Jd, Je, Jf, Jg, Jh, Ji, Jj, Jk, Jl, Jm, Jn, Jo, Jp, Jq, Jr, Js, hbt, hv1, b1, gx, Vx.c, hq, List.length_map]))
     exact ⟨_, _, rfl, by omega, by omega⟩
   | false =>
     (repeat' (first | with_reducible refine zab ?_ | simp only [go_sem, J0, reduceIte, reduceCtorEq, Ja, Jb, Jc, Jd, Je, Jf, Jg, Jh, Ji, Jj, Jk, Jl, Jm, Jn, Jo, Jp, Jq, Jr, Js, hbt, hv1, b1, gx, Vx.c, hq, hw, List.length_map]))
     exact ⟨i + 1, rfl, by omega, by omega⟩
 · have second : ∀ {P : Prop}, P → P := id
   have hout : decide (kd = 6) = false ∨ (decide (kd = 6) = true ∧ decide ((i : Int) < (vs.length : Int)) = false) := out1 (by
     by_cases hk : kd = 6
     · exact .inr (decide_eq_false fun h => hlt ⟨hk, by omega⟩)
     · exact .inl (decide_eq_false hk))
   rcases hout with k6 | ⟨k6, hbf⟩
   · (repeat' (first | with_reducible refine zab ?_ | simp only [go_sem, J0, reduceIte, reduceCtorEq, Ja, Jb, Jc, Jd, Je, Jf, Jg, Jh, Ji, Jj, Jk, Jl, Jm, Jn, Jo, Jp, Jq, Jr, Js, k6, List.length_map]))
     refine zag (ι := Nat) (fun i => [.bx [.sl vk vz (vs.map Vx.c), .sl ek ez (es.map Lk.c), .i .i64 last], .bx [.i .i64 kd, .i .i64 n, .str s, .sl kk z ll], .i .i64 i]) (fun i => i ≤ es.length) (fun i => es.length - i) 0 rfl (Nat.zero_le _) ?_
     intro i hi
     by_cases hk : kd = 7
     · subst hk
       by_cases hlt : i < es.length
       · obtain ⟨x, gx⟩ := zbe hlt
         have hw := wrap_succ (k := i) (by omega)
         have hbt : decide ((i : Int) < (es.length : Int)) = true := decide_eq_true (by omega)
         have b1 : (0 : Int) ≤ (i : Int) := by omega
         obtain ⟨xid, xl, xo, xi, xpk, xpz, xps⟩ := x
         cases hq : decide (xid = n) with
         | true =>
           (repeat' (first | with_reducible refine zab ?_ | simp only [go_sem, J0, reduceIte, reduceCtorEq, Ja, Jb, Jc, Jd, Je, Jf, Jg, Jh, Ji, Jj, Jk, Jl, Jm, Jn, Jo, Jp, Jq, Jr, Js, hbt, he1, b1, gx, Lk.c, hq, List.length_map]))
           exact ⟨_, _, rfl, by omega, by omega⟩
         | false =>
           (repeat' (first | with_reducible refine zab ?_ | simp only [go_sem, J0, reduceIte, reduceCtorEq, Ja, Jb, Jc, Jd, Je, Jf, Jg, Jh, Ji, Jj, Jk, Jl, Jm, Jn, Jo, Jp, Jq, Jr, Js, hbt, he1, b1, gx, Lk.c, hq, hw, List.length_map]))
           exact ⟨i + 1, rfl, by omega, by omega⟩
       · have hbf : decide ((i : Int) < (es.length : Int)) = false := decide_eq_false (by omega)
         (repeat' (first | with_reducible refine zab ?_ | simp only [go_sem, J0, reduceIte, reduceCtorEq, Ja, Jb, Jc, Jd, Je, Jf, Jg, Jh, Ji, Jj, Jk, Jl, Jm, Jn, Jo, Jp, Jq, Jr, Js, hbf, List.length_map]))
         exact ⟨_, _, rfl, by omega, by omega⟩
     · have k7 : decide (kd = 7) = false := decide_eq_false hk
       (repeat' (first | with_reducible refine zab ?_ | simp only [go_sem, J0, reduceIte, reduceCtorEq, Ja, Jb, Jc, Jd, Je, Jf, Jg, Jh, Ji, Jj, Jk, Jl, Jm, Jn, Jo, Jp, Jq, Jr, Js, k7, List.length_map]))
       exact ⟨_, _, rfl, by omega, by omega⟩
   · obtain rfl : kd = 6 := of_decide_eq_true k6
     (repeat' (first | with_reducible refine zab ?_ | simp only [go_sem, J0, reduceIte, reduceCtorEq, Ja, Jb, Jc, Jd, Je, Jf, Jg, Jh, Ji, Jj, Jk, Jl, Jm, Jn, Jo, Jp, Jq, Jr, Js, hbf, List.length_map]))
     refine zag (ι := Nat) (fun i => [.bx [.sl vk vz (vs.map Vx.c), .sl ek ez (es.map Lk.c), .i .i64 last], .bx [.i .i64 6, .i .i64 n, .str s, .sl kk z ll], .i .i64 i]) (fun i => i ≤ es.length) (fun i => es.length - i) 0 rfl (Nat.zero_le _) ?_
     intro i hi
     (repeat' (first | with_reducible refine zab ?_ | simp only [go_sem, J0, reduceIte, reduceCtorEq, Ja, Jb, Jc, Jd, Je, Jf, Jg, Jh, Ji, Jj, Jk, Jl, Jm, Jn, Jo, Jp, Jq, Jr, Js, List.length_map]))
     exact ⟨_, _, rfl, by omega, by omega⟩
theorem ztx {g : Gr} (h : g.ok) {kd n : Int} {s : List UInt8} {kk : SK} {z : Nat} {ll : List (List AV)} :
   ∃ (k : SK) (w : Nat) (l : List Pp), acall S 61 [.agg g.c, .agg [.i .i64 kd, .i .i64 n, .str s, .sl kk z ll]] = some (.sl k w (l.map tagC), []) ∧ PsOk k w l := by
 obtain ⟨a, b, e1, ha, hb⟩ := r_at h (kd := kd) (n := n) (s := s) (kk := kk) (z := z) (ll := ll)
 have hva := h.va
 have hea := h.ea
 have hv1 := h.v.1
 have he1 := h.e.1
 have hvl := h.vl
 have hel := h.el
 by_cases h0 : 0 ≤ a
 · have d1 : decide ((0 : Int) ≤ a) = true := decide_eq_true h0
   obtain ⟨i, rfl⟩ : ∃ i : Nat, a = (i : Int) := ⟨a.toNat, by omega⟩
   have hlt : i < g.vs.length := by omega
   obtain ⟨x, gx⟩ := zbe hlt
   have hx := hva x (List.mem_of_getElem? gx)
   refine ⟨x.pk, x.pz, x.props, ?_, hx.ps⟩
   obtain ⟨xid, xl, xpk, xpz, xps⟩ := x
   simp only [Gr.c] at e1 ⊢
   refine W_eq (g61 rfl ?_)
   (repeat' (first | with_reducible refine zab ?_ | simp only [go_sem, J0, reduceIte, reduceCtorEq, Ja, Jb, Jc, Jd, Je, Jf, Jg, Jh, Ji, Jj, Jk, Jl, Jm, Jn, Jo, Jp, Jq, Jr, Js, a61, s83, e1, d1, h0, hlt, ha, gx, hv1, Vx.c, List.length_map]))
 · have d1 : decide ((0 : Int) ≤ a) = false := decide_eq_false h0
   by_cases h1 : 0 ≤ b
   · have d2 : decide ((0 : Int) ≤ b) = true := decide_eq_true h1
     obtain ⟨i, rfl⟩ : ∃ i : Nat, b = (i : Int) := ⟨b.toNat, by omega⟩
     have hlt : i < g.es.length := by omega
     obtain ⟨x, gx⟩ := zbe hlt
     have hx := hea x (List.mem_of_getElem? gx)
     refine ⟨x.pk, x.pz, x.props, ?_, hx.ps⟩
     obtain ⟨xid, xl, xo, xi, xpk, xpz, xps⟩ := x
     simp only [Gr.c] at e1 ⊢
     refine W_eq (g61 rfl ?_)
     (repeat' (first | with_reducible refine zab ?_ | simp only [go_sem, J0, reduceIte, reduceCtorEq, Ja, Jb, Jc, Jd, Je, Jf, Jg, Jh, Ji, Jj, Jk, Jl, Jm, Jn, Jo, Jp, Jq, Jr, Js, a61, s83, e1, d1, d2, h1, hlt, hb, gx, he1, Lk.c, List.length_map]))
   · have d2 : decide ((0 : Int) ≤ b) = false := decide_eq_false h1
     refine ⟨.nil, 0, [], ?_, ⟨.inr rfl, fun _ => rfl⟩, by decide, by simp⟩
     simp only [Gr.c] at e1 ⊢
     refine W_eq (g61 rfl ?_)
     (repeat' (first | with_reducible refine zab ?_ | simp only [go_sem, J0, reduceIte, reduceCtorEq, Ja, Jb, Jc, Jd, Je, Jf, Jg, Jh, Ji, Jj, Jk, Jl, Jm, Jn, Jo, Jp, Jq, Jr, Js, a61, s83, e1, d1, d2]))
theorem zpc {g : Gr} (h : g.ok) {kd n : Int} {s : List UInt8} {kk : SK} {z : Nat} {ll : List (List AV)} :
   ∃ (t : List UInt8) (c : Bool), acall S 59 [.agg g.c, .agg [.i .i64 kd, .i .i64 n, .str s, .sl kk z ll]] = some (.tup [.str t, .b c], []) := by
 obtain ⟨a, b, e1, ha, hb⟩ := r_at h (kd := kd) (n := n) (s := s) (kk := kk) (z := z) (ll := ll)
 have hv1 := h.v.1
 have he1 := h.e.1
 by_cases h0 : 0 ≤ a
 · have d1 : decide ((0 : Int) ≤ a) = true := decide_eq_true h0
   obtain ⟨i, rfl⟩ : ∃ i : Nat, a = (i : Int) := ⟨a.toNat, by omega⟩
   have hlt : i < g.vs.length := by omega
   obtain ⟨x, gx⟩ := zbe hlt
   refine ⟨x.label, true, ?_⟩
   obtain ⟨xid, xl, xpk, xpz, xps⟩ := x
   simp only [Gr.c] at e1 ⊢
   refine W_eq (g59 rfl ?_)
   (repeat' (first | with_reducible refine zab ?_ | simp only [go_sem, J0, reduceIte, reduceCtorEq, Ja, Jb, Jc, Jd, Je, Jf, Jg, Jh, Ji, Jj, Jk, Jl, Jm, Jn, Jo, Jp, Jq, Jr, Js, a59, s83, e1, d1, h0, hlt, ha, gx, hv1, Vx.c, List.length_map]))
 · have d1 : decide ((0 : Int) ≤ a) = false := decide_eq_false h0
   by_cases h1 : 0 ≤ b
   · have d2 : decide ((0 : Int) ≤ b) = true := decide_eq_true h1
     obtain ⟨i, rfl⟩ : ∃ i : Nat, b = (i : Int) := ⟨b.toNat, by omega⟩
     have hlt : i < g.es.length := by omega
     obtain ⟨x, gx⟩ := zbe hlt
     refine ⟨x.label, true, ?_⟩
     obtain ⟨xid, xl, xo, xi, xpk, xpz, xps⟩ := x
     simp only [Gr.c] at e1 ⊢
     refine W_eq (g59 rfl ?_)
     (repeat' (first | with_reducible refine zab ?_ | simp only [go_sem, J0, reduceIte, reduceCtorEq, Ja, Jb, Jc, Jd, Je, Jf, Jg, Jh, Ji, Jj, Jk, Jl, Jm, Jn, Jo, Jp, Jq, Jr, Js, a59, s83, e1, d1, d2, h1, hlt, hb, gx, he1, Lk.c, List.length_map]))
   · have d2 : decide ((0 : Int) ≤ b) = false := decide_eq_false h1
     refine ⟨[], false, ?_⟩
     simp only [Gr.c] at e1 ⊢
     refine W_eq (g59 rfl ?_)
     (repeat' (first | with_reducible refine zab ?_ | simp only [go_sem, J0, reduceIte, reduceCtorEq, Ja, Jb, Jc, Jd, Je, Jf, Jg, Jh, Ji, Jj, Jk, Jl, Jm, Jn, Jo, Jp, Jq, Jr, Js, a59, s83, e1, d1, d2]))
theorem zyq {g : Gr} (h : g.ok) {kd n : Int} {s : List UInt8} {kk : SK} {z : Nat} {ll : List (List AV)} {k : SK} {w : Nat} {l : List Pp} (hl : PsOk k w l) :
   ∃ q : Gr, acall S 62 [.agg g.c, .agg [.i .i64 kd, .i .i64 n, .str s, .sl kk z ll], .sl k w (l.map tagC)] = some (.agg q.c, []) ∧ q.ok := by
 obtain ⟨us, ws, ec, hup, hwp, huo, hwo⟩ := zva h
 have hul : us.length = g.vs.length := by have := congrArg List.length hup; simpa using this
 have hwl : ws.length = g.es.length := by have := congrArg List.length hwp; simpa using this
 have hvl := h.vl
 have hel := h.el
 have ok1 : OkS (skOf us.isEmpty) 3 3 us := ⟨.inl rfl, zcn⟩
 have ok2 : OkS (skOf ws.isEmpty) 5 5 ws := ⟨.inl rfl, zcn⟩
 have hc : (⟨skOf us.isEmpty, 3, us, skOf ws.isEmpty, 5, ws, g.last⟩ : Gr).ok := ⟨ok1, ok2, by simp only; omega, by simp only; omega, huo, hwo⟩
 obtain ⟨a, b, e1, ha, hb⟩ := r_at hc (kd := kd) (n := n) (s := s) (kk := kk) (z := z) (ll := ll)
 simp only at ha hb
 obtain ⟨m, em, -, hmo⟩ := zk5 hl
 have hemp : ∀ {α : Type} (l : List α) (i : Nat) (x : α), (l.set i x).isEmpty = l.isEmpty := fun l i x => by cases l with
   | nil => rfl
   | cons a r => cases i <;> rfl
 have fin : ∀ (V : List Vx) (E : List Lk), V.length = us.length → E.length = ws.length → V.isEmpty = us.isEmpty → E.isEmpty = ws.isEmpty → (∀ x ∈ V, x.ok) → (∀ x ∈ E, x.ok) →
     acall S 62 [.agg g.c, .agg [.i .i64 kd, .i .i64 n, .str s, .sl kk z ll], .sl k w (l.map tagC)] = some (.agg [.sl (skOf us.isEmpty) 3 (V.map Vx.c), .sl (skOf ws.isEmpty) 5 (E.map Lk.c), .i .i64 g.last], []) →
     ∃ q : Gr, acall S 62 [.agg g.c, .agg [.i .i64 kd, .i .i64 n, .str s, .sl kk z ll], .sl k w (l.map tagC)] = some (.agg q.c, []) ∧ q.ok :=
   fun V E h1 h2 h3 h4 h5 h6 h7 => ⟨⟨skOf us.isEmpty, 3, V, skOf ws.isEmpty, 5, E, g.last⟩, h7, ⟨.inl rfl, fun e => zcn (by rw [h3]; exact e)⟩, ⟨.inl rfl, fun e => zcn (by rw [h4]; exact e)⟩, by simp only; omega, by simp only; omega, h5, h6⟩
 simp only [grow, Gr.c] at ec e1
 by_cases h0 : 0 ≤ a
 · have d1 : decide ((0 : Int) ≤ a) = true := decide_eq_true h0
   obtain ⟨i, rfl⟩ : ∃ i : Nat, a = (i : Int) := ⟨a.toNat, by omega⟩
   have hlt : i < us.length := by omega
   obtain ⟨x, gx⟩ := zbe hlt
   have hx := huo x (List.mem_of_getElem? gx)
   have kv := List.map_set (f := Vx.c) (l := us) (i := i) (a := ⟨x.id, x.label, skOf m.isEmpty, 5, m⟩)
   have huo' : ∀ y ∈ us.set i ⟨x.id, x.label, skOf m.isEmpty, 5, m⟩, y.ok := fun y hy => by
     rcases List.mem_or_eq_of_mem_set hy with h | rfl
     · exact huo y h
     · exact ⟨hx.lab, hmo⟩
   obtain ⟨xid, xl, xpk, xpz, xps⟩ := x
   simp only [Vx.c] at kv
   by_cases h1 : 0 ≤ b
   · have d2 : decide ((0 : Int) ≤ b) = true := decide_eq_true h1
     obtain ⟨j, rfl⟩ : ∃ j : Nat, b = (j : Int) := ⟨b.toNat, by omega⟩
     have hlt2 : j < ws.length := by omega
     obtain ⟨y, gy⟩ := zbe hlt2
     have hy := hwo y (List.mem_of_getElem? gy)
     have ke := List.map_set (f := Lk.c) (l := ws) (i := j) (a := ⟨y.id, y.label, y.out, y.inn, skOf m.isEmpty, 5, m⟩)
     have hwo' : ∀ u ∈ ws.set j ⟨y.id, y.label, y.out, y.inn, skOf m.isEmpty, 5, m⟩, u.ok := fun u hu => by
       rcases List.mem_or_eq_of_mem_set hu with h | rfl
       · exact hwo u h
       · exact ⟨hy.lab, hmo⟩
     obtain ⟨yid, yl, yo, yi, ypk, ypz, yps⟩ := y
     simp only [Lk.c] at ke
     refine fin (us.set i ⟨xid, xl, skOf m.isEmpty, 5, m⟩) (ws.set j ⟨yid, yl, yo, yi, skOf m.isEmpty, 5, m⟩) List.length_set List.length_set (hemp ..) (hemp ..) huo' hwo' ?_
     rw [kv, ke]
     simp only [Gr.c]
     refine W_eq (g62 rfl ?_)
     (repeat' (first | with_reducible refine zab ?_ | simp only [go_sem, J0, reduceIte, reduceCtorEq, Ja, Jb, Jc, Jd, Je, Jf, Jg, Jh, Ji, Jj, Jk, Jl, Jm, Jn, Jo, Jp, Jq, Jr, Js, a62, s8, ec, s83, e1, s29, em, d1, d2, h0, h1, hlt, hlt2, ha, hb, gx, gy, Vx.c, Lk.c, List.length_map, List.length_set, Nat.le_refl]))
   · have d2 : decide ((0 : Int) ≤ b) = false := decide_eq_false h1
     refine fin (us.set i ⟨xid, xl, skOf m.isEmpty, 5, m⟩) ws List.length_set rfl (hemp ..) rfl huo' hwo ?_
     rw [kv]
     simp only [Gr.c]
     refine W_eq (g62 rfl ?_)
     (repeat' (first | with_reducible refine zab ?_ | simp only [go_sem, J0, reduceIte, reduceCtorEq, Ja, Jb, Jc, Jd, Je, Jf, Jg, Jh, Ji, Jj, Jk, Jl, Jm, Jn, Jo, Jp, Jq, Jr, Js, a62, s8, ec, s83, e1, s29, em, d1, d2, h0, hlt, ha, gx, Vx.c, List.length_map, List.length_set, Nat.le_refl]))
 · have d1 : decide ((0 : Int) ≤ a) = false := decide_eq_false h0
   by_cases h1 : 0 ≤ b
   · have d2 : decide ((0 : Int) ≤ b) = true := decide_eq_true h1
     obtain ⟨j, rfl⟩ : ∃ j : Nat, b = (j : Int) := ⟨b.toNat, by omega⟩
     have hlt2 : j < ws.length := by omega
     obtain ⟨y, gy⟩ := zbe hlt2
     have hy := hwo y (List.mem_of_getElem? gy)
     have ke := List.map_set (f := Lk.c) (l := ws) (i := j) (a := ⟨y.id, y.label, y.out, y.inn, skOf m.isEmpty, 5, m⟩)
     have hwo' : ∀ u ∈ ws.set j ⟨y.id, y.label, y.out, y.inn, skOf m.isEmpty, 5, m⟩, u.ok := fun u hu => by
       rcases List.mem_or_eq_of_mem_set hu with h | rfl
       · exact hwo u h
       · exact ⟨hy.lab, hmo⟩
     obtain ⟨yid, yl, yo, yi, ypk, ypz, yps⟩ := y
     simp only [Lk.c] at ke
     refine fin us (ws.set j ⟨yid, yl, yo, yi, skOf m.isEmpty, 5, m⟩) rfl List.length_set rfl (hemp ..) huo hwo' ?_
     rw [ke]
     simp only [Gr.c]
     refine W_eq (g62 rfl ?_)
     (repeat' (first | with_reducible refine zab ?_ | simp only [go_sem, J0, reduceIte, reduceCtorEq, Ja, Jb, Jc, Jd, Je, Jf, Jg, Jh, Ji, Jj, Jk, Jl, Jm, Jn, Jo, Jp, Jq, Jr, Js, a62, s8, ec, s83, e1, s29, em, d1, d2, h1, hlt2, hb, gy, Lk.c, List.length_map, List.length_set, Nat.le_refl]))
   · have d2 : decide ((0 : Int) ≤ b) = false := decide_eq_false h1
     refine fin us ws rfl rfl rfl rfl huo hwo ?_
     simp only [Gr.c]
     refine W_eq (g62 rfl ?_)
     (repeat' (first | with_reducible refine zab ?_ | simp only [go_sem, J0, reduceIte, reduceCtorEq, Ja, Jb, Jc, Jd, Je, Jf, Jg, Jh, Ji, Jj, Jk, Jl, Jm, Jn, Jo, Jp, Jq, Jr, Js, a62, s8, ec, s83, e1, d1, d2, List.length_map, Nat.le_refl]))
end
section
theorem zkz {g : Gr} (h : g.ok) : ∃ e : Int, acall S 51 [.agg g.c] = some (.i .i64 e, []) := by
 suffices hW : W (acall S 51 [.agg g.c]) (fun r => ∃ e : Int, r = (.i .i64 e, [])) by
   obtain ⟨r, h1, e, rfl⟩ := hW
   exact ⟨e, h1⟩
 have hg := h
 have hv1 := h.v.1
 have he1 := h.e.1
 have hvl := h.vl
 have hel := h.el
 have hva := h.va
 have hea := h.ea
 have hV := fun id => r_V hg id
 obtain ⟨vk, vz, vs, ek, ez, es, last⟩ := g
 simp only at hv1 hvl he1 hel hva hea
 unfold Gr.c at hV ⊢
 simp only at hV ⊢
 refine g51 rfl ?_
 cases d1 : decide (last < 0) with
 | true => (repeat' (first | with_reducible refine zab ?_ | simp only [go_sem, J0, reduceIte, reduceCtorEq, Ja, Jb, Jc, Jd, Je, Jf, Jg, Jh, Ji, Jj, Jk, Jl, Jm, Jn, Jo, Jp, Jq, Jr, Js, a51, List.length_map, d1])); exact ⟨_, rfl⟩
 | false =>
 cases d2 : decide ((281474976710656 : Int) < last) with
 | true => (repeat' (first | with_reducible refine zab ?_ | simp only [go_sem, J0, reduceIte, reduceCtorEq, Ja, Jb, Jc, Jd, Je, Jf, Jg, Jh, Ji, Jj, Jk, Jl, Jm, Jn, Jo, Jp, Jq, Jr, Js, a51, List.length_map, d1, d2])); exact ⟨_, rfl⟩
 | false =>
 cases d3 : decide ((2048 : Int) < (vs.length : Int)) with
 | true => (repeat' (first | with_reducible refine zab ?_ | simp only [go_sem, J0, reduceIte, reduceCtorEq, Ja, Jb, Jc, Jd, Je, Jf, Jg, Jh, Ji, Jj, Jk, Jl, Jm, Jn, Jo, Jp, Jq, Jr, Js, a51, List.length_map, d1, d2, d3])); exact ⟨_, rfl⟩
 | false =>
 cases d4 : decide ((2048 : Int) < (es.length : Int)) with
 | true => (repeat' (first | with_reducible refine zab ?_ | simp only [go_sem, J0, reduceIte, reduceCtorEq, Ja, Jb, Jc, Jd, Je, Jf, Jg, Jh, Ji, Jj, Jk, Jl, Jm, Jn, Jo, Jp, Jq, Jr, Js, a51, List.length_map, d1, d2, d3, d4])); exact ⟨_, rfl⟩
 | false =>
 (repeat' (first | with_reducible refine zab ?_ | simp only [go_sem, J0, reduceIte, reduceCtorEq, Ja, Jb, Jc, Jd, Je, Jf, Jg, Jh, Ji, Jj, Jk, Jl, Jm, Jn, Jo, Jp, Jq, Jr, Js, a51, List.length_map, d1, d2, d3, d4]))
 refine zag (ι := Nat) (fun i => [.bx [.sl vk vz (vs.map Vx.c), .sl ek ez (es.map Lk.c), .i .i64 last], .i .i64 i]) (fun i => i ≤ vs.length) (fun i => vs.length - i) 0 rfl (Nat.zero_le _) ?_
 intro i hi
 by_cases hlt : i < vs.length
 · obtain ⟨x, gx⟩ := zbe hlt
   have hx := hva x (List.mem_of_getElem? gx)
   have hw := wrap_succ (k := i) (by omega)
   have hbt : decide ((i : Int) < (vs.length : Int)) = true := decide_eq_true (by omega)
   have b1 : (0 : Int) ≤ (i : Int) := by omega
   have hLL : x.label.length ≤ LIM := by have := hx.lab; simp [LIM]; omega
   have en := e52 x.label hLL
   obtain ⟨bp, ep⟩ := z58 hx.ps
   obtain ⟨xid, xl, xpk, xpz, xps⟩ := x
   simp only at en ep
   generalize zox xl = cn at en
   by_cases hi0 : i = 0
   · have g0 : decide ((0 : Int) < (i : Int)) = false := decide_eq_false (by omega)
     (simp only [go_sem, J0, reduceIte, reduceCtorEq, Ja, Jb, Jc, Jd, Je, Jf, Jg, Jh, Ji, Jj, Jk, Jl, Jm, Jn, Jo, Jp, Jq, Jr, Js, hbt, hv1, b1, gx, Vx.c, s52, en, s77, ep, hw, g0, List.length_map]; repeat' (first | (first | refine zbc (fun hh => ?_) (fun hh => ?_) | refine zbp (fun hh => ?_) (fun hh => ?_) | refine zbs (fun hh => ?_) (fun hh => ?_) | refine zco (fun hh => ?_) (fun hh => ?_) | refine za9 (fun hh => ?_) (fun hh => ?_) | refine zbr (fun hh => ?_) (fun hh => ?_) | refine zbt (fun hh => ?_) (fun hh => ?_) | refine zbb (fun hh => ?_) (fun hh => ?_) | refine za7 (fun hh => ?_) (fun hh => ?_) | refine za1 (fun hh => ?_) (fun hh => ?_)) <;> (try simp only [go_sem, J0, reduceIte, reduceCtorEq, Ja, Jb, Jc, Jd, Je, Jf, Jg, Jh, Ji, Jj, Jk, Jl, Jm, Jn, Jo, Jp, Jq, Jr, Js, hbt, hv1, b1, gx, Vx.c, s52, en, s77, ep, hw, g0, List.length_map, hh]) | (first | refine zbd (by omega) ?_ | refine za0 (by omega) ?_ | refine zaq (by omega) ?_ | refine zao (by omega) ?_ | refine zbo (by omega) ?_ | refine zba (by omega) ?_ | refine za8 (by omega) ?_ | refine zaz (by omega) ?_ | refine zbq (by omega) ?_ | refine zab ?_ | refine zan ?_ | refine zap ?_ | refine zak ?_) <;> (try simp only [go_sem, J0, reduceIte, reduceCtorEq, Ja, Jb, Jc, Jd, Je, Jf, Jg, Jh, Ji, Jj, Jk, Jl, Jm, Jn, Jo, Jp, Jq, Jr, Js, hbt, hv1, b1, gx, Vx.c, s52, en, s77, ep, hw, g0, List.length_map]) | (show @Eq Nat _ _; omega) | (show @LE.le Nat _ _ _; omega)))
     all_goals first | exact ⟨_, rfl⟩ | exact ⟨i + 1, rfl, by omega, by omega⟩
   · have g0 : decide ((0 : Int) < (i : Int)) = true := decide_eq_true (by omega)
     obtain ⟨j, rfl⟩ : ∃ j, i = j + 1 := ⟨i - 1, by omega⟩
     obtain ⟨y, gy⟩ := zbe (show j < vs.length by omega)
     have hws : IntKind.i64.wrap (((j + 1 : Nat) : Int) - 1) = (j : Int) := by rw [wrap_i64 (by omega) (by omega)]; omega
     have b2 : (0 : Int) ≤ (j : Int) := by omega
     obtain ⟨yid, yl, ypk, ypz, yps⟩ := y
     (simp only [go_sem, J0, reduceIte, reduceCtorEq, Ja, Jb, Jc, Jd, Je, Jf, Jg, Jh, Ji, Jj, Jk, Jl, Jm, Jn, Jo, Jp, Jq, Jr, Js, hbt, hv1, b1, gx, gy, hws, b2, Vx.c, s52, en, s77, ep, hw, g0, List.length_map]; repeat' (first | (first | refine zbc (fun hh => ?_) (fun hh => ?_) | refine zbp (fun hh => ?_) (fun hh => ?_) | refine zbs (fun hh => ?_) (fun hh => ?_) | refine zco (fun hh => ?_) (fun hh => ?_) | refine za9 (fun hh => ?_) (fun hh => ?_) | refine zbr (fun hh => ?_) (fun hh => ?_) | refine zbt (fun hh => ?_) (fun hh => ?_) | refine zbb (fun hh => ?_) (fun hh => ?_) | refine za7 (fun hh => ?_) (fun hh => ?_) | refine za1 (fun hh => ?_) (fun hh => ?_)) <;> (try simp only [go_sem, J0, reduceIte, reduceCtorEq, Ja, Jb, Jc, Jd, Je, Jf, Jg, Jh, Ji, Jj, Jk, Jl, Jm, Jn, Jo, Jp, Jq, Jr, Js, hbt, hv1, b1, gx, gy, hws, b2, Vx.c, s52, en, s77, ep, hw, g0, List.length_map, hh]) | (first | refine zbd (by omega) ?_ | refine za0 (by omega) ?_ | refine zaq (by omega) ?_ | refine zao (by omega) ?_ | refine zbo (by omega) ?_ | refine zba (by omega) ?_ | refine za8 (by omega) ?_ | refine zaz (by omega) ?_ | refine zbq (by omega) ?_ | refine zab ?_ | refine zan ?_ | refine zap ?_ | refine zak ?_) <;> (try simp only [go_sem, J0, reduceIte, reduceCtorEq, Ja, Jb, Jc, Jd, Je, Jf, Jg, Jh, Ji, Jj, Jk, Jl, Jm, Jn, Jo, Jp, Jq, Jr, Js, hbt, hv1, b1, gx, gy, hws, b2, Vx.c, s52, en, s77, ep, hw, g0, List.length_map]) | (show @Eq Nat _ _; omega) | (show @LE.le Nat _ _ _; omega)))
     all_goals first | exact ⟨_, rfl⟩ | exact ⟨j + 1 + 1, rfl, by omega, by omega⟩
 have hbf : decide ((i : Int) < (vs.length : Int)) = false := decide_eq_false (by omega)
 (repeat' (first | with_reducible refine zab ?_ | simp only [go_sem, J0, reduceIte, reduceCtorEq, Ja, Jb, Jc, Jd, Je, Jf, Jg, Jh, Ji, Jj, Jk, Jl, Jm, Jn, Jo, Jp, Jq, Jr, Js, hbf, List.length_map]))
 refine zag (ι := Nat) (fun i => [.bx [.sl vk vz (vs.map Vx.c), .sl ek ez (es.map Lk.c), .i .i64 last], .i .i64 i]) (fun i => i ≤ es.length) (fun i => es.length - i) 0 rfl (Nat.zero_le _) ?_
 intro i hi
 by_cases hlt : i < es.length
 · obtain ⟨x, gx⟩ := zbe hlt
   have hx := hea x (List.mem_of_getElem? gx)
   have hw := wrap_succ (k := i) (by omega)
   have hbt : decide ((i : Int) < (es.length : Int)) = true := decide_eq_true (by omega)
   have b1 : (0 : Int) ≤ (i : Int) := by omega
   have hLL : x.label.length ≤ LIM := by have := hx.lab; simp [LIM]; omega
   have en := e52 x.label hLL
   obtain ⟨bp, ep⟩ := z58 hx.ps
   obtain ⟨x1, c1, k1⟩ := hV x.id
   obtain ⟨x2, c2, k2⟩ := hV x.out
   obtain ⟨x3, c3, k3⟩ := hV x.inn
   obtain ⟨xid, xl, xo, xi, xpk, xpz, xps⟩ := x
   obtain ⟨uid, ul, upk, upz, ups⟩ := x1
   obtain ⟨wid, wl, wpk, wpz, wps⟩ := x2
   obtain ⟨tid, tl, tpk, tpz, tps⟩ := x3
   simp only [Vx.c] at en ep k1 k2 k3
   generalize zox xl = cn at en
   by_cases hi0 : i = 0
   · have g0 : decide ((0 : Int) < (i : Int)) = false := decide_eq_false (by omega)
     (simp only [go_sem, J0, reduceIte, reduceCtorEq, Ja, Jb, Jc, Jd, Je, Jf, Jg, Jh, Ji, Jj, Jk, Jl, Jm, Jn, Jo, Jp, Jq, Jr, Js, hbt, hv1, he1, b1, gx, Lk.c, s52, en, s77, ep, s53, k1, k2, k3, hw, g0, List.length_map]; repeat' (first | (first | refine zbc (fun hh => ?_) (fun hh => ?_) | refine zbp (fun hh => ?_) (fun hh => ?_) | refine zbs (fun hh => ?_) (fun hh => ?_) | refine zco (fun hh => ?_) (fun hh => ?_) | refine za9 (fun hh => ?_) (fun hh => ?_) | refine zbr (fun hh => ?_) (fun hh => ?_) | refine zbt (fun hh => ?_) (fun hh => ?_) | refine zbb (fun hh => ?_) (fun hh => ?_) | refine za7 (fun hh => ?_) (fun hh => ?_) | refine za1 (fun hh => ?_) (fun hh => ?_)) <;> (try simp only [go_sem, J0, reduceIte, reduceCtorEq, Ja, Jb, Jc, Jd, Je, Jf, Jg, Jh, Ji, Jj, Jk, Jl, Jm, Jn, Jo, Jp, Jq, Jr, Js, hbt, hv1, he1, b1, gx, Lk.c, s52, en, s77, ep, s53, k1, k2, k3, hw, g0, List.length_map, hh]) | (first | refine zbd (by omega) ?_ | refine za0 (by omega) ?_ | refine zaq (by omega) ?_ | refine zao (by omega) ?_ | refine zbo (by omega) ?_ | refine zba (by omega) ?_ | refine za8 (by omega) ?_ | refine zaz (by omega) ?_ | refine zbq (by omega) ?_ | refine zab ?_ | refine zan ?_ | refine zap ?_ | refine zak ?_) <;> (try simp only [go_sem, J0, reduceIte, reduceCtorEq, Ja, Jb, Jc, Jd, Je, Jf, Jg, Jh, Ji, Jj, Jk, Jl, Jm, Jn, Jo, Jp, Jq, Jr, Js, hbt, hv1, he1, b1, gx, Lk.c, s52, en, s77, ep, s53, k1, k2, k3, hw, g0, List.length_map]) | (show @Eq Nat _ _; omega) | (show @LE.le Nat _ _ _; omega)))
     all_goals first | exact ⟨_, rfl⟩ | exact ⟨i + 1, rfl, by omega, by omega⟩
   · have g0 : decide ((0 : Int) < (i : Int)) = true := decide_eq_true (by omega)
     obtain ⟨j, rfl⟩ : ∃ j, i = j + 1 := ⟨i - 1, by omega⟩
     obtain ⟨y, gy⟩ := zbe (show j < es.length by omega)
     have hws : IntKind.i64.wrap (((j + 1 : Nat) : Int) - 1) = (j : Int) := by rw [wrap_i64 (by omega) (by omega)]; omega
     have b2 : (0 : Int) ≤ (j : Int) := by omega
     obtain ⟨yid, yl, yo, yi, ypk, ypz, yps⟩ := y
     (simp only [go_sem, J0, reduceIte, reduceCtorEq, Ja, Jb, Jc, Jd, Je, Jf, Jg, Jh, Ji, Jj, Jk, Jl, Jm, Jn, Jo, Jp, Jq, Jr, Js, hbt, hv1, he1, b1, gx, gy, hws, b2, Lk.c, s52, en, s77, ep, s53, k1, k2, k3, hw, g0, List.length_map]; repeat' (first | (first | refine zbc (fun hh => ?_) (fun hh => ?_) | refine zbp (fun hh => ?_) (fun hh => ?_) | refine zbs (fun hh => ?_) (fun hh => ?_) | refine zco (fun hh => ?_) (fun hh => ?_) | refine za9 (fun hh => ?_) (fun hh => ?_) | refine zbr (fun hh => ?_) (fun hh => ?_) | refine zbt (fun hh => ?_) (fun hh => ?_) | refine zbb (fun hh => ?_) (fun hh => ?_) | refine za7 (fun hh => ?_) (fun hh => ?_) | refine za1 (fun hh => ?_) (fun hh => ?_)) <;> (try simp only [go_sem, J0, reduceIte, reduceCtorEq, Ja, Jb, Jc, Jd, Je, Jf, Jg, Jh, Ji, Jj, Jk, Jl, Jm, Jn, Jo, Jp, Jq, Jr, Js, hbt, hv1, he1, b1, gx, gy, hws, b2, Lk.c, s52, en, s77, ep, s53, k1, k2, k3, hw, g0, List.length_map, hh]) | (first | refine zbd (by omega) ?_ | refine za0 (by omega) ?_ | refine zaq (by omega) ?_ | refine zao (by omega) ?_ | refine zbo (by omega) ?_ | refine zba (by omega) ?_ | refine za8 (by omega) ?_ | refine zaz (by omega) ?_ | refine zbq (by omega) ?_ | refine zab ?_ | refine zan ?_ | refine zap ?_ | refine zak ?_) <;> (try simp only [go_sem, J0, reduceIte, reduceCtorEq, Ja, Jb, Jc, Jd, Je, Jf, Jg, Jh, Ji, Jj, Jk, Jl, Jm, Jn, Jo, Jp, Jq, Jr, Js, hbt, hv1, he1, b1, gx, gy, hws, b2, Lk.c, s52, en, s77, ep, s53, k1, k2, k3, hw, g0, List.length_map]) | (show @Eq Nat _ _; omega) | (show @LE.le Nat _ _ _; omega)))
     all_goals first | exact ⟨_, rfl⟩ | exact ⟨j + 1 + 1, rfl, by omega, by omega⟩
 have hbf : decide ((i : Int) < (es.length : Int)) = false := decide_eq_false (by omega)
 (repeat' (first | with_reducible refine zab ?_ | simp only [go_sem, J0, reduceIte, reduceCtorEq, Ja, Jb, Jc, Jd, Je, Jf, Jg, Jh, Ji, Jj, Jk, Jl, Jm, Jn, Jo, Jp, Jq, Jr, Js, hbf, List.length_map]))
 exact ⟨_, rfl⟩
end
section
def rg (us : List Vx) (ws : List Lk) (last : Int) : Gr := ⟨skOf us.isEmpty, 3, us, skOf ws.isEmpty, 5, ws, last⟩
theorem zni {g : Gr} (h : g.ok) : ∃ (us : List Vx) (ws : List Lk), acall S 8 [.agg g.c] = some (grow us.isEmpty ws.isEmpty us ws g.last, []) ∧ (rg us ws g.last).ok ∧ us.length ≤ 137438953472 ∧ ws.length ≤ 137438953472 := by
 obtain ⟨us, ws, ec, hup, hwp, huo, hwo⟩ := zva h
 have hul : us.length = g.vs.length := by have := congrArg List.length hup; simpa using this
 have hwl : ws.length = g.es.length := by have := congrArg List.length hwp; simpa using this
 have hvl := h.vl
 have hel := h.el
 exact ⟨us, ws, ec, ⟨⟨.inl rfl, zcn⟩, ⟨.inl rfl, zcn⟩, by simp only [rg]; omega, by simp only [rg]; omega, huo, hwo⟩, by omega, by omega⟩
theorem psnil' : PsOk .nil 0 [] := ⟨⟨.inr rfl, fun _ => rfl⟩, by decide, by simp⟩
theorem z3m {g : Gr} (h : g.ok) {label : List UInt8} (hn : label.length ≤ 137438953472) :
   ∃ (q : Gr) (n e : Int), acall S 20 [.agg g.c, .str label] = some (.tup [.agg q.c, .i .i64 n, .i .i64 e], []) ∧ q.ok := by
 obtain ⟨us, ws, ec, hco, hul, hwl⟩ := zni h
 obtain ⟨e, ek⟩ := zkz hco
 have en := e52 label (Nat.le_trans hn (by decide))
 generalize zox label = cn at en
 have hL : LIM = 274877906944 := rfl
 simp only [grow, Gr.c] at ec
 have ek' := ek
 simp only [rg, Gr.c] at ek
 cases d0 : decide (¬ e = 0) with
 | true =>
   refine ⟨rg us ws g.last, 0, e, ?_, hco⟩
   simp only [rg, Gr.c]
   refine W_eq (g20 rfl ?_)
   (repeat' (first | with_reducible refine zab ?_ | simp only [go_sem, J0, reduceIte, reduceCtorEq, Ja, Jb, Jc, Jd, Je, Jf, Jg, Jh, Ji, Jj, Jk, Jl, Jm, Jn, Jo, Jp, Jq, Jr, Js, a20, s8, ec, s51, ek, d0, List.length_map, Nat.le_refl]))
 | false =>
 obtain rfl : e = 0 := by simpa using d0
 cases cn with
 | false =>
   refine ⟨rg us ws g.last, 0, 100, ?_, hco⟩
   simp only [rg, Gr.c]
   refine W_eq (g20 rfl ?_)
   (repeat' (first | with_reducible refine zab ?_ | simp only [go_sem, J0, reduceIte, reduceCtorEq, Ja, Jb, Jc, Jd, Je, Jf, Jg, Jh, Ji, Jj, Jk, Jl, Jm, Jn, Jo, Jp, Jq, Jr, Js, a20, s8, ec, s51, ek, s52, en, List.length_map, Nat.le_refl]))
 | true =>
 cases d1 : decide ((2048 : Int) ≤ (us.length : Int)) with
 | true =>
   refine ⟨rg us ws g.last, 0, 6, ?_, hco⟩
   simp only [rg, Gr.c]
   refine W_eq (g20 rfl ?_)
   (repeat' (first | with_reducible refine zab ?_ | simp only [go_sem, J0, reduceIte, reduceCtorEq, Ja, Jb, Jc, Jd, Je, Jf, Jg, Jh, Ji, Jj, Jk, Jl, Jm, Jn, Jo, Jp, Jq, Jr, Js, a20, s8, ec, s51, ek, s52, en, d1, List.length_map, Nat.le_refl]))
 | false =>
 cases d2 : decide (g.last = 281474976710656) with
 | true =>
   refine ⟨rg us ws g.last, 0, 6, ?_, hco⟩
   simp only [rg, Gr.c]
   refine W_eq (g20 rfl ?_)
   (repeat' (first | with_reducible refine zab ?_ | simp only [go_sem, J0, reduceIte, reduceCtorEq, Ja, Jb, Jc, Jd, Je, Jf, Jg, Jh, Ji, Jj, Jk, Jl, Jm, Jn, Jo, Jp, Jq, Jr, Js, a20, s8, ec, s51, ek, s52, en, d1, d2, List.length_map, Nat.le_refl]))
 | false =>
   have d1' := of_decide_eq_false d1
   have glim : us.length + 1 ≤ LIM := by omega
   obtain ⟨h1, h2, h3, h4, h5, h6⟩ := hco
   refine ⟨⟨.open_, 3, us ++ [⟨IntKind.i64.wrap (g.last + 1), label, .nil, 0, []⟩], skOf ws.isEmpty, 5, ws, IntKind.i64.wrap (g.last + 1)⟩, IntKind.i64.wrap (g.last + 1), 0, ?_, OkS.open_ 3 _, h2, ?_, h4, ?_, h6⟩
   · simp only [Gr.c, List.map_append, List.map_cons, List.map_nil, Vx.c]
     refine W_eq (g20 rfl ?_)
     (repeat' (first | with_reducible refine zab ?_ | simp only [go_sem, J0, reduceIte, reduceCtorEq, Ja, Jb, Jc, Jd, Je, Jf, Jg, Jh, Ji, Jj, Jk, Jl, Jm, Jn, Jo, Jp, Jq, Jr, Js, a20, s8, ec, s51, ek, s52, en, d1, d2, glim, List.length_map, Nat.le_refl]))
   · simp only [List.length_append, List.length_cons, List.length_nil]; omega
   · intro x hx
     rcases List.mem_append.1 hx with hx | hx
     · exact h5 x hx
     · simp only [List.mem_singleton] at hx
       subst hx
       exact ⟨hn, psnil'⟩
theorem z6l {g : Gr} (h : g.ok) {label : List UInt8} (hn : label.length ≤ 137438953472) (o i : Int) :
   ∃ (q : Gr) (n e : Int), acall S 21 [.agg g.c, .str label, .i .i64 o, .i .i64 i] = some (.tup [.agg q.c, .i .i64 n, .i .i64 e], []) ∧ q.ok := by
 obtain ⟨us, ws, ec, hco, hul, hwl⟩ := zni h
 obtain ⟨e, ek⟩ := zkz hco
 obtain ⟨x1, c1, k1⟩ := r_V hco o
 obtain ⟨x2, c2, k2⟩ := r_V hco i
 have en := e52 label (Nat.le_trans hn (by decide))
 generalize zox label = cn at en
 have hL : LIM = 274877906944 := rfl
 simp only [grow, Gr.c] at ec
 obtain ⟨uid, ul, upk, upz, ups⟩ := x1
 obtain ⟨wid, wl, wpk, wpz, wps⟩ := x2
 simp only [rg, Gr.c, Vx.c] at ek k1 k2
 cases d0 : decide (¬ e = 0) with
 | true =>
   refine ⟨rg us ws g.last, 0, e, ?_, hco⟩
   simp only [rg, Gr.c]
   refine W_eq (g21 rfl ?_)
   (repeat' (first | with_reducible refine zab ?_ | simp only [go_sem, J0, reduceIte, reduceCtorEq, Ja, Jb, Jc, Jd, Je, Jf, Jg, Jh, Ji, Jj, Jk, Jl, Jm, Jn, Jo, Jp, Jq, Jr, Js, a21, s8, ec, s51, ek, d0, List.length_map, Nat.le_refl]))
 | false =>
 obtain rfl : e = 0 := by simpa using d0
 cases cn with
 | false =>
   refine ⟨rg us ws g.last, 0, 100, ?_, hco⟩
   simp only [rg, Gr.c]
   refine W_eq (g21 rfl ?_)
   (repeat' (first | with_reducible refine zab ?_ | simp only [go_sem, J0, reduceIte, reduceCtorEq, Ja, Jb, Jc, Jd, Je, Jf, Jg, Jh, Ji, Jj, Jk, Jl, Jm, Jn, Jo, Jp, Jq, Jr, Js, a21, s8, ec, s51, ek, s52, en, List.length_map, Nat.le_refl]))
 | true =>
 cases c1 with
 | false =>
   refine ⟨rg us ws g.last, 0, 101, ?_, hco⟩
   simp only [rg, Gr.c]
   refine W_eq (g21 rfl ?_)
   (repeat' (first | with_reducible refine zab ?_ | simp only [go_sem, J0, reduceIte, reduceCtorEq, Ja, Jb, Jc, Jd, Je, Jf, Jg, Jh, Ji, Jj, Jk, Jl, Jm, Jn, Jo, Jp, Jq, Jr, Js, a21, s8, ec, s51, ek, s52, en, s53, k1, k2, List.length_map, Nat.le_refl]))
 | true =>
 cases c2 with
 | false =>
   refine ⟨rg us ws g.last, 0, 101, ?_, hco⟩
   simp only [rg, Gr.c]
   refine W_eq (g21 rfl ?_)
   (repeat' (first | with_reducible refine zab ?_ | simp only [go_sem, J0, reduceIte, reduceCtorEq, Ja, Jb, Jc, Jd, Je, Jf, Jg, Jh, Ji, Jj, Jk, Jl, Jm, Jn, Jo, Jp, Jq, Jr, Js, a21, s8, ec, s51, ek, s52, en, s53, k1, k2, List.length_map, Nat.le_refl]))
 | true =>
 cases d1 : decide ((2048 : Int) ≤ (ws.length : Int)) with
 | true =>
   refine ⟨rg us ws g.last, 0, 6, ?_, hco⟩
   simp only [rg, Gr.c]
   refine W_eq (g21 rfl ?_)
   (repeat' (first | with_reducible refine zab ?_ | simp only [go_sem, J0, reduceIte, reduceCtorEq, Ja, Jb, Jc, Jd, Je, Jf, Jg, Jh, Ji, Jj, Jk, Jl, Jm, Jn, Jo, Jp, Jq, Jr, Js, a21, s8, ec, s51, ek, s52, en, s53, k1, k2, d1, List.length_map, Nat.le_refl]))
 | false =>
 cases d2 : decide (g.last = 281474976710656) with
 | true =>
   refine ⟨rg us ws g.last, 0, 6, ?_, hco⟩
   simp only [rg, Gr.c]
   refine W_eq (g21 rfl ?_)
   (repeat' (first | with_reducible refine zab ?_ | simp only [go_sem, J0, reduceIte, reduceCtorEq, Ja, Jb, Jc, Jd, Je, Jf, Jg, Jh, Ji, Jj, Jk, Jl, Jm, Jn, Jo, Jp, Jq, Jr, Js, a21, s8, ec, s51, ek, s52, en, s53, k1, k2, d1, d2, List.length_map, Nat.le_refl]))
 | false =>
   have d1' := of_decide_eq_false d1
   have glim : ws.length + 1 ≤ LIM := by omega
   obtain ⟨h1, h2, h3, h4, h5, h6⟩ := hco
   refine ⟨⟨skOf us.isEmpty, 3, us, .open_, 5, ws ++ [⟨IntKind.i64.wrap (g.last + 1), label, o, i, .nil, 0, []⟩], IntKind.i64.wrap (g.last + 1)⟩, IntKind.i64.wrap (g.last + 1), 0, ?_, h1, OkS.open_ 5 _, h3, ?_, h5, ?_⟩
   · simp only [Gr.c, List.map_append, List.map_cons, List.map_nil, Lk.c]
     refine W_eq (g21 rfl ?_)
     (repeat' (first | with_reducible refine zab ?_ | simp only [go_sem, J0, reduceIte, reduceCtorEq, Ja, Jb, Jc, Jd, Je, Jf, Jg, Jh, Ji, Jj, Jk, Jl, Jm, Jn, Jo, Jp, Jq, Jr, Js, a21, s8, ec, s51, ek, s52, en, s53, k1, k2, d1, d2, glim, List.length_map, Nat.le_refl]))
   · simp only [List.length_append, List.length_cons, List.length_nil]; omega
   · intro x hx
     rcases List.mem_append.1 hx with hx | hx
     · exact h6 x hx
     · simp only [List.mem_singleton] at hx
       subst hx
       exact ⟨hn, psnil'⟩
end
section
theorem zxo {g : Gr} (h : g.ok) : ∃ (vs : List Vx) (es : List Lk), acall S 1000008 [.agg g.c] = some (.agg [.sl (skOf vs.isEmpty) 3 (vs.map Vx.c), .sl (skOf es.isEmpty) 5 (es.map Lk.c), .i .i64 g.last], []) ∧ vs.map Vx.p = g.vs.map Vx.p ∧ es.map Lk.p = g.es.map Lk.p ∧ (∀ x ∈ vs, x.ok) ∧ ∀ x ∈ es, x.ok := by
 have hL : LIM = 274877906944 := rfl
 suffices hW : W (acall S 1000008 [.agg g.c]) (fun x => ∃ (vs : List Vx) (es : List Lk), x = (.agg [.sl (skOf vs.isEmpty) 3 (vs.map Vx.c), .sl (skOf es.isEmpty) 5 (es.map Lk.c), .i .i64 g.last], []) ∧ vs.map Vx.p = g.vs.map Vx.p ∧ es.map Lk.p = g.es.map Lk.p ∧ (∀ x ∈ vs, x.ok) ∧ ∀ x ∈ es, x.ok) by
   obtain ⟨x, h1, vs, es, rfl, h2⟩ := hW
   exact ⟨vs, es, h1, h2⟩
 have hv1 := h.v.1
 have he1 := h.e.1
 have hvl := h.vl
 have hel := h.el
 have hva := h.va
 have hea := h.ea
 obtain ⟨vk, vz, vs, ek, ez, es, last⟩ := g
 simp only at hv1 he1 hvl hel hva hea ⊢
 refine g1000008 rfl ?_
 (repeat' (first | with_reducible refine zab ?_ | simp only [go_sem, J0, reduceIte, reduceCtorEq, Ja, Jb, Jc, Jd, Je, Jf, Jg, Jh, Ji, Jj, Jk, Jl, Jm, Jn, Jo, Jp, Jq, Jr, Js, a1000008, Gr.c]))
 refine zag (ι := List Vx) (fun us => [.bx [.sl vk vz (vs.map Vx.c), .sl ek ez (es.map Lk.c), .i .i64 last], .bx [.sl .nil 0 [], .sl .nil 0 [], .i .i64 0], .bx [.ow 43 3 us.isEmpty (us.map Vx.c), .sl .nil 0 [], .i .i64 last], .i .i64 us.length])
   (fun us => us.length ≤ vs.length ∧ us.map Vx.p = (vs.take us.length).map Vx.p ∧ ∀ x ∈ us, x.ok) (fun us => vs.length - us.length) [] rfl ⟨by simp, rfl, by simp⟩ ?_
 rintro us ⟨k1, k2, k3⟩
 by_cases hlt : us.length < vs.length
 · obtain ⟨c, gc⟩ := zbe hlt
   have hw := wrap_succ (k := us.length) (by omega)
   have hbt : decide ((us.length : Int) < (vs.length : Int)) = true := decide_eq_true (by omega)
   have glim : us.length + 1 ≤ LIM := by omega
   have b1 : (0 : Int) ≤ (us.length : Int) := by omega
   have hc := hva c (List.mem_of_getElem? gc)
   obtain ⟨m, em, hmp, hmo⟩ := zk5 hc.ps
   have hnext : (us ++ [(⟨c.id, c.label, skOf m.isEmpty, 5, m⟩ : Vx)]).map Vx.p = (vs.take (us.length + 1)).map Vx.p := by
     rw [zdu gc, List.map_append, List.map_append, k2]; simp [Vx.p, hmp]
   obtain ⟨cid, cl, cpk, cpz, cps⟩ := c
   simp only at em
   (repeat' (first | with_reducible refine zab ?_ | simp only [go_sem, J0, reduceIte, reduceCtorEq, Ja, Jb, Jc, Jd, Je, Jf, Jg, Jh, Ji, Jj, Jk, Jl, Jm, Jn, Jo, Jp, Jq, Jr, Js, hbt, hv1, b1, gc, Vx.c, s29, em, hw, glim, List.length_map]))
   refine ⟨us ++ [⟨cid, cl, skOf m.isEmpty, 5, m⟩], ?_, ⟨by simp; omega, by simpa using hnext, ?_⟩, by simp; omega⟩
   · simp [Vx.c]
   · intro x hx
     rcases List.mem_append.1 hx with h | h
     · exact k3 x h
     · simp only [List.mem_singleton] at h; rw [h]; exact ⟨hc.lab, hmo⟩
 have hbf : decide ((us.length : Int) < (vs.length : Int)) = false := decide_eq_false (by omega)
 have hpp : us.map Vx.p = vs.map Vx.p := by rw [k2, List.take_of_length_le (by omega)]
 (repeat' (first | with_reducible refine zab ?_ | simp only [go_sem, J0, reduceIte, reduceCtorEq, Ja, Jb, Jc, Jd, Je, Jf, Jg, Jh, Ji, Jj, Jk, Jl, Jm, Jn, Jo, Jp, Jq, Jr, Js, hbf, List.length_map]))
 refine zag (ι := List Lk) (fun ws => [.bx [.sl vk vz (vs.map Vx.c), .sl ek ez (es.map Lk.c), .i .i64 last], .bx [.sl .nil 0 [], .sl .nil 0 [], .i .i64 0], .bx [.ow 43 3 us.isEmpty (us.map Vx.c), .ow 47 5 ws.isEmpty (ws.map Lk.c), .i .i64 last], .i .i64 ws.length])
   (fun ws => ws.length ≤ es.length ∧ ws.map Lk.p = (es.take ws.length).map Lk.p ∧ ∀ x ∈ ws, x.ok) (fun ws => es.length - ws.length) [] rfl ⟨by simp, rfl, by simp⟩ ?_
 rintro ws ⟨j1, j2, j3⟩
 by_cases hlt : ws.length < es.length
 · obtain ⟨c, gc⟩ := zbe hlt
   have hw := wrap_succ (k := ws.length) (by omega)
   have hbt : decide ((ws.length : Int) < (es.length : Int)) = true := decide_eq_true (by omega)
   have glim : ws.length + 1 ≤ LIM := by omega
   have b1 : (0 : Int) ≤ (ws.length : Int) := by omega
   have hc := hea c (List.mem_of_getElem? gc)
   obtain ⟨m, em, hmp, hmo⟩ := zk5 hc.ps
   have hnext : (ws ++ [(⟨c.id, c.label, c.out, c.inn, skOf m.isEmpty, 5, m⟩ : Lk)]).map Lk.p = (es.take (ws.length + 1)).map Lk.p := by
     rw [zdu gc, List.map_append, List.map_append, j2]; simp [Lk.p, hmp]
   obtain ⟨cid, cl, co, ci, cpk, cpz, cps⟩ := c
   simp only at em
   (repeat' (first | with_reducible refine zab ?_ | simp only [go_sem, J0, reduceIte, reduceCtorEq, Ja, Jb, Jc, Jd, Je, Jf, Jg, Jh, Ji, Jj, Jk, Jl, Jm, Jn, Jo, Jp, Jq, Jr, Js, hbt, he1, b1, gc, Lk.c, s29, em, hw, glim, List.length_map]))
   refine ⟨ws ++ [⟨cid, cl, co, ci, skOf m.isEmpty, 5, m⟩], ?_, ⟨by simp; omega, by simpa using hnext, ?_⟩, by simp; omega⟩
   · simp [Lk.c]
   · intro x hx
     rcases List.mem_append.1 hx with h | h
     · exact j3 x h
     · simp only [List.mem_singleton] at h; rw [h]; exact ⟨hc.lab, hmo⟩
 have hbf : decide ((ws.length : Int) < (es.length : Int)) = false := decide_eq_false (by omega)
 have hpe : ws.map Lk.p = es.map Lk.p := by rw [j2, List.take_of_length_le (by omega)]
 (repeat' (first | with_reducible refine zab ?_ | simp only [go_sem, J0, reduceIte, reduceCtorEq, Ja, Jb, Jc, Jd, Je, Jf, Jg, Jh, Ji, Jj, Jk, Jl, Jm, Jn, Jo, Jp, Jq, Jr, Js, hbf, List.length_map]))
 exact ⟨us, ws, rfl, hpp, hpe, k3, j3⟩
end
section
theorem zq5 {g : Gr} (h : g.ok) : ∃ (us : List Vx) (ws : List Lk), acall S 1000008 [.agg g.c] = some (.agg (rg us ws g.last).c, []) ∧ (rg us ws g.last).ok := by
 obtain ⟨us, ws, ec, hup, hwp, huo, hwo⟩ := zxo h
 have hul : us.length = g.vs.length := by have := congrArg List.length hup; simpa using this
 have hwl : ws.length = g.es.length := by have := congrArg List.length hwp; simpa using this
 have hvl := h.vl
 have hel := h.el
 exact ⟨us, ws, ec, ⟨⟨.inl rfl, zcn⟩, ⟨.inl rfl, zcn⟩, by simp only [rg]; omega, by simp only [rg]; omega, huo, hwo⟩⟩
theorem zpk {L : List Pp} (h : ∀ x ∈ L, zgq x) (hl : L.length ≤ 137438953472) : PsOk (skOf L.isEmpty) 5 L := ⟨⟨.inl rfl, zcn⟩, hl, h⟩
theorem r_Set {g : Gr} (h : g.ok) {kd n : Int} {s : List UInt8} {kk : SK} {z : Nat} {ll : List (List AV)} {v : Vl} (hv : v.ok) {name : List UInt8} (hn : name.length ≤ 137438953472) :
   ∃ (q : Gr) (e : Int), acall S 23 [.agg g.c, .agg [.i .i64 kd, .i .i64 n, .str s, .sl kk z ll], .str name, .agg v.c] = some (.tup [.agg q.c, .i .i64 e], []) ∧ q.ok := by
 suffices hW : W (acall S 23 [.agg g.c, .agg [.i .i64 kd, .i .i64 n, .str s, .sl kk z ll], .str name, .agg v.c]) (fun r => ∃ (q : Gr) (e : Int), r = (.tup [.agg q.c, .i .i64 e], []) ∧ q.ok) by
   obtain ⟨r, h1, q, e, rfl, h2⟩ := hW
   exact ⟨q, e, h1, h2⟩
 obtain ⟨us, ws, ec, hco⟩ := zq5 h
 obtain ⟨e, ek⟩ := zkz hco
 obtain ⟨t, c, el⟩ := zpc hco (kd := kd) (n := n) (s := s) (kk := kk) (z := z) (ll := ll)
 obtain ⟨k, w, l, ep, hlo⟩ := ztx hco (kd := kd) (n := n) (s := s) (kk := kk) (z := z) (ll := ll)
 have en := e52 name (Nat.le_trans hn (by decide))
 have ev := e60 v hv
 have hw := fun {L : List Pp} (hL : PsOk (skOf L.isEmpty) 5 L) => zyq hco (kd := kd) (n := n) (s := s) (kk := kk) (z := z) (ll := ll) hL
 have hll := hlo.len
 have hls := hlo.s.1
 have hL : LIM = 274877906944 := rfl
 generalize zox name = cn at en
 generalize (if mayV v.p 0 = true then (0 : Int) else 20) = e2 at ev
 obtain ⟨yk, ym, ys, ykk, yz, yll⟩ := v
 simp only [rg, Gr.c, Vl.c, Vl.cs_map] at ec ek el ep ev hw ⊢
 refine g23 rfl ?_
 cases d0 : decide (¬ e = 0) with
 | true =>
   (repeat' (first | with_reducible refine zab ?_ | simp only [go_sem, J0, reduceIte, reduceCtorEq, Ja, Jb, Jc, Jd, Je, Jf, Jg, Jh, Ji, Jj, Jk, Jl, Jm, Jn, Jo, Jp, Jq, Jr, Js, a23, s1000008, ec, s51, ek, d0]))
   exact ⟨rg us ws g.last, e, rfl, hco⟩
 | false =>
 cases c with
 | false =>
   (repeat' (first | with_reducible refine zab ?_ | simp only [go_sem, J0, reduceIte, reduceCtorEq, Ja, Jb, Jc, Jd, Je, Jf, Jg, Jh, Ji, Jj, Jk, Jl, Jm, Jn, Jo, Jp, Jq, Jr, Js, a23, s1000008, ec, s51, ek, d0, s59, el]))
   exact ⟨rg us ws g.last, 101, rfl, hco⟩
 | true =>
 cases cn with
 | false =>
   (repeat' (first | with_reducible refine zab ?_ | simp only [go_sem, J0, reduceIte, reduceCtorEq, Ja, Jb, Jc, Jd, Je, Jf, Jg, Jh, Ji, Jj, Jk, Jl, Jm, Jn, Jo, Jp, Jq, Jr, Js, a23, s1000008, ec, s51, ek, d0, s59, el, s52, en]))
   exact ⟨rg us ws g.last, 100, rfl, hco⟩
 | true =>
 cases d1 : decide (¬ e2 = 0) with
 | true =>
   (repeat' (first | with_reducible refine zab ?_ | simp only [go_sem, J0, reduceIte, reduceCtorEq, Ja, Jb, Jc, Jd, Je, Jf, Jg, Jh, Ji, Jj, Jk, Jl, Jm, Jn, Jo, Jp, Jq, Jr, Js, a23, s1000008, ec, s51, ek, d0, s59, el, s52, en, s60, ev, d1]))
   exact ⟨rg us ws g.last, e2, rfl, hco⟩
 | false =>
 (repeat' (first | with_reducible refine zab ?_ | simp only [go_sem, J0, reduceIte, reduceCtorEq, Ja, Jb, Jc, Jd, Je, Jf, Jg, Jh, Ji, Jj, Jk, Jl, Jm, Jn, Jo, Jp, Jq, Jr, Js, a23, s1000008, ec, s51, ek, d0, s59, el, s52, en, s60, ev, d1, s61, ep]))
 have hnew : zgq (name, Vl.mk yk ym ys ykk yz yll) := ⟨hn, hv⟩
 refine zag (ι := Nat × List Pp × Bool) (fun y => [.str name, .bx [.sl (skOf us.isEmpty) 3 (us.map Vx.c), .sl (skOf ws.isEmpty) 5 (ws.map Lk.c), .i .i64 g.last], .bx [.i .i64 kd, .i .i64 n, .str s, .sl kk z ll], .bx [.i .i64 yk, .i .i64 ym, .str ys, .sl ykk yz (yll.map Vl.c)], .bx [.sl .nil 0 [], .sl .nil 0 [], .i .i64 0], .sl k w (l.map tagC), .ow 45 5 y.2.1.isEmpty (y.2.1.map tagC), .b y.2.2, .i .i64 y.1])
   (fun y => y.1 ≤ l.length ∧ y.2.1.length ≤ y.1 + y.2.2.toNat ∧ ∀ x ∈ y.2.1, zgq x) (fun y => l.length - y.1) (0, [], false) rfl ⟨Nat.zero_le _, by simp, by simp⟩ ?_
 rintro ⟨i, L, dn⟩ ⟨hi, hLl, hLo⟩
 simp only at hi hLl hLo ⊢
 have hdn : dn.toNat ≤ 1 := by cases dn <;> decide
 by_cases hlt : i < l.length
 · obtain ⟨x, gx⟩ := zbe hlt
   have hx := hlo.get gx
   have hwr := wrap_succ (k := i) (by omega)
   have hbt : decide ((i : Int) < (l.length : Int)) = true := decide_eq_true (by omega)
   have b1 : (0 : Int) ≤ (i : Int) := by omega
   have glim : L.length + 1 ≤ LIM := by omega
   have glim2 : L.length + 2 ≤ LIM := by omega
   have hok2 : ∀ A : List Pp, (∀ y ∈ A, zgq y) → ∀ y ∈ L ++ A, zgq y := fun A hA y hy => by
     rcases List.mem_append.1 hy with h | h
     · exact hLo y h
     · exact hA y h
   obtain ⟨xn, xv⟩ := x
   obtain ⟨xk, xm, xs, xkk, xz, xl⟩ := xv
   cases dn with
   | true =>
     simp only [Bool.toNat_true] at hLl
     cases hne : decide (¬ xn = name) with
     | true =>
       (repeat' (first | with_reducible refine zab ?_ | simp only [go_sem, J0, reduceIte, reduceCtorEq, Ja, Jb, Jc, Jd, Je, Jf, Jg, Jh, Ji, Jj, Jk, Jl, Jm, Jn, Jo, Jp, Jq, Jr, Js, hbt, hls, b1, gx, tagC, Vl.c, Vl.cs_map, hne, hwr, glim, List.length_map]))
       refine ⟨(i + 1, L ++ [(xn, .mk xk xm xs xkk xz xl)], true), by simp [tagC, Vl.c, Vl.cs_map], ⟨by omega, by simp; omega, hok2 _ (by simp; exact hx)⟩, by simp only; omega⟩
     | false =>
       (repeat' (first | with_reducible refine zab ?_ | simp only [go_sem, J0, reduceIte, reduceCtorEq, Ja, Jb, Jc, Jd, Je, Jf, Jg, Jh, Ji, Jj, Jk, Jl, Jm, Jn, Jo, Jp, Jq, Jr, Js, hbt, hls, b1, gx, tagC, Vl.c, Vl.cs_map, hne, hwr, List.length_map]))
       exact ⟨(i + 1, L, true), rfl, ⟨by omega, by simp; omega, hLo⟩, by simp only; omega⟩
   | false =>
     simp only [Bool.toNat_false, Nat.add_zero] at hLl
     cases hge : Op.bytesLess xn name with
     | true =>
       cases hne : decide (¬ xn = name) with
       | true =>
         (repeat' (first | with_reducible refine zab ?_ | simp only [go_sem, J0, reduceIte, reduceCtorEq, Ja, Jb, Jc, Jd, Je, Jf, Jg, Jh, Ji, Jj, Jk, Jl, Jm, Jn, Jo, Jp, Jq, Jr, Js, hbt, hls, b1, gx, tagC, Vl.c, Vl.cs_map, hge, hne, hwr, glim, List.length_map]))
         refine ⟨(i + 1, L ++ [(xn, .mk xk xm xs xkk xz xl)], false), by simp [tagC, Vl.c, Vl.cs_map], ⟨by omega, by simp; omega, hok2 _ (by simp; exact hx)⟩, by simp only; omega⟩
       | false =>
         (repeat' (first | with_reducible refine zab ?_ | simp only [go_sem, J0, reduceIte, reduceCtorEq, Ja, Jb, Jc, Jd, Je, Jf, Jg, Jh, Ji, Jj, Jk, Jl, Jm, Jn, Jo, Jp, Jq, Jr, Js, hbt, hls, b1, gx, tagC, Vl.c, Vl.cs_map, hge, hne, hwr, List.length_map]))
         exact ⟨(i + 1, L, false), rfl, ⟨by omega, by simp; omega, hLo⟩, by simp only; omega⟩
     | false =>
       cases hne : decide (¬ xn = name) with
       | true =>
         (repeat' (first | with_reducible refine zab ?_ | simp only [go_sem, J0, reduceIte, reduceCtorEq, Ja, Jb, Jc, Jd, Je, Jf, Jg, Jh, Ji, Jj, Jk, Jl, Jm, Jn, Jo, Jp, Jq, Jr, Js, hbt, hls, b1, gx, tagC, Vl.c, Vl.cs_map, hge, hne, hwr, glim, glim2, List.length_map, List.length_append]))
         refine ⟨(i + 1, L ++ [(name, .mk yk ym ys ykk yz yll), (xn, .mk xk xm xs xkk xz xl)], true), by simp [tagC, Vl.c, Vl.cs_map], ⟨by omega, by simp; omega, hok2 _ (by simp; exact ⟨hnew, hx⟩)⟩, by simp only; omega⟩
       | false =>
         (repeat' (first | with_reducible refine zab ?_ | simp only [go_sem, J0, reduceIte, reduceCtorEq, Ja, Jb, Jc, Jd, Je, Jf, Jg, Jh, Ji, Jj, Jk, Jl, Jm, Jn, Jo, Jp, Jq, Jr, Js, hbt, hls, b1, gx, tagC, Vl.c, Vl.cs_map, hge, hne, hwr, glim, List.length_map]))
         refine ⟨(i + 1, L ++ [(name, .mk yk ym ys ykk yz yll)], true), by simp [tagC, Vl.c, Vl.cs_map], ⟨by omega, by simp; omega, hok2 _ (by simp; exact hnew)⟩, by simp only; omega⟩
 have hbf : decide ((i : Int) < (l.length : Int)) = false := decide_eq_false (by omega)
 cases dn with
 | true =>
   cases d16 : decide ((16 : Int) < (L.length : Int)) with
   | true =>
     (repeat' (first | with_reducible refine zab ?_ | simp only [go_sem, J0, reduceIte, reduceCtorEq, Ja, Jb, Jc, Jd, Je, Jf, Jg, Jh, Ji, Jj, Jk, Jl, Jm, Jn, Jo, Jp, Jq, Jr, Js, hbf, d16, List.length_map]))
     exact ⟨rg us ws g.last, 102, rfl, hco⟩
   | false =>
     have d16' := of_decide_eq_false d16
     obtain ⟨q, eq, hq⟩ := hw (zpk hLo (by omega))
     (repeat' (first | with_reducible refine zab ?_ | simp only [go_sem, J0, reduceIte, reduceCtorEq, Ja, Jb, Jc, Jd, Je, Jf, Jg, Jh, Ji, Jj, Jk, Jl, Jm, Jn, Jo, Jp, Jq, Jr, Js, hbf, d16, s62, eq, List.length_map]))
     exact ⟨q, 0, rfl, hq⟩
 | false =>
   have glim : L.length + 1 ≤ LIM := by simp only [Bool.toNat_false] at hLl; omega
   have hLo2 : ∀ y ∈ L ++ [(name, Vl.mk yk ym ys ykk yz yll)], zgq y := fun y hy => by
     rcases List.mem_append.1 hy with h | h
     · exact hLo y h
     · simp only [List.mem_singleton] at h; rw [h]; exact hnew
   cases d16 : decide ((16 : Int) < ((L.length + 1 : Nat) : Int)) with
   | true =>
     (repeat' (first | with_reducible refine zab ?_ | simp only [go_sem, J0, reduceIte, reduceCtorEq, Ja, Jb, Jc, Jd, Je, Jf, Jg, Jh, Ji, Jj, Jk, Jl, Jm, Jn, Jo, Jp, Jq, Jr, Js, hbf, d16, glim, List.length_map, List.length_append]))
     exact ⟨rg us ws g.last, 102, rfl, hco⟩
   | false =>
     have d16' := of_decide_eq_false d16
     obtain ⟨q, eq, hq⟩ := hw (zpk hLo2 (by simp only [List.length_append, List.length_cons, List.length_nil]; omega))
     have hne : (L ++ [(name, Vl.mk yk ym ys ykk yz yll)]).isEmpty = false := by cases L <;> rfl
     simp only [hne, za3, List.map_append, List.map_cons, List.map_nil, tagC, Vl.c, Vl.cs_map] at eq
     (repeat' (first | with_reducible refine zab ?_ | simp only [go_sem, J0, reduceIte, reduceCtorEq, Ja, Jb, Jc, Jd, Je, Jf, Jg, Jh, Ji, Jj, Jk, Jl, Jm, Jn, Jo, Jp, Jq, Jr, Js, hbf, d16, glim, s62, eq, List.length_map, List.length_append, za3]))
     exact ⟨q, 0, rfl, hq⟩
theorem z0d {g : Gr} (h : g.ok) {kd n : Int} {s : List UInt8} {kk : SK} {z : Nat} {ll : List (List AV)} {name : List UInt8} :
   ∃ (q : Gr) (b : Bool) (e : Int), acall S 25 [.agg g.c, .agg [.i .i64 kd, .i .i64 n, .str s, .sl kk z ll], .str name] = some (.tup [.agg q.c, .b b, .i .i64 e], []) ∧ q.ok := by
 suffices hW : W (acall S 25 [.agg g.c, .agg [.i .i64 kd, .i .i64 n, .str s, .sl kk z ll], .str name]) (fun r => ∃ (q : Gr) (b : Bool) (e : Int), r = (.tup [.agg q.c, .b b, .i .i64 e], []) ∧ q.ok) by
   obtain ⟨r, h1, q, b, e, rfl, h2⟩ := hW
   exact ⟨q, b, e, h1, h2⟩
 obtain ⟨us, ws, ec, hco⟩ := zq5 h
 obtain ⟨e, ek⟩ := zkz hco
 obtain ⟨t, c, el⟩ := zpc hco (kd := kd) (n := n) (s := s) (kk := kk) (z := z) (ll := ll)
 obtain ⟨k, w, l, ep, hlo⟩ := ztx hco (kd := kd) (n := n) (s := s) (kk := kk) (z := z) (ll := ll)
 have hw := fun {L : List Pp} (hL : PsOk (skOf L.isEmpty) 5 L) => zyq hco (kd := kd) (n := n) (s := s) (kk := kk) (z := z) (ll := ll) hL
 have hll := hlo.len
 have hls := hlo.s.1
 have hL : LIM = 274877906944 := rfl
 simp only [rg, Gr.c] at ec ek el ep hw ⊢
 refine g25 rfl ?_
 cases d0 : decide (¬ e = 0) with
 | true =>
   (repeat' (first | with_reducible refine zab ?_ | simp only [go_sem, J0, reduceIte, reduceCtorEq, Ja, Jb, Jc, Jd, Je, Jf, Jg, Jh, Ji, Jj, Jk, Jl, Jm, Jn, Jo, Jp, Jq, Jr, Js, a25, s1000008, ec, s51, ek, d0]))
   exact ⟨rg us ws g.last, false, e, rfl, hco⟩
 | false =>
 cases c with
 | false =>
   (repeat' (first | with_reducible refine zab ?_ | simp only [go_sem, J0, reduceIte, reduceCtorEq, Ja, Jb, Jc, Jd, Je, Jf, Jg, Jh, Ji, Jj, Jk, Jl, Jm, Jn, Jo, Jp, Jq, Jr, Js, a25, s1000008, ec, s51, ek, d0, s59, el]))
   exact ⟨rg us ws g.last, false, 101, rfl, hco⟩
 | true =>
 (repeat' (first | with_reducible refine zab ?_ | simp only [go_sem, J0, reduceIte, reduceCtorEq, Ja, Jb, Jc, Jd, Je, Jf, Jg, Jh, Ji, Jj, Jk, Jl, Jm, Jn, Jo, Jp, Jq, Jr, Js, a25, s1000008, ec, s51, ek, d0, s59, el, s61, ep]))
 refine zag (ι := Nat × List Pp) (fun y => [.str name, .bx [.sl (skOf us.isEmpty) 3 (us.map Vx.c), .sl (skOf ws.isEmpty) 5 (ws.map Lk.c), .i .i64 g.last], .bx [.i .i64 kd, .i .i64 n, .str s, .sl kk z ll], .bx [.sl .nil 0 [], .sl .nil 0 [], .i .i64 0], .sl k w (l.map tagC), .ow 45 5 y.2.isEmpty (y.2.map tagC), .i .i64 y.1])
   (fun y => y.1 ≤ l.length ∧ y.2.length ≤ y.1 ∧ ∀ x ∈ y.2, zgq x) (fun y => l.length - y.1) (0, []) rfl ⟨Nat.zero_le _, by simp, by simp⟩ ?_
 rintro ⟨i, L⟩ ⟨hi, hLl, hLo⟩
 simp only at hi hLl hLo ⊢
 by_cases hlt : i < l.length
 · obtain ⟨x, gx⟩ := zbe hlt
   have hx := hlo.get gx
   have hwr := wrap_succ (k := i) (by omega)
   have hbt : decide ((i : Int) < (l.length : Int)) = true := decide_eq_true (by omega)
   have b1 : (0 : Int) ≤ (i : Int) := by omega
   have glim : L.length + 1 ≤ LIM := by omega
   have hok2 : ∀ A : List Pp, (∀ y ∈ A, zgq y) → ∀ y ∈ L ++ A, zgq y := fun A hA y hy => by
     rcases List.mem_append.1 hy with h | h
     · exact hLo y h
     · exact hA y h
   obtain ⟨xn, xv⟩ := x
   obtain ⟨xk, xm, xs, xkk, xz, xl⟩ := xv
   cases hne : decide (¬ xn = name) with
   | true =>
     (repeat' (first | with_reducible refine zab ?_ | simp only [go_sem, J0, reduceIte, reduceCtorEq, Ja, Jb, Jc, Jd, Je, Jf, Jg, Jh, Ji, Jj, Jk, Jl, Jm, Jn, Jo, Jp, Jq, Jr, Js, hbt, hls, b1, gx, tagC, Vl.c, Vl.cs_map, hne, hwr, glim, List.length_map]))
     refine ⟨(i + 1, L ++ [(xn, .mk xk xm xs xkk xz xl)]), by simp [tagC, Vl.c, Vl.cs_map], ⟨by omega, by simp; omega, hok2 _ (by simp; exact hx)⟩, by simp only; omega⟩
   | false =>
     (repeat' (first | with_reducible refine zab ?_ | simp only [go_sem, J0, reduceIte, reduceCtorEq, Ja, Jb, Jc, Jd, Je, Jf, Jg, Jh, Ji, Jj, Jk, Jl, Jm, Jn, Jo, Jp, Jq, Jr, Js, hbt, hls, b1, gx, tagC, Vl.c, Vl.cs_map, hne, hwr, List.length_map]))
     exact ⟨(i + 1, L), rfl, ⟨by omega, by simp; omega, hLo⟩, by simp only; omega⟩
 have hbf : decide ((i : Int) < (l.length : Int)) = false := decide_eq_false (by omega)
 obtain ⟨q, eq, hq⟩ := hw (zpk hLo (by omega))
 (repeat' (first | with_reducible refine zab ?_ | simp only [go_sem, J0, reduceIte, reduceCtorEq, Ja, Jb, Jc, Jd, Je, Jf, Jg, Jh, Ji, Jj, Jk, Jl, Jm, Jn, Jo, Jp, Jq, Jr, Js, hbf, s62, eq, List.length_map]))
 exact ⟨q, _, 0, rfl, hq⟩
end
section
theorem z61 {g : Gr} (h : g.ok) {kd n : Int} {s : List UInt8} {kk : SK} {z : Nat} {ll : List (List AV)} :
   ∃ (q : Gr) (e : Int), acall S 26 [.agg g.c, .agg [.i .i64 kd, .i .i64 n, .str s, .sl kk z ll]] = some (.tup [.agg q.c, .i .i64 e], []) ∧ q.ok := by
 suffices hW : W (acall S 26 [.agg g.c, .agg [.i .i64 kd, .i .i64 n, .str s, .sl kk z ll]]) (fun r => ∃ (q : Gr) (e : Int), r = (.tup [.agg q.c, .i .i64 e], []) ∧ q.ok) by
   obtain ⟨r, h1, q, e, rfl, h2⟩ := hW
   exact ⟨q, e, h1, h2⟩
 obtain ⟨us, ws, ec, hco, hul, hwl⟩ := zni h
 obtain ⟨e, ek⟩ := zkz hco
 obtain ⟨t, c, el⟩ := zpc hco (kd := kd) (n := n) (s := s) (kk := kk) (z := z) (ll := ll)
 have huo := hco.va
 have hwo := hco.ea
 have hL : LIM = 274877906944 := rfl
 simp only [rg] at huo hwo
 simp only [grow, rg, Gr.c] at ec ek el ⊢
 refine g26 rfl ?_
 cases d0 : decide (¬ e = 0) with
 | true =>
   (repeat' (first | with_reducible refine zab ?_ | simp only [go_sem, J0, reduceIte, reduceCtorEq, Ja, Jb, Jc, Jd, Je, Jf, Jg, Jh, Ji, Jj, Jk, Jl, Jm, Jn, Jo, Jp, Jq, Jr, Js, a26, s8, ec, s51, ek, d0, List.length_map, Nat.le_refl]))
   exact ⟨rg us ws g.last, e, rfl, hco⟩
 | false =>
 cases c with
 | false =>
   (repeat' (first | with_reducible refine zab ?_ | simp only [go_sem, J0, reduceIte, reduceCtorEq, Ja, Jb, Jc, Jd, Je, Jf, Jg, Jh, Ji, Jj, Jk, Jl, Jm, Jn, Jo, Jp, Jq, Jr, Js, a26, s8, ec, s51, ek, d0, s59, el, List.length_map, Nat.le_refl]))
   exact ⟨rg us ws g.last, 101, rfl, hco⟩
 | true =>
 (repeat' (first | with_reducible refine zab ?_ | simp only [go_sem, J0, reduceIte, reduceCtorEq, Ja, Jb, Jc, Jd, Je, Jf, Jg, Jh, Ji, Jj, Jk, Jl, Jm, Jn, Jo, Jp, Jq, Jr, Js, a26, s8, ec, s51, ek, d0, s59, el, List.length_map, Nat.le_refl]))
 refine zag (ι := Nat × List Vx) (fun y => [.bx [.ow 43 3 us.isEmpty (us.map Vx.c), .ow 47 5 ws.isEmpty (ws.map Lk.c), .i .i64 g.last], .bx [.i .i64 kd, .i .i64 n, .str s, .sl kk z ll], .bx [.sl .nil 0 [], .sl .nil 0 [], .i .i64 0], .bx [.ow 43 3 y.2.isEmpty (y.2.map Vx.c), .sl .nil 0 [], .i .i64 g.last], .i .i64 y.1])
   (fun y => y.1 ≤ us.length ∧ y.2.length ≤ y.1 ∧ ∀ x ∈ y.2, x.ok) (fun y => us.length - y.1) (0, []) rfl ⟨Nat.zero_le _, by simp, by simp⟩ ?_
 rintro ⟨i, A⟩ ⟨hi, hAl, hAo⟩
 simp only at hi hAl hAo ⊢
 by_cases hlt : i < us.length
 · obtain ⟨x, gx⟩ := zbe hlt
   have hx := huo x (List.mem_of_getElem? gx)
   have hwr := wrap_succ (k := i) (by omega)
   have hbt : decide ((i : Int) < (us.length : Int)) = true := decide_eq_true (by omega)
   have b1 : (0 : Int) ≤ (i : Int) := by omega
   have b2 : (i : Int) < (us.length : Int) := by omega
   have glim : A.length + 1 ≤ LIM := by omega
   have hA2 : ∀ y ∈ A ++ [x], y.ok := fun y hy => by
     rcases List.mem_append.1 hy with h | h
     · exact hAo y h
     · simp only [List.mem_singleton] at h; rw [h]; exact hx
   obtain ⟨xid, xl, xpk, xpz, xps⟩ := x
   cases d6 : decide (¬ kd = 6) with
   | true =>
     (repeat' (first | with_reducible refine zab ?_ | simp only [go_sem, J0, reduceIte, reduceCtorEq, Ja, Jb, Jc, Jd, Je, Jf, Jg, Jh, Ji, Jj, Jk, Jl, Jm, Jn, Jo, Jp, Jq, Jr, Js, hbt, b1, b2, gx, Vx.c, d6, hwr, glim, List.length_map, Nat.le_refl]))
     refine ⟨(i + 1, A ++ [⟨xid, xl, xpk, xpz, xps⟩]), by simp [Vx.c], ⟨by omega, by simp; omega, hA2⟩, by simp only; omega⟩
   | false =>
     cases dn : decide (¬ xid = n) with
     | true =>
       (repeat' (first | with_reducible refine zab ?_ | simp only [go_sem, J0, reduceIte, reduceCtorEq, Ja, Jb, Jc, Jd, Je, Jf, Jg, Jh, Ji, Jj, Jk, Jl, Jm, Jn, Jo, Jp, Jq, Jr, Js, hbt, b1, b2, gx, Vx.c, d6, dn, hwr, glim, List.length_map, Nat.le_refl]))
       refine ⟨(i + 1, A ++ [⟨xid, xl, xpk, xpz, xps⟩]), by simp [Vx.c], ⟨by omega, by simp; omega, hA2⟩, by simp only; omega⟩
     | false =>
       (repeat' (first | with_reducible refine zab ?_ | simp only [go_sem, J0, reduceIte, reduceCtorEq, Ja, Jb, Jc, Jd, Je, Jf, Jg, Jh, Ji, Jj, Jk, Jl, Jm, Jn, Jo, Jp, Jq, Jr, Js, hbt, b1, b2, gx, Vx.c, d6, dn, hwr, List.length_map, Nat.le_refl]))
       exact ⟨(i + 1, A), rfl, ⟨by omega, by simp; omega, hAo⟩, by simp only; omega⟩
 have hbf : decide ((i : Int) < (us.length : Int)) = false := decide_eq_false (by omega)
 (repeat' (first | with_reducible refine zab ?_ | simp only [go_sem, J0, reduceIte, reduceCtorEq, Ja, Jb, Jc, Jd, Je, Jf, Jg, Jh, Ji, Jj, Jk, Jl, Jm, Jn, Jo, Jp, Jq, Jr, Js, hbf, List.length_map, Nat.le_refl]))
 refine zag (ι := Nat × List Lk) (fun y => [.bx [.ow 43 3 us.isEmpty (us.map Vx.c), .ow 47 5 ws.isEmpty (ws.map Lk.c), .i .i64 g.last], .bx [.i .i64 kd, .i .i64 n, .str s, .sl kk z ll], .bx [.sl .nil 0 [], .sl .nil 0 [], .i .i64 0], .bx [.ow 43 3 A.isEmpty (A.map Vx.c), .ow 47 5 y.2.isEmpty (y.2.map Lk.c), .i .i64 g.last], .i .i64 y.1])
   (fun y => y.1 ≤ ws.length ∧ y.2.length ≤ y.1 ∧ ∀ x ∈ y.2, x.ok) (fun y => ws.length - y.1) (0, []) rfl ⟨Nat.zero_le _, by simp, by simp⟩ ?_
 rintro ⟨j, B⟩ ⟨hj, hBl, hBo⟩
 simp only at hj hBl hBo ⊢
 by_cases hlt : j < ws.length
 · obtain ⟨x, gx⟩ := zbe hlt
   have hx := hwo x (List.mem_of_getElem? gx)
   have hwr := wrap_succ (k := j) (by omega)
   have hbt : decide ((j : Int) < (ws.length : Int)) = true := decide_eq_true (by omega)
   have b1 : (0 : Int) ≤ (j : Int) := by omega
   have b2 : (j : Int) < (ws.length : Int) := by omega
   have glim : B.length + 1 ≤ LIM := by omega
   have hB2 : ∀ y ∈ B ++ [x], y.ok := fun y hy => by
     rcases List.mem_append.1 hy with h | h
     · exact hBo y h
     · simp only [List.mem_singleton] at h; rw [h]; exact hx
   obtain ⟨xid, xl, xo, xi, xpk, xpz, xps⟩ := x
   cases d6 : decide (kd = 6) with
   | true =>
     cases do1 : decide (xo = n) with
     | true =>
       (repeat' (first | with_reducible refine zab ?_ | simp only [go_sem, J0, reduceIte, reduceCtorEq, Ja, Jb, Jc, Jd, Je, Jf, Jg, Jh, Ji, Jj, Jk, Jl, Jm, Jn, Jo, Jp, Jq, Jr, Js, hbt, b1, b2, gx, Lk.c, d6, do1, hwr, List.length_map, Nat.le_refl]))
       exact ⟨(j + 1, B), rfl, ⟨by omega, by simp; omega, hBo⟩, by simp only; omega⟩
     | false =>
       cases di : decide (xi = n) with
       | true =>
         (repeat' (first | with_reducible refine zab ?_ | simp only [go_sem, J0, reduceIte, reduceCtorEq, Ja, Jb, Jc, Jd, Je, Jf, Jg, Jh, Ji, Jj, Jk, Jl, Jm, Jn, Jo, Jp, Jq, Jr, Js, hbt, b1, b2, gx, Lk.c, d6, do1, di, hwr, List.length_map, Nat.le_refl]))
         exact ⟨(j + 1, B), rfl, ⟨by omega, by simp; omega, hBo⟩, by simp only; omega⟩
       | false =>
         (repeat' (first | with_reducible refine zab ?_ | simp only [go_sem, J0, reduceIte, reduceCtorEq, Ja, Jb, Jc, Jd, Je, Jf, Jg, Jh, Ji, Jj, Jk, Jl, Jm, Jn, Jo, Jp, Jq, Jr, Js, hbt, b1, b2, gx, Lk.c, d6, do1, di, hwr, glim, List.length_map, Nat.le_refl]))
         refine ⟨(j + 1, B ++ [⟨xid, xl, xo, xi, xpk, xpz, xps⟩]), by simp [Lk.c], ⟨by omega, by simp; omega, hB2⟩, by simp only; omega⟩
   | false =>
     cases dn : decide (xid = n) with
     | true =>
       (repeat' (first | with_reducible refine zab ?_ | simp only [go_sem, J0, reduceIte, reduceCtorEq, Ja, Jb, Jc, Jd, Je, Jf, Jg, Jh, Ji, Jj, Jk, Jl, Jm, Jn, Jo, Jp, Jq, Jr, Js, hbt, b1, b2, gx, Lk.c, d6, dn, hwr, List.length_map, Nat.le_refl]))
       exact ⟨(j + 1, B), rfl, ⟨by omega, by simp; omega, hBo⟩, by simp only; omega⟩
     | false =>
       (repeat' (first | with_reducible refine zab ?_ | simp only [go_sem, J0, reduceIte, reduceCtorEq, Ja, Jb, Jc, Jd, Je, Jf, Jg, Jh, Ji, Jj, Jk, Jl, Jm, Jn, Jo, Jp, Jq, Jr, Js, hbt, b1, b2, gx, Lk.c, d6, dn, hwr, glim, List.length_map, Nat.le_refl]))
       refine ⟨(j + 1, B ++ [⟨xid, xl, xo, xi, xpk, xpz, xps⟩]), by simp [Lk.c], ⟨by omega, by simp; omega, hB2⟩, by simp only; omega⟩
 have hbf : decide ((j : Int) < (ws.length : Int)) = false := decide_eq_false (by omega)
 (repeat' (first | with_reducible refine zab ?_ | simp only [go_sem, J0, reduceIte, reduceCtorEq, Ja, Jb, Jc, Jd, Je, Jf, Jg, Jh, Ji, Jj, Jk, Jl, Jm, Jn, Jo, Jp, Jq, Jr, Js, hbf, List.length_map, Nat.le_refl]))
 exact ⟨rg A B g.last, 0, rfl, ⟨.inl rfl, zcn⟩, ⟨.inl rfl, zcn⟩, by simp only [rg]; omega, by simp only [rg]; omega, hAo, hBo⟩
end
section
open Classical
theorem zm4 {α β : Type} {f : α → β} {l m : List α} {i : Nat} {x y : α} (gx : l[i]? = some x) (gy : m[i]? = some y) (hT : (l.drop i).map f = (m.drop i).map f ↔ l.map f = m.map f) :
   (f x = f y → ((l.drop (i + 1)).map f = (m.drop (i + 1)).map f ↔ l.map f = m.map f)) ∧ (¬ f x = f y → ¬ l.map f = m.map f) := by
 rw [za4 gx, za4 gy, List.map_cons, List.map_cons, List.cons.injEq] at hT
 exact ⟨fun e => by rw [← hT]; exact ⟨fun h => ⟨e, h⟩, fun h => h.2⟩, fun e h => e (hT.2 h).1⟩
theorem e70 {k k' : SK} {z z' : Nat} {l m : List Pp} (hl : PsOk k z l) (hm : PsOk k' z' m) : acall S 70 [.sl k z (l.map tagC), .sl k' z' (m.map tagC)] = some (.b (decide (l.map tagP = m.map tagP)), []) := by
 have h1 := hl.s.1
 have h2 := hm.s.1
 have hll := hl.len
 refine W_eq (g70 rfl ?_)
 by_cases hlen : l.length = m.length
 · have d1 : decide (¬ (l.length : Int) = (m.length : Int)) = false := decide_eq_false (by omega)
   (repeat' (first | with_reducible refine zab ?_ | simp only [go_sem, J0, reduceIte, reduceCtorEq, Ja, Jb, Jc, Jd, Je, Jf, Jg, Jh, Ji, Jj, Jk, Jl, Jm, Jn, Jo, Jp, Jq, Jr, Js, a70, List.length_map, d1]))
   refine zag (ι := Nat) (fun i => [.sl k z (l.map tagC), .sl k' z' (m.map tagC), .i .i64 i]) (fun i => i ≤ l.length ∧ ((l.drop i).map tagP = (m.drop i).map tagP ↔ l.map tagP = m.map tagP)) (fun i => l.length - i) 0 rfl ⟨by omega, Iff.rfl⟩ ?_
   rintro i ⟨hi, hT⟩
   by_cases hlt : i < l.length
   · obtain ⟨c, gc⟩ := zbj hlt
     obtain ⟨d, gd⟩ := zbj (show i < m.length by omega)
     have g1 : decide ((i : Int) < (l.length : Int)) = true := decide_eq_true (by omega)
     have b1 : (0 : Int) ≤ (i : Int) := by omega
     have hw := wrap_succ (k := i) (by omega)
     have hq := zm4 gc gd hT
     have es := e93 c.2 d.2 (hl.get gc).2 (hm.get gd).2
     obtain ⟨xn, xv⟩ := c
     obtain ⟨yn, yv⟩ := d
     simp only [tagP, Prod.mk.injEq] at hq es
     by_cases hn : xn = yn
     · subst hn
       have d2 : decide (¬ xn = xn) = false := decide_eq_false (fun h => h rfl)
       by_cases hv : xv.p = yv.p
       · have d3 : decide (xv.p = yv.p) = true := decide_eq_true hv
         rw [d3] at es
         have hT2 := hq.1 ⟨rfl, hv⟩
         obtain ⟨xk, xm, xs, xkk, xz, xll⟩ := xv
         obtain ⟨yk, ym, ys, ykk, yz, yll⟩ := yv
         simp only [Vl.c, Vl.cs_map] at es
         (repeat' (first | with_reducible refine zab ?_ | simp only [go_sem, J0, reduceIte, reduceCtorEq, Ja, Jb, Jc, Jd, Je, Jf, Jg, Jh, Ji, Jj, Jk, Jl, Jm, Jn, Jo, Jp, Jq, Jr, Js, g1, b1, gc, gd, h1, h2, tagC, Vl.c, Vl.cs_map, hw, s93, es, d2]))
         exact ⟨i + 1, rfl, ⟨by omega, hT2⟩, by omega⟩
       · have d3 : decide (xv.p = yv.p) = false := decide_eq_false hv
         rw [d3] at es
         have d4 : decide (l.map tagP = m.map tagP) = false := decide_eq_false (hq.2 fun h => hv h.2)
         obtain ⟨xk, xm, xs, xkk, xz, xll⟩ := xv
         obtain ⟨yk, ym, ys, ykk, yz, yll⟩ := yv
         simp only [Vl.c, Vl.cs_map] at es
         (repeat' (first | with_reducible refine zab ?_ | simp only [go_sem, J0, reduceIte, reduceCtorEq, Ja, Jb, Jc, Jd, Je, Jf, Jg, Jh, Ji, Jj, Jk, Jl, Jm, Jn, Jo, Jp, Jq, Jr, Js, g1, b1, gc, gd, h1, h2, tagC, Vl.c, Vl.cs_map, hw, s93, es, d2, d4]))
     · have d2 : decide (¬ xn = yn) = true := decide_eq_true hn
       have d4 : decide (l.map tagP = m.map tagP) = false := decide_eq_false (hq.2 fun h => hn h.1)
       obtain ⟨xk, xm, xs, xkk, xz, xll⟩ := xv
       obtain ⟨yk, ym, ys, ykk, yz, yll⟩ := yv
       (repeat' (first | with_reducible refine zab ?_ | simp only [go_sem, J0, reduceIte, reduceCtorEq, Ja, Jb, Jc, Jd, Je, Jf, Jg, Jh, Ji, Jj, Jk, Jl, Jm, Jn, Jo, Jp, Jq, Jr, Js, g1, b1, gc, gd, h1, h2, tagC, Vl.c, Vl.cs_map, d2, d4]))
   · have g1 : decide ((i : Int) < (l.length : Int)) = false := decide_eq_false (by omega)
     rw [List.drop_of_length_le (by omega), List.drop_of_length_le (by omega)] at hT
     have d4 : decide (l.map tagP = m.map tagP) = true := decide_eq_true (hT.1 rfl)
     (repeat' (first | with_reducible refine zab ?_ | simp only [go_sem, J0, reduceIte, reduceCtorEq, Ja, Jb, Jc, Jd, Je, Jf, Jg, Jh, Ji, Jj, Jk, Jl, Jm, Jn, Jo, Jp, Jq, Jr, Js, g1, d4, List.length_map]))
 · have d1 : decide (¬ (l.length : Int) = (m.length : Int)) = true := decide_eq_true (by omega)
   have d4 : decide (l.map tagP = m.map tagP) = false := decide_eq_false fun h => hlen (by have := congrArg List.length h; simpa using this)
   (repeat' (first | with_reducible refine zab ?_ | simp only [go_sem, J0, reduceIte, reduceCtorEq, Ja, Jb, Jc, Jd, Je, Jf, Jg, Jh, Ji, Jj, Jk, Jl, Jm, Jn, Jo, Jp, Jq, Jr, Js, a70, List.length_map, d1, d4]))
theorem e35 (x y : Vx) (hx : x.ok) (hy : y.ok) : acall S 35 [.agg x.c, .agg y.c] = some (.b (decide (x.p = y.p)), []) := by
 have es := e70 hx.ps hy.ps
 obtain ⟨xid, xl, xpk, xpz, xps⟩ := x
 obtain ⟨yid, yl, ypk, ypz, yps⟩ := y
 simp only [Vx.p, PVx.mk.injEq]
 refine W_eq (g35 rfl ?_)
 by_cases h1 : xid = yid
 · by_cases h2 : xl = yl
   · subst h1 h2
     (repeat' (first | with_reducible refine zab ?_ | simp only [go_sem, J0, reduceIte, reduceCtorEq, Ja, Jb, Jc, Jd, Je, Jf, Jg, Jh, Ji, Jj, Jk, Jl, Jm, Jn, Jo, Jp, Jq, Jr, Js, a35, Vx.c, s70, es, true_and]))
   · (repeat' (first | with_reducible refine zab ?_ | simp only [go_sem, J0, reduceIte, reduceCtorEq, Ja, Jb, Jc, Jd, Je, Jf, Jg, Jh, Ji, Jj, Jk, Jl, Jm, Jn, Jo, Jp, Jq, Jr, Js, a35, Vx.c, h1, h2, false_and, and_false, decide_false, decide_true]))
 · (repeat' (first | with_reducible refine zab ?_ | simp only [go_sem, J0, reduceIte, reduceCtorEq, Ja, Jb, Jc, Jd, Je, Jf, Jg, Jh, Ji, Jj, Jk, Jl, Jm, Jn, Jo, Jp, Jq, Jr, Js, a35, Vx.c, h1, false_and, decide_false, decide_true]))
theorem e36 (x y : Lk) (hx : x.ok) (hy : y.ok) : acall S 36 [.agg x.c, .agg y.c] = some (.b (decide (x.p = y.p)), []) := by
 have es := e70 hx.ps hy.ps
 obtain ⟨xid, xl, xo, xi, xpk, xpz, xps⟩ := x
 obtain ⟨yid, yl, yo, yi, ypk, ypz, yps⟩ := y
 simp only [Lk.p, PLk.mk.injEq]
 refine W_eq (g36 rfl ?_)
 by_cases h1 : xid = yid
 · by_cases h2 : xl = yl
   · by_cases h3 : xo = yo
     · by_cases h4 : xi = yi
       · subst h1 h2 h3 h4
         (repeat' (first | with_reducible refine zab ?_ | simp only [go_sem, J0, reduceIte, reduceCtorEq, Ja, Jb, Jc, Jd, Je, Jf, Jg, Jh, Ji, Jj, Jk, Jl, Jm, Jn, Jo, Jp, Jq, Jr, Js, a36, Lk.c, s70, es, true_and]))
       · (repeat' (first | with_reducible refine zab ?_ | simp only [go_sem, J0, reduceIte, reduceCtorEq, Ja, Jb, Jc, Jd, Je, Jf, Jg, Jh, Ji, Jj, Jk, Jl, Jm, Jn, Jo, Jp, Jq, Jr, Js, a36, Lk.c, h1, h2, h3, h4, false_and, and_false, decide_false, decide_true]))
     · (repeat' (first | with_reducible refine zab ?_ | simp only [go_sem, J0, reduceIte, reduceCtorEq, Ja, Jb, Jc, Jd, Je, Jf, Jg, Jh, Ji, Jj, Jk, Jl, Jm, Jn, Jo, Jp, Jq, Jr, Js, a36, Lk.c, h1, h2, h3, false_and, and_false, decide_false, decide_true]))
   · (repeat' (first | with_reducible refine zab ?_ | simp only [go_sem, J0, reduceIte, reduceCtorEq, Ja, Jb, Jc, Jd, Je, Jf, Jg, Jh, Ji, Jj, Jk, Jl, Jm, Jn, Jo, Jp, Jq, Jr, Js, a36, Lk.c, h1, h2, false_and, and_false, decide_false, decide_true]))
 · (repeat' (first | with_reducible refine zab ?_ | simp only [go_sem, J0, reduceIte, reduceCtorEq, Ja, Jb, Jc, Jd, Je, Jf, Jg, Jh, Ji, Jj, Jk, Jl, Jm, Jn, Jo, Jp, Jq, Jr, Js, a36, Lk.c, h1, false_and, decide_false, decide_true]))
theorem e10 (g q : Gr) (h : g.ok) (h' : q.ok) : acall S 10 [.agg g.c, .agg q.c] = some (.b (decide (g.p = q.p)), []) := by
 have hv1 := h.v.1
 have he1 := h.e.1
 have hv2 := h'.v.1
 have he2 := h'.e.1
 have hvl := h.vl
 have hel := h.el
 have hp : (g.p = q.p) ↔ g.vs.map Vx.p = q.vs.map Vx.p ∧ g.es.map Lk.p = q.es.map Lk.p ∧ g.last = q.last := by simp only [Gr.p, PG.mk.injEq]
 rw [decide_eq_decide.2 hp]
 refine W_eq (g10 rfl ?_)
 by_cases hlast : g.last = q.last
 rotate_left
 · have d0 : decide (¬ g.last = q.last) = true := decide_eq_true hlast
   have d4 : decide (g.vs.map Vx.p = q.vs.map Vx.p ∧ g.es.map Lk.p = q.es.map Lk.p ∧ g.last = q.last) = false := decide_eq_false fun h => hlast h.2.2
   rw [d4]
   unfold Gr.c
   (repeat' (first | with_reducible refine zab ?_ | simp only [go_sem, J0, reduceIte, reduceCtorEq, Ja, Jb, Jc, Jd, Je, Jf, Jg, Jh, Ji, Jj, Jk, Jl, Jm, Jn, Jo, Jp, Jq, Jr, Js, a10, List.length_map, d0]))
 have d0 : decide (¬ g.last = q.last) = false := decide_eq_false (fun h => h hlast)
 by_cases hvlen : g.vs.length = q.vs.length
 rotate_left
 · have d1 : decide (¬ (g.vs.length : Int) = (q.vs.length : Int)) = true := decide_eq_true (by omega)
   have d4 : decide (g.vs.map Vx.p = q.vs.map Vx.p ∧ g.es.map Lk.p = q.es.map Lk.p ∧ g.last = q.last) = false := decide_eq_false fun h => hvlen (by have := congrArg List.length h.1; simpa using this)
   rw [d4]
   unfold Gr.c
   (repeat' (first | with_reducible refine zab ?_ | simp only [go_sem, J0, reduceIte, reduceCtorEq, Ja, Jb, Jc, Jd, Je, Jf, Jg, Jh, Ji, Jj, Jk, Jl, Jm, Jn, Jo, Jp, Jq, Jr, Js, a10, List.length_map, d0, d1]))
 have d1 : decide (¬ (g.vs.length : Int) = (q.vs.length : Int)) = false := decide_eq_false (by omega)
 by_cases helen : g.es.length = q.es.length
 rotate_left
 · have d2 : decide (¬ (g.es.length : Int) = (q.es.length : Int)) = true := decide_eq_true (by omega)
   have d4 : decide (g.vs.map Vx.p = q.vs.map Vx.p ∧ g.es.map Lk.p = q.es.map Lk.p ∧ g.last = q.last) = false := decide_eq_false fun h => helen (by have := congrArg List.length h.2.1; simpa using this)
   rw [d4]
   unfold Gr.c
   (repeat' (first | with_reducible refine zab ?_ | simp only [go_sem, J0, reduceIte, reduceCtorEq, Ja, Jb, Jc, Jd, Je, Jf, Jg, Jh, Ji, Jj, Jk, Jl, Jm, Jn, Jo, Jp, Jq, Jr, Js, a10, List.length_map, d0, d1, d2]))
 have d2 : decide (¬ (g.es.length : Int) = (q.es.length : Int)) = false := decide_eq_false (by omega)
 have hva := h.va
 have hea := h.ea
 have hva' := h'.va
 have hea' := h'.ea
 obtain ⟨vk, vz, vs, ek, ez, es, last⟩ := g
 obtain ⟨vk', vz', vs', ek', ez', es', last'⟩ := q
 simp only at hv1 he1 hv2 he2 hvl hel hlast hvlen helen d0 d1 d2 hva hea hva' hea' ⊢
 unfold Gr.c
 (repeat' (first | with_reducible refine zab ?_ | simp only [go_sem, J0, reduceIte, reduceCtorEq, Ja, Jb, Jc, Jd, Je, Jf, Jg, Jh, Ji, Jj, Jk, Jl, Jm, Jn, Jo, Jp, Jq, Jr, Js, a10, List.length_map, d0, d1, d2]))
 refine zag (ι := Nat) (fun i => [.bx [.sl vk vz (vs.map Vx.c), .sl ek ez (es.map Lk.c), .i .i64 last], .bx [.sl vk' vz' (vs'.map Vx.c), .sl ek' ez' (es'.map Lk.c), .i .i64 last'], .i .i64 i]) (fun i => i ≤ vs.length ∧ ((vs.drop i).map Vx.p = (vs'.drop i).map Vx.p ↔ vs.map Vx.p = vs'.map Vx.p)) (fun i => vs.length - i) 0 rfl ⟨by omega, Iff.rfl⟩ ?_
 rintro i ⟨hi, hT⟩
 by_cases hlt : i < vs.length
 · obtain ⟨c, gc⟩ := zbe hlt
   obtain ⟨d, gd⟩ := zbe (show i < vs'.length by omega)
   have g1 : decide ((i : Int) < (vs.length : Int)) = true := decide_eq_true (by omega)
   have b1 : (0 : Int) ≤ (i : Int) := by omega
   have hw := wrap_succ (k := i) (by omega)
   have hq := zm4 gc gd hT
   have ec := e35 c d (hva c (List.mem_of_getElem? gc)) (hva' d (List.mem_of_getElem? gd))
   by_cases hv : c.p = d.p
   · rw [decide_eq_true hv] at ec
     have hT2 := hq.1 hv
     obtain ⟨xid, xl, xpk, xpz, xps⟩ := c
     obtain ⟨yid, yl, ypk, ypz, yps⟩ := d
     simp only [Vx.c] at ec
     (repeat' (first | with_reducible refine zab ?_ | simp only [go_sem, J0, reduceIte, reduceCtorEq, Ja, Jb, Jc, Jd, Je, Jf, Jg, Jh, Ji, Jj, Jk, Jl, Jm, Jn, Jo, Jp, Jq, Jr, Js, g1, b1, gc, gd, hv1, hv2, he1, he2, Vx.c, s35, ec, hw, List.length_map]))
     exact ⟨i + 1, rfl, ⟨by omega, hT2⟩, by omega⟩
   · rw [decide_eq_false hv] at ec
     have d4 : decide (vs.map Vx.p = vs'.map Vx.p ∧ es.map Lk.p = es'.map Lk.p ∧ last = last') = false := decide_eq_false fun h => hq.2 hv h.1
     obtain ⟨xid, xl, xpk, xpz, xps⟩ := c
     obtain ⟨yid, yl, ypk, ypz, yps⟩ := d
     simp only [Vx.c] at ec
     (repeat' (first | with_reducible refine zab ?_ | simp only [go_sem, J0, reduceIte, reduceCtorEq, Ja, Jb, Jc, Jd, Je, Jf, Jg, Jh, Ji, Jj, Jk, Jl, Jm, Jn, Jo, Jp, Jq, Jr, Js, g1, b1, gc, gd, hv1, hv2, he1, he2, Vx.c, s35, ec, hw, d4, List.length_map]))
 have g1 : decide ((i : Int) < (vs.length : Int)) = false := decide_eq_false (by omega)
 rw [List.drop_of_length_le (by omega), List.drop_of_length_le (by omega)] at hT
 have hV : vs.map Vx.p = vs'.map Vx.p := hT.1 rfl
 (repeat' (first | with_reducible refine zab ?_ | simp only [go_sem, J0, reduceIte, reduceCtorEq, Ja, Jb, Jc, Jd, Je, Jf, Jg, Jh, Ji, Jj, Jk, Jl, Jm, Jn, Jo, Jp, Jq, Jr, Js, g1, List.length_map]))
 refine zag (ι := Nat) (fun i => [.bx [.sl vk vz (vs.map Vx.c), .sl ek ez (es.map Lk.c), .i .i64 last], .bx [.sl vk' vz' (vs'.map Vx.c), .sl ek' ez' (es'.map Lk.c), .i .i64 last'], .i .i64 i]) (fun i => i ≤ es.length ∧ ((es.drop i).map Lk.p = (es'.drop i).map Lk.p ↔ es.map Lk.p = es'.map Lk.p)) (fun i => es.length - i) 0 rfl ⟨by omega, Iff.rfl⟩ ?_
 rintro i ⟨hi, hT⟩
 by_cases hlt : i < es.length
 · obtain ⟨c, gc⟩ := zbe hlt
   obtain ⟨d, gd⟩ := zbe (show i < es'.length by omega)
   have g1 : decide ((i : Int) < (es.length : Int)) = true := decide_eq_true (by omega)
   have b1 : (0 : Int) ≤ (i : Int) := by omega
   have hw := wrap_succ (k := i) (by omega)
   have hq := zm4 gc gd hT
   have ec := e36 c d (hea c (List.mem_of_getElem? gc)) (hea' d (List.mem_of_getElem? gd))
   by_cases hv : c.p = d.p
   · rw [decide_eq_true hv] at ec
     have hT2 := hq.1 hv
     obtain ⟨xid, xl, xo, xi, xpk, xpz, xps⟩ := c
     obtain ⟨yid, yl, yo, yi, ypk, ypz, yps⟩ := d
     simp only [Lk.c] at ec
     (repeat' (first | with_reducible refine zab ?_ | simp only [go_sem, J0, reduceIte, reduceCtorEq, Ja, Jb, Jc, Jd, Je, Jf, Jg, Jh, Ji, Jj, Jk, Jl, Jm, Jn, Jo, Jp, Jq, Jr, Js, g1, b1, gc, gd, hv1, hv2, he1, he2, Lk.c, s36, ec, hw, List.length_map]))
     exact ⟨i + 1, rfl, ⟨by omega, hT2⟩, by omega⟩
   · rw [decide_eq_false hv] at ec
     have d4 : decide (vs.map Vx.p = vs'.map Vx.p ∧ es.map Lk.p = es'.map Lk.p ∧ last = last') = false := decide_eq_false fun h => hq.2 hv h.2.1
     obtain ⟨xid, xl, xo, xi, xpk, xpz, xps⟩ := c
     obtain ⟨yid, yl, yo, yi, ypk, ypz, yps⟩ := d
     simp only [Lk.c] at ec
     (repeat' (first | with_reducible refine zab ?_ | simp only [go_sem, J0, reduceIte, reduceCtorEq, Ja, Jb, Jc, Jd, Je, Jf, Jg, Jh, Ji, Jj, Jk, Jl, Jm, Jn, Jo, Jp, Jq, Jr, Js, g1, b1, gc, gd, hv1, hv2, he1, he2, Lk.c, s36, ec, hw, d4, List.length_map]))
 have g1 : decide ((i : Int) < (es.length : Int)) = false := decide_eq_false (by omega)
 rw [List.drop_of_length_le (by omega), List.drop_of_length_le (by omega)] at hT
 have d4 : decide (vs.map Vx.p = vs'.map Vx.p ∧ es.map Lk.p = es'.map Lk.p ∧ last = last') = true := decide_eq_true ⟨hV, hT.1 rfl, hlast⟩
 (repeat' (first | with_reducible refine zab ?_ | simp only [go_sem, J0, reduceIte, reduceCtorEq, Ja, Jb, Jc, Jd, Je, Jf, Jg, Jh, Ji, Jj, Jk, Jl, Jm, Jn, Jo, Jp, Jq, Jr, Js, g1, d4, List.length_map]))
end
section
theorem e5 : acall S 5 [] = some (.b true, []) := zsz 80 30 (by kernel_rfl)
end
section
theorem zy3 {g : PG} {kd n : Int} {nm : List UInt8} {v : PV} (hg : okG g = true) : okG (setG g kd n nm v).1 = true ∧ (setG g kd n nm v).1.last = g.last := by
 unfold setG
 rw [if_pos hg]
 cases hpl : zee g kd n with
 | none => exact ⟨hg, rfl⟩
 | some p =>
   simp only
   have hp := zho hpl
   obtain ⟨hb, hl16⟩ := zdg.1 (zql hg hp)
   split
   · rename_i hn
     split
     · rename_i hv
       split
       · rename_i hlen
         exact ⟨zue p hg (zdg.2 ⟨zn2 hn hv hb rfl, hlen⟩), by cases p <;> rfl⟩
       · exact ⟨hg, rfl⟩
     · exact ⟨hg, rfl⟩
   · exact ⟨hg, rfl⟩
theorem zst {g : PG} {kd n : Int} {nm : List UInt8} (hg : okG g = true) : okG (zgu g kd n nm).1 = true ∧ (zgu g kd n nm).1.last = g.last := by
 unfold zgu
 rw [if_pos hg]
 cases hpl : zee g kd n with
 | none => exact ⟨hg, rfl⟩
 | some p =>
   simp only
   have hp := zho hpl
   obtain ⟨hb, hl16⟩ := zdg.1 (zql hg hp)
   exact ⟨zue p hg (zdg.2 ⟨zjm hb, Nat.le_trans (zwv ..) hl16⟩), by cases p <;> rfl⟩
structure Opx where
 d : Int
 lab : List UInt8
 o : Int
 i : Int
 el : Vl
 v : Vl
def Opx.c (x : Opx) : List AV := [.i .i64 x.d, .str x.lab, .i .i64 x.o, .i .i64 x.i] ++ (x.el.c ++ x.v.c)
def Opx.ok (x : Opx) : Prop := x.lab.length ≤ 137438953472 ∧ x.el.ok ∧ x.v.ok
open Classical in
theorem z0f {g : Gr} (h : g.ok) (hc : okG g.p = true) {op : Opx} (ho : op.ok) :
   ∃ (x : Gr) (b : Bool), acall S 6 [.agg g.c, .agg op.c] = some (.tup [.agg x.c, .b b], []) ∧ x.ok ∧ okG x.p = true ∧ g.last ≤ x.last := by
 suffices hW : W (acall S 6 [.agg g.c, .agg op.c]) (fun r => ∃ (x : Gr) (b : Bool), r = (.tup [.agg x.c, .b b], []) ∧ x.ok ∧ okG x.p = true ∧ g.last ≤ x.last) by
   obtain ⟨r, h1, x, b, rfl, h2⟩ := hW
   exact ⟨x, b, h1, h2⟩
 obtain ⟨d, lab, o, i, el, v⟩ := op
 obtain ⟨hlab, hel, hv⟩ := ho
 simp only at hlab hel hv
 have hec0 : el = el := rfl
 obtain ⟨kd, n, s, kk, z, ls⟩ := el
 by_cases d0 : d = 0
 · subst d0
   obtain ⟨x, n1, e1, c1, hx, hxo⟩ := zzu h hlab
   obtain ⟨y, n2, e2, c2, hy⟩ := z3m h hlab
   have hs := e10 x y hx hy
   generalize decide (x.p = y.p) = b1 at hs
   obtain ⟨yk, ym, ys, ykk, yz, yll⟩ := v
   simp only [Gr.c] at c1 c2 hs
   simp only [Opx.c, Gr.c, Vl.c, Vl.cs_map, List.cons_append, List.nil_append]
   refine g6 rfl ?_
   (simp only [go_sem, J0, reduceIte, reduceCtorEq, Ja, Jb, Jc, Jd, Je, Jf, Jg, Jh, Ji, Jj, Jk, Jl, Jm, Jn, Jo, Jp, Jq, Jr, Js, a6, s13, c1, s20, c2, s10, hs]; repeat' (first | (first | refine zbc (fun hh => ?_) (fun hh => ?_) | refine zbp (fun hh => ?_) (fun hh => ?_) | refine zbs (fun hh => ?_) (fun hh => ?_) | refine zco (fun hh => ?_) (fun hh => ?_) | refine za9 (fun hh => ?_) (fun hh => ?_) | refine zbr (fun hh => ?_) (fun hh => ?_) | refine zbt (fun hh => ?_) (fun hh => ?_) | refine zbb (fun hh => ?_) (fun hh => ?_) | refine za7 (fun hh => ?_) (fun hh => ?_) | refine za1 (fun hh => ?_) (fun hh => ?_)) <;> (try simp only [go_sem, J0, reduceIte, reduceCtorEq, Ja, Jb, Jc, Jd, Je, Jf, Jg, Jh, Ji, Jj, Jk, Jl, Jm, Jn, Jo, Jp, Jq, Jr, Js, a6, s13, c1, s20, c2, s10, hs, hh]) | (first | refine zbd (by omega) ?_ | refine za0 (by omega) ?_ | refine zaq (by omega) ?_ | refine zao (by omega) ?_ | refine zbo (by omega) ?_ | refine zba (by omega) ?_ | refine za8 (by omega) ?_ | refine zaz (by omega) ?_ | refine zbq (by omega) ?_ | refine zab ?_ | refine zan ?_ | refine zap ?_ | refine zak ?_) <;> (try simp only [go_sem, J0, reduceIte, reduceCtorEq, Ja, Jb, Jc, Jd, Je, Jf, Jg, Jh, Ji, Jj, Jk, Jl, Jm, Jn, Jo, Jp, Jq, Jr, Js, a6, s13, c1, s20, c2, s10, hs]) | (show @Eq Nat _ _; omega) | (show @LE.le Nat _ _ _; omega)))
   all_goals exact ⟨x, _, rfl, hx, hxo hc⟩
 by_cases d1 : d = 1
 · subst d1
   obtain ⟨x, n1, e1, c1, hx, hxo⟩ := zzp h hlab o i
   obtain ⟨y, n2, e2, c2, hy⟩ := z6l h hlab o i
   have hs := e10 x y hx hy
   generalize decide (x.p = y.p) = b1 at hs
   obtain ⟨yk, ym, ys, ykk, yz, yll⟩ := v
   simp only [Gr.c] at c1 c2 hs
   simp only [Opx.c, Gr.c, Vl.c, Vl.cs_map, List.cons_append, List.nil_append]
   refine g6 rfl ?_
   (simp only [go_sem, J0, reduceIte, reduceCtorEq, Ja, Jb, Jc, Jd, Je, Jf, Jg, Jh, Ji, Jj, Jk, Jl, Jm, Jn, Jo, Jp, Jq, Jr, Js, a6, s14, c1, s21, c2, s10, hs]; repeat' (first | (first | refine zbc (fun hh => ?_) (fun hh => ?_) | refine zbp (fun hh => ?_) (fun hh => ?_) | refine zbs (fun hh => ?_) (fun hh => ?_) | refine zco (fun hh => ?_) (fun hh => ?_) | refine za9 (fun hh => ?_) (fun hh => ?_) | refine zbr (fun hh => ?_) (fun hh => ?_) | refine zbt (fun hh => ?_) (fun hh => ?_) | refine zbb (fun hh => ?_) (fun hh => ?_) | refine za7 (fun hh => ?_) (fun hh => ?_) | refine za1 (fun hh => ?_) (fun hh => ?_)) <;> (try simp only [go_sem, J0, reduceIte, reduceCtorEq, Ja, Jb, Jc, Jd, Je, Jf, Jg, Jh, Ji, Jj, Jk, Jl, Jm, Jn, Jo, Jp, Jq, Jr, Js, a6, s14, c1, s21, c2, s10, hs, hh]) | (first | refine zbd (by omega) ?_ | refine za0 (by omega) ?_ | refine zaq (by omega) ?_ | refine zao (by omega) ?_ | refine zbo (by omega) ?_ | refine zba (by omega) ?_ | refine za8 (by omega) ?_ | refine zaz (by omega) ?_ | refine zbq (by omega) ?_ | refine zab ?_ | refine zan ?_ | refine zap ?_ | refine zak ?_) <;> (try simp only [go_sem, J0, reduceIte, reduceCtorEq, Ja, Jb, Jc, Jd, Je, Jf, Jg, Jh, Ji, Jj, Jk, Jl, Jm, Jn, Jo, Jp, Jq, Jr, Js, a6, s14, c1, s21, c2, s10, hs]) | (show @Eq Nat _ _; omega) | (show @LE.le Nat _ _ _; omega)))
   all_goals exact ⟨x, _, rfl, hx, hxo hc⟩
 by_cases d2 : d = 2
 · subst d2
   obtain ⟨x, e1, c1, hx, hxe⟩ := setX h hv hlab hec0
   have hxo : okG x.p = true ∧ g.last ≤ x.last := by
     have := zy3 (kd := kd) (n := n) (nm := lab) (v := v.p) hc
     rw [← congrArg Prod.fst hxe] at this
     exact ⟨this.1, Int.le_of_eq this.2.symm⟩
   obtain ⟨y, e2, c2, hy⟩ := r_Set h (kd := kd) (n := n) (s := s) (kk := kk) (z := z) (ll := ls.map Vl.c) hv hlab
   have hs := e10 x y hx hy
   generalize decide (x.p = y.p) = b1 at hs
   obtain ⟨yk, ym, ys, ykk, yz, yll⟩ := v
   simp only [Gr.c, Vl.c, Vl.cs_map] at c1 c2 hs
   simp only [Opx.c, Gr.c, Vl.c, Vl.cs_map, List.cons_append, List.nil_append]
   refine g6 rfl ?_
   (simp only [go_sem, J0, reduceIte, reduceCtorEq, Ja, Jb, Jc, Jd, Je, Jf, Jg, Jh, Ji, Jj, Jk, Jl, Jm, Jn, Jo, Jp, Jq, Jr, Js, a6, s22, c1, s23, c2, s10, hs]; repeat' (first | (first | refine zbc (fun hh => ?_) (fun hh => ?_) | refine zbp (fun hh => ?_) (fun hh => ?_) | refine zbs (fun hh => ?_) (fun hh => ?_) | refine zco (fun hh => ?_) (fun hh => ?_) | refine za9 (fun hh => ?_) (fun hh => ?_) | refine zbr (fun hh => ?_) (fun hh => ?_) | refine zbt (fun hh => ?_) (fun hh => ?_) | refine zbb (fun hh => ?_) (fun hh => ?_) | refine za7 (fun hh => ?_) (fun hh => ?_) | refine za1 (fun hh => ?_) (fun hh => ?_)) <;> (try simp only [go_sem, J0, reduceIte, reduceCtorEq, Ja, Jb, Jc, Jd, Je, Jf, Jg, Jh, Ji, Jj, Jk, Jl, Jm, Jn, Jo, Jp, Jq, Jr, Js, a6, s22, c1, s23, c2, s10, hs, hh]) | (first | refine zbd (by omega) ?_ | refine za0 (by omega) ?_ | refine zaq (by omega) ?_ | refine zao (by omega) ?_ | refine zbo (by omega) ?_ | refine zba (by omega) ?_ | refine za8 (by omega) ?_ | refine zaz (by omega) ?_ | refine zbq (by omega) ?_ | refine zab ?_ | refine zan ?_ | refine zap ?_ | refine zak ?_) <;> (try simp only [go_sem, J0, reduceIte, reduceCtorEq, Ja, Jb, Jc, Jd, Je, Jf, Jg, Jh, Ji, Jj, Jk, Jl, Jm, Jn, Jo, Jp, Jq, Jr, Js, a6, s22, c1, s23, c2, s10, hs]) | (show @Eq Nat _ _; omega) | (show @LE.le Nat _ _ _; omega)))
   all_goals exact ⟨x, _, rfl, hx, hxo⟩
 by_cases d3 : d = 3
 · subst d3
   obtain ⟨x, b1', e1, c1, hx, hxe⟩ := z5k h (name := lab) hec0
   have hxo : okG x.p = true ∧ g.last ≤ x.last := by
     have := zst (kd := kd) (n := n) (nm := lab) hc
     rw [← congrArg Prod.fst hxe] at this
     exact ⟨this.1, Int.le_of_eq this.2.symm⟩
   obtain ⟨y, b2', e2, c2, hy⟩ := z0d h (kd := kd) (n := n) (s := s) (kk := kk) (z := z) (ll := ls.map Vl.c) (name := lab)
   have hs := e10 x y hx hy
   generalize decide (x.p = y.p) = b1 at hs
   obtain ⟨yk, ym, ys, ykk, yz, yll⟩ := v
   simp only [Gr.c, Vl.c, Vl.cs_map] at c1 c2 hs
   simp only [Opx.c, Gr.c, Vl.c, Vl.cs_map, List.cons_append, List.nil_append]
   refine g6 rfl ?_
   (simp only [go_sem, J0, reduceIte, reduceCtorEq, Ja, Jb, Jc, Jd, Je, Jf, Jg, Jh, Ji, Jj, Jk, Jl, Jm, Jn, Jo, Jp, Jq, Jr, Js, a6, s24, c1, s25, c2, s10, hs]; repeat' (first | (first | refine zbc (fun hh => ?_) (fun hh => ?_) | refine zbp (fun hh => ?_) (fun hh => ?_) | refine zbs (fun hh => ?_) (fun hh => ?_) | refine zco (fun hh => ?_) (fun hh => ?_) | refine za9 (fun hh => ?_) (fun hh => ?_) | refine zbr (fun hh => ?_) (fun hh => ?_) | refine zbt (fun hh => ?_) (fun hh => ?_) | refine zbb (fun hh => ?_) (fun hh => ?_) | refine za7 (fun hh => ?_) (fun hh => ?_) | refine za1 (fun hh => ?_) (fun hh => ?_)) <;> (try simp only [go_sem, J0, reduceIte, reduceCtorEq, Ja, Jb, Jc, Jd, Je, Jf, Jg, Jh, Ji, Jj, Jk, Jl, Jm, Jn, Jo, Jp, Jq, Jr, Js, a6, s24, c1, s25, c2, s10, hs, hh]) | (first | refine zbd (by omega) ?_ | refine za0 (by omega) ?_ | refine zaq (by omega) ?_ | refine zao (by omega) ?_ | refine zbo (by omega) ?_ | refine zba (by omega) ?_ | refine za8 (by omega) ?_ | refine zaz (by omega) ?_ | refine zbq (by omega) ?_ | refine zab ?_ | refine zan ?_ | refine zap ?_ | refine zak ?_) <;> (try simp only [go_sem, J0, reduceIte, reduceCtorEq, Ja, Jb, Jc, Jd, Je, Jf, Jg, Jh, Ji, Jj, Jk, Jl, Jm, Jn, Jo, Jp, Jq, Jr, Js, a6, s24, c1, s25, c2, s10, hs]) | (show @Eq Nat _ _; omega) | (show @LE.le Nat _ _ _; omega)))
   all_goals exact ⟨x, _, rfl, hx, hxo⟩
 obtain ⟨x, e1, c1, hx, hxo⟩ := zzr h (kd := kd) (n := n) (s := s) (kk := kk) (z := z) (ll := ls.map Vl.c)
 obtain ⟨y, e2, c2, hy⟩ := z61 h (kd := kd) (n := n) (s := s) (kk := kk) (z := z) (ll := ls.map Vl.c)
 have hs := e10 x y hx hy
 generalize decide (x.p = y.p) = b1 at hs
 obtain ⟨yk, ym, ys, ykk, yz, yll⟩ := v
 simp only [Gr.c, Vl.c, Vl.cs_map] at c1 c2 hs
 have q0 : decide (d = 0) = false := decide_eq_false d0
 have q1 : decide (d = 1) = false := decide_eq_false d1
 have q2 : decide (d = 2) = false := decide_eq_false d2
 have q3 : decide (d = 3) = false := decide_eq_false d3
 simp only [Opx.c, Gr.c, Vl.c, Vl.cs_map, List.cons_append, List.nil_append]
 refine g6 rfl ?_
 (simp only [go_sem, J0, reduceIte, reduceCtorEq, Ja, Jb, Jc, Jd, Je, Jf, Jg, Jh, Ji, Jj, Jk, Jl, Jm, Jn, Jo, Jp, Jq, Jr, Js, a6, s18, c1, s26, c2, s10, hs, q0, q1, q2, q3]; repeat' (first | (first | refine zbc (fun hh => ?_) (fun hh => ?_) | refine zbp (fun hh => ?_) (fun hh => ?_) | refine zbs (fun hh => ?_) (fun hh => ?_) | refine zco (fun hh => ?_) (fun hh => ?_) | refine za9 (fun hh => ?_) (fun hh => ?_) | refine zbr (fun hh => ?_) (fun hh => ?_) | refine zbt (fun hh => ?_) (fun hh => ?_) | refine zbb (fun hh => ?_) (fun hh => ?_) | refine za7 (fun hh => ?_) (fun hh => ?_) | refine za1 (fun hh => ?_) (fun hh => ?_)) <;> (try simp only [go_sem, J0, reduceIte, reduceCtorEq, Ja, Jb, Jc, Jd, Je, Jf, Jg, Jh, Ji, Jj, Jk, Jl, Jm, Jn, Jo, Jp, Jq, Jr, Js, a6, s18, c1, s26, c2, s10, hs, q0, q1, q2, q3, hh]) | (first | refine zbd (by omega) ?_ | refine za0 (by omega) ?_ | refine zaq (by omega) ?_ | refine zao (by omega) ?_ | refine zbo (by omega) ?_ | refine zba (by omega) ?_ | refine za8 (by omega) ?_ | refine zaz (by omega) ?_ | refine zbq (by omega) ?_ | refine zab ?_ | refine zan ?_ | refine zap ?_ | refine zak ?_) <;> (try simp only [go_sem, J0, reduceIte, reduceCtorEq, Ja, Jb, Jc, Jd, Je, Jf, Jg, Jh, Ji, Jj, Jk, Jl, Jm, Jn, Jo, Jp, Jq, Jr, Js, a6, s18, c1, s26, c2, s10, hs, q0, q1, q2, q3]) | (show @Eq Nat _ _; omega) | (show @LE.le Nat _ _ _; omega)))
 all_goals exact ⟨x, _, rfl, hx, hxo hc⟩
theorem g0_ok : (⟨.nil, 0, [], .nil, 0, [], 0⟩ : Gr).ok := ⟨⟨.inr rfl, fun _ => rfl⟩, ⟨.inr rfl, fun _ => rfl⟩, by simp, by simp, by simp, by simp⟩
theorem zr5 {k : SK} {l : List Opx} (hl : l.length ≤ 137438953472) (ho : ∀ x ∈ l, x.ok) : acall S 3 [.sl k 12 (l.map Opx.c)] = some (.b true, []) := by
 have hbg := e5
 refine W_eq (g3 rfl ?_)
 (repeat' (first | with_reducible refine zab ?_ | simp only [go_sem, J0, reduceIte, reduceCtorEq, Ja, Jb, Jc, Jd, Je, Jf, Jg, Jh, Ji, Jj, Jk, Jl, Jm, Jn, Jo, Jp, Jq, Jr, Js, a3, s5, hbg, List.length_map]))
 refine zag (ι := Nat × Gr) (fun y => [.bx y.2.c, .sl k 12 (l.map Opx.c), .i .i64 l.length, .i .i64 y.1]) (fun y => y.1 ≤ l.length ∧ y.2.ok ∧ okG y.2.p = true) (fun y => l.length - y.1) (0, ⟨.nil, 0, [], .nil, 0, [], 0⟩) rfl ⟨Nat.zero_le _, g0_ok, by decide⟩ ?_
 rintro ⟨i, g⟩ ⟨hi, hg, hc⟩
 simp only at hi hg hc ⊢
 by_cases hlt : i < l.length
 · obtain ⟨op, gx⟩ := zbe hlt
   have hop := ho op (List.mem_of_getElem? gx)
   have hw := wrap_succ (k := i) (by omega)
   have hbt : decide ((i : Int) < (l.length : Int)) = true := decide_eq_true (by omega)
   have b1 : (0 : Int) ≤ (i : Int) := by omega
   obtain ⟨x, b, ed, hx, hxc, hlast⟩ := z0f hg hc hop
   have hck := e7 x hx
   rw [hxc] at hck
   have hll : decide (x.last < g.last) = false := decide_eq_false (by omega)
   obtain ⟨d, lab, o, j, el, v⟩ := op
   obtain ⟨kd, n, s, kk, z, ls⟩ := el
   obtain ⟨yk, ym, ys, ykk, yz, yll⟩ := v
   simp only [Opx.c, Gr.c, Vl.c, Vl.cs_map, List.cons_append, List.nil_append] at ed hck
   (repeat' (first | with_reducible refine zab ?_ | simp only [go_sem, J0, reduceIte, reduceCtorEq, Ja, Jb, Jc, Jd, Je, Jf, Jg, Jh, Ji, Jj, Jk, Jl, Jm, Jn, Jo, Jp, Jq, Jr, Js, hbt, b1, gx, Opx.c, Gr.c, Vl.c, Vl.cs_map, s6, ed, s7, hck, hll, hw, List.length_map]))
   exact ⟨(i + 1, x), rfl, ⟨by omega, hx, hxc⟩, by simp only; omega⟩
 · have hbf : decide ((i : Int) < (l.length : Int)) = false := decide_eq_false (by omega)
   (repeat' (first | with_reducible refine zab ?_ | simp only [go_sem, J0, reduceIte, reduceCtorEq, Ja, Jb, Jc, Jd, Je, Jf, Jg, Jh, Ji, Jj, Jk, Jl, Jm, Jn, Jo, Jp, Jq, Jr, Js, hbf]))
end
end Go.Proofs.YtgeaibhgaihobaaGreatDoor
