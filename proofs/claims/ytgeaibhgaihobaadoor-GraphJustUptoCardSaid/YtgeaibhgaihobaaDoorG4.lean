import Derived.Test.YtgeaibhgaihobaaDoorG3
set_option linter.unusedSimpArgs false
set_option linter.unusedVariables false
set_option maxHeartbeats 8000000
set_option maxRecDepth 100000
namespace Go.Proofs.YtgeaibhgaihobaaDoor
open Go.Abs
open Nat renaming add_assoc → J0, reduceEqDiff → Ja, reduceAdd → Jb, reduceMul → Jc, reduceSub → Jd, reduceLeDiff → Je, reduceLT → Jf, reduceBEq → Jg, reduceBNe → Jh
open Int renaming reduceLE → Ji, reduceLT → Jj, reduceToNat → Jk, reduceEq → Jl, reduceNe → Jm, reduceNeg → Jn, reduceAdd → Jo, reduceSub → Jp, reduceMul → Jq, cast_ofNat_Int → Jr, natCast_zero → Js
def bvx (last top id : Int) (lab : List UInt8) (bp : Bool) : Bool := decide (id ≤ last) || (decide (top < id) || (!nameB lab || bp))
def badVx (last top : Int) (v : PVx) : Bool := bvx last top v.id v.label (badProps v.props)
def badVs (top : Int) : Int → List PVx → Bool
  | _, [] => false
  | last, v :: r => badVx last top v || badVs top v.id r
def blk (last top id : Int) (lab : List UInt8) (bp i0 i1 i2 : Bool) : Bool := decide (id ≤ last) || (decide (top < id) || (!nameB lab || (bp || (i0 || (!i1 || !i2)))))
def badLk (ids : Int → Bool) (last top : Int) (e : PLk) : Bool := blk last top e.id e.label (badProps e.props) (ids e.id) (ids e.out) (ids e.inn)
def badEs (ids : Int → Bool) (top : Int) : Int → List PLk → Bool
  | _, [] => false
  | last, e :: r => badLk ids last top e || badEs ids top e.id r
def idsOf (vs : List PVx) (n : Int) : Bool := vs.any fun v => v.id == n
def bigN (last nv ne : Int) : Bool := decide (last < 0) || (decide ((281474976710656 : Int) < last) || (decide ((2048 : Int) < nv) || decide ((2048 : Int) < ne)))
def tooBig (g : PG) : Bool := bigN g.last g.v.length g.e.length
def okG (g : PG) : Bool := !tooBig g && (!badVs g.last 0 g.v && !badEs (idsOf g.v) g.last 0 g.e)
def idC (v : Vx) : List AV := [.i .i64 v.id, .b true]
theorem findM_ids (n : Int) : ∀ (l : List Vx) (i : Nat), ∃ r, findM .int (.i .i64 n) (l.map idC) i = some r ∧ foundV (.b false) false r = .b (idsOf (l.map Vx.p) n) ∧ (idsOf (l.map Vx.p) n = false → r = none)
  | [], i => ⟨none, rfl, rfl, fun _ => rfl⟩
  | v :: l, i => by
    obtain ⟨r, h1, h2, h3⟩ := findM_ids n l (i + 1)
    simp only [List.map_cons, idC, findM, keyEq, ask_true, bnd_some]
    by_cases h : n = v.id
    · subst h
      refine ⟨some (i, .b true), by simp, ?_, ?_⟩
      · simp [foundV, idsOf, Vx.p]
      · simp [idsOf, Vx.p]
    · have hb : (n == v.id) = false := by simp [h]
      have hb2 : (v.id == n) = false := by simp [Ne.symm h]
      refine ⟨r, by rw [hb]; exact h1, ?_, ?_⟩
      · rw [h2]
        simp only [idsOf, List.any_cons, Vx.p, hb2, Bool.false_or]
      · intro hx
        refine h3 ?_
        simpa only [idsOf, List.any_cons, Vx.p, hb2, Bool.false_or] using hx
def lastV (l : List Vx) : Nat → Int
  | 0 => 0
  | i + 1 => ((l[i]?).map (·.id)).getD 0
def lastE (l : List Lk) : Nat → Int
  | 0 => 0
  | i + 1 => ((l[i]?).map (·.id)).getD 0
theorem drop_cons {α : Type} {l : List α} {i : Nat} {x : α} (h : l[i]? = some x) : l.drop i = x :: l.drop (i + 1) := by
  have hlt := (List.getElem?_eq_some_iff.1 h).1
  rw [List.drop_eq_getElem_cons hlt, (List.getElem?_eq_some_iff.1 h).2]
theorem badVs_drop {l : List Vx} {i : Nat} {x : Vx} {top : Int} (h : l[i]? = some x) : badVs top (lastV l i) ((l.drop i).map Vx.p) = (badVx (lastV l i) top x.p || badVs top (lastV l (i + 1)) ((l.drop (i + 1)).map Vx.p)) := by
  rw [drop_cons h]
  simp only [List.map_cons, badVs, lastV, h, Option.map_some, Option.getD_some]
  rfl
theorem badEs_drop {ids : Int → Bool} {l : List Lk} {i : Nat} {x : Lk} {top : Int} (h : l[i]? = some x) : badEs ids top (lastE l i) ((l.drop i).map Lk.p) = (badLk ids (lastE l i) top x.p || badEs ids top (lastE l (i + 1)) ((l.drop (i + 1)).map Lk.p)) := by
  rw [drop_cons h]
  simp only [List.map_cons, badEs, lastE, h, Option.map_some, Option.getD_some]
  rfl
theorem e6 (g : Gr) (h : g.ok) : acall S 6 [.agg g.c] = some (.i .i64 (if okG g.p then 0 else 103), []) := by
  have hv1 := h.v.1
  have he1 := h.e.1
  have hvl := h.vl
  have hel := h.el
  obtain ⟨vk, vz, vs, ek, ez, es, last⟩ := g
  simp only at hv1 he1 hvl hel
  have hva := h.va
  have hea := h.ea
  simp only at hva hea
  refine W_eq (g6 rfl ?_)
  cases htb : tooBig (Gr.p ⟨vk, vz, vs, ek, ez, es, last⟩) with
  | true =>
    simp only [okG, htb, Bool.not_true, Bool.false_and]
    simp only [tooBig, Gr.p, List.length_map] at htb
    unfold bigN at htb
    cases t1 : decide (last < 0) with
    | true => (repeat' (first | (with_reducible first | refine kont_next ?_ | refine lkont_next ?_ | refine kont_nextn ?_ | refine ikont_next ?_ | refine ikont_nextn ?_) | simp only [go_sem, J0, reduceIte, reduceCtorEq, Ja, Jb, Jc, Jd, Je, Jf, Jg, Jh, Ji, Jj, Jk, Jl, Jm, Jn, Jo, Jp, Jq, Jr, Js, a6, Gr.c, t1]))
    | false =>
      rw [t1, Bool.false_or] at htb
      cases t2 : decide ((281474976710656 : Int) < last) with
      | true => (repeat' (first | (with_reducible first | refine kont_next ?_ | refine lkont_next ?_ | refine kont_nextn ?_ | refine ikont_next ?_ | refine ikont_nextn ?_) | simp only [go_sem, J0, reduceIte, reduceCtorEq, Ja, Jb, Jc, Jd, Je, Jf, Jg, Jh, Ji, Jj, Jk, Jl, Jm, Jn, Jo, Jp, Jq, Jr, Js, a6, Gr.c, t1, t2]))
      | false =>
        rw [t2, Bool.false_or] at htb
        cases t3 : decide ((2048 : Int) < (vs.length : Int)) with
        | true => (repeat' (first | (with_reducible first | refine kont_next ?_ | refine lkont_next ?_ | refine kont_nextn ?_ | refine ikont_next ?_ | refine ikont_nextn ?_) | simp only [go_sem, J0, reduceIte, reduceCtorEq, Ja, Jb, Jc, Jd, Je, Jf, Jg, Jh, Ji, Jj, Jk, Jl, Jm, Jn, Jo, Jp, Jq, Jr, Js, a6, Gr.c, t1, t2, t3, List.length_map]))
        | false =>
          rw [t3, Bool.false_or] at htb
          (repeat' (first | (with_reducible first | refine kont_next ?_ | refine lkont_next ?_ | refine kont_nextn ?_ | refine ikont_next ?_ | refine ikont_nextn ?_) | simp only [go_sem, J0, reduceIte, reduceCtorEq, Ja, Jb, Jc, Jd, Je, Jf, Jg, Jh, Ji, Jj, Jk, Jl, Jm, Jn, Jo, Jp, Jq, Jr, Js, a6, Gr.c, t1, t2, t3, htb, List.length_map]))
  | false =>
    simp only [okG, htb, Bool.not_false, Bool.true_and]
    simp only [Gr.p]
    simp only [tooBig, Gr.p, List.length_map] at htb
    unfold bigN at htb
    simp only [Bool.or_eq_false_iff] at htb
    obtain ⟨t1, t2, t3, t4⟩ := htb
    (repeat' (first | (with_reducible first | refine kont_next ?_ | refine lkont_next ?_ | refine kont_nextn ?_ | refine ikont_next ?_ | refine ikont_nextn ?_) | simp only [go_sem, J0, reduceIte, reduceCtorEq, Ja, Jb, Jc, Jd, Je, Jf, Jg, Jh, Ji, Jj, Jk, Jl, Jm, Jn, Jo, Jp, Jq, Jr, Js, a6, Gr.c, t1, t2, t3, t4, List.length_map]))
    refine kloop_inv (ι := Nat) (fun i => [.bx [.sl vk vz (vs.map Vx.c), .sl ek ez (es.map Lk.c), .i .i64 last], .om ((vs.take i).map idC), .i .i64 (lastV vs i), .sl vk vz (vs.map Vx.c), .i .i64 vs.length, .i .i64 i])
      (fun i => i ≤ vs.length ∧ badVs last 0 (vs.map Vx.p) = badVs last (lastV vs i) ((vs.drop i).map Vx.p) ∧ ∀ v ∈ vs.take i, v.id ≤ lastV vs i) (fun i => vs.length - i) 0 rfl ⟨Nat.zero_le _, rfl, by simp⟩ ?_
    rintro i ⟨hi, hT, hids⟩
    by_cases hlt : i < vs.length
    · obtain ⟨x, gx⟩ := get_lt hlt
      have hx := hva x (List.mem_of_getElem? gx)
      have hw := wrap_succ (k := i) (by omega)
      have hbt : decide ((i : Int) < (vs.length : Int)) = true := decide_eq_true (by omega)
      have b1 : (0 : Int) ≤ (i : Int) := by omega
      have hLL : x.label.length ≤ LIM := by have := hx.lab; simp [LIM]; omega
      have en := e22 x.label hLL
      have ep := e23 hx.ps
      rw [badVs_drop gx] at hT
      have hlast : lastV vs (i + 1) = x.id := by simp only [lastV, gx, Option.map_some, Option.getD_some]
      rw [hlast] at hT
      generalize hlv : lastV vs i = lv at hT hids
      obtain ⟨r, r1, r2, r3⟩ := findM_ids x.id (vs.take i) 0
      have hsn : (vs.take (i + 1)).map idC = (vs.take i).map idC ++ [[.i .i64 x.id, .b true]] := by rw [take_map_snoc gx]; rfl
      have htk : ∀ v ∈ vs.take (i + 1), v = x ∨ v ∈ vs.take i := fun v hv => by
        rw [take_get gx] at hv
        rcases List.mem_append.1 hv with hv | hv
        · exact .inr hv
        · exact .inl (by simpa using hv)
      obtain ⟨xid, xl, xpk, xpz, xps⟩ := x
      simp only [Vx.p, badVx] at hT en ep r1 r2 r3 hsn hlast htk
      unfold bvx at hT
      cases q1 : decide (xid ≤ lv) with
      | true =>
        rw [q1, Bool.true_or, Bool.true_or] at hT
        rw [hT]
        (repeat' (first | (with_reducible first | refine kont_next ?_ | refine lkont_next ?_ | refine kont_nextn ?_ | refine ikont_next ?_ | refine ikont_nextn ?_) | simp only [go_sem, J0, reduceIte, reduceCtorEq, Ja, Jb, Jc, Jd, Je, Jf, Jg, Jh, Ji, Jj, Jk, Jl, Jm, Jn, Jo, Jp, Jq, Jr, Js, hbt, hv1, b1, gx, Vx.c, s22, en, hw, s23, ep, q1]))
      | false =>
        rw [q1, Bool.false_or] at hT
        cases q2 : decide (last < xid) with
        | true =>
          rw [q2, Bool.true_or, Bool.true_or] at hT
          rw [hT]
          (repeat' (first | (with_reducible first | refine kont_next ?_ | refine lkont_next ?_ | refine kont_nextn ?_ | refine ikont_next ?_ | refine ikont_nextn ?_) | simp only [go_sem, J0, reduceIte, reduceCtorEq, Ja, Jb, Jc, Jd, Je, Jf, Jg, Jh, Ji, Jj, Jk, Jl, Jm, Jn, Jo, Jp, Jq, Jr, Js, hbt, hv1, b1, gx, Vx.c, s22, en, hw, s23, ep, q1, q2]))
        | false =>
          rw [q2, Bool.false_or] at hT
          cases q3 : nameB xl with
          | false =>
            rw [q3] at en
            rw [q3, Bool.not_false, Bool.true_or, Bool.true_or] at hT
            rw [hT]
            (repeat' (first | (with_reducible first | refine kont_next ?_ | refine lkont_next ?_ | refine kont_nextn ?_ | refine ikont_next ?_ | refine ikont_nextn ?_) | simp only [go_sem, J0, reduceIte, reduceCtorEq, Ja, Jb, Jc, Jd, Je, Jf, Jg, Jh, Ji, Jj, Jk, Jl, Jm, Jn, Jo, Jp, Jq, Jr, Js, hbt, hv1, b1, gx, Vx.c, s22, en, hw, s23, ep, q1, q2]))
          | true =>
            rw [q3] at en
            rw [q3, Bool.not_true, Bool.false_or] at hT
            cases q4 : badProps (xps.map tagP) with
            | true =>
              rw [q4] at ep
              rw [q4, Bool.true_or] at hT
              rw [hT]
              (repeat' (first | (with_reducible first | refine kont_next ?_ | refine lkont_next ?_ | refine kont_nextn ?_ | refine ikont_next ?_ | refine ikont_nextn ?_) | simp only [go_sem, J0, reduceIte, reduceCtorEq, Ja, Jb, Jc, Jd, Je, Jf, Jg, Jh, Ji, Jj, Jk, Jl, Jm, Jn, Jo, Jp, Jq, Jr, Js, hbt, hv1, b1, gx, Vx.c, s22, en, hw, s23, ep, q1, q2]))
            | false =>
              rw [q4] at ep
              rw [q4, Bool.false_or] at hT
              have q1' := of_decide_eq_false q1
              have hno : idsOf ((vs.take i).map Vx.p) xid = false := by
                unfold idsOf
                rw [List.any_eq_false]
                intro p hp
                obtain ⟨v, hv, rfl⟩ := List.mem_map.1 hp
                have := hids v hv
                simp only [Vx.p, beq_iff_eq]
                omega
              have hr := r3 hno
              subst hr
              (repeat' (first | (with_reducible first | refine kont_next ?_ | refine lkont_next ?_ | refine kont_nextn ?_ | refine ikont_next ?_ | refine ikont_nextn ?_) | simp only [go_sem, J0, reduceIte, reduceCtorEq, Ja, Jb, Jc, Jd, Je, Jf, Jg, Jh, Ji, Jj, Jk, Jl, Jm, Jn, Jo, Jp, Jq, Jr, Js, hbt, hv1, b1, gx, Vx.c, s22, en, hw, s23, ep, q1, q2, r1]))
              exact ⟨i + 1, by rw [hsn, hlast], ⟨by omega, by rw [hlast]; exact hT, fun v hv => by
                rw [hlast]
                rcases htk v hv with rfl | hv
                · exact Int.le_refl _
                · have := hids v hv
                  omega⟩, by omega⟩
    · have hbf : decide ((i : Int) < (vs.length : Int)) = false := decide_eq_false (by omega)
      obtain rfl : i = vs.length := by omega
      rw [List.drop_length, List.take_length] at *
      simp only [List.map_nil, badVs] at hT
      rw [hT]
      simp only [Bool.not_false, Bool.true_and]
      (repeat' (first | (with_reducible first | refine kont_next ?_ | refine lkont_next ?_ | refine kont_nextn ?_ | refine ikont_next ?_ | refine ikont_nextn ?_) | simp only [go_sem, J0, reduceIte, reduceCtorEq, Ja, Jb, Jc, Jd, Je, Jf, Jg, Jh, Ji, Jj, Jk, Jl, Jm, Jn, Jo, Jp, Jq, Jr, Js, hbf]))
      clear hids hT hi hlt hbf
      refine kloop_inv (ι := Nat) (fun i => [.bx [.sl vk vz (vs.map Vx.c), .sl ek ez (es.map Lk.c), .i .i64 last], .om (vs.map idC), .i .i64 (lastE es i), .sl ek ez (es.map Lk.c), .i .i64 es.length, .i .i64 i])
        (fun i => i ≤ es.length ∧ badEs (idsOf (vs.map Vx.p)) last 0 (es.map Lk.p) = badEs (idsOf (vs.map Vx.p)) last (lastE es i) ((es.drop i).map Lk.p)) (fun i => es.length - i) 0 rfl ⟨Nat.zero_le _, rfl⟩ ?_
      rintro i ⟨hi, hT⟩
      by_cases hlt : i < es.length
      · obtain ⟨x, gx⟩ := get_lt hlt
        have hx := hea x (List.mem_of_getElem? gx)
        have hw := wrap_succ (k := i) (by omega)
        have hbt : decide ((i : Int) < (es.length : Int)) = true := decide_eq_true (by omega)
        have b1 : (0 : Int) ≤ (i : Int) := by omega
        have hLL : x.label.length ≤ LIM := by have := hx.lab; simp [LIM]; omega
        have en := e22 x.label hLL
        have ep := e23 hx.ps
        rw [badEs_drop gx] at hT
        have hlast : lastE es (i + 1) = x.id := by simp only [lastE, gx, Option.map_some, Option.getD_some]
        rw [hlast] at hT
        generalize hlv : lastE es i = lv at hT
        obtain ⟨xid, xl, xo, xn, xpk, xpz, xps⟩ := x
        obtain ⟨r, r1, r2, -⟩ := findM_ids xid vs 0
        obtain ⟨u, u1, u2, -⟩ := findM_ids xo vs 0
        obtain ⟨w, w1, w2, -⟩ := findM_ids xn vs 0
        simp only [Lk.p, badLk] at hT en ep hlast
        unfold blk at hT
        cases q1 : decide (xid ≤ lv) with
        | true =>
          rw [q1, Bool.true_or, Bool.true_or] at hT
          rw [hT]
          (repeat' (first | (with_reducible first | refine kont_next ?_ | refine lkont_next ?_ | refine kont_nextn ?_ | refine ikont_next ?_ | refine ikont_nextn ?_) | simp only [go_sem, J0, reduceIte, reduceCtorEq, Ja, Jb, Jc, Jd, Je, Jf, Jg, Jh, Ji, Jj, Jk, Jl, Jm, Jn, Jo, Jp, Jq, Jr, Js, hbt, he1, b1, gx, Lk.c, s22, en, hw, s23, ep, r1, r2, u1, u2, w1, w2, q1]))
        | false =>
          rw [q1, Bool.false_or] at hT
          cases q2 : decide (last < xid) with
          | true =>
            rw [q2, Bool.true_or, Bool.true_or] at hT
            rw [hT]
            (repeat' (first | (with_reducible first | refine kont_next ?_ | refine lkont_next ?_ | refine kont_nextn ?_ | refine ikont_next ?_ | refine ikont_nextn ?_) | simp only [go_sem, J0, reduceIte, reduceCtorEq, Ja, Jb, Jc, Jd, Je, Jf, Jg, Jh, Ji, Jj, Jk, Jl, Jm, Jn, Jo, Jp, Jq, Jr, Js, hbt, he1, b1, gx, Lk.c, s22, en, hw, s23, ep, r1, r2, u1, u2, w1, w2, q1, q2]))
          | false =>
            rw [q2, Bool.false_or] at hT
            cases q3 : nameB xl with
            | false =>
              rw [q3] at en
              rw [q3, Bool.not_false, Bool.true_or, Bool.true_or] at hT
              rw [hT]
              (repeat' (first | (with_reducible first | refine kont_next ?_ | refine lkont_next ?_ | refine kont_nextn ?_ | refine ikont_next ?_ | refine ikont_nextn ?_) | simp only [go_sem, J0, reduceIte, reduceCtorEq, Ja, Jb, Jc, Jd, Je, Jf, Jg, Jh, Ji, Jj, Jk, Jl, Jm, Jn, Jo, Jp, Jq, Jr, Js, hbt, he1, b1, gx, Lk.c, s22, en, hw, s23, ep, r1, r2, u1, u2, w1, w2, q1, q2, q3]))
            | true =>
              rw [q3] at en
              rw [q3, Bool.not_true, Bool.false_or] at hT
              cases q4 : badProps (xps.map tagP) with
              | true =>
                rw [q4] at ep
                rw [q4, Bool.true_or, Bool.true_or] at hT
                rw [hT]
                (repeat' (first | (with_reducible first | refine kont_next ?_ | refine lkont_next ?_ | refine kont_nextn ?_ | refine ikont_next ?_ | refine ikont_nextn ?_) | simp only [go_sem, J0, reduceIte, reduceCtorEq, Ja, Jb, Jc, Jd, Je, Jf, Jg, Jh, Ji, Jj, Jk, Jl, Jm, Jn, Jo, Jp, Jq, Jr, Js, hbt, he1, b1, gx, Lk.c, s22, en, hw, s23, ep, r1, r2, u1, u2, w1, w2, q1, q2, q3, q4]))
              | false =>
                rw [q4] at ep
                rw [q4, Bool.false_or] at hT
                cases q5 : idsOf (vs.map Vx.p) xid with
                | true =>
                  rw [q5] at r2
                  rw [q5, Bool.true_or, Bool.true_or] at hT
                  rw [hT]
                  (repeat' (first | (with_reducible first | refine kont_next ?_ | refine lkont_next ?_ | refine kont_nextn ?_ | refine ikont_next ?_ | refine ikont_nextn ?_) | simp only [go_sem, J0, reduceIte, reduceCtorEq, Ja, Jb, Jc, Jd, Je, Jf, Jg, Jh, Ji, Jj, Jk, Jl, Jm, Jn, Jo, Jp, Jq, Jr, Js, hbt, he1, b1, gx, Lk.c, s22, en, hw, s23, ep, r1, r2, u1, u2, w1, w2, q1, q2, q3, q4, q5]))
                | false =>
                  rw [q5] at r2
                  rw [q5, Bool.false_or] at hT
                  cases q6 : idsOf (vs.map Vx.p) xo with
                  | false =>
                    rw [q6] at u2
                    rw [q6, Bool.not_false, Bool.true_or, Bool.true_or] at hT
                    rw [hT]
                    (repeat' (first | (with_reducible first | refine kont_next ?_ | refine lkont_next ?_ | refine kont_nextn ?_ | refine ikont_next ?_ | refine ikont_nextn ?_) | simp only [go_sem, J0, reduceIte, reduceCtorEq, Ja, Jb, Jc, Jd, Je, Jf, Jg, Jh, Ji, Jj, Jk, Jl, Jm, Jn, Jo, Jp, Jq, Jr, Js, hbt, he1, b1, gx, Lk.c, s22, en, hw, s23, ep, r1, r2, u1, u2, w1, w2, q1, q2, q3, q4, q5, q6]))
                  | true =>
                    rw [q6] at u2
                    rw [q6, Bool.not_true, Bool.false_or] at hT
                    cases q7 : idsOf (vs.map Vx.p) xn with
                    | false =>
                      rw [q7] at w2
                      rw [q7, Bool.not_false, Bool.true_or] at hT
                      rw [hT]
                      (repeat' (first | (with_reducible first | refine kont_next ?_ | refine lkont_next ?_ | refine kont_nextn ?_ | refine ikont_next ?_ | refine ikont_nextn ?_) | simp only [go_sem, J0, reduceIte, reduceCtorEq, Ja, Jb, Jc, Jd, Je, Jf, Jg, Jh, Ji, Jj, Jk, Jl, Jm, Jn, Jo, Jp, Jq, Jr, Js, hbt, he1, b1, gx, Lk.c, s22, en, hw, s23, ep, r1, r2, u1, u2, w1, w2, q1, q2, q3, q4, q5, q6, q7]))
                    | true =>
                      rw [q7] at w2
                      rw [q7, Bool.not_true, Bool.false_or] at hT
                      (repeat' (first | (with_reducible first | refine kont_next ?_ | refine lkont_next ?_ | refine kont_nextn ?_ | refine ikont_next ?_ | refine ikont_nextn ?_) | simp only [go_sem, J0, reduceIte, reduceCtorEq, Ja, Jb, Jc, Jd, Je, Jf, Jg, Jh, Ji, Jj, Jk, Jl, Jm, Jn, Jo, Jp, Jq, Jr, Js, hbt, he1, b1, gx, Lk.c, s22, en, hw, s23, ep, r1, r2, u1, u2, w1, w2, q1, q2, q3, q4, q5, q6, q7]))
                      exact ⟨i + 1, by rw [hlast], ⟨by omega, by rw [hlast]; exact hT⟩, by omega⟩
      · have hbf : decide ((i : Int) < (es.length : Int)) = false := decide_eq_false (by omega)
        obtain rfl : i = es.length := by omega
        rw [List.drop_length] at hT
        simp only [List.map_nil, badEs] at hT
        rw [hT]
        (repeat' (first | (with_reducible first | refine kont_next ?_ | refine lkont_next ?_ | refine kont_nextn ?_ | refine ikont_next ?_ | refine ikont_nextn ?_) | simp only [go_sem, J0, reduceIte, reduceCtorEq, Ja, Jb, Jc, Jd, Je, Jf, Jg, Jh, Ji, Jj, Jk, Jl, Jm, Jn, Jo, Jp, Jq, Jr, Js, hbf]))
end Go.Proofs.YtgeaibhgaihobaaDoor
