import Derived.Test.YtgeaibhgaihobaaDoorG2
import Derived.Test.YtgeaibhgaihobaaDoorV8
set_option linter.unusedSimpArgs false
set_option linter.unusedVariables false
set_option maxHeartbeats 8000000
set_option maxRecDepth 100000
namespace Go.Proofs.YtgeaibhgaihobaaDoor
open Go.Abs
open Nat renaming add_assoc → J0, reduceEqDiff → Ja, reduceAdd → Jb, reduceMul → Jc, reduceSub → Jd, reduceLeDiff → Je, reduceLT → Jf, reduceBEq → Jg, reduceBNe → Jh
open Int renaming reduceLE → Ji, reduceLT → Jj, reduceToNat → Jk, reduceEq → Jl, reduceNe → Jm, reduceNeg → Jn, reduceAdd → Jo, reduceSub → Jp, reduceMul → Jq, cast_ofNat_Int → Jr, natCast_zero → Js
def isV (id : Int) (x : Vx) : Bool := decide (x.id = id)
def isE (id : Int) (x : Lk) : Bool := decide (x.id = id)
def geP (n : List UInt8) (x : Pp) : Bool := !Op.bytesLess x.1 n
def eqP (n : List UInt8) (x : Pp) : Bool := decide (x.1 = n)
theorem fnV (x : Vx) (id : Int) : acall S 64 [.agg (Vx.c x), .ip [.i .i64 id]] = some (.b (isV id x), []) := by
  obtain ⟨xid, xl, xpk, xpz, xps⟩ := x
  skip
  refine W_eq (g64 rfl ?_)
  simp only [isV]
  (repeat' (first | (with_reducible first | refine kont_next ?_ | refine lkont_next ?_ | refine kont_nextn ?_ | refine ikont_next ?_ | refine ikont_nextn ?_) | simp only [go_sem, J0, reduceIte, reduceCtorEq, Ja, Jb, Jc, Jd, Je, Jf, Jg, Jh, Ji, Jj, Jk, Jl, Jm, Jn, Jo, Jp, Jq, Jr, Js, a64, Vx.c]))
theorem idxV (id : Int) {k : SK} {z : Nat} {l : List Vx} (h : OkS k z 3 l) (hl : l.length ≤ 137438953472) :
    acall S 63 [.sl k z (l.map Vx.c), .fn 64 [.ip [.i .i64 id]]] = some (.i .i64 (idxJ (isV id) l 0), []) := by
  have hq := fun x => fnV x id
  refine W_eq (g63 rfl ?_)
  (repeat' (first | (with_reducible first | refine kont_next ?_ | refine lkont_next ?_ | refine kont_nextn ?_ | refine ikont_next ?_ | refine ikont_nextn ?_) | simp only [go_sem, J0, reduceIte, reduceCtorEq, Ja, Jb, Jc, Jd, Je, Jf, Jg, Jh, Ji, Jj, Jk, Jl, Jm, Jn, Jo, Jp, Jq, Jr, Js, a63]))
  refine kloop_inv (ι := Nat) (fun i => [.sl k z (l.map Vx.c), .fn 64 [.ip [.i .i64 id]], .i .i64 l.length, .i .i64 i]) (fun i => i ≤ l.length ∧ idxJ (isV id) (l.drop i) i = idxJ (isV id) l 0) (fun i => l.length - i) 0 rfl ⟨by omega, rfl⟩ ?_
  rintro i ⟨hi, hT⟩
  by_cases hlt : i < l.length
  · obtain ⟨c, gc⟩ := get_lt3 hlt
    have g1 : decide ((i : Int) < (l.length : Int)) = true := decide_eq_true (by omega)
    have b1 : (0 : Int) ≤ (i : Int) := by omega
    have hw := wrap_succ (k := i) (by omega)
    rw [drop_get3 gc] at hT
    simp only [idxJ] at hT
    have ec := hq c
    cases hc : isV id c with
    | true =>
      rw [hc] at ec hT
      obtain ⟨xid, xl, xpk, xpz, xps⟩ := c
      skip
      simp only [Vx.c] at ec
      rw [if_pos rfl] at hT
      (repeat' (first | (with_reducible first | refine kont_next ?_ | refine lkont_next ?_ | refine kont_nextn ?_ | refine ikont_next ?_ | refine ikont_nextn ?_) | simp only [go_sem, J0, reduceIte, reduceCtorEq, Ja, Jb, Jc, Jd, Je, Jf, Jg, Jh, Ji, Jj, Jk, Jl, Jm, Jn, Jo, Jp, Jq, Jr, Js, g1, b1, gc, h.1, Vx.c, s64, ec]))
      rw [← hT]
    | false =>
      rw [hc] at ec hT
      obtain ⟨xid, xl, xpk, xpz, xps⟩ := c
      skip
      simp only [Vx.c] at ec
      rw [if_neg (by simp)] at hT
      (repeat' (first | (with_reducible first | refine kont_next ?_ | refine lkont_next ?_ | refine kont_nextn ?_ | refine ikont_next ?_ | refine ikont_nextn ?_) | simp only [go_sem, J0, reduceIte, reduceCtorEq, Ja, Jb, Jc, Jd, Je, Jf, Jg, Jh, Ji, Jj, Jk, Jl, Jm, Jn, Jo, Jp, Jq, Jr, Js, g1, b1, gc, h.1, Vx.c, s64, ec, hw]))
      exact ⟨i + 1, rfl, ⟨by omega, hT⟩, by omega⟩
  · have g1 : decide ((i : Int) < (l.length : Int)) = false := decide_eq_false (by omega)
    rw [List.drop_of_length_le (by omega)] at hT
    (repeat' (first | (with_reducible first | refine kont_next ?_ | refine lkont_next ?_ | refine kont_nextn ?_ | refine ikont_next ?_ | refine ikont_nextn ?_) | simp only [go_sem, J0, reduceIte, reduceCtorEq, Ja, Jb, Jc, Jd, Je, Jf, Jg, Jh, Ji, Jj, Jk, Jl, Jm, Jn, Jo, Jp, Jq, Jr, Js, g1]))
    rw [← hT]; rfl
theorem fnE (x : Lk) (id : Int) : acall S 73 [.agg (Lk.c x), .ip [.i .i64 id]] = some (.b (isE id x), []) := by
  obtain ⟨xid, xl, xo, xn, xpk, xpz, xps⟩ := x
  skip
  refine W_eq (g73 rfl ?_)
  simp only [isE]
  (repeat' (first | (with_reducible first | refine kont_next ?_ | refine lkont_next ?_ | refine kont_nextn ?_ | refine ikont_next ?_ | refine ikont_nextn ?_) | simp only [go_sem, J0, reduceIte, reduceCtorEq, Ja, Jb, Jc, Jd, Je, Jf, Jg, Jh, Ji, Jj, Jk, Jl, Jm, Jn, Jo, Jp, Jq, Jr, Js, a73, Lk.c]))
theorem idxE (id : Int) {k : SK} {z : Nat} {l : List Lk} (h : OkS k z 5 l) (hl : l.length ≤ 137438953472) :
    acall S 27 [.sl k z (l.map Lk.c), .fn 73 [.ip [.i .i64 id]]] = some (.i .i64 (idxJ (isE id) l 0), []) := by
  have hq := fun x => fnE x id
  refine W_eq (g27 rfl ?_)
  (repeat' (first | (with_reducible first | refine kont_next ?_ | refine lkont_next ?_ | refine kont_nextn ?_ | refine ikont_next ?_ | refine ikont_nextn ?_) | simp only [go_sem, J0, reduceIte, reduceCtorEq, Ja, Jb, Jc, Jd, Je, Jf, Jg, Jh, Ji, Jj, Jk, Jl, Jm, Jn, Jo, Jp, Jq, Jr, Js, a27]))
  refine kloop_inv (ι := Nat) (fun i => [.sl k z (l.map Lk.c), .fn 73 [.ip [.i .i64 id]], .i .i64 l.length, .i .i64 i]) (fun i => i ≤ l.length ∧ idxJ (isE id) (l.drop i) i = idxJ (isE id) l 0) (fun i => l.length - i) 0 rfl ⟨by omega, rfl⟩ ?_
  rintro i ⟨hi, hT⟩
  by_cases hlt : i < l.length
  · obtain ⟨c, gc⟩ := get_lt3 hlt
    have g1 : decide ((i : Int) < (l.length : Int)) = true := decide_eq_true (by omega)
    have b1 : (0 : Int) ≤ (i : Int) := by omega
    have hw := wrap_succ (k := i) (by omega)
    rw [drop_get3 gc] at hT
    simp only [idxJ] at hT
    have ec := hq c
    cases hc : isE id c with
    | true =>
      rw [hc] at ec hT
      obtain ⟨xid, xl, xo, xn, xpk, xpz, xps⟩ := c
      skip
      simp only [Lk.c] at ec
      rw [if_pos rfl] at hT
      (repeat' (first | (with_reducible first | refine kont_next ?_ | refine lkont_next ?_ | refine kont_nextn ?_ | refine ikont_next ?_ | refine ikont_nextn ?_) | simp only [go_sem, J0, reduceIte, reduceCtorEq, Ja, Jb, Jc, Jd, Je, Jf, Jg, Jh, Ji, Jj, Jk, Jl, Jm, Jn, Jo, Jp, Jq, Jr, Js, g1, b1, gc, h.1, Lk.c, s73, ec]))
      rw [← hT]
    | false =>
      rw [hc] at ec hT
      obtain ⟨xid, xl, xo, xn, xpk, xpz, xps⟩ := c
      skip
      simp only [Lk.c] at ec
      rw [if_neg (by simp)] at hT
      (repeat' (first | (with_reducible first | refine kont_next ?_ | refine lkont_next ?_ | refine kont_nextn ?_ | refine ikont_next ?_ | refine ikont_nextn ?_) | simp only [go_sem, J0, reduceIte, reduceCtorEq, Ja, Jb, Jc, Jd, Je, Jf, Jg, Jh, Ji, Jj, Jk, Jl, Jm, Jn, Jo, Jp, Jq, Jr, Js, g1, b1, gc, h.1, Lk.c, s73, ec, hw]))
      exact ⟨i + 1, rfl, ⟨by omega, hT⟩, by omega⟩
  · have g1 : decide ((i : Int) < (l.length : Int)) = false := decide_eq_false (by omega)
    rw [List.drop_of_length_le (by omega)] at hT
    (repeat' (first | (with_reducible first | refine kont_next ?_ | refine lkont_next ?_ | refine kont_nextn ?_ | refine ikont_next ?_ | refine ikont_nextn ?_) | simp only [go_sem, J0, reduceIte, reduceCtorEq, Ja, Jb, Jc, Jd, Je, Jf, Jg, Jh, Ji, Jj, Jk, Jl, Jm, Jn, Jo, Jp, Jq, Jr, Js, g1]))
    rw [← hT]; rfl
theorem fnG (x : Pp) (nm : List UInt8) : acall S 36 [.agg (tagC x), .ip [.str nm]] = some (.b (geP nm x), []) := by
  obtain ⟨xn, xv⟩ := x
  obtain ⟨xk, xm, xs, xkk, xz, xll⟩ := xv
  refine W_eq (g36 rfl ?_)
  simp only [geP]
  (repeat' (first | (with_reducible first | refine kont_next ?_ | refine lkont_next ?_ | refine kont_nextn ?_ | refine ikont_next ?_ | refine ikont_nextn ?_) | simp only [go_sem, J0, reduceIte, reduceCtorEq, Ja, Jb, Jc, Jd, Je, Jf, Jg, Jh, Ji, Jj, Jk, Jl, Jm, Jn, Jo, Jp, Jq, Jr, Js, a36, tagC, Vl.c, Vl.cs_map]))
theorem idxG (nm : List UInt8) {k : SK} {z : Nat} {l : List Pp} (h : OkS k z 5 l) (hl : l.length ≤ 137438953472) :
    acall S 35 [.sl k z (l.map tagC), .fn 36 [.ip [.str nm]]] = some (.i .i64 (idxJ (geP nm) l 0), []) := by
  have hq := fun x => fnG x nm
  refine W_eq (g35 rfl ?_)
  (repeat' (first | (with_reducible first | refine kont_next ?_ | refine lkont_next ?_ | refine kont_nextn ?_ | refine ikont_next ?_ | refine ikont_nextn ?_) | simp only [go_sem, J0, reduceIte, reduceCtorEq, Ja, Jb, Jc, Jd, Je, Jf, Jg, Jh, Ji, Jj, Jk, Jl, Jm, Jn, Jo, Jp, Jq, Jr, Js, a35]))
  refine kloop_inv (ι := Nat) (fun i => [.sl k z (l.map tagC), .fn 36 [.ip [.str nm]], .i .i64 l.length, .i .i64 i]) (fun i => i ≤ l.length ∧ idxJ (geP nm) (l.drop i) i = idxJ (geP nm) l 0) (fun i => l.length - i) 0 rfl ⟨by omega, rfl⟩ ?_
  rintro i ⟨hi, hT⟩
  by_cases hlt : i < l.length
  · obtain ⟨c, gc⟩ := get_lt3 hlt
    have g1 : decide ((i : Int) < (l.length : Int)) = true := decide_eq_true (by omega)
    have b1 : (0 : Int) ≤ (i : Int) := by omega
    have hw := wrap_succ (k := i) (by omega)
    rw [drop_get3 gc] at hT
    simp only [idxJ] at hT
    have ec := hq c
    cases hc : geP nm c with
    | true =>
      rw [hc] at ec hT
      obtain ⟨xn, xv⟩ := c
      obtain ⟨xk, xm, xs, xkk, xz, xll⟩ := xv
      simp only [tagC, Vl.c, Vl.cs_map] at ec
      rw [if_pos rfl] at hT
      (repeat' (first | (with_reducible first | refine kont_next ?_ | refine lkont_next ?_ | refine kont_nextn ?_ | refine ikont_next ?_ | refine ikont_nextn ?_) | simp only [go_sem, J0, reduceIte, reduceCtorEq, Ja, Jb, Jc, Jd, Je, Jf, Jg, Jh, Ji, Jj, Jk, Jl, Jm, Jn, Jo, Jp, Jq, Jr, Js, g1, b1, gc, h.1, tagC, Vl.c, Vl.cs_map, s36, ec]))
      rw [← hT]
    | false =>
      rw [hc] at ec hT
      obtain ⟨xn, xv⟩ := c
      obtain ⟨xk, xm, xs, xkk, xz, xll⟩ := xv
      simp only [tagC, Vl.c, Vl.cs_map] at ec
      rw [if_neg (by simp)] at hT
      (repeat' (first | (with_reducible first | refine kont_next ?_ | refine lkont_next ?_ | refine kont_nextn ?_ | refine ikont_next ?_ | refine ikont_nextn ?_) | simp only [go_sem, J0, reduceIte, reduceCtorEq, Ja, Jb, Jc, Jd, Je, Jf, Jg, Jh, Ji, Jj, Jk, Jl, Jm, Jn, Jo, Jp, Jq, Jr, Js, g1, b1, gc, h.1, tagC, Vl.c, Vl.cs_map, s36, ec, hw]))
      exact ⟨i + 1, rfl, ⟨by omega, hT⟩, by omega⟩
  · have g1 : decide ((i : Int) < (l.length : Int)) = false := decide_eq_false (by omega)
    rw [List.drop_of_length_le (by omega)] at hT
    (repeat' (first | (with_reducible first | refine kont_next ?_ | refine lkont_next ?_ | refine kont_nextn ?_ | refine ikont_next ?_ | refine ikont_nextn ?_) | simp only [go_sem, J0, reduceIte, reduceCtorEq, Ja, Jb, Jc, Jd, Je, Jf, Jg, Jh, Ji, Jj, Jk, Jl, Jm, Jn, Jo, Jp, Jq, Jr, Js, g1]))
    rw [← hT]; rfl
theorem fnQ (x : Pp) (nm : List UInt8) : acall S 42 [.agg (tagC x), .ip [.str nm]] = some (.b (eqP nm x), []) := by
  obtain ⟨xn, xv⟩ := x
  obtain ⟨xk, xm, xs, xkk, xz, xll⟩ := xv
  refine W_eq (g42 rfl ?_)
  simp only [eqP]
  (repeat' (first | (with_reducible first | refine kont_next ?_ | refine lkont_next ?_ | refine kont_nextn ?_ | refine ikont_next ?_ | refine ikont_nextn ?_) | simp only [go_sem, J0, reduceIte, reduceCtorEq, Ja, Jb, Jc, Jd, Je, Jf, Jg, Jh, Ji, Jj, Jk, Jl, Jm, Jn, Jo, Jp, Jq, Jr, Js, a42, tagC, Vl.c, Vl.cs_map]))
theorem idxQ (nm : List UInt8) {k : SK} {z : Nat} {l : List Pp} (h : OkS k z 5 l) (hl : l.length ≤ 137438953472) :
    acall S 35 [.sl k z (l.map tagC), .fn 42 [.ip [.str nm]]] = some (.i .i64 (idxJ (eqP nm) l 0), []) := by
  have hq := fun x => fnQ x nm
  refine W_eq (g35 rfl ?_)
  (repeat' (first | (with_reducible first | refine kont_next ?_ | refine lkont_next ?_ | refine kont_nextn ?_ | refine ikont_next ?_ | refine ikont_nextn ?_) | simp only [go_sem, J0, reduceIte, reduceCtorEq, Ja, Jb, Jc, Jd, Je, Jf, Jg, Jh, Ji, Jj, Jk, Jl, Jm, Jn, Jo, Jp, Jq, Jr, Js, a35]))
  refine kloop_inv (ι := Nat) (fun i => [.sl k z (l.map tagC), .fn 42 [.ip [.str nm]], .i .i64 l.length, .i .i64 i]) (fun i => i ≤ l.length ∧ idxJ (eqP nm) (l.drop i) i = idxJ (eqP nm) l 0) (fun i => l.length - i) 0 rfl ⟨by omega, rfl⟩ ?_
  rintro i ⟨hi, hT⟩
  by_cases hlt : i < l.length
  · obtain ⟨c, gc⟩ := get_lt3 hlt
    have g1 : decide ((i : Int) < (l.length : Int)) = true := decide_eq_true (by omega)
    have b1 : (0 : Int) ≤ (i : Int) := by omega
    have hw := wrap_succ (k := i) (by omega)
    rw [drop_get3 gc] at hT
    simp only [idxJ] at hT
    have ec := hq c
    cases hc : eqP nm c with
    | true =>
      rw [hc] at ec hT
      obtain ⟨xn, xv⟩ := c
      obtain ⟨xk, xm, xs, xkk, xz, xll⟩ := xv
      simp only [tagC, Vl.c, Vl.cs_map] at ec
      rw [if_pos rfl] at hT
      (repeat' (first | (with_reducible first | refine kont_next ?_ | refine lkont_next ?_ | refine kont_nextn ?_ | refine ikont_next ?_ | refine ikont_nextn ?_) | simp only [go_sem, J0, reduceIte, reduceCtorEq, Ja, Jb, Jc, Jd, Je, Jf, Jg, Jh, Ji, Jj, Jk, Jl, Jm, Jn, Jo, Jp, Jq, Jr, Js, g1, b1, gc, h.1, tagC, Vl.c, Vl.cs_map, s42, ec]))
      rw [← hT]
    | false =>
      rw [hc] at ec hT
      obtain ⟨xn, xv⟩ := c
      obtain ⟨xk, xm, xs, xkk, xz, xll⟩ := xv
      simp only [tagC, Vl.c, Vl.cs_map] at ec
      rw [if_neg (by simp)] at hT
      (repeat' (first | (with_reducible first | refine kont_next ?_ | refine lkont_next ?_ | refine kont_nextn ?_ | refine ikont_next ?_ | refine ikont_nextn ?_) | simp only [go_sem, J0, reduceIte, reduceCtorEq, Ja, Jb, Jc, Jd, Je, Jf, Jg, Jh, Ji, Jj, Jk, Jl, Jm, Jn, Jo, Jp, Jq, Jr, Js, g1, b1, gc, h.1, tagC, Vl.c, Vl.cs_map, s42, ec, hw]))
      exact ⟨i + 1, rfl, ⟨by omega, hT⟩, by omega⟩
  · have g1 : decide ((i : Int) < (l.length : Int)) = false := decide_eq_false (by omega)
    rw [List.drop_of_length_le (by omega)] at hT
    (repeat' (first | (with_reducible first | refine kont_next ?_ | refine lkont_next ?_ | refine kont_nextn ?_ | refine ikont_next ?_ | refine ikont_nextn ?_) | simp only [go_sem, J0, reduceIte, reduceCtorEq, Ja, Jb, Jc, Jd, Je, Jf, Jg, Jh, Ji, Jj, Jk, Jl, Jm, Jn, Jo, Jp, Jq, Jr, Js, g1]))
    rw [← hT]; rfl
theorem e43 {k : SK} {z : Nat} {l : List Vx} (id : Int) (x y : AV) (h : OkS k z 3 l) (hl : l.length ≤ 137438953472) (hx : flat x = true) (hy : flat y = true) :
    acall S 43 [.agg [.sl k z (l.map Vx.c), x, y], .i .i64 id] = some (.tup [.i .i64 (idxJ (isV id) l 0), .b (decide (0 ≤ idxJ (isV id) l 0))], []) := by
  have e1 := idxV id h hl
  refine W_eq (g43 rfl ?_)
  (repeat' (first | (with_reducible first | refine kont_next ?_ | refine lkont_next ?_ | refine kont_nextn ?_ | refine ikont_next ?_ | refine ikont_nextn ?_) | simp only [go_sem, J0, reduceIte, reduceCtorEq, Ja, Jb, Jc, Jd, Je, Jf, Jg, Jh, Ji, Jj, Jk, Jl, Jm, Jn, Jo, Jp, Jq, Jr, Js, a43, s63, e1]))
theorem e55 {k : SK} {z : Nat} {l : List Lk} (id : Int) (x y : AV) (h : OkS k z 5 l) (hl : l.length ≤ 137438953472) (hx : flat x = true) (hy : flat y = true) :
    acall S 55 [.agg [x, .sl k z (l.map Lk.c), y], .i .i64 id] = some (.tup [.i .i64 (idxJ (isE id) l 0), .b (decide (0 ≤ idxJ (isE id) l 0))], []) := by
  have e1 := idxE id h hl
  refine W_eq (g55 rfl ?_)
  (repeat' (first | (with_reducible first | refine kont_next ?_ | refine lkont_next ?_ | refine kont_nextn ?_ | refine ikont_next ?_ | refine ikont_nextn ?_) | simp only [go_sem, J0, reduceIte, reduceCtorEq, Ja, Jb, Jc, Jd, Je, Jf, Jg, Jh, Ji, Jj, Jk, Jl, Jm, Jn, Jo, Jp, Jq, Jr, Js, a55, s27, e1]))
end Go.Proofs.YtgeaibhgaihobaaDoor
