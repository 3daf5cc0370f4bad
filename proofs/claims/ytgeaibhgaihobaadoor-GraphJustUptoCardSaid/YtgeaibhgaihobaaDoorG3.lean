import Derived.Test.YtgeaibhgaihobaaDoorG2
import Derived.Test.YtgeaibhgaihobaaDoorVM
import Derived.Test.YtgeaibhgaihobaaDoorV10
set_option linter.unusedSimpArgs false
set_option linter.unusedVariables false
set_option maxHeartbeats 8000000
set_option maxRecDepth 100000
namespace Go.Proofs.YtgeaibhgaihobaaDoor
open Go.Abs
open Nat renaming add_assoc → J0, reduceEqDiff → Ja, reduceAdd → Jb, reduceMul → Jc, reduceSub → Jd, reduceLeDiff → Je, reduceLT → Jf, reduceBEq → Jg, reduceBNe → Jh
open Int renaming reduceLE → Ji, reduceLT → Jj, reduceToNat → Jk, reduceEq → Jl, reduceNe → Jm, reduceNeg → Jn, reduceAdd → Jo, reduceSub → Jp, reduceMul → Jq, cast_ofNat_Int → Jr, natCast_zero → Js
def notBehind : Option (List UInt8) → List UInt8 → Bool
  | some q, n => !Op.bytesLess q n
  | none, _ => false
def badPs : Option (List UInt8) → List (List UInt8 × PV) → Bool
  | _, [] => false
  | q, x :: r => (!nameB x.1 || notBehind q x.1 || !mayV x.2 0) || badPs (some x.1) r
def badProps (l : List (List UInt8 × PV)) : Bool := badPs none l || decide ((16 : Int) < (l.length : Int))
def prevOf (l : List Pp) : Nat → Option (List UInt8)
  | 0 => none
  | i + 1 => (l[i]?).map (·.1)
theorem badPs_drop {l : List Pp} {i : Nat} {x : Pp} (h : l[i]? = some x) : badPs (prevOf l i) ((l.drop i).map tagP) = ((!nameB x.1 || notBehind (prevOf l i) x.1 || !mayV x.2.p 0) || badPs (prevOf l (i + 1)) ((l.drop (i + 1)).map tagP)) := by
  have hlt := (List.getElem?_eq_some_iff.1 h).1
  have hd : l.drop i = x :: l.drop (i + 1) := by rw [List.drop_eq_getElem_cons hlt, (List.getElem?_eq_some_iff.1 h).2]
  rw [hd]
  simp only [List.map_cons, badPs, tagP, prevOf, h, Option.map_some]
theorem e23 {k : SK} {z : Nat} {l : List Pp} (h : PsOk k z l) : acall S 23 [.sl k z (l.map tagC)] = some (.b (badProps (l.map tagP)), []) := by
  have h1 := h.s.1
  have hlen := h.len
  refine W_eq (g23 rfl ?_)
  unfold badProps
  rw [List.length_map]
  (repeat' (first | (with_reducible first | refine kont_next ?_ | refine lkont_next ?_ | refine kont_nextn ?_ | refine ikont_next ?_ | refine ikont_nextn ?_) | simp only [go_sem, J0, reduceIte, reduceCtorEq, Ja, Jb, Jc, Jd, Je, Jf, Jg, Jh, Ji, Jj, Jk, Jl, Jm, Jn, Jo, Jp, Jq, Jr, Js, a23, List.length_map]))
  refine kloop_inv (ι := Nat) (fun i => [.sl k z (l.map tagC), .sl k z (l.map tagC), .i .i64 l.length, .i .i64 i]) (fun i => i ≤ l.length ∧ badPs none (l.map tagP) = badPs (prevOf l i) ((l.drop i).map tagP)) (fun i => l.length - i) 0 rfl ⟨Nat.zero_le _, rfl⟩ ?_
  rintro i ⟨hi, hT⟩
  by_cases hlt : i < l.length
  · obtain ⟨x, gx⟩ := get_lt hlt
    have hx := h.get gx
    have hw := wrap_succ (k := i) (by omega)
    have hbt : decide ((i : Int) < (l.length : Int)) = true := decide_eq_true (by omega)
    have b1 : (0 : Int) ≤ (i : Int) := by omega
    have hLL : x.1.length ≤ LIM := by have := hx.1; simp [LIM]; omega
    have en := e22 x.1 hLL
    have ec := e33 x.2 hx.2
    rw [badPs_drop gx] at hT
    obtain ⟨xn, xv⟩ := x
    simp only at en ec hT
    cases hn : nameB xn with
    | false =>
      rw [hn] at en hT
      simp only [Bool.not_false, Bool.true_or] at hT
      obtain ⟨xk, xm, xs, xkk, xz, xl⟩ := xv
      rw [hT]
      (repeat' (first | (with_reducible first | refine kont_next ?_ | refine lkont_next ?_ | refine kont_nextn ?_ | refine ikont_next ?_ | refine ikont_nextn ?_) | simp only [go_sem, J0, reduceIte, reduceCtorEq, Ja, Jb, Jc, Jd, Je, Jf, Jg, Jh, Ji, Jj, Jk, Jl, Jm, Jn, Jo, Jp, Jq, Jr, Js, hbt, h1, b1, gx, tagC, Vl.c, Vl.cs_map, s22, en, hw]))
    | true =>
      rw [hn] at en hT
      have hm : ∀ b : Bool, mayV xv.p 0 = b → acall S 33 [.agg xv.c] = some (.i .i64 (if b = true then 0 else 20), []) := fun b hb => by rw [← hb]; exact ec
      by_cases hi0 : i = 0
      · have g0 : decide ((0 : Int) < (i : Int)) = false := decide_eq_false (by omega)
        have hp : prevOf l i = none := by rw [hi0]; rfl
        rw [hp] at hT
        cases hv : mayV xv.p 0 with
        | true =>
          have ec := hm true hv
          rw [hv] at hT
          simp only [notBehind, Bool.not_true, Bool.false_or] at hT
          obtain ⟨xk, xm, xs, xkk, xz, xl⟩ := xv
          simp only [Vl.c, Vl.cs_map] at ec
          (repeat' (first | (with_reducible first | refine kont_next ?_ | refine lkont_next ?_ | refine kont_nextn ?_ | refine ikont_next ?_ | refine ikont_nextn ?_) | simp only [go_sem, J0, reduceIte, reduceCtorEq, Ja, Jb, Jc, Jd, Je, Jf, Jg, Jh, Ji, Jj, Jk, Jl, Jm, Jn, Jo, Jp, Jq, Jr, Js, hbt, h1, b1, gx, tagC, Vl.c, Vl.cs_map, s22, en, hw, g0, s33, ec]))
          exact ⟨i + 1, rfl, ⟨by omega, hT⟩, by omega⟩
        | false =>
          have ec := hm false hv
          rw [hv] at hT
          simp only [notBehind, Bool.not_true, Bool.not_false, Bool.false_or, Bool.or_true, Bool.true_or] at hT
          obtain ⟨xk, xm, xs, xkk, xz, xl⟩ := xv
          simp only [Vl.c, Vl.cs_map] at ec
          rw [hT]
          (repeat' (first | (with_reducible first | refine kont_next ?_ | refine lkont_next ?_ | refine kont_nextn ?_ | refine ikont_next ?_ | refine ikont_nextn ?_) | simp only [go_sem, J0, reduceIte, reduceCtorEq, Ja, Jb, Jc, Jd, Je, Jf, Jg, Jh, Ji, Jj, Jk, Jl, Jm, Jn, Jo, Jp, Jq, Jr, Js, hbt, h1, b1, gx, tagC, Vl.c, Vl.cs_map, s22, en, hw, g0, s33, ec]))
      · obtain ⟨j, rfl⟩ : ∃ j, i = j + 1 := ⟨i - 1, by omega⟩
        obtain ⟨y, gy⟩ := get_lt (show j < l.length by omega)
        have g0 : decide ((0 : Int) < ((j + 1 : Nat) : Int)) = true := decide_eq_true (by omega)
        have hw1 : IntKind.i64.wrap (((j + 1 : Nat) : Int) - 1) = (j : Int) := by rw [wrap_i64] <;> omega
        have b2 : (0 : Int) ≤ (j : Int) := by omega
        have hp : prevOf l (j + 1) = some y.1 := by simp only [prevOf, gy, Option.map_some]
        rw [hp] at hT
        simp only [notBehind, Bool.not_true, Bool.false_or] at hT
        obtain ⟨yn, yv⟩ := y
        obtain ⟨yk, ym, ys, ykk, yz, yl⟩ := yv
        simp only at hT
        cases hb : Op.bytesLess yn xn with
        | false =>
          rw [hb] at hT
          simp only [Bool.not_false, Bool.true_or] at hT
          rw [hT]
          obtain ⟨xk, xm, xs, xkk, xz, xl⟩ := xv
          (repeat' (first | (with_reducible first | refine kont_next ?_ | refine lkont_next ?_ | refine kont_nextn ?_ | refine ikont_next ?_ | refine ikont_nextn ?_) | simp only [go_sem, J0, reduceIte, reduceCtorEq, Ja, Jb, Jc, Jd, Je, Jf, Jg, Jh, Ji, Jj, Jk, Jl, Jm, Jn, Jo, Jp, Jq, Jr, Js, hbt, h1, b1, b2, gx, gy, tagC, Vl.c, Vl.cs_map, s22, en, hw, hw1, g0, hb]))
        | true =>
          rw [hb] at hT
          simp only [Bool.not_true, Bool.false_or] at hT
          cases hv : mayV xv.p 0 with
          | true =>
            have ec := hm true hv
            rw [hv] at hT
            simp only [Bool.not_true, Bool.false_or] at hT
            obtain ⟨xk, xm, xs, xkk, xz, xl⟩ := xv
            simp only [Vl.c, Vl.cs_map] at ec
            (repeat' (first | (with_reducible first | refine kont_next ?_ | refine lkont_next ?_ | refine kont_nextn ?_ | refine ikont_next ?_ | refine ikont_nextn ?_) | simp only [go_sem, J0, reduceIte, reduceCtorEq, Ja, Jb, Jc, Jd, Je, Jf, Jg, Jh, Ji, Jj, Jk, Jl, Jm, Jn, Jo, Jp, Jq, Jr, Js, hbt, h1, b1, b2, gx, gy, tagC, Vl.c, Vl.cs_map, s22, en, hw, hw1, g0, hb, s33, ec]))
            exact ⟨j + 1 + 1, rfl, ⟨by omega, hT⟩, by omega⟩
          | false =>
            have ec := hm false hv
            rw [hv] at hT
            simp only [Bool.not_false, Bool.true_or] at hT
            obtain ⟨xk, xm, xs, xkk, xz, xl⟩ := xv
            simp only [Vl.c, Vl.cs_map] at ec
            rw [hT]
            (repeat' (first | (with_reducible first | refine kont_next ?_ | refine lkont_next ?_ | refine kont_nextn ?_ | refine ikont_next ?_ | refine ikont_nextn ?_) | simp only [go_sem, J0, reduceIte, reduceCtorEq, Ja, Jb, Jc, Jd, Je, Jf, Jg, Jh, Ji, Jj, Jk, Jl, Jm, Jn, Jo, Jp, Jq, Jr, Js, hbt, h1, b1, b2, gx, gy, tagC, Vl.c, Vl.cs_map, s22, en, hw, hw1, g0, hb, s33, ec]))
  · have hbf : decide ((i : Int) < (l.length : Int)) = false := decide_eq_false (by omega)
    obtain rfl : i = l.length := by omega
    rw [List.drop_length] at hT
    rw [hT]
    simp only [List.map_nil, badPs, Bool.false_or]
    (repeat' (first | (with_reducible first | refine kont_next ?_ | refine lkont_next ?_ | refine kont_nextn ?_ | refine ikont_next ?_ | refine ikont_nextn ?_) | simp only [go_sem, J0, reduceIte, reduceCtorEq, Ja, Jb, Jc, Jd, Je, Jf, Jg, Jh, Ji, Jj, Jk, Jl, Jm, Jn, Jo, Jp, Jq, Jr, Js, hbf]))
end Go.Proofs.YtgeaibhgaihobaaDoor
