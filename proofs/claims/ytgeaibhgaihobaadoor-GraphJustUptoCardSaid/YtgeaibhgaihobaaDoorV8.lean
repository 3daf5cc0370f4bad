import Derived.Test.YtgeaibhgaihobaaDoorV3
set_option linter.unusedSimpArgs false
set_option linter.unusedVariables false
set_option maxHeartbeats 8000000
set_option maxRecDepth 100000
namespace Go.Proofs.YtgeaibhgaihobaaDoor
open Go.Abs
open Nat renaming add_assoc → J0, reduceEqDiff → Ja, reduceAdd → Jb, reduceMul → Jc, reduceSub → Jd, reduceLeDiff → Je, reduceLT → Jf, reduceBEq → Jg, reduceBNe → Jh
open Int renaming reduceLE → Ji, reduceLT → Jj, reduceToNat → Jk, reduceEq → Jl, reduceNe → Jm, reduceNeg → Jn, reduceAdd → Jo, reduceSub → Jp, reduceMul → Jq, cast_ofNat_Int → Jr, natCast_zero → Js
def idxJ {α : Type} (q : α → Bool) : List α → Nat → Int
  | [], _ => -1
  | a :: r, i => if q a = true then (i : Int) else idxJ q r (i + 1)
theorem idxJ_any {α : Type} (q : α → Bool) : ∀ (l : List α) (i : Nat), decide (0 ≤ idxJ q l i) = l.any q
  | [], _ => rfl
  | a :: r, i => by
    simp only [idxJ, List.any_cons]
    by_cases h : q a = true
    · simp only [h, if_true, Bool.true_or]; exact decide_eq_true (by omega)
    · have h' : q a = false := by simpa using h
      simp only [h', Bool.false_eq_true, if_false, Bool.false_or]; exact idxJ_any q r (i + 1)
theorem idx_may (d : Int) {q : Vl → Bool} {k : SK} {z : Nat} {l : List Vl} (h : OkS k z 4 l) (hl : l.length ≤ 137438953472) (hq : ∀ x ∈ l, acall S 76 [.agg x.c, .ip [.i .i64 d]] = some (.b (q x), [])) :
    acall S 87 [.sl k z (l.map Vl.c), .fn 76 [.ip [.i .i64 d]]] = some (.i .i64 (idxJ q l 0), []) := by
  refine W_eq (g87 rfl ?_)
  (repeat' (first | (with_reducible first | refine kont_next ?_ | refine lkont_next ?_ | refine kont_nextn ?_ | refine ikont_next ?_ | refine ikont_nextn ?_) | simp only [go_sem, J0, reduceIte, reduceCtorEq, Ja, Jb, Jc, Jd, Je, Jf, Jg, Jh, Ji, Jj, Jk, Jl, Jm, Jn, Jo, Jp, Jq, Jr, Js, a87]))
  refine kloop_inv (ι := Nat) (fun i => [.sl k z (l.map Vl.c), .fn 76 [.ip [.i .i64 d]], .i .i64 l.length, .i .i64 i]) (fun i => i ≤ l.length ∧ idxJ q (l.drop i) i = idxJ q l 0) (fun i => l.length - i) 0 rfl ⟨by omega, rfl⟩ ?_
  rintro i ⟨hi, hT⟩
  by_cases hlt : i < l.length
  · obtain ⟨c, gc⟩ := get_lt3 hlt
    have g1 : decide ((i : Int) < (l.length : Int)) = true := decide_eq_true (by omega)
    have b1 : (0 : Int) ≤ (i : Int) := by omega
    have hw := wrap_succ (k := i) (by omega)
    rw [drop_get3 gc] at hT
    simp only [idxJ] at hT
    have ec := hq c (List.mem_of_getElem? gc)
    cases hc : q c with
    | true =>
      rw [hc] at ec hT
      obtain ⟨ck, cn, cs, ckk, cz, cl⟩ := c
      simp only [Vl.c, Vl.cs_map] at ec
      rw [if_pos rfl] at hT
      (repeat' (first | (with_reducible first | refine kont_next ?_ | refine lkont_next ?_ | refine kont_nextn ?_ | refine ikont_next ?_ | refine ikont_nextn ?_) | simp only [go_sem, J0, reduceIte, reduceCtorEq, Ja, Jb, Jc, Jd, Je, Jf, Jg, Jh, Ji, Jj, Jk, Jl, Jm, Jn, Jo, Jp, Jq, Jr, Js, g1, b1, gc, h.1, Vl.c, Vl.cs_map, s76, ec]))
      rw [← hT]
    | false =>
      rw [hc] at ec hT
      obtain ⟨ck, cn, cs, ckk, cz, cl⟩ := c
      simp only [Vl.c, Vl.cs_map] at ec
      rw [if_neg (by simp)] at hT
      (repeat' (first | (with_reducible first | refine kont_next ?_ | refine lkont_next ?_ | refine kont_nextn ?_ | refine ikont_next ?_ | refine ikont_nextn ?_) | simp only [go_sem, J0, reduceIte, reduceCtorEq, Ja, Jb, Jc, Jd, Je, Jf, Jg, Jh, Ji, Jj, Jk, Jl, Jm, Jn, Jo, Jp, Jq, Jr, Js, g1, b1, gc, h.1, Vl.c, Vl.cs_map, s76, ec, hw]))
      exact ⟨i + 1, rfl, ⟨by omega, hT⟩, by omega⟩
  · have g1 : decide ((i : Int) < (l.length : Int)) = false := decide_eq_false (by omega)
    rw [List.drop_of_length_le (by omega)] at hT
    (repeat' (first | (with_reducible first | refine kont_next ?_ | refine lkont_next ?_ | refine kont_nextn ?_ | refine ikont_next ?_ | refine ikont_nextn ?_) | simp only [go_sem, J0, reduceIte, reduceCtorEq, Ja, Jb, Jc, Jd, Je, Jf, Jg, Jh, Ji, Jj, Jk, Jl, Jm, Jn, Jo, Jp, Jq, Jr, Js, g1]))
    rw [← hT]; rfl
theorem con_may (d : Int) {q : Vl → Bool} {k : SK} {z : Nat} {l : List Vl} (h : OkS k z 4 l) (hl : l.length ≤ 137438953472) (hq : ∀ x ∈ l, acall S 76 [.agg x.c, .ip [.i .i64 d]] = some (.b (q x), [])) :
    acall S 75 [.sl k z (l.map Vl.c), .fn 76 [.ip [.i .i64 d]]] = some (.b (l.any q), []) := by
  have e1 := idx_may d h hl hq
  have hd := idxJ_any q l 0
  refine W_eq (g75 rfl ?_)
  (repeat' (first | (with_reducible first | refine kont_next ?_ | refine lkont_next ?_ | refine kont_nextn ?_ | refine ikont_next ?_ | refine ikont_nextn ?_) | simp only [go_sem, J0, reduceIte, reduceCtorEq, Ja, Jb, Jc, Jd, Je, Jf, Jg, Jh, Ji, Jj, Jk, Jl, Jm, Jn, Jo, Jp, Jq, Jr, Js, a75, s87, e1, hd]))
end Go.Proofs.YtgeaibhgaihobaaDoor
