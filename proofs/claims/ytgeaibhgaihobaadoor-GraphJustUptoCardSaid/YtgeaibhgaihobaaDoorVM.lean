import Derived.Test.YtgeaibhgaihobaaDoorV2
set_option linter.unusedSimpArgs false
set_option linter.unusedVariables false
set_option maxHeartbeats 8000000
set_option maxRecDepth 100000
namespace Go.Proofs.YtgeaibhgaihobaaDoor
open Go.Abs
open Nat renaming add_assoc → J0, reduceEqDiff → Ja, reduceAdd → Jb, reduceMul → Jc, reduceSub → Jd, reduceLeDiff → Je, reduceLT → Jf, reduceBEq → Jg, reduceBNe → Jh
open Int renaming reduceLE → Ji, reduceLT → Jj, reduceToNat → Jk, reduceEq → Jl, reduceNe → Jm, reduceNeg → Jn, reduceAdd → Jo, reduceSub → Jp, reduceMul → Jq, cast_ofNat_Int → Jr, natCast_zero → Js
def nameB (s : List UInt8) : Bool := !(decide (s = []) || decide ((24 : Int) < (s.length : Int)) || (decide ((48 : Int) ≤ ((s.headD 0).toNat : Int)) && decide (((s.headD 0).toNat : Int) ≤ 57))) && decide (Go.Lib.trimS s nameSet = [])
theorem e22 (s : List UInt8) (hs : s.length ≤ LIM) : acall S 22 [.str s] = some (.b (nameB s), []) := by
  have e1 : acall S 49 [.str s, .str nameSet] = some (.str (Go.Lib.trimS s nameSet), []) := by
    refine acall_prim (p := primTrim) rfl rfl ?_
    simp only [primTrim, hs, and_self, ask_true]
  simp only [nameSet] at e1
  refine W_eq (g22 rfl ?_)
  unfold nameB
  simp only [nameSet]
  cases s with
  | nil => (repeat' (first | (with_reducible first | refine kont_next ?_ | refine lkont_next ?_ | refine kont_nextn ?_ | refine ikont_next ?_ | refine ikont_nextn ?_) | simp only [go_sem, J0, reduceIte, reduceCtorEq, Ja, Jb, Jc, Jd, Je, Jf, Jg, Jh, Ji, Jj, Jk, Jl, Jm, Jn, Jo, Jp, Jq, Jr, Js, a22]))
  | cons c r =>
    cases h1 : decide ((24 : Int) < (((c :: r).length : Nat) : Int)) with
    | true =>
      simp only [List.length_cons] at h1
      (repeat' (first | (with_reducible first | refine kont_next ?_ | refine lkont_next ?_ | refine kont_nextn ?_ | refine ikont_next ?_ | refine ikont_nextn ?_) | simp only [go_sem, J0, reduceIte, reduceCtorEq, Ja, Jb, Jc, Jd, Je, Jf, Jg, Jh, Ji, Jj, Jk, Jl, Jm, Jn, Jo, Jp, Jq, Jr, Js, a22, h1]))
    | false =>
      simp only [List.length_cons] at h1
      cases h2 : decide ((48 : Int) ≤ (c.toNat : Int)) with
      | false =>
        have h2' := of_decide_eq_false h2
        (repeat' (first | (with_reducible first | refine kont_next ?_ | refine lkont_next ?_ | refine kont_nextn ?_ | refine ikont_next ?_ | refine ikont_nextn ?_) | simp only [go_sem, J0, reduceIte, reduceCtorEq, Ja, Jb, Jc, Jd, Je, Jf, Jg, Jh, Ji, Jj, Jk, Jl, Jm, Jn, Jo, Jp, Jq, Jr, Js, a22, h1, h2, s49, e1]))
        simp [h2']
        exact decide_eq_decide.2 Iff.rfl
      | true =>
        cases h3 : decide ((c.toNat : Int) ≤ 57) with
        | true =>
          have h2' := of_decide_eq_true h2
          have h3' := of_decide_eq_true h3
          (repeat' (first | (with_reducible first | refine kont_next ?_ | refine lkont_next ?_ | refine kont_nextn ?_ | refine ikont_next ?_ | refine ikont_nextn ?_) | simp only [go_sem, J0, reduceIte, reduceCtorEq, Ja, Jb, Jc, Jd, Je, Jf, Jg, Jh, Ji, Jj, Jk, Jl, Jm, Jn, Jo, Jp, Jq, Jr, Js, a22, h1, h2, h3, s49, e1]))
          simp [h2', h3']
        | false =>
          have h3' := of_decide_eq_false h3
          (repeat' (first | (with_reducible first | refine kont_next ?_ | refine lkont_next ?_ | refine kont_nextn ?_ | refine ikont_next ?_ | refine ikont_nextn ?_) | simp only [go_sem, J0, reduceIte, reduceCtorEq, Ja, Jb, Jc, Jd, Je, Jf, Jg, Jh, Ji, Jj, Jk, Jl, Jm, Jn, Jo, Jp, Jq, Jr, Js, a22, h1, h2, h3, s49, e1]))
          simp [h3']
          exact decide_eq_decide.2 Iff.rfl
end Go.Proofs.YtgeaibhgaihobaaDoor
