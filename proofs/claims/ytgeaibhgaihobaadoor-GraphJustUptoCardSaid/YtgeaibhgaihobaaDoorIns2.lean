import Derived.Test.YtgeaibhgaihobaaDoorFd
import Derived.Test.YtgeaibhgaihobaaDoorIns
import Derived.Test.YtgeaibhgaihobaaDoorChecked
import Derived.KernelRfl
set_option linter.unusedSimpArgs false
set_option linter.unusedVariables false
set_option maxHeartbeats 8000000
set_option maxRecDepth 100000
namespace Go.Proofs.YtgeaibhgaihobaaDoor
open Go.Abs
open Nat renaming add_assoc → J0, reduceEqDiff → Ja, reduceAdd → Jb, reduceMul → Jc, reduceSub → Jd, reduceLeDiff → Je, reduceLT → Jf, reduceBEq → Jg, reduceBNe → Jh
open Int renaming reduceLE → Ji, reduceLT → Jj, reduceToNat → Jk, reduceEq → Jl, reduceNe → Jm, reduceNeg → Jn, reduceAdd → Jo, reduceSub → Jp, reduceMul → Jq, cast_ofNat_Int → Jr, natCast_zero → Js
def k37 : Nat → List (Nat × H) := fun _ => []
def a37 : AFun := ⟨3, (.seq (.reg [⟨some 6, .mov (.con (.sl .nil 0 [])), none⟩])
 (.seq (.reg [⟨some 10, .mov (.tmp 0), none⟩, ⟨some 11, .mov (.tmp 1), none⟩, ⟨some 12, .slice 5 (.tmp 10) (some (.tmp 11)) none none, none⟩])
 (.seq (.reg [⟨some 13, .mov (.tmp 2), none⟩, ⟨some 14, .len false (.tmp 13), none⟩, ⟨some 7, .mov (.tmp 14), none⟩])
 (.seq (.seq (.reg [⟨some 15, .mov (.tmp 7), none⟩, ⟨some 16, .bin .eql (.tmp 15) (.con (.i .i64 (0))), none⟩])
 (.cond (.tmp 16) (.seq (.reg [⟨some 17, .mov (.tmp 0), none⟩, ⟨some 6, .mov (.tmp 17), none⟩])
 .ret) .skip))
 (.seq (.reg [⟨some 18, .mov (.tmp 0), none⟩, ⟨some 19, .len false (.tmp 18), none⟩, ⟨some 8, .mov (.tmp 19), none⟩])
 (.seq (.seq (.reg [⟨some 20, .mov (.tmp 1), none⟩, ⟨some 21, .mov (.tmp 8), none⟩, ⟨some 22, .bin .eql (.tmp 20) (.tmp 21), none⟩])
 (.cond (.tmp 22) (.seq (.reg [⟨some 23, .mov (.tmp 0), none⟩, ⟨some 24, .mov (.tmp 2), none⟩, ⟨some 25, .app 73 5 (.tmp 23) (.tmp 24), none⟩, ⟨some 6, .mov (.tmp 25), none⟩])
 .ret) .skip))
 (.seq (.seq (.reg [⟨some 26, .mov (.tmp 8), none⟩, ⟨some 27, .mov (.tmp 7), none⟩, ⟨some 28, .bin .add (.tmp 26) (.tmp 27), none⟩, ⟨some 29, .mov (.tmp 0), none⟩, ⟨some 30, .fail, none⟩, ⟨some 31, .bin .gtr (.tmp 28) (.tmp 30), none⟩])
 (.cond (.tmp 31) (.seq (.reg [⟨some 32, .mov (.tmp 0), none⟩, ⟨some 33, .mov (.tmp 1), none⟩, ⟨some 34, .slice 5 (.tmp 32) none (some (.tmp 33)) none, none⟩, ⟨some 35, .mov (.tmp 8), none⟩, ⟨some 36, .mov (.tmp 7), none⟩, ⟨some 37, .bin .add (.tmp 35) (.tmp 36), none⟩, ⟨some 38, .mov (.tmp 1), none⟩, ⟨some 39, .bin .sub (.tmp 37) (.tmp 38), none⟩, ⟨some 40, .appz 73 [(.str []), (.i .i64 (0)), (.i .i64 (0)), (.str []), (.sl .nil 0 [])] (.tmp 34) (.tmp 39), none⟩, ⟨some 9, .mov (.tmp 40), none⟩])
 (.seq (.reg [⟨some 41, .mov (.tmp 9), none⟩, ⟨some 42, .mov (.tmp 1), none⟩, ⟨some 43, .slice 5 (.tmp 41) (some (.tmp 42)) none none, none⟩, ⟨some 44, .mov (.tmp 2), none⟩, ⟨some 45, .copy 5 (.tmp 43) (.tmp 44), none⟩])
 (.seq (.draw [⟨some 46, .mov (.tmp 9), none⟩, ⟨some 47, .mov (.tmp 1), none⟩, ⟨some 48, .mov (.tmp 7), none⟩, ⟨some 49, .bin .add (.tmp 47) (.tmp 48), none⟩, ⟨some 50, .slice 5 (.tmp 46) (some (.tmp 49)) none none, none⟩, ⟨some 51, .mov (.tmp 0), none⟩, ⟨some 52, .mov (.tmp 1), none⟩, ⟨some 53, .slice 5 (.tmp 51) (some (.tmp 52)) none none, none⟩, ⟨some 54, .copy 5 (.tmp 50) (.tmp 53), none⟩] [(4, 7)])
 (.seq (.reg [⟨some 55, .mov (.tmp 9), none⟩, ⟨some 6, .mov (.tmp 55), none⟩])
 .ret)))) .skip))
 (.seq (.reg [⟨some 56, .mov (.tmp 0), none⟩, ⟨some 57, .mov (.tmp 8), none⟩, ⟨some 58, .mov (.tmp 7), none⟩, ⟨some 59, .bin .add (.tmp 57) (.tmp 58), none⟩, ⟨some 60, .slice 5 (.tmp 56) none (some (.tmp 59)) none, none⟩, ⟨some 0, .mov (.tmp 60), none⟩])
 (.seq (.seq (.reg [⟨some 61, .mov (.tmp 2), none⟩, ⟨some 62, .mov (.tmp 0), none⟩, ⟨some 63, .mov (.tmp 1), none⟩, ⟨some 64, .mov (.tmp 7), none⟩, ⟨some 65, .bin .add (.tmp 63) (.tmp 64), none⟩, ⟨some 66, .slice 5 (.tmp 62) (some (.tmp 65)) none none, none⟩, ⟨some 67, .call 58 [(.tmp 61), (.tmp 66)], none⟩, ⟨some 68, .un .not (.tmp 67), none⟩])
 (.cond (.tmp 68) (.seq (.draw [⟨some 69, .mov (.tmp 0), none⟩, ⟨some 70, .mov (.tmp 1), none⟩, ⟨some 71, .mov (.tmp 7), none⟩, ⟨some 72, .bin .add (.tmp 70) (.tmp 71), none⟩, ⟨some 73, .slice 5 (.tmp 69) (some (.tmp 72)) none none, none⟩, ⟨some 74, .mov (.tmp 0), none⟩, ⟨some 75, .mov (.tmp 1), none⟩, ⟨some 76, .slice 5 (.tmp 74) (some (.tmp 75)) none none, none⟩, ⟨some 77, .copy 5 (.tmp 73) (.tmp 76), none⟩] [(4, 7)])
 (.seq (.reg [⟨some 78, .mov (.tmp 0), none⟩, ⟨some 79, .mov (.tmp 1), none⟩, ⟨some 80, .slice 5 (.tmp 78) (some (.tmp 79)) none none, none⟩, ⟨some 81, .mov (.tmp 2), none⟩, ⟨some 82, .copy 5 (.tmp 80) (.tmp 81), none⟩])
 (.seq (.reg [⟨some 83, .mov (.tmp 0), none⟩, ⟨some 6, .mov (.tmp 83), none⟩])
 .ret))) .skip))
 (.seq (.reg [⟨some 84, .mov (.tmp 0), none⟩, ⟨some 85, .mov (.tmp 8), none⟩, ⟨some 86, .slice 5 (.tmp 84) (some (.tmp 85)) none none, none⟩, ⟨some 87, .mov (.tmp 2), none⟩, ⟨some 88, .copy 5 (.tmp 86) (.tmp 87), none⟩])
 (.seq (.reg [⟨some 89, .mov (.tmp 0), none⟩, ⟨some 90, .mov (.tmp 1), none⟩, ⟨some 91, .slice 5 (.tmp 89) (some (.tmp 90)) none none, none⟩, ⟨some 92, .mov (.tmp 7), none⟩, ⟨some 93, .call 59 [(.tmp 91), (.tmp 92)], none⟩])
 (.seq (.reg [⟨some 94, .mov (.tmp 0), none⟩, ⟨some 6, .mov (.tmp 94), none⟩])
 .ret)))))))))))), [.tmp 6]⟩
theorem c37 : compF Tryd.prog k37 [.give (.row 73 5), .borrow, .give (.row 73 5)] Tryd.f37 = some a37 := by kernel_rfl
def cx0 : Cx := ⟨fun _ _ => none, fun _ => {}, fun _ _ _ => none⟩
theorem cx0_ok : CxOk Tryd.prog cx0 := ⟨fun f args r e => (by cases e), fun f args hp r e => (by cases e)⟩
theorem insert_end {nl nl2 : Bool} {es ys : List (List AV)} (hm : 0 < ys.length) (hb : es.length + ys.length ≤ 274877906944) :
    There Tryd.prog 37 ∧ Owes Tryd.prog 37 [.give (.row 73 5), .borrow, .give (.row 73 5)] [.ow 73 5 nl es, .i .i64 (es.length : Int), .ow 73 5 nl2 ys] (.ow 73 5 false (es ++ ys), []) := by
  refine body_owes (fs := { pm := [.give (.row 73 5), .borrow, .give (.row 73 5)], rm := some (.row 73 5) }) cx0_ok (fun ok n fxv Z hok => draw_ok cx0_ok (Checked.mixed Tryd.checked) ok n fxv Z hok) Tryd.func37 c37 rfl ?_
  refine W_eq (kbody ?_)
  have h1 : decide ((ys.length : Int) = 0) = false := decide_eq_false (by omega)
  have hl : es.length + ys.length ≤ LIM := by rw [show LIM = 274877906944 from rfl]; exact hb
  have hne : ys.isEmpty = false := by cases ys with | nil => simp at hm | cons a r => rfl
  (repeat' (first | (with_reducible first | refine kont_next ?_ | refine lkont_next ?_ | refine kont_nextn ?_ | refine ikont_next ?_ | refine ikont_nextn ?_) | simp only [go_sem, J0, reduceIte, reduceCtorEq, Ja, Jb, Jc, Jd, Je, Jf, Jg, Jh, Ji, Jj, Jk, Jl, Jm, Jn, Jo, Jp, Jq, Jr, Js, a37, h1, hl, hne, Bool.and_false, List.length_append]))
theorem insert_meets0 {nl nl2 : Bool} {es ys : List (List AV)} {i : Nat} (hi : i ≤ es.length) (hm : 0 < ys.length) (hb : es.length + ys.length ≤ 274877906944) :
    Meets Tryd.prog 37 [.give (.row 73 5), .borrow, .give (.row 73 5)] [.ow 73 5 nl es, .i .i64 (i : Int), .ow 73 5 nl2 ys] (.ow 73 5 false (es.take i ++ ys ++ es.drop i), []) := by
  by_cases h : i < es.length
  · exact .inl ⟨(insert_end (nl := nl) (nl2 := nl2) (es := es) hm hb).1, insert_mid h hm (by omega)⟩
  · obtain rfl : i = es.length := by omega
    have := insert_end (nl := nl) (nl2 := nl2) (es := es) hm hb
    rw [List.take_length, List.drop_length, List.append_nil]
    exact .inl this
end Go.Proofs.YtgeaibhgaihobaaDoor
