import Derived.Test.YtgeaibhgaihobaaDoorJ1
import Derived.Test.YtgeaibhgaihobaaDoorJ2
set_option linter.unusedSimpArgs false
set_option linter.unusedVariables false
set_option maxHeartbeats 8000000
set_option maxRecDepth 100000
namespace Go.Proofs.YtgeaibhgaihobaaDoor
open Go.Abs
open Nat renaming add_assoc → J0, reduceEqDiff → Ja, reduceAdd → Jb, reduceMul → Jc, reduceSub → Jd, reduceLeDiff → Je, reduceLT → Jf, reduceBEq → Jg, reduceBNe → Jh
open Int renaming reduceLE → Ji, reduceLT → Jj, reduceToNat → Jk, reduceEq → Jl, reduceNe → Jm, reduceNeg → Jn, reduceAdd → Jo, reduceSub → Jp, reduceMul → Jq, cast_ofNat_Int → Jr, natCast_zero → Js
def ClV (vs : List Vx) : Prop := ∀ v ∈ vs, v.pk = .open_ ∧ v.pz = 5
def ClE (es : List Lk) : Prop := ∀ v ∈ es, v.pk = .open_ ∧ v.pz = 5
theorem clV_c {vs : List Vx} (h : ClV vs) : (vs.map Vx.re).map (RE.s 5) = vs.map Vx.c := by
  rw [List.map_map]
  refine List.map_congr_left fun v hv => ?_
  obtain ⟨h1, h2⟩ := h v hv
  simp only [Function.comp, Vx.re, RE.s, Vx.c, h1, h2, List.map_cons, List.map_nil, SC.a, List.cons_append, List.nil_append, skOf_false]
theorem clE_c {es : List Lk} (h : ClE es) : (es.map Lk.re).map (RE.s 5) = es.map Lk.c := by
  rw [List.map_map]
  refine List.map_congr_left fun v hv => ?_
  obtain ⟨h1, h2⟩ := h v hv
  simp only [Function.comp, Lk.re, RE.s, Lk.c, h1, h2, List.map_cons, List.map_nil, SC.a, List.cons_append, List.nil_append, skOf_false]
def vBlk (a : Bool) (Kv : Nat) (vs : List Vx) : Blk := { ver := 0, row := true, nl := a, ty := 31, sz := 3, es := refsR Kv (vs.map Vx.re), dp := true }
def eBlk (b : Bool) (Ke : Nat) (es : List Lk) : Blk := { ver := 0, row := true, nl := b, ty := 37, sz := 5, es := refsR Ke (es.map Lk.re), dp := true }
def LiesH (hp : Hp) (kv ke Kv Ke : Nat) (a b : Bool) (vs : List Vx) (es : List Lk) : Prop :=
  Go.Abs.look hp kv = some (vBlk a Kv vs) ∧ Go.Abs.look hp ke = some (eBlk b Ke es) ∧ Laid hp 73 5 Kv (vs.map Vx.re) ∧ Laid hp 73 5 Ke (es.map Lk.re) ∧ nextVer hp 44800128 = 0 ∧ nextVer hp 44800192 = 0
structure Lies (kv ke Kv Ke : Nat) (a b : Bool) (vs : List Vx) (es : List Lk) : Prop where
  kv : kv < 44800128
  ke : ke < 44800128
  Kv : 44800192 < Kv
  Ke : 44800192 < Ke
  vl : vs.length ≤ 137438953472
  el : es.length ≤ 137438953472
  va : ClV vs
  ea : ClE es
  nv : a = true → vs = []
  ne : b = true → es = []
def bxB (cs : List AV) (n : Nat) : Blk := { ver := 0, row := false, nl := false, ty := 0, sz := n, es := [cs] }
def gCells (kv ke : Nat) (vs : List Vx) (es : List Lk) (last : Int) : List AV := [.ms kv 0 0 vs.length, .ms ke 0 0 es.length, .i .i64 last]
theorem props_some_v {hp : Hp} {kv ke Kv Ke : Nat} {a b : Bool} {vs : List Vx} {es : List Lk} {last n : Int} {s : List UInt8} {y : AV} {i : Nat} {x : Vx}
    (hh : LiesH hp kv ke Kv Ke a b vs es) (h : Lies kv ke Kv Ke a b vs es) (hi : idxJ (isV n) vs 0 = (i : Int)) (hx : vs[i]? = some x) :
    inlF S (acall S) 1000032 [.agg (gCells kv ke vs es last), .agg [.i .i64 6, .i .i64 n, .str s, y]] hp =
      some (.pt kv 0 i 2, (44800192, .live (bxB [.i .i64 6, .i .i64 n, .str s, y] 4)) :: (44800128, .live (bxB (gCells kv ke vs es last) 3)) :: hp) := by
  obtain ⟨h1, h2, h3, h4, h5, h6⟩ := hh
  obtain ⟨h7, h8, h9, h10, h11, h12, h13, h14, h15, h16⟩ := h
  have c1 : ¬ kv = 44800128 := by omega
  have c2 : ¬ kv = 44800192 := by omega
  have c3 : ¬ ke = 44800128 := by omega
  have c4 : ¬ ke = 44800192 := by omega
  have c5 : 44800128 < Kv := by omega
  have c6 : 44800128 < Ke := by omega
  have ok : OkS (skOf a) 3 3 vs := by
    cases a with
    | false => exact OkS.open_ 3 _
    | true => rw [h15 rfl]; exact ⟨.inr rfl, fun _ => rfl⟩
  have ev := e43 n (.sl (skOf b) 5 (es.map Lk.c)) (.i .i64 last) ok h11 rfl rfl
  rw [hi] at ev
  have hi0 : decide ((0 : Int) ≤ (i : Int)) = true := decide_eq_true (by omega)
  rw [hi0] at ev
  have hlt := (List.getElem?_eq_some_iff.1 hx).1
  have b1 : (0 : Int) ≤ (i : Int) := by omega
  have b2 : (i : Int) < (vs.length : Int) := by omega
  refine W_eq (lkinl rfl rfl rfl ?_)
  unfold gCells
  (repeat' (first | (with_reducible first | refine kont_next ?_ | refine lkont_next ?_ | refine kont_nextn ?_ | refine ikont_next ?_ | refine ikont_nextn ?_) | simp only [go_sem, J0, reduceIte, reduceCtorEq, Ja, Jb, Jc, Jd, Je, Jf, Jg, Jh, Ji, Jj, Jk, Jl, Jm, Jn, Jo, Jp, Jq, Jr, Js, a1000032, h1, h2, h3, h4, h5, h6, c1, c2, c3, c4, c5, c6, h9, h10, vBlk, eBlk, s43, snapR (ty := 73) (sz := 5), List.length_map, Nat.le_refl, clV_c h13, clE_c h14, ev, b1, b2, hlt, bxB, W_some]))
theorem props_some_e {hp : Hp} {kv ke Kv Ke : Nat} {a b : Bool} {vs : List Vx} {es : List Lk} {last n : Int} {s : List UInt8} {y : AV} {i : Nat} {x : Lk}
    (hh : LiesH hp kv ke Kv Ke a b vs es) (h : Lies kv ke Kv Ke a b vs es) (hi : idxJ (isE n) es 0 = (i : Int)) (hx : es[i]? = some x) :
    inlF S (acall S) 1000032 [.agg (gCells kv ke vs es last), .agg [.i .i64 7, .i .i64 n, .str s, y]] hp =
      some (.pt ke 0 i 4, (44800192, .live (bxB [.i .i64 7, .i .i64 n, .str s, y] 4)) :: (44800128, .live (bxB (gCells kv ke vs es last) 3)) :: hp) := by
  obtain ⟨h1, h2, h3, h4, h5, h6⟩ := hh
  obtain ⟨h7, h8, h9, h10, h11, h12, h13, h14, h15, h16⟩ := h
  have c1 : ¬ kv = 44800128 := by omega
  have c2 : ¬ kv = 44800192 := by omega
  have c3 : ¬ ke = 44800128 := by omega
  have c4 : ¬ ke = 44800192 := by omega
  have c5 : 44800128 < Kv := by omega
  have c6 : 44800128 < Ke := by omega
  have ok : OkS (skOf b) 5 5 es := by
    cases b with
    | false => exact OkS.open_ 5 _
    | true => rw [h16 rfl]; exact ⟨.inr rfl, fun _ => rfl⟩
  have ev := e55 n (.sl (skOf a) 3 (vs.map Vx.c)) (.i .i64 last) ok h12 rfl rfl
  rw [hi] at ev
  have hi0 : decide ((0 : Int) ≤ (i : Int)) = true := decide_eq_true (by omega)
  rw [hi0] at ev
  have hlt := (List.getElem?_eq_some_iff.1 hx).1
  have b1 : (0 : Int) ≤ (i : Int) := by omega
  have b2 : (i : Int) < (es.length : Int) := by omega
  refine W_eq (lkinl rfl rfl rfl ?_)
  unfold gCells
  (repeat' (first | (with_reducible first | refine kont_next ?_ | refine lkont_next ?_ | refine kont_nextn ?_ | refine ikont_next ?_ | refine ikont_nextn ?_) | simp only [go_sem, J0, reduceIte, reduceCtorEq, Ja, Jb, Jc, Jd, Je, Jf, Jg, Jh, Ji, Jj, Jk, Jl, Jm, Jn, Jo, Jp, Jq, Jr, Js, a1000032, h1, h2, h3, h4, h5, h6, c1, c2, c3, c4, c5, c6, h9, h10, vBlk, eBlk, s55, snapR (ty := 73) (sz := 5), List.length_map, Nat.le_refl, clV_c h13, clE_c h14, ev, b1, b2, hlt, bxB, W_some]))
theorem props_none {hp : Hp} {kv ke Kv Ke : Nat} {a b : Bool} {vs : List Vx} {es : List Lk} {last n kd : Int} {s : List UInt8} {y : AV}
    (hh : LiesH hp kv ke Kv Ke a b vs es) (h : Lies kv ke Kv Ke a b vs es) (h6 : kd = 6 → ¬ 0 ≤ idxJ (isV n) vs 0) (h7 : kd = 7 → ¬ 0 ≤ idxJ (isE n) es 0) :
    inlF S (acall S) 1000032 [.agg (gCells kv ke vs es last), .agg [.i .i64 kd, .i .i64 n, .str s, y]] hp =
      some (.nilp, (44800192, .live (bxB [.i .i64 kd, .i .i64 n, .str s, y] 4)) :: (44800128, .live (bxB (gCells kv ke vs es last) 3)) :: hp) := by
  obtain ⟨h1, h2, h3, h4, h5, h6'⟩ := hh
  obtain ⟨h7', h8, h9, h10, h11, h12, h13, h14, h15, h16⟩ := h
  have c1 : ¬ kv = 44800128 := by omega
  have c2 : ¬ kv = 44800192 := by omega
  have c3 : ¬ ke = 44800128 := by omega
  have c4 : ¬ ke = 44800192 := by omega
  have c5 : 44800128 < Kv := by omega
  have c6 : 44800128 < Ke := by omega
  have okv : OkS (skOf a) 3 3 vs := by
    cases a with
    | false => exact OkS.open_ 3 _
    | true => rw [h15 rfl]; exact ⟨.inr rfl, fun _ => rfl⟩
  have oke : OkS (skOf b) 5 5 es := by
    cases b with
    | false => exact OkS.open_ 5 _
    | true => rw [h16 rfl]; exact ⟨.inr rfl, fun _ => rfl⟩
  have ev := e43 n (.sl (skOf b) 5 (es.map Lk.c)) (.i .i64 last) okv h11 rfl rfl
  have ee := e55 n (.sl (skOf a) 3 (vs.map Vx.c)) (.i .i64 last) oke h12 rfl rfl
  refine W_eq (lkinl rfl rfl rfl ?_)
  unfold gCells
  by_cases k6 : kd = 6
  · subst k6
    have hi0 : decide ((0 : Int) ≤ idxJ (isV n) vs 0) = false := decide_eq_false (h6 rfl)
    rw [hi0] at ev
    (repeat' (first | (with_reducible first | refine kont_next ?_ | refine lkont_next ?_ | refine kont_nextn ?_ | refine ikont_next ?_ | refine ikont_nextn ?_) | simp only [go_sem, J0, reduceIte, reduceCtorEq, Ja, Jb, Jc, Jd, Je, Jf, Jg, Jh, Ji, Jj, Jk, Jl, Jm, Jn, Jo, Jp, Jq, Jr, Js, a1000032, h1, h2, h3, h4, h5, h6', c1, c2, c3, c4, c5, c6, h9, h10, vBlk, eBlk, s43, snapR (ty := 73) (sz := 5), List.length_map, Nat.le_refl, clV_c h13, clE_c h14, ev, bxB, W_some]))
  · by_cases k7 : kd = 7
    · subst k7
      have hi0 : decide ((0 : Int) ≤ idxJ (isE n) es 0) = false := decide_eq_false (h7 rfl)
      rw [hi0] at ee
      (repeat' (first | (with_reducible first | refine kont_next ?_ | refine lkont_next ?_ | refine kont_nextn ?_ | refine ikont_next ?_ | refine ikont_nextn ?_) | simp only [go_sem, J0, reduceIte, reduceCtorEq, Ja, Jb, Jc, Jd, Je, Jf, Jg, Jh, Ji, Jj, Jk, Jl, Jm, Jn, Jo, Jp, Jq, Jr, Js, a1000032, h1, h2, h3, h4, h5, h6', c1, c2, c3, c4, c5, c6, h9, h10, vBlk, eBlk, s55, snapR (ty := 73) (sz := 5), List.length_map, Nat.le_refl, clV_c h13, clE_c h14, ee, bxB, W_some]))
    · (repeat' (first | (with_reducible first | refine kont_next ?_ | refine lkont_next ?_ | refine kont_nextn ?_ | refine ikont_next ?_ | refine ikont_nextn ?_) | simp only [go_sem, J0, reduceIte, reduceCtorEq, Ja, Jb, Jc, Jd, Je, Jf, Jg, Jh, Ji, Jj, Jk, Jl, Jm, Jn, Jo, Jp, Jq, Jr, Js, a1000032, h5, h6', k6, k7, bxB, W_some]))
end Go.Proofs.YtgeaibhgaihobaaDoor
