import Derived.Test.YtgeaibhgaihobaaDoorV2
import Derived.Test.YtgeaibhgaihobaaDoorP1
set_option linter.unusedSimpArgs false
set_option linter.unusedVariables false
set_option maxHeartbeats 8000000
set_option maxRecDepth 100000
namespace Go.Proofs.YtgeaibhgaihobaaDoor
open Go.Abs
open Nat renaming add_assoc → J0, reduceEqDiff → Ja, reduceAdd → Jb, reduceMul → Jc, reduceSub → Jd, reduceLeDiff → Je, reduceLT → Jf, reduceBEq → Jg, reduceBNe → Jh
open Int renaming reduceLE → Ji, reduceLT → Jj, reduceToNat → Jk, reduceEq → Jl, reduceNe → Jm, reduceNeg → Jn, reduceAdd → Jo, reduceSub → Jp, reduceMul → Jq, cast_ofNat_Int → Jr, natCast_zero → Js
open Classical in
/-- a value's clone, as it lies -/
noncomputable def clV (v : Vl) : Vl := if h : v.ok then Classical.choose (e34 v h) else v
theorem clV_e {v : Vl} (h : v.ok) : acall S 34 [.agg v.c] = some (.agg (clV v).c, []) := by
  unfold clV
  rw [dif_pos h]
  exact (Classical.choose_spec (e34 v h)).1
theorem clV_p (v : Vl) : (clV v).p = v.p := by
  unfold clV
  split
  · rename_i h; exact (Classical.choose_spec (e34 v h)).2.1
  · rfl
theorem clV_ok {v : Vl} (h : v.ok) : (clV v).ok := by
  unfold clV
  rw [dif_pos h]
  exact (Classical.choose_spec (e34 v h)).2.2
abbrev Pp := List UInt8 × Vl
def tagC (x : Pp) : List AV := .str x.1 :: x.2.c
def tagP (x : Pp) : List UInt8 × PV := (x.1, x.2.p)
noncomputable def clT (x : Pp) : Pp := (x.1, clV x.2)
theorem clT_p (x : Pp) : tagP (clT x) = tagP x := by simp only [tagP, clT, clV_p]
def tagOk (x : Pp) : Prop := x.1.length ≤ 137438953472 ∧ x.2.ok
theorem clT_ok {x : Pp} (h : tagOk x) : tagOk (clT x) := ⟨h.1, clV_ok h.2⟩
structure PsOk (k : SK) (z : Nat) (l : List Pp) : Prop where
  s : OkS k z 5 l
  len : l.length ≤ 137438953472
  all : ∀ x ∈ l, tagOk x
theorem PsOk.get {k : SK} {z : Nat} {l : List Pp} (h : PsOk k z l) {i : Nat} {x : Pp} (hx : l[i]? = some x) : tagOk x := h.all x (List.mem_of_getElem? hx)
theorem PsOk.cl {k : SK} {z : Nat} {l : List Pp} (h : PsOk k z l) : PsOk .open_ 5 (l.map clT) :=
  ⟨OkS.open_ 5 _, by rw [List.length_map]; exact h.len, fun x hx => by obtain ⟨y, hy, rfl⟩ := List.mem_map.1 hx; exact clT_ok (h.all y hy)⟩
def turned {α : Type} (f : α → α) (l : List α) (i : Nat) : List α := (l.take i).map f ++ l.drop i
theorem turned_len {α : Type} (f : α → α) (l : List α) (i : Nat) : (turned f l i).length = l.length := by
  simp [turned]
  omega
theorem turned_get {α : Type} {f : α → α} {l : List α} {i : Nat} {x : α} (h : l[i]? = some x) : (turned f l i)[i]? = some x := by
  have hlt := (List.getElem?_eq_some_iff.1 h).1
  unfold turned
  rw [List.getElem?_append_right (by simp; omega)]
  simp [Nat.min_eq_left (Nat.le_of_lt hlt), h]
theorem turned_set {α : Type} {f : α → α} {l : List α} {i : Nat} {x : α} (h : l[i]? = some x) : (turned f l i).set i (f x) = turned f l (i + 1) := by
  have hlt := (List.getElem?_eq_some_iff.1 h).1
  unfold turned
  rw [take_get h, List.set_append_right _ _ (by simp; omega)]
  have : i - ((l.take i).map f).length = 0 := by simp; omega
  rw [this]
  have hd : l.drop i = x :: l.drop (i + 1) := by
    rw [List.drop_eq_getElem_cons hlt, (List.getElem?_eq_some_iff.1 h).2]
  rw [hd]
  simp
theorem turned_end {α : Type} (f : α → α) (l : List α) : turned f l l.length = l.map f := by simp [turned]
theorem turned_zero {α : Type} (f : α → α) (l : List α) : turned f l 0 = l := by simp [turned]
theorem e53 {k : SK} {z : Nat} {l : List Pp} (h : PsOk k z l) : acall S 53 [.sl k z (l.map tagC)] = some (.ow 73 5 false ((l.map clT).map tagC), []) := by
  have h1 := h.s.1
  have hlen := h.len
  have hL : LIM = 274877906944 := rfl
  have hl : l.length ≤ LIM := by omega
  have hmin : min l.length l.length = l.length := Nat.min_self _
  refine W_eq (g53 rfl ?_)
  have b0 : (0 : Int) ≤ (l.length : Int) := by omega
  (repeat' (first | (with_reducible first | refine kont_next ?_ | refine lkont_next ?_ | refine kont_nextn ?_ | refine ikont_next ?_ | refine ikont_nextn ?_) | simp only [go_sem, J0, reduceIte, reduceCtorEq, Ja, Jb, Jc, Jd, Je, Jf, Jg, Jh, Ji, Jj, Jk, Jl, Jm, Jn, Jo, Jp, Jq, Jr, Js, a53, h1, hl, b0, Int.toNat_natCast, List.length_replicate, hmin, List.length_map, List.take_of_length_le, List.length_append, List.drop_replicate, Nat.sub_self, List.replicate_zero, List.append_nil]))
  refine kloop_inv (ι := Nat) (fun i => [.ow 73 5 false ((turned clT l i).map tagC), .i .i64 l.length, .i .i64 i]) (fun i => i ≤ l.length) (fun i => l.length - i) 0 (by rw [turned_zero]; rfl) (Nat.zero_le _) ?_
  intro i hi
  have ht := turned_len clT l i
  by_cases hlt : i < l.length
  · obtain ⟨x, gx⟩ := get_lt hlt
    have gx2 := turned_get (f := clT) gx
    have gs := turned_set (f := clT) gx
    have eu := clV_e (h.get gx).2
    have hw := wrap_succ (k := i) (by omega)
    have hbt : decide ((i : Int) < (l.length : Int)) = true := decide_eq_true (by omega)
    have b1 : (0 : Int) ≤ (i : Int) := by omega
    have b5 : (i : Int) < (l.length : Int) := by omega
    have gset : ((turned clT l i).map tagC).set i (tagC (clT x)) = (turned clT l (i + 1)).map tagC := by rw [← gs, List.map_set]
    obtain ⟨xn, xv⟩ := x
    simp only [clT] at gset
    obtain ⟨xk, xm, xs, xkk, xz, xl⟩ := xv
    generalize clV (.mk xk xm xs xkk xz xl) = u at eu gset
    obtain ⟨uk, un, us, ukk, uz, ul⟩ := u
    simp only [Vl.c, Vl.cs_map, tagC] at eu gset
    (repeat' (first | (with_reducible first | refine kont_next ?_ | refine lkont_next ?_ | refine kont_nextn ?_ | refine ikont_next ?_ | refine ikont_nextn ?_) | simp only [go_sem, J0, reduceIte, reduceCtorEq, Ja, Jb, Jc, Jd, Je, Jf, Jg, Jh, Ji, Jj, Jk, Jl, Jm, Jn, Jo, Jp, Jq, Jr, Js, hbt, ht, b1, b5, hlt, List.length_map, gx2, tagC, Vl.c, Vl.cs_map, s34, eu, hw, gset, turned_len, Nat.le_refl]))
    exact ⟨i + 1, rfl, by omega, by omega⟩
  · have hbf : decide ((i : Int) < (l.length : Int)) = false := decide_eq_false (by omega)
    obtain rfl : i = l.length := by omega
    have he := turned_end clT l
    (repeat' (first | (with_reducible first | refine kont_next ?_ | refine lkont_next ?_ | refine kont_nextn ?_ | refine ikont_next ?_ | refine ikont_nextn ?_) | simp only [go_sem, J0, reduceIte, reduceCtorEq, Ja, Jb, Jc, Jd, Je, Jf, Jg, Jh, Ji, Jj, Jk, Jl, Jm, Jn, Jo, Jp, Jq, Jr, Js, hbf, he, ht, List.length_map]))
theorem e54 (id : Int) (lab : List UInt8) {k : SK} {z : Nat} {l : List Pp} (h : PsOk k z l) : acall S 54 [.agg [.i .i64 id, .str lab, .sl k z (l.map tagC)]] = some (.agg [.i .i64 id, .str lab, .ow 73 5 false ((l.map clT).map tagC)], []) := by
  have e1 := e53 h
  refine W_eq (g54 rfl ?_)
  (repeat' (first | (with_reducible first | refine kont_next ?_ | refine lkont_next ?_ | refine kont_nextn ?_ | refine ikont_next ?_ | refine ikont_nextn ?_) | simp only [go_sem, J0, reduceIte, reduceCtorEq, Ja, Jb, Jc, Jd, Je, Jf, Jg, Jh, Ji, Jj, Jk, Jl, Jm, Jn, Jo, Jp, Jq, Jr, Js, a54, s53, e1]))
theorem e51 (id : Int) (lab : List UInt8) (o i : Int) {k : SK} {z : Nat} {l : List Pp} (h : PsOk k z l) : acall S 51 [.agg [.i .i64 id, .str lab, .i .i64 o, .i .i64 i, .sl k z (l.map tagC)]] = some (.agg [.i .i64 id, .str lab, .i .i64 o, .i .i64 i, .ow 73 5 false ((l.map clT).map tagC)], []) := by
  have e1 := e53 h
  refine W_eq (g51 rfl ?_)
  (repeat' (first | (with_reducible first | refine kont_next ?_ | refine lkont_next ?_ | refine kont_nextn ?_ | refine ikont_next ?_ | refine ikont_nextn ?_) | simp only [go_sem, J0, reduceIte, reduceCtorEq, Ja, Jb, Jc, Jd, Je, Jf, Jg, Jh, Ji, Jj, Jk, Jl, Jm, Jn, Jo, Jp, Jq, Jr, Js, a51, s53, e1]))
end Go.Proofs.YtgeaibhgaihobaaDoor
