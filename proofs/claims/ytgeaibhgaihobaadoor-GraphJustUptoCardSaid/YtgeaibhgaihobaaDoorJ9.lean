import Derived.Test.YtgeaibhgaihobaaDoorJ2
import Derived.Test.YtgeaibhgaihobaaDoorFf
set_option linter.unusedSimpArgs false
set_option linter.unusedVariables false
set_option maxHeartbeats 8000000
set_option maxRecDepth 100000
namespace Go.Proofs.YtgeaibhgaihobaaDoor
open Go.Abs
open Nat renaming add_assoc → J0, reduceEqDiff → Ja, reduceAdd → Jb, reduceMul → Jc, reduceSub → Jd, reduceLeDiff → Je, reduceLT → Jf, reduceBEq → Jg, reduceBNe → Jh
open Int renaming reduceLE → Ji, reduceLT → Jj, reduceToNat → Jk, reduceEq → Jl, reduceNe → Jm, reduceNeg → Jn, reduceAdd → Jo, reduceSub → Jp, reduceMul → Jq, cast_ofNat_Int → Jr, natCast_zero → Js
theorem idxJ_none {α : Type} {q : α → Bool} : ∀ {l : List α} {k : Nat}, idxJ q l k = -1 → ∀ y ∈ l, q y = false
  | [], _, _, y, hy => by simp at hy
  | x :: l, k, h, y, hy => by
    simp only [idxJ] at h
    cases hx : q x with
    | true => rw [hx, if_pos rfl] at h; omega
    | false =>
      rw [hx, if_neg (by simp)] at h
      rcases List.mem_cons.1 hy with rfl | hy
      · exact hx
      · exact idxJ_none h y hy
theorem idxJ_some {α : Type} {q : α → Bool} : ∀ {l : List α} {k i : Nat}, idxJ q l k = ((k + i : Nat) : Int) → ∃ x, l[i]? = some x ∧ q x = true ∧ ∀ y ∈ l.take i, q y = false
  | [], k, i, h => by simp only [idxJ] at h; omega
  | x :: l, k, i, h => by
    simp only [idxJ] at h
    cases hx : q x with
    | true =>
      rw [hx, if_pos rfl] at h
      obtain rfl : i = 0 := by omega
      exact ⟨x, rfl, hx, by simp⟩
    | false =>
      rw [hx, if_neg (by simp)] at h
      have hk : k + 1 ≤ k + i ∨ idxJ q l (k + 1) = -1 := by
        have : ∀ (l : List α) (k : Nat), (k : Int) ≤ idxJ q l k ∨ idxJ q l k = -1 := by
          intro l
          induction l with
          | nil => intro k; exact .inr rfl
          | cons a l ih =>
            intro k
            simp only [idxJ]
            split
            · exact .inl (Int.le_refl _)
            · rcases ih (k + 1) with h | h
              · exact .inl (by omega)
              · exact .inr h
        rcases this l (k + 1) with h' | h'
        · exact .inl (by omega)
        · exact .inr h'
      have hi : 1 ≤ i := by omega
      obtain ⟨j, rfl⟩ : ∃ j, i = j + 1 := ⟨i - 1, by omega⟩
      obtain ⟨y, h1, h2, h3⟩ := idxJ_some (q := q) (l := l) (k := k + 1) (i := j) (by rw [h]; congr 1; omega)
      refine ⟨y, h1, h2, fun z hz => ?_⟩
      rcases List.mem_cons.1 (by simpa using hz : z ∈ x :: l.take j) with rfl | hz
      · exact hx
      · exact h3 z hz
theorem idxJ_some' {α : Type} {q : α → Bool} {l : List α} {i : Nat} (h : idxJ q l 0 = (i : Int)) : ∃ x, l[i]? = some x ∧ q x = true ∧ ∀ y ∈ l.take i, q y = false := idxJ_some (k := 0) (by rw [h, Nat.zero_add])
def keptN (nm : List UInt8) (l : List Pp) (j : Nat) : List Pp := (l.take j).filter fun x => !eqP nm x
theorem keptN_len (nm : List UInt8) (l : List Pp) (j : Nat) : (keptN nm l j).length ≤ j := Nat.le_trans (List.length_filter_le ..) (by rw [List.length_take]; omega)
theorem keptN_succ {nm : List UInt8} {l : List Pp} {j : Nat} {x : Pp} (h : l[j]? = some x) : keptN nm l (j + 1) = keptN nm l j ++ if eqP nm x then [] else [x] := by
  unfold keptN
  have : l.take (j + 1) = l.take j ++ [x] := by rw [List.take_add_one, h]; rfl
  rw [this, List.filter_append]
  congr 1
  cases h : eqP nm x <;> simp [h]
theorem keptN_first {nm : List UInt8} {l : List Pp} {i : Nat} {x : Pp} (hx : l[i]? = some x) (hq : eqP nm x = true) (h : ∀ y ∈ l.take i, eqP nm y = false) : keptN nm l (i + 1) = l.take i := by
  rw [keptN_succ hx, hq, if_pos rfl, List.append_nil]
  unfold keptN
  exact List.filter_eq_self.2 fun y hy => by rw [h y hy]; rfl
theorem del_none (nm : List UInt8) {l : List Pp} (hl : l.length ≤ 137438953472) (h : idxJ (eqP nm) l 0 = -1) :
    acall S 41 [.ow 73 5 false (l.map tagC), .fn 42 [.ip [.str nm]]] = some (.ow 73 5 false (l.map tagC), []) := by
  have e1 := idxQ nm (OkS.open_ 5 l) hl
  rw [h] at e1
  refine W_eq (g41 rfl ?_)
  (repeat' (first | (with_reducible first | refine kont_next ?_ | refine lkont_next ?_ | refine kont_nextn ?_ | refine ikont_next ?_ | refine ikont_nextn ?_) | simp only [go_sem, J0, reduceIte, reduceCtorEq, Ja, Jb, Jc, Jd, Je, Jf, Jg, Jh, Ji, Jj, Jk, Jl, Jm, Jn, Jo, Jp, Jq, Jr, Js, a41, s35, e1, skOf_false, List.length_map, Nat.le_refl]))
theorem del_some (nm : List UInt8) {l : List Pp} (hl : l.length ≤ 137438953472) {i : Nat} (h : idxJ (eqP nm) l 0 = (i : Int)) :
    acall S 41 [.ow 73 5 false (l.map tagC), .fn 42 [.ip [.str nm]]] = some (.sl .open_ 5 ((l.filter fun x => !eqP nm x).map tagC), []) := by
  have e1 := idxQ nm (OkS.open_ 5 l) hl
  rw [h] at e1
  obtain ⟨x0, hx0, hq0, hb0⟩ := idxJ_some' h
  have hi0 := lt_of_get hx0
  have n1 : decide ((i : Int) = -1) = false := decide_eq_false (by omega)
  have hw0 := wrap_succ (k := i) (by omega)
  refine W_eq (g41 rfl ?_)
  (repeat' (first | (with_reducible first | refine kont_next ?_ | refine lkont_next ?_ | refine kont_nextn ?_ | refine ikont_next ?_ | refine ikont_nextn ?_) | simp only [go_sem, J0, reduceIte, reduceCtorEq, Ja, Jb, Jc, Jd, Je, Jf, Jg, Jh, Ji, Jj, Jk, Jl, Jm, Jn, Jo, Jp, Jq, Jr, Js, a41, s35, e1, skOf_false, List.length_map, Nat.le_refl, n1, hw0]))
  refine kloop_inv (ι := Nat × List Pp) (fun y => [.ow 73 5 false (y.2.map tagC), .fn 42 [.ip [.str nm]], .i .i64 (keptN nm l y.1).length, .i .i64 y.1])
    (fun y => y.1 ≤ l.length ∧ (keptN nm l y.1).length < y.1 ∧ y.2.length = l.length ∧ y.2.take (keptN nm l y.1).length = keptN nm l y.1 ∧ y.2.drop y.1 = l.drop y.1) (fun y => l.length - y.1) (i + 1, l) ?_ ?_ ?_
  · have := keptN_first hx0 hq0 hb0
    simp only [this, List.length_take, Nat.min_eq_left (Nat.le_of_lt hi0)]
  · have := keptN_first hx0 hq0 hb0
    simp only [this, List.length_take, Nat.min_eq_left (Nat.le_of_lt hi0), and_self, and_true]
    try omega
  rintro ⟨j, M⟩ ⟨hj, hk, hlen, ht, hd⟩
  simp only at hj hk hlen ht hd ⊢
  have b1 : (0 : Int) ≤ (j : Int) := by omega
  by_cases hlt : j < l.length
  · obtain ⟨c, gc⟩ := get_lt3 hlt
    have g1 : decide ((j : Int) < (l.length : Int)) = true := decide_eq_true (by omega)
    have b2 : (j : Int) < (l.length : Int) := by omega
    have hw := wrap_succ (k := j) (by omega)
    have hs := keptN_succ (nm := nm) gc
    have ge : M[j]? = some c := by
      have := congrArg List.head? hd
      rw [List.head?_drop, List.head?_drop, gc] at this
      exact this
    have hd2 : M.drop (j + 1) = l.drop (j + 1) := by
      have := congrArg (List.drop 1) hd
      rw [List.drop_drop, List.drop_drop] at this
      exact this
    have ec := fnQ c nm
    cases hc : eqP nm c with
    | true =>
      rw [hc] at ec hs
      rw [if_pos rfl, List.append_nil] at hs
      obtain ⟨xn, xv⟩ := c
      obtain ⟨xk, xm, xs, xkk, xz, xll⟩ := xv
      simp only [tagC, Vl.c, Vl.cs_map] at ec
      (repeat' (first | (with_reducible first | refine kont_next ?_ | refine lkont_next ?_ | refine kont_nextn ?_ | refine ikont_next ?_ | refine ikont_nextn ?_) | simp only [go_sem, J0, reduceIte, reduceCtorEq, Ja, Jb, Jc, Jd, Je, Jf, Jg, Jh, Ji, Jj, Jk, Jl, Jm, Jn, Jo, Jp, Jq, Jr, Js, g1, b1, b2, ge, hlen, List.length_map, s42, ec, hw, skOf_false, tagC, Vl.c, Vl.cs_map]))
      exact ⟨(j + 1, M), by rw [hs], ⟨by omega, by rw [hs]; omega, hlen, by rw [hs]; exact ht, hd2⟩, by simp only; omega⟩
    | false =>
      rw [hc] at ec hs
      rw [if_neg (by simp)] at hs
      have hsl : (keptN nm l (j + 1)).length = (keptN nm l j).length + 1 := by rw [hs, List.length_append]; rfl
      have k3 : (keptN nm l j).length = (keptN nm l j).length := rfl
      generalize hn : (keptN nm l j).length = n at hk ht hsl ⊢
      obtain ⟨d, gd⟩ : ∃ y, M[n]? = some y := ⟨M[n]'(by omega), List.getElem?_eq_getElem (by omega)⟩
      have c1 : (0 : Int) ≤ (n : Int) := by omega
      have c2 : (n : Int) < (l.length : Int) := by omega
      have c3 : n < l.length := by omega
      have hwn := wrap_succ (k := n) (by omega)
      have k1 : (M.set n c).take (n + 1) = keptN nm l (j + 1) := by
        rw [List.take_add_one, List.take_set_of_le (Nat.le_refl _), ht, hs, List.getElem?_set_self (by omega)]
        rfl
      have k2 : (M.set n c).drop (j + 1) = l.drop (j + 1) := by rw [List.drop_set_of_lt (by omega)]; exact hd2
      have km := List.map_set (f := tagC) (l := M) (i := n) (a := c)
      obtain ⟨xn, xv⟩ := c
      obtain ⟨xk, xm, xs, xkk, xz, xll⟩ := xv
      obtain ⟨dn, dv⟩ := d
      obtain ⟨dk, dm, ds, dkk, dz, dll⟩ := dv
      simp only [tagC, Vl.c, Vl.cs_map] at ec km
      (repeat' (first | (with_reducible first | refine kont_next ?_ | refine lkont_next ?_ | refine kont_nextn ?_ | refine ikont_next ?_ | refine ikont_nextn ?_) | simp only [go_sem, J0, reduceIte, reduceCtorEq, Ja, Jb, Jc, Jd, Je, Jf, Jg, Jh, Ji, Jj, Jk, Jl, Jm, Jn, Jo, Jp, Jq, Jr, Js, g1, b1, b2, c1, c2, c3, ge, gd, hlen, List.length_set, Nat.le_refl, List.length_map, s42, ec, hw, hwn, skOf_false, tagC, Vl.c, Vl.cs_map]))
      exact ⟨(j + 1, M.set n (xn, Vl.mk xk xm xs xkk xz xll)), by rw [hsl, km], ⟨by omega, by rw [hsl]; omega, by rw [List.length_set]; exact hlen, by rw [hsl]; exact k1, k2⟩, by simp only; omega⟩
  · have g1 : decide ((j : Int) < (l.length : Int)) = false := decide_eq_false (by omega)
    obtain rfl : j = l.length := by omega
    have hf : keptN nm l l.length = l.filter fun x => !eqP nm x := by unfold keptN; rw [List.take_length]
    rw [hf] at hk ht ⊢
    generalize (l.filter fun x => !eqP nm x) = F at hk ht ⊢
    have c1 : (0 : Int) ≤ (F.length : Int) := by omega
    have c3 : F.length ≤ l.length := by omega
    have c4 : F.length + (l.length - F.length) ≤ l.length := by omega
    have c5 : (M.map tagC).take F.length = F.map tagC := by rw [← List.map_take, ht]
    have c6 : ∀ z : List AV, l.length ≤ F.length + ((List.replicate (l.length - F.length) z).length + (List.drop (F.length + (l.length - F.length)) (M.map tagC)).length) := fun z => by rw [List.length_replicate]; omega
    have c7 : ∀ X : List (List AV), (F.map tagC ++ X).take F.length = F.map tagC := fun X => by rw [List.take_left' (by rw [List.length_map])]
    have c8 : ∀ z : List AV, ¬ F.length = F.length + ((List.replicate (l.length - F.length) z).length + (List.drop (F.length + (l.length - F.length)) (M.map tagC)).length) := fun z => by rw [List.length_replicate]; omega
    have c9 : ∀ n, F.length ≤ F.length + n := fun n => Nat.le_add_right _ _
    (repeat' (first | (with_reducible first | refine kont_next ?_ | refine lkont_next ?_ | refine kont_nextn ?_ | refine ikont_next ?_ | refine ikont_nextn ?_) | simp only [go_sem, J0, reduceIte, reduceCtorEq, Ja, Jb, Jc, Jd, Je, Jf, Jg, Jh, Ji, Jj, Jk, Jl, Jm, Jn, Jo, Jp, Jq, Jr, Js, g1, hlen, List.length_map, c1, c3, c4, c5, c6, c7, c8, c9]))
end Go.Proofs.YtgeaibhgaihobaaDoor
