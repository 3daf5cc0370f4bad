/-
  The edges that are told, as a row.
-/
import Derived.Test.YtgeaibhgaihobaaDoorG6
set_option linter.unusedSimpArgs false
set_option linter.unusedVariables false
set_option maxHeartbeats 8000000
set_option maxRecDepth 100000
namespace Go.Proofs.YtgeaibhgaihobaaDoor
open Go.Abs

def rowL (l : List Lk) : Nat → AV
  | 0 => .sl .nil 0 []
  | j + 1 => .ow 37 5 false ((l.take (j + 1)).map Lk.c)
theorem e7 {gc wc : List AV} {l : List Lk} (hl : l.length ≤ 137438953472) (h : acall S 50 [.yq, .ip gc, .ip wc] = some (.sl .open_ 0 (l.map fun e => [.agg e.c]), [])) :
    ∃ k z, OkS k z 5 l ∧ acall S 7 [.fn 50 [.ip gc, .ip wc]] = some (.sl k z (l.map Lk.c), []) := by
  suffices hW : W (acall S 7 [.fn 50 [.ip gc, .ip wc]]) (fun r => ∃ k z, OkS k z 5 l ∧ r = (.sl k z (l.map Lk.c), [])) by
    obtain ⟨r, h1, k, z, h2, rfl⟩ := hW
    exact ⟨k, z, h2, h1⟩
  refine g7 rfl ?_
  have hL : LIM = 274877906944 := rfl
  (simp only [go_sem, Nat.add_assoc, reduceIte, reduceCtorEq, Nat.reduceEqDiff, Nat.reduceAdd, Nat.reduceMul, Nat.reduceSub, Nat.reduceLeDiff, Nat.reduceLT, Nat.reduceBEq, Nat.reduceBNe, Int.reduceLE, Int.reduceLT, Int.reduceToNat, Int.reduceEq, Int.reduceNe, Int.reduceNeg, Nat.reduceEqDiff, Int.reduceAdd, Int.reduceSub, Int.reduceMul, Int.cast_ofNat_Int, Int.natCast_zero, a7, seqOf, h, elemsOf, s50]; repeat' ((first | refine kont_next ?_ | refine kont_nextn ?_ | refine ikont_next ?_ | refine ikont_nextn ?_) <;> (try simp only [go_sem, Nat.add_assoc, reduceIte, reduceCtorEq, Nat.reduceEqDiff, Nat.reduceAdd, Nat.reduceMul, Nat.reduceSub, Nat.reduceLeDiff, Nat.reduceLT, Nat.reduceBEq, Nat.reduceBNe, Int.reduceLE, Int.reduceLT, Int.reduceToNat, Int.reduceEq, Int.reduceNe, Int.reduceNeg, Nat.reduceEqDiff, Int.reduceAdd, Int.reduceSub, Int.reduceMul, Int.cast_ofNat_Int, Int.natCast_zero, a7, seqOf, h, elemsOf, s50])))
  refine krange_inv (ι := Nat) (fun y => [.bx [rowL l y], .fn 50 [.ip gc, .ip wc]]) (fun k y => y = k ∧ k ≤ l.length) 0 rfl ⟨rfl, Nat.zero_le _⟩ ?_ ?_
  · rintro y ⟨hy, _⟩
    rw [List.length_map] at hy
    cases y with
    | zero =>
      obtain rfl := List.length_eq_zero_iff.1 hy.symm
      (simp only [go_sem, Nat.add_assoc, reduceIte, reduceCtorEq, Nat.reduceEqDiff, Nat.reduceAdd, Nat.reduceMul, Nat.reduceSub, Nat.reduceLeDiff, Nat.reduceLT, Nat.reduceBEq, Nat.reduceBNe, Int.reduceLE, Int.reduceLT, Int.reduceToNat, Int.reduceEq, Int.reduceNe, Int.reduceNeg, Nat.reduceEqDiff, Int.reduceAdd, Int.reduceSub, Int.reduceMul, Int.cast_ofNat_Int, Int.natCast_zero, rowL]; repeat' ((first | refine kont_next ?_ | refine kont_nextn ?_ | refine ikont_next ?_ | refine ikont_nextn ?_) <;> (try simp only [go_sem, Nat.add_assoc, reduceIte, reduceCtorEq, Nat.reduceEqDiff, Nat.reduceAdd, Nat.reduceMul, Nat.reduceSub, Nat.reduceLeDiff, Nat.reduceLT, Nat.reduceBEq, Nat.reduceBNe, Int.reduceLE, Int.reduceLT, Int.reduceToNat, Int.reduceEq, Int.reduceNe, Int.reduceNeg, Nat.reduceEqDiff, Int.reduceAdd, Int.reduceSub, Int.reduceMul, Int.cast_ofNat_Int, Int.natCast_zero, rowL])))
      exact ⟨.nil, 0, ⟨.inr rfl, fun _ => rfl⟩, rfl⟩
    | succ j =>
      have hT : l.take (j + 1) = l := List.take_of_length_le (by omega)
      (simp only [go_sem, Nat.add_assoc, reduceIte, reduceCtorEq, Nat.reduceEqDiff, Nat.reduceAdd, Nat.reduceMul, Nat.reduceSub, Nat.reduceLeDiff, Nat.reduceLT, Nat.reduceBEq, Nat.reduceBNe, Int.reduceLE, Int.reduceLT, Int.reduceToNat, Int.reduceEq, Int.reduceNe, Int.reduceNeg, Nat.reduceEqDiff, Int.reduceAdd, Int.reduceSub, Int.reduceMul, Int.cast_ofNat_Int, Int.natCast_zero, rowL, hT]; repeat' ((first | refine kont_next ?_ | refine kont_nextn ?_ | refine ikont_next ?_ | refine ikont_nextn ?_) <;> (try simp only [go_sem, Nat.add_assoc, reduceIte, reduceCtorEq, Nat.reduceEqDiff, Nat.reduceAdd, Nat.reduceMul, Nat.reduceSub, Nat.reduceLeDiff, Nat.reduceLT, Nat.reduceBEq, Nat.reduceBNe, Int.reduceLE, Int.reduceLT, Int.reduceToNat, Int.reduceEq, Int.reduceNe, Int.reduceNeg, Nat.reduceEqDiff, Int.reduceAdd, Int.reduceSub, Int.reduceMul, Int.cast_ofNat_Int, Int.natCast_zero, rowL, hT])))
      exact ⟨.open_, 5, OkS.open_ 5 _, rfl⟩
  · rintro k x y hx ⟨rfl, hk⟩
    rw [List.getElem?_map] at hx
    simp only [Option.map_eq_some_iff] at hx
    obtain ⟨e, ge, rfl⟩ := hx
    have hlt := (List.getElem?_eq_some_iff.1 ge).1
    have gap := take_map_snoc (f := Lk.c) ge
    have hlen : (l.take (y + 1)).length = y + 1 := by rw [List.length_take]; omega
    have hlen0 : (l.take y).length = y := by rw [List.length_take]; omega
    obtain ⟨xid, xl, xo, xi, xpk, xpz, xps⟩ := e
    cases y with
    | zero =>
      refine ⟨_, rfl, ?_⟩
      have hg : (l.take 1).map Lk.c = [Lk.c ⟨xid, xl, xo, xi, xpk, xpz, xps⟩] := by rw [gap]; rfl
      simp only [Lk.c] at hg
      have hlim : (1 : Nat) ≤ LIM := by omega
      have hlim2 : (0 : Nat) + 1 ≤ LIM := by omega
      (simp only [go_sem, Nat.add_assoc, reduceIte, reduceCtorEq, Nat.reduceEqDiff, Nat.reduceAdd, Nat.reduceMul, Nat.reduceSub, Nat.reduceLeDiff, Nat.reduceLT, Nat.reduceBEq, Nat.reduceBNe, Int.reduceLE, Int.reduceLT, Int.reduceToNat, Int.reduceEq, Int.reduceNe, Int.reduceNeg, Nat.reduceEqDiff, Int.reduceAdd, Int.reduceSub, Int.reduceMul, Int.cast_ofNat_Int, Int.natCast_zero, rowL, Lk.c, hlim, hlim2]; repeat' ((first | refine kont_next ?_ | refine kont_nextn ?_ | refine ikont_next ?_ | refine ikont_nextn ?_) <;> (try simp only [go_sem, Nat.add_assoc, reduceIte, reduceCtorEq, Nat.reduceEqDiff, Nat.reduceAdd, Nat.reduceMul, Nat.reduceSub, Nat.reduceLeDiff, Nat.reduceLT, Nat.reduceBEq, Nat.reduceBNe, Int.reduceLE, Int.reduceLT, Int.reduceToNat, Int.reduceEq, Int.reduceNe, Int.reduceNeg, Nat.reduceEqDiff, Int.reduceAdd, Int.reduceSub, Int.reduceMul, Int.cast_ofNat_Int, Int.natCast_zero, rowL, Lk.c, hlim, hlim2])))
      exact ⟨1, by simp only [hg], rfl, by omega⟩
    | succ j =>
      refine ⟨_, rfl, ?_⟩
      have hlim : j + 1 + 1 ≤ LIM := by omega
      simp only [Lk.c] at gap
      (simp only [go_sem, Nat.add_assoc, reduceIte, reduceCtorEq, Nat.reduceEqDiff, Nat.reduceAdd, Nat.reduceMul, Nat.reduceSub, Nat.reduceLeDiff, Nat.reduceLT, Nat.reduceBEq, Nat.reduceBNe, Int.reduceLE, Int.reduceLT, Int.reduceToNat, Int.reduceEq, Int.reduceNe, Int.reduceNeg, Nat.reduceEqDiff, Int.reduceAdd, Int.reduceSub, Int.reduceMul, Int.cast_ofNat_Int, Int.natCast_zero, rowL, Lk.c, hlen0, hlim, List.length_map, gap]; repeat' ((first | refine kont_next ?_ | refine kont_nextn ?_ | refine ikont_next ?_ | refine ikont_nextn ?_) <;> (try simp only [go_sem, Nat.add_assoc, reduceIte, reduceCtorEq, Nat.reduceEqDiff, Nat.reduceAdd, Nat.reduceMul, Nat.reduceSub, Nat.reduceLeDiff, Nat.reduceLT, Nat.reduceBEq, Nat.reduceBNe, Int.reduceLE, Int.reduceLT, Int.reduceToNat, Int.reduceEq, Int.reduceNe, Int.reduceNeg, Nat.reduceEqDiff, Int.reduceAdd, Int.reduceSub, Int.reduceMul, Int.cast_ofNat_Int, Int.natCast_zero, rowL, Lk.c, hlen0, hlim, List.length_map, gap])))
      exact ⟨j + 1 + 1, by simp only [gap], rfl, by omega⟩
end Go.Proofs.YtgeaibhgaihobaaDoor
