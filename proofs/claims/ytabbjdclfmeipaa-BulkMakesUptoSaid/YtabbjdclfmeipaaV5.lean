/-
  The reference's answers: lists whose keys rise.
-/
import Derived.Test.YtabbjdclfmeipaaV3
import Derived.Test.YtabbjdclfmeipaaV4
set_option linter.unusedSimpArgs false
set_option linter.unusedVariables false
set_option maxHeartbeats 8000000
set_option maxRecDepth 100000
namespace Go.Proofs.Ytabbjdclfmeipaa
open Go.Abs

theorem rises_step {l : List Vl} {i : Nat} {a b : Vl} (ha : l[i]? = some a) (hb : l[i + 2]? = some b) : risesV (Vl.ps (l.drop i)) = (!decide (0 ≤ cmpV a.p b.p) && risesV (Vl.ps (l.drop (i + 2)))) := by
  obtain ⟨hl, _⟩ := List.getElem?_eq_some_iff.1 hb
  obtain ⟨x, hx⟩ := get_lt3 (show i + 1 < l.length by omega)
  rw [drop_get3 ha, drop_get3 hx, drop_get3 hb]
  simp only [Vl.ps, risesV]
theorem rises_end {l : List Vl} {i : Nat} (h : l.length ≤ i + 2) : risesV (Vl.ps (l.drop i)) = true := by
  have : (l.drop i).length ≤ 2 := by rw [List.length_drop]; omega
  match l.drop i, this with
  | [], _ => rfl
  | [a], _ => rfl
  | [a, b], _ => rfl
  | _ :: _ :: _ :: _, h => simp at h

theorem wrap_two {k : Nat} (h : k < 4611686018427387904) : IntKind.i64.wrap ((k : Int) + 2) = ((k + 2 : Nat) : Int) := by
  simp [IntKind.wrap, IntKind.bits, IntKind.signed]
  omega
theorem wrap_sub2 {k : Nat} (h : k < 4611686018427387904) (h2 : 2 ≤ k) : IntKind.i64.wrap ((k : Int) - 2) = ((k - 2 : Nat) : Int) := by
  simp [IntKind.wrap, IntKind.bits, IntKind.signed]
  omega
theorem e90 {k : SK} {z : Nat} {l : List Vl} (h : OkS k z 4 l) (hl : l.length ≤ 137438953472) (ho : ∀ x ∈ l, x.ok) : acall S 90 [.sl k z (l.map Vl.c)] = some (.b (risesV (Vl.ps l)), []) := by
  refine W_eq (g90 rfl ?_)
  (simp only [go_sem, Nat.add_assoc, reduceIte, reduceCtorEq, Nat.reduceEqDiff, Nat.reduceAdd, Nat.reduceMul, Nat.reduceSub, Nat.reduceLeDiff, Nat.reduceLT, Nat.reduceBEq, Nat.reduceBNe, Int.reduceLE, Int.reduceLT, Int.reduceToNat, Int.reduceEq, Int.reduceNe, Int.reduceNeg, Nat.reduceEqDiff, Int.reduceAdd, Int.reduceSub, Int.reduceMul, Int.cast_ofNat_Int, Int.natCast_zero, a90]; repeat' ((first | refine kont_next ?_ | refine kont_nextn ?_ | refine ikont_next ?_ | refine ikont_nextn ?_) <;> (try simp only [go_sem, Nat.add_assoc, reduceIte, reduceCtorEq, Nat.reduceEqDiff, Nat.reduceAdd, Nat.reduceMul, Nat.reduceSub, Nat.reduceLeDiff, Nat.reduceLT, Nat.reduceBEq, Nat.reduceBNe, Int.reduceLE, Int.reduceLT, Int.reduceToNat, Int.reduceEq, Int.reduceNe, Int.reduceNeg, Nat.reduceEqDiff, Int.reduceAdd, Int.reduceSub, Int.reduceMul, Int.cast_ofNat_Int, Int.natCast_zero, a90])))
  refine kloop_inv (ι := Nat) (fun i => [.sl k z (l.map Vl.c), .i .i64 i]) (fun i => 2 ≤ i ∧ i - 2 ≤ l.length ∧ risesV (Vl.ps (l.drop (i - 2))) = risesV (Vl.ps l)) (fun i => l.length + 2 - i) 2 rfl ⟨by omega, by omega, rfl⟩ ?_
  rintro i ⟨h2, hi, hT⟩
  by_cases hlt : i < l.length
  · obtain ⟨a, ga⟩ := get_lt3 (show i - 2 < l.length by omega)
    obtain ⟨b, gb⟩ := get_lt3 hlt
    have gb' : l[i - 2 + 2]? = some b := by rw [show i - 2 + 2 = i by omega]; exact gb
    have hT' := hT
    rw [rises_step ga gb', show i - 2 + 2 = i by omega] at hT'
    have g1 : decide ((i : Int) < (l.length : Int)) = true := decide_eq_true (by omega)
    have b1 : (0 : Int) ≤ (i : Int) := by omega
    have b2 : (0 : Int) ≤ ((i - 2 : Nat) : Int) := by omega
    have hw := wrap_two (k := i) (by omega)
    have hw2 := wrap_sub2 (k := i) (by omega) h2
    have ec := e43 a b (ho a (List.mem_of_getElem? ga)) (ho b (List.mem_of_getElem? gb))
    obtain ⟨ck, cn, cs, ckk, cz, cl⟩ := a
    obtain ⟨dk, dn, ds, dkk, dz, dl⟩ := b
    simp only [Vl.c, Vl.cs_map] at ec
    by_cases hc : 0 ≤ cmpV (Vl.p (.mk ck cn cs ckk cz cl)) (Vl.p (.mk dk dn ds dkk dz dl))
    · have g3 := decide_eq_true hc
      rw [g3] at hT'
      (simp only [go_sem, Nat.add_assoc, reduceIte, reduceCtorEq, Nat.reduceEqDiff, Nat.reduceAdd, Nat.reduceMul, Nat.reduceSub, Nat.reduceLeDiff, Nat.reduceLT, Nat.reduceBEq, Nat.reduceBNe, Int.reduceLE, Int.reduceLT, Int.reduceToNat, Int.reduceEq, Int.reduceNe, Int.reduceNeg, Nat.reduceEqDiff, Int.reduceAdd, Int.reduceSub, Int.reduceMul, Int.cast_ofNat_Int, Int.natCast_zero, g1, b1, b2, ga, gb, hw2, h.1, Vl.c, Vl.cs_map, ec, s43, g3]; repeat' ((first | refine kont_next ?_ | refine kont_nextn ?_ | refine ikont_next ?_ | refine ikont_nextn ?_) <;> (try simp only [go_sem, Nat.add_assoc, reduceIte, reduceCtorEq, Nat.reduceEqDiff, Nat.reduceAdd, Nat.reduceMul, Nat.reduceSub, Nat.reduceLeDiff, Nat.reduceLT, Nat.reduceBEq, Nat.reduceBNe, Int.reduceLE, Int.reduceLT, Int.reduceToNat, Int.reduceEq, Int.reduceNe, Int.reduceNeg, Nat.reduceEqDiff, Int.reduceAdd, Int.reduceSub, Int.reduceMul, Int.cast_ofNat_Int, Int.natCast_zero, g1, b1, b2, ga, gb, hw2, h.1, Vl.c, Vl.cs_map, ec, s43, g3])))
      rw [← hT']; rfl
    · have g3 := decide_eq_false hc
      rw [g3] at hT'
      (simp only [go_sem, Nat.add_assoc, reduceIte, reduceCtorEq, Nat.reduceEqDiff, Nat.reduceAdd, Nat.reduceMul, Nat.reduceSub, Nat.reduceLeDiff, Nat.reduceLT, Nat.reduceBEq, Nat.reduceBNe, Int.reduceLE, Int.reduceLT, Int.reduceToNat, Int.reduceEq, Int.reduceNe, Int.reduceNeg, Nat.reduceEqDiff, Int.reduceAdd, Int.reduceSub, Int.reduceMul, Int.cast_ofNat_Int, Int.natCast_zero, g1, b1, b2, ga, gb, hw2, h.1, Vl.c, Vl.cs_map, ec, s43, g3, hw]; repeat' ((first | refine kont_next ?_ | refine kont_nextn ?_ | refine ikont_next ?_ | refine ikont_nextn ?_) <;> (try simp only [go_sem, Nat.add_assoc, reduceIte, reduceCtorEq, Nat.reduceEqDiff, Nat.reduceAdd, Nat.reduceMul, Nat.reduceSub, Nat.reduceLeDiff, Nat.reduceLT, Nat.reduceBEq, Nat.reduceBNe, Int.reduceLE, Int.reduceLT, Int.reduceToNat, Int.reduceEq, Int.reduceNe, Int.reduceNeg, Nat.reduceEqDiff, Int.reduceAdd, Int.reduceSub, Int.reduceMul, Int.cast_ofNat_Int, Int.natCast_zero, g1, b1, b2, ga, gb, hw2, h.1, Vl.c, Vl.cs_map, ec, s43, g3, hw])))
      exact ⟨i + 2, rfl, ⟨by omega, by omega, by simpa using hT'⟩, by omega⟩
  · have g1 : decide ((i : Int) < (l.length : Int)) = false := decide_eq_false (by omega)
    rw [rises_end (by omega)] at hT
    (simp only [go_sem, Nat.add_assoc, reduceIte, reduceCtorEq, Nat.reduceEqDiff, Nat.reduceAdd, Nat.reduceMul, Nat.reduceSub, Nat.reduceLeDiff, Nat.reduceLT, Nat.reduceBEq, Nat.reduceBNe, Int.reduceLE, Int.reduceLT, Int.reduceToNat, Int.reduceEq, Int.reduceNe, Int.reduceNeg, Nat.reduceEqDiff, Int.reduceAdd, Int.reduceSub, Int.reduceMul, Int.cast_ofNat_Int, Int.natCast_zero, g1]; repeat' ((first | refine kont_next ?_ | refine kont_nextn ?_ | refine ikont_next ?_ | refine ikont_nextn ?_) <;> (try simp only [go_sem, Nat.add_assoc, reduceIte, reduceCtorEq, Nat.reduceEqDiff, Nat.reduceAdd, Nat.reduceMul, Nat.reduceSub, Nat.reduceLeDiff, Nat.reduceLT, Nat.reduceBEq, Nat.reduceBNe, Int.reduceLE, Int.reduceLT, Int.reduceToNat, Int.reduceEq, Int.reduceNe, Int.reduceNeg, Nat.reduceEqDiff, Int.reduceAdd, Int.reduceSub, Int.reduceMul, Int.cast_ofNat_Int, Int.natCast_zero, g1])))
    rw [← hT]
end Go.Proofs.Ytabbjdclfmeipaa
