/-
  Which bags may be; a bag in memory of its own; how many there are.
-/
import Derived.Test.YtabbjdclfmeipaaB1
import Derived.Test.YtabbjdclfmeipaaV10
import Derived.Test.YtabbjdclfmeipaaV2
set_option linter.unusedSimpArgs false
set_option linter.unusedVariables false
set_option maxHeartbeats 8000000
set_option maxRecDepth 100000
namespace Go.Proofs.Ytabbjdclfmeipaa
open Go.Abs

/-! a count, a bag as they lie -/
def cC : Vl × Int → List AV
  | (.mk k n s sk z l, m) => [.i .i64 k, .i .i64 n, .str s, .sl sk z (Vl.cs l), .i .i64 m]
def cP (x : Vl × Int) : PV × Int := (x.1.p, x.2)
abbrev cPs (l : List (Vl × Int)) : PB := l.map cP
theorem cC_eq (x : Vl × Int) : cC x = x.1.c ++ [.i .i64 x.2] := by
  obtain ⟨⟨k, n, s, sk, z, l⟩, m⟩ := x
  rfl
structure OkL (k : SK) (z : Nat) (l : List (Vl × Int)) : Prop where
  sk : OkS k z 5 l
  ln : l.length ≤ 68719476736
  ok : ∀ x ∈ l, x.1.ok
theorem OkL.get {k z l} (h : OkL k z l) {i : Nat} {v : Vl} {m : Int} (hx : l[i]? = some (v, m)) : v.ok := h.ok _ (List.mem_of_getElem? hx)
def prevB (l : PB) : Nat → Option PV
  | 0 => none
  | j + 1 => (l[j]?).map (·.1)
theorem wrap_pred {k : Nat} (h : k < 4611686018427387904) (h0 : 0 < k) : IntKind.i64.wrap ((k : Int) - 1) = ((k - 1 : Nat) : Int) := by
  simp [IntKind.wrap, IntKind.bits, IntKind.signed]
  omega
theorem cPs_get {l : List (Vl × Int)} {i : Nat} {x : Vl × Int} (h : l[i]? = some x) : (cPs l)[i]? = some (cP x) := by
  rw [List.getElem?_map, h]; rfl
theorem e12 {k : SK} {z : Nat} {l : List (Vl × Int)} (h : OkL k z l) : acall S 12 [.sl k z (l.map cC)] = some (.i .i64 (if okB (cPs l) then 0 else 210), []) := by
  have hl := h.ln
  refine W_eq (g12 rfl ?_)
  (simp only [go_sem, Nat.add_assoc, reduceIte, reduceCtorEq, Nat.reduceEqDiff, Nat.reduceAdd, Nat.reduceMul, Nat.reduceSub, Nat.reduceLeDiff, Nat.reduceLT, Nat.reduceBEq, Nat.reduceBNe, Int.reduceLE, Int.reduceLT, Int.reduceToNat, Int.reduceEq, Int.reduceNe, Int.reduceNeg, Nat.reduceEqDiff, Int.reduceAdd, Int.reduceSub, Int.reduceMul, Int.cast_ofNat_Int, Int.natCast_zero, a12]; repeat' ((first | refine kont_next ?_ | refine kont_nextn ?_ | refine ikont_next ?_ | refine ikont_nextn ?_) <;> (try simp only [go_sem, Nat.add_assoc, reduceIte, reduceCtorEq, Nat.reduceEqDiff, Nat.reduceAdd, Nat.reduceMul, Nat.reduceSub, Nat.reduceLeDiff, Nat.reduceLT, Nat.reduceBEq, Nat.reduceBNe, Int.reduceLE, Int.reduceLT, Int.reduceToNat, Int.reduceEq, Int.reduceNe, Int.reduceNeg, Nat.reduceEqDiff, Int.reduceAdd, Int.reduceSub, Int.reduceMul, Int.cast_ofNat_Int, Int.natCast_zero, a12])))
  refine kloop_inv (ι := Nat × Int) (fun x => [.sl k z (l.map cC), .i .i64 x.2, .sl k z (l.map cC), .i .i64 l.length, .i .i64 x.1])
    (fun x => x.1 ≤ l.length ∧ x.2 ≤ MC ∧ 0 ≤ x.2 ∧ okF x.2 (prevB (cPs l) x.1) ((cPs l).drop x.1) = okB (cPs l)) (fun x => l.length - x.1) (0, MC) rfl ⟨by omega, by simp [MC], by simp [MC], rfl⟩ ?_
  rintro ⟨i, left⟩ ⟨hi, hle, hge, hT⟩
  simp only at hi hle hge hT
  have hMC : MC = 9007199254740992 := rfl
  by_cases hlt : i < l.length
  · obtain ⟨⟨c, m⟩, gc⟩ := get_lt3 hlt
    have g1 : decide ((i : Int) < (l.length : Int)) = true := decide_eq_true (by omega)
    have b1 : (0 : Int) ≤ (i : Int) := by omega
    have hw := wrap_succ (k := i) (by omega)
    rw [drop_get3 (cPs_get gc)] at hT
    simp only [okF, cP] at hT
    have hvo := h.get gc
    have ec := e48 c hvo
    obtain ⟨ck, cn, cs, ckk, cz, cl⟩ := c
    simp only [Vl.c] at ec
    by_cases h1 : m < 1
    · have g2 := decide_eq_true h1
      rw [geB_f (a := 1) (b := m) (by omega)] at hT
      simp only [Bool.false_and] at hT
      rw [← hT]
      (simp only [go_sem, Nat.add_assoc, reduceIte, reduceCtorEq, Nat.reduceEqDiff, Nat.reduceAdd, Nat.reduceMul, Nat.reduceSub, Nat.reduceLeDiff, Nat.reduceLT, Nat.reduceBEq, Nat.reduceBNe, Int.reduceLE, Int.reduceLT, Int.reduceToNat, Int.reduceEq, Int.reduceNe, Int.reduceNeg, Nat.reduceEqDiff, Int.reduceAdd, Int.reduceSub, Int.reduceMul, Int.cast_ofNat_Int, Int.natCast_zero, g1, b1, gc, h.sk.1, cC, g2]; repeat' ((first | refine kont_next ?_ | refine kont_nextn ?_ | refine ikont_next ?_ | refine ikont_nextn ?_) <;> (try simp only [go_sem, Nat.add_assoc, reduceIte, reduceCtorEq, Nat.reduceEqDiff, Nat.reduceAdd, Nat.reduceMul, Nat.reduceSub, Nat.reduceLeDiff, Nat.reduceLT, Nat.reduceBEq, Nat.reduceBNe, Int.reduceLE, Int.reduceLT, Int.reduceToNat, Int.reduceEq, Int.reduceNe, Int.reduceNeg, Nat.reduceEqDiff, Int.reduceAdd, Int.reduceSub, Int.reduceMul, Int.cast_ofNat_Int, Int.natCast_zero, g1, b1, gc, h.sk.1, cC, g2])))
    have g2 := decide_eq_false h1
    rw [geB_t (a := 1) (b := m) (by omega)] at hT
    by_cases h2 : left < m
    · have g3 := decide_eq_true h2
      rw [geB_f (a := m) (b := left) (by omega)] at hT
      simp only [Bool.false_and, Bool.and_false] at hT
      rw [← hT]
      (simp only [go_sem, Nat.add_assoc, reduceIte, reduceCtorEq, Nat.reduceEqDiff, Nat.reduceAdd, Nat.reduceMul, Nat.reduceSub, Nat.reduceLeDiff, Nat.reduceLT, Nat.reduceBEq, Nat.reduceBNe, Int.reduceLE, Int.reduceLT, Int.reduceToNat, Int.reduceEq, Int.reduceNe, Int.reduceNeg, Nat.reduceEqDiff, Int.reduceAdd, Int.reduceSub, Int.reduceMul, Int.cast_ofNat_Int, Int.natCast_zero, g1, b1, gc, h.sk.1, cC, g2, g3]; repeat' ((first | refine kont_next ?_ | refine kont_nextn ?_ | refine ikont_next ?_ | refine ikont_nextn ?_) <;> (try simp only [go_sem, Nat.add_assoc, reduceIte, reduceCtorEq, Nat.reduceEqDiff, Nat.reduceAdd, Nat.reduceMul, Nat.reduceSub, Nat.reduceLeDiff, Nat.reduceLT, Nat.reduceBEq, Nat.reduceBNe, Int.reduceLE, Int.reduceLT, Int.reduceToNat, Int.reduceEq, Int.reduceNe, Int.reduceNeg, Nat.reduceEqDiff, Int.reduceAdd, Int.reduceSub, Int.reduceMul, Int.cast_ofNat_Int, Int.natCast_zero, g1, b1, gc, h.sk.1, cC, g2, g3])))
    have g3 := decide_eq_false h2
    rw [geB_t (a := m) (b := left) (by omega)] at hT
    simp only [Bool.true_and] at hT
    cases h3 : mayV (Vl.p (.mk ck cn cs ckk cz cl)) 0 with
    | false =>
      rw [h3] at hT ec
      simp only [Bool.false_and, Bool.and_false] at hT
      rw [← hT]
      (simp only [go_sem, Nat.add_assoc, reduceIte, reduceCtorEq, Nat.reduceEqDiff, Nat.reduceAdd, Nat.reduceMul, Nat.reduceSub, Nat.reduceLeDiff, Nat.reduceLT, Nat.reduceBEq, Nat.reduceBNe, Int.reduceLE, Int.reduceLT, Int.reduceToNat, Int.reduceEq, Int.reduceNe, Int.reduceNeg, Nat.reduceEqDiff, Int.reduceAdd, Int.reduceSub, Int.reduceMul, Int.cast_ofNat_Int, Int.natCast_zero, g1, b1, gc, h.sk.1, cC, g2, g3, s48, ec]; repeat' ((first | refine kont_next ?_ | refine kont_nextn ?_ | refine ikont_next ?_ | refine ikont_nextn ?_) <;> (try simp only [go_sem, Nat.add_assoc, reduceIte, reduceCtorEq, Nat.reduceEqDiff, Nat.reduceAdd, Nat.reduceMul, Nat.reduceSub, Nat.reduceLeDiff, Nat.reduceLT, Nat.reduceBEq, Nat.reduceBNe, Int.reduceLE, Int.reduceLT, Int.reduceToNat, Int.reduceEq, Int.reduceNe, Int.reduceNeg, Nat.reduceEqDiff, Int.reduceAdd, Int.reduceSub, Int.reduceMul, Int.cast_ofNat_Int, Int.natCast_zero, g1, b1, gc, h.sk.1, cC, g2, g3, s48, ec])))
    | true =>
      rw [h3] at hT ec
      simp only [Bool.true_and] at hT
      have hws : IntKind.i64.wrap (left - m) = left - m := wrap_i64 (by omega) (by omega)
      have hnext : ∀ T : okF (left - m) (some (Vl.p (.mk ck cn cs ckk cz cl))) ((cPs l).drop (i + 1)) = okB (cPs l), ∃ y : Nat × Int, [AV.sl k z (l.map cC), .i .i64 (left - m), .sl k z (l.map cC), .i .i64 l.length, .i .i64 ((i + 1 : Nat) : Int)] = [.sl k z (l.map cC), .i .i64 y.2, .sl k z (l.map cC), .i .i64 l.length, .i .i64 y.1] ∧
          (y.1 ≤ l.length ∧ y.2 ≤ MC ∧ 0 ≤ y.2 ∧ okF y.2 (prevB (cPs l) y.1) ((cPs l).drop y.1) = okB (cPs l)) ∧ l.length - y.1 < l.length - i := fun T =>
        ⟨(i + 1, left - m), rfl, ⟨by simp only; omega, by simp only; omega, by simp only; omega, by simp only [prevB, cPs_get gc, Option.map_some]; exact T⟩, by simp only; omega⟩
      by_cases hz : i = 0
      · have hp : prevB (cPs l) i = none := by rw [hz]; rfl
        have g4 : decide ((0 : Int) < (i : Int)) = false := decide_eq_false (by omega)
        rw [hp] at hT
        simp only [ltP, Bool.true_and] at hT
        (simp only [go_sem, Nat.add_assoc, reduceIte, reduceCtorEq, Nat.reduceEqDiff, Nat.reduceAdd, Nat.reduceMul, Nat.reduceSub, Nat.reduceLeDiff, Nat.reduceLT, Nat.reduceBEq, Nat.reduceBNe, Int.reduceLE, Int.reduceLT, Int.reduceToNat, Int.reduceEq, Int.reduceNe, Int.reduceNeg, Nat.reduceEqDiff, Int.reduceAdd, Int.reduceSub, Int.reduceMul, Int.cast_ofNat_Int, Int.natCast_zero, g1, b1, gc, h.sk.1, cC, g2, g3, s48, ec, hw, hws, g4]; repeat' ((first | refine kont_next ?_ | refine kont_nextn ?_ | refine ikont_next ?_ | refine ikont_nextn ?_) <;> (try simp only [go_sem, Nat.add_assoc, reduceIte, reduceCtorEq, Nat.reduceEqDiff, Nat.reduceAdd, Nat.reduceMul, Nat.reduceSub, Nat.reduceLeDiff, Nat.reduceLT, Nat.reduceBEq, Nat.reduceBNe, Int.reduceLE, Int.reduceLT, Int.reduceToNat, Int.reduceEq, Int.reduceNe, Int.reduceNeg, Nat.reduceEqDiff, Int.reduceAdd, Int.reduceSub, Int.reduceMul, Int.cast_ofNat_Int, Int.natCast_zero, g1, b1, gc, h.sk.1, cC, g2, g3, s48, ec, hw, hws, g4])))
        exact hnext hT
      · have hj : i - 1 < l.length := by omega
        obtain ⟨⟨d, m'⟩, gd⟩ := get_lt3 hj
        have hdo := h.get gd
        have ecmp := e49 d (.mk ck cn cs ckk cz cl) hdo hvo
        obtain ⟨dk, dn, ds, dkk, dz, dl⟩ := d
        simp only [Vl.c] at ecmp
        have hp : prevB (cPs l) i = some (Vl.p (.mk dk dn ds dkk dz dl)) := by
          rw [show i = (i - 1) + 1 by omega]
          simp only [prevB, cPs_get gd, Option.map_some, cP]
        rw [hp] at hT
        have g4 : decide ((0 : Int) < (i : Int)) = true := decide_eq_true (by omega)
        have hw2 := wrap_pred (k := i) (by omega) (by omega)
        have b2 : (0 : Int) ≤ ((i - 1 : Nat) : Int) := by omega
        by_cases h4 : cmpV (Vl.p (.mk dk dn ds dkk dz dl)) (Vl.p (.mk ck cn cs ckk cz cl)) < 0
        · have g5 : decide (0 ≤ cmpV (Vl.p (.mk dk dn ds dkk dz dl)) (Vl.p (.mk ck cn cs ckk cz cl))) = false := decide_eq_false (by omega)
          rw [show ltP (some (Vl.p (.mk dk dn ds dkk dz dl))) (Vl.p (.mk ck cn cs ckk cz cl)) = true from decide_eq_true h4, Bool.true_and] at hT
          (simp only [go_sem, Nat.add_assoc, reduceIte, reduceCtorEq, Nat.reduceEqDiff, Nat.reduceAdd, Nat.reduceMul, Nat.reduceSub, Nat.reduceLeDiff, Nat.reduceLT, Nat.reduceBEq, Nat.reduceBNe, Int.reduceLE, Int.reduceLT, Int.reduceToNat, Int.reduceEq, Int.reduceNe, Int.reduceNeg, Nat.reduceEqDiff, Int.reduceAdd, Int.reduceSub, Int.reduceMul, Int.cast_ofNat_Int, Int.natCast_zero, g1, b1, gc, gd, h.sk.1, cC, g2, g3, s48, ec, hw, hws, g4, hw2, b2, s49, ecmp, g5]; repeat' ((first | refine kont_next ?_ | refine kont_nextn ?_ | refine ikont_next ?_ | refine ikont_nextn ?_) <;> (try simp only [go_sem, Nat.add_assoc, reduceIte, reduceCtorEq, Nat.reduceEqDiff, Nat.reduceAdd, Nat.reduceMul, Nat.reduceSub, Nat.reduceLeDiff, Nat.reduceLT, Nat.reduceBEq, Nat.reduceBNe, Int.reduceLE, Int.reduceLT, Int.reduceToNat, Int.reduceEq, Int.reduceNe, Int.reduceNeg, Nat.reduceEqDiff, Int.reduceAdd, Int.reduceSub, Int.reduceMul, Int.cast_ofNat_Int, Int.natCast_zero, g1, b1, gc, gd, h.sk.1, cC, g2, g3, s48, ec, hw, hws, g4, hw2, b2, s49, ecmp, g5])))
          exact hnext hT
        · have g5 : decide (0 ≤ cmpV (Vl.p (.mk dk dn ds dkk dz dl)) (Vl.p (.mk ck cn cs ckk cz cl))) = true := decide_eq_true (by omega)
          rw [show ltP (some (Vl.p (.mk dk dn ds dkk dz dl))) (Vl.p (.mk ck cn cs ckk cz cl)) = false from decide_eq_false h4, Bool.false_and] at hT
          rw [← hT]
          (simp only [go_sem, Nat.add_assoc, reduceIte, reduceCtorEq, Nat.reduceEqDiff, Nat.reduceAdd, Nat.reduceMul, Nat.reduceSub, Nat.reduceLeDiff, Nat.reduceLT, Nat.reduceBEq, Nat.reduceBNe, Int.reduceLE, Int.reduceLT, Int.reduceToNat, Int.reduceEq, Int.reduceNe, Int.reduceNeg, Nat.reduceEqDiff, Int.reduceAdd, Int.reduceSub, Int.reduceMul, Int.cast_ofNat_Int, Int.natCast_zero, g1, b1, gc, gd, h.sk.1, cC, g2, g3, s48, ec, hw, hws, g4, hw2, b2, s49, ecmp, g5]; repeat' ((first | refine kont_next ?_ | refine kont_nextn ?_ | refine ikont_next ?_ | refine ikont_nextn ?_) <;> (try simp only [go_sem, Nat.add_assoc, reduceIte, reduceCtorEq, Nat.reduceEqDiff, Nat.reduceAdd, Nat.reduceMul, Nat.reduceSub, Nat.reduceLeDiff, Nat.reduceLT, Nat.reduceBEq, Nat.reduceBNe, Int.reduceLE, Int.reduceLT, Int.reduceToNat, Int.reduceEq, Int.reduceNe, Int.reduceNeg, Nat.reduceEqDiff, Int.reduceAdd, Int.reduceSub, Int.reduceMul, Int.cast_ofNat_Int, Int.natCast_zero, g1, b1, gc, gd, h.sk.1, cC, g2, g3, s48, ec, hw, hws, g4, hw2, b2, s49, ecmp, g5])))
  · have g1 : decide ((i : Int) < (l.length : Int)) = false := decide_eq_false (by omega)
    have : (cPs l).drop i = [] := List.drop_of_length_le (by simp; omega)
    rw [this] at hT
    simp only [okF] at hT
    rw [← hT]
    (simp only [go_sem, Nat.add_assoc, reduceIte, reduceCtorEq, Nat.reduceEqDiff, Nat.reduceAdd, Nat.reduceMul, Nat.reduceSub, Nat.reduceLeDiff, Nat.reduceLT, Nat.reduceBEq, Nat.reduceBNe, Int.reduceLE, Int.reduceLT, Int.reduceToNat, Int.reduceEq, Int.reduceNe, Int.reduceNeg, Nat.reduceEqDiff, Int.reduceAdd, Int.reduceSub, Int.reduceMul, Int.cast_ofNat_Int, Int.natCast_zero, g1]; repeat' ((first | refine kont_next ?_ | refine kont_nextn ?_ | refine ikont_next ?_ | refine ikont_nextn ?_) <;> (try simp only [go_sem, Nat.add_assoc, reduceIte, reduceCtorEq, Nat.reduceEqDiff, Nat.reduceAdd, Nat.reduceMul, Nat.reduceSub, Nat.reduceLeDiff, Nat.reduceLT, Nat.reduceBEq, Nat.reduceBNe, Int.reduceLE, Int.reduceLT, Int.reduceToNat, Int.reduceEq, Int.reduceNe, Int.reduceNeg, Nat.reduceEqDiff, Int.reduceAdd, Int.reduceSub, Int.reduceMul, Int.cast_ofNat_Int, Int.natCast_zero, g1])))
end Go.Proofs.Ytabbjdclfmeipaa
