import Derived.Lib.Bytealg
import Derived.Laws.Externs
/-
  What stands in place of functions that the abstract code has no words for: strings held against each other, a bag's total, slices.Insert.
-/
import Derived.Test.YtabbjdclfmeipaaFd
import Derived.Test.YtabbjdclfmeipaaProg
import Derived.Test.YtabbjdclfmeipaaIns2
import Derived.KernelRfl
set_option linter.unusedVariables false
set_option maxRecDepth 100000
namespace Go.Proofs.Ytabbjdclfmeipaa

open Go.Abs
/-! ### strings are held against each other -/
def primCmp : List AV → Option (AV × List AV)
  | [.str a, .str b] => some (.i .i64 (Go.Lib.compareBytes a b), [])
  | _ => none
theorem cmp_meets {args : List AV} {r : AV × List AV} (h : primCmp args = some r) : Meets Try.prog 120 [] args r := by
  match args, h with
  | [.str a, .str b], h =>
    simp only [primCmp, Option.some.injEq] at h
    subst h
    refine .inr (.inl ?_)
    intro w Z vs F hz hr hnd hZ
    simp only [RepPs, RepP, Rep] at hr
    obtain ⟨v1, vs1, F1, F2, rfl, rfl, ⟨rfl, rfl⟩, v2, vs2, F3, F4, rfl, rfl, ⟨rfl, rfl⟩, rfl, rfl⟩ := hr
    refine ⟨_, w, [], by
      rw [run_callFunc_extern Try.func120 (by kernel_rfl) (by kernel_rfl) (by kernel_rfl) (e := Extern.BytealgCompare.compare) (by kernel_rfl), Go.Lib.run_compareString]
      rfl, ?_⟩
    refine ⟨?_, by simp, by simp, Nat.le_refl _, rfl, rfl, rfl, fun _ _ h => h, fun _ _ _ => rfl⟩
    simp only [RepPs, RepP, Rep]
    exact ⟨_, [], [], [], rfl, rfl, ⟨rfl, rfl⟩, rfl, rfl⟩

/-! ### sums of two words -/
def primAdd64 : List AV → Option (AV × List AV)
  | [.i k x, .i k2 y, .i k3 c] => Go.Abs.ask ((k = .u64 ∧ k2 = .u64 ∧ k3 = .u64) ∧ 0 ≤ x ∧ 0 ≤ y ∧ 0 ≤ c ∧ c ≤ 1) (some (.tup [.i .u64 ((x + y + c) % 18446744073709551616), .i .u64 ((x + y + c) / 18446744073709551616)], []))
  | _ => none
theorem add64_meets {args : List AV} {r : AV × List AV} (h : primAdd64 args = some r) : Meets Try.prog 58 [] args r := by
  unfold primAdd64 at h
  split at h
  · simp only [ask_some, Option.some.injEq] at h
    obtain ⟨⟨⟨rfl, rfl, rfl⟩, hx, hy, hc0, hc⟩, rfl⟩ := h
    rename_i x y c
    refine .inr (.inl ?_)
    intro w Z vs F hz hr hnd hZ
    simp only [RepPs, RepP, Rep] at hr
    obtain ⟨v1, vs1, F1, F2, rfl, rfl, ⟨rfl, rfl⟩, v2, vs2, F3, F4, rfl, rfl, ⟨rfl, rfl⟩, v3, vs3, F5, F6, rfl, rfl, ⟨rfl, rfl⟩, rfl, rfl⟩ := hr
    refine ⟨_, w, [], by
      rw [run_callFunc_extern Try.func58 (by kernel_rfl) (by kernel_rfl) (by kernel_rfl) (e := add64Entry) (by kernel_rfl)]
      rw [run_add64 x y c hx hy hc0 hc]
      rfl, ?_⟩
    refine ⟨?_, by simp, by simp, Nat.le_refl _, rfl, rfl, rfl, fun _ _ h => h, fun _ _ _ => rfl⟩
    simp only [RepPs, RepP, Rep]
    exact ⟨_, [], [], [], rfl, rfl, ⟨_, rfl, _, _, [], [], rfl, rfl, ⟨rfl, rfl⟩, _, _, [], [], rfl, rfl, ⟨rfl, rfl⟩, rfl, rfl⟩, rfl, rfl⟩
  · cases h
def sub64Entry : Array Value → Sem Value := fun args => do
  let (x, y, b) ← Extern.MathBitsCarry.three "Sub64" args
  pure (Extern.MathBitsCarry.pair ((x + Extern.MathBitsCarry.m64 - y - b) % Extern.MathBitsCarry.m64) (if x < y + b then 1 else 0))
theorem run_sub64 {P : Program} (x y c : Int) (hx : 0 ≤ x) (hy : 0 ≤ y) (hy2 : y < 18446744073709551616) (hc0 : 0 ≤ c) (hc : c ≤ 1) (w : World) :
    (sub64Entry #[.int .u64 x, .int .u64 y, .int .u64 c]).run P w = .ok (.tuple #[.int .u64 ((x - y - c) % 18446744073709551616), .int .u64 (if x < y + c then 1 else 0)]) w := by
  have key : ∀ k : Nat, k ≤ 1 → (sub64Entry #[.int .u64 x, .int .u64 y, .int .u64 (k : Int)]).run P w =
      .ok (Extern.MathBitsCarry.pair ((x.toNat + Extern.MathBitsCarry.m64 - y.toNat - k) % Extern.MathBitsCarry.m64) (if x.toNat < y.toNat + k then 1 else 0)) w := by
    intro k hk
    have : k = 0 ∨ k = 1 := by omega
    rcases this with rfl | rfl <;> rfl
  obtain ⟨k, rfl⟩ := Int.eq_ofNat_of_zero_le hc0
  rw [key k (by omega)]
  obtain ⟨X, rfl⟩ := Int.eq_ofNat_of_zero_le hx
  obtain ⟨Y, rfl⟩ := Int.eq_ofNat_of_zero_le hy
  simp only [Extern.MathBitsCarry.pair, Extern.MathBitsCarry.m64, Int.toNat_natCast]
  have e1 : Int.ofNat ((X + 18446744073709551616 - Y - k) % 18446744073709551616) = ((X : Int) - Y - k) % 18446744073709551616 := by
    simp only [Int.ofNat_eq_natCast]
    omega
  have e2 : Int.ofNat (if X < Y + k then 1 else 0) = if (X : Int) < Y + k then 1 else 0 := by
    by_cases h : X < Y + k
    · rw [if_pos h, if_pos (by omega)]; rfl
    · rw [if_neg h, if_neg (by omega)]; rfl
  rw [show (2 : Nat) ^ 64 = 18446744073709551616 by decide] at *
  rw [e1, e2]
def primSub64 : List AV → Option (AV × List AV)
  | [.i k x, .i k2 y, .i k3 c] => Go.Abs.ask ((k = .u64 ∧ k2 = .u64 ∧ k3 = .u64) ∧ 0 ≤ x ∧ 0 ≤ y ∧ y < 18446744073709551616 ∧ 0 ≤ c ∧ c ≤ 1) (some (.tup [.i .u64 ((x - y - c) % 18446744073709551616), .i .u64 (if x < y + c then 1 else 0)], []))
  | _ => none
theorem sub64_meets {args : List AV} {r : AV × List AV} (h : primSub64 args = some r) : Meets Try.prog 55 [] args r := by
  unfold primSub64 at h
  split at h
  · simp only [ask_some, Option.some.injEq] at h
    obtain ⟨⟨⟨rfl, rfl, rfl⟩, hx, hy, hy2, hc0, hc⟩, rfl⟩ := h
    rename_i x y c
    refine .inr (.inl ?_)
    intro w Z vs F hz hr hnd hZ
    simp only [RepPs, RepP, Rep] at hr
    obtain ⟨v1, vs1, F1, F2, rfl, rfl, ⟨rfl, rfl⟩, v2, vs2, F3, F4, rfl, rfl, ⟨rfl, rfl⟩, v3, vs3, F5, F6, rfl, rfl, ⟨rfl, rfl⟩, rfl, rfl⟩ := hr
    refine ⟨_, w, [], by
      rw [run_callFunc_extern Try.func55 (by kernel_rfl) (by kernel_rfl) (by kernel_rfl) (e := sub64Entry) (by kernel_rfl)]
      rw [run_sub64 x y c hx hy hy2 hc0 hc]
      rfl, ?_⟩
    refine ⟨?_, by simp, by simp, Nat.le_refl _, rfl, rfl, rfl, fun _ _ h => h, fun _ _ _ => rfl⟩
    simp only [RepPs, RepP, Rep]
    exact ⟨_, [], [], [], rfl, rfl, ⟨_, rfl, _, _, [], [], rfl, rfl, ⟨rfl, rfl⟩, _, _, [], [], rfl, rfl, ⟨rfl, rfl⟩, rfl, rfl⟩, rfl, rfl⟩
  · cases h
/-! ### slices.Insert -/
def primInsert : List AV → Option (AV × List AV)
  | [.ow ty sz nl es, .i k i, .ow ty2 sz2 nl2 ys] => Go.Abs.ask ((ty = 67 ∧ sz = 5 ∧ ty2 = 67 ∧ sz2 = 5) ∧ k = .i64 ∧ 0 ≤ i ∧ i.toNat ≤ es.length ∧ 0 < ys.length ∧ es.length + ys.length ≤ 274877906944)
      (some (.ow 67 5 false (es.take i.toNat ++ ys ++ es.drop i.toNat), []))
  | _ => none
theorem insert_meets {args : List AV} {r : AV × List AV} (h : primInsert args = some r) : Meets Try.prog 72 [.give (.row 67 5), .borrow, .give (.row 67 5)] args r := by
  unfold primInsert at h
  split at h
  · simp only [ask_some, Option.some.injEq] at h
    obtain ⟨⟨⟨rfl, rfl, rfl, rfl⟩, rfl, h1, h2, h3, h4⟩, rfl⟩ := h
    rename_i nl es i nl2 ys
    have e : ((i.toNat : Nat) : Int) = i := Int.toNat_of_nonneg h1
    have := insert_meets0 (nl := nl) (nl2 := nl2) h2 h3 h4
    rw [e] at this
    exact this
  · cases h
end Go.Proofs.Ytabbjdclfmeipaa
