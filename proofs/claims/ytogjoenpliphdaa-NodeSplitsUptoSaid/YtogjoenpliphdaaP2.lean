/-
  Plain: a number is read of bytes.
-/
import Derived.Test.YtogjoenpliphdaaF3
set_option linter.unusedSimpArgs false
set_option linter.unusedVariables false
set_option maxHeartbeats 4000000
namespace Go.Proofs.Ytogjoenpliphdaa
open Go.Abs

/-- a number of bytes: the number, how many bytes, which error -/
def takeG : Nat → Nat → Nat → List UInt8 → Nat × Nat × Nat
  | 0, _, _, _ => (0, 0, 12)
  | _ + 1, _, _, [] => (0, 0, 11)
  | n + 1, i, u, c :: r => if c.toNat > 127 then takeG n (i + 1) (u + (c.toNat % 128) * 128 ^ i) r
    else if (0 < i ∧ c.toNat = 0) ∨ (i = 9 ∧ 1 < c.toNat) then (0, 0, 12) else (u + c.toNat * 128 ^ i, i + 1, 0)
def takeS (l : List UInt8) : Nat × Nat × Nat := takeG 10 0 0 l
theorem takeG_nil (n i u : Nat) : takeG (n + 1) i u [] = (0, 0, 11) := rfl
theorem takeG_cons (n i u : Nat) (c : UInt8) (r : List UInt8) : takeG (n + 1) i u (c :: r) = if c.toNat > 127 then takeG n (i + 1) (u + (c.toNat % 128) * 128 ^ i) r
    else if (0 < i ∧ c.toNat = 0) ∨ (i = 9 ∧ 1 < c.toNat) then (0, 0, 12) else (u + c.toNat * 128 ^ i, i + 1, 0) := rfl
theorem takeG_le : ∀ (n i u : Nat) (l : List UInt8), (takeG n i u l).2.1 ≤ i + l.length ∨ (takeG n i u l).2.1 = 0
  | 0, i, u, l => .inr rfl
  | n + 1, i, u, [] => .inr rfl
  | n + 1, i, u, c :: r => by
    rw [takeG_cons]
    have := takeG_le n (i + 1) (u + (c.toNat % 128) * 128 ^ i) r
    simp only [List.length_cons]
    split
    · omega
    · split
      · exact .inr rfl
      · exact .inl (by simp only; omega)
theorem takeS_le (l : List UInt8) : (takeS l).2.1 ≤ l.length := by
  have := takeG_le 10 0 0 l
  unfold takeS; omega
/-- what is read is a number of 64 bits -/
theorem takeG_lt : ∀ (n i u : Nat) (l : List UInt8), n + i = 10 → u < 128 ^ i → (takeG n i u l).1 < 18446744073709551616
  | 0, i, u, l, _, _ => by simp [takeG]
  | n + 1, i, u, [], _, _ => by simp [takeG]
  | n + 1, i, u, c :: r, h, hu => by
    rw [takeG_cons]
    split
    · exact takeG_lt n (i + 1) _ r (by omega) (by
        have : (c.toNat % 128) * 128 ^ i ≤ 127 * 128 ^ i := Nat.mul_le_mul_right _ (by omega)
        rw [Nat.pow_succ]; omega)
    · rename_i h1
      split
      · simp
      · rename_i h2
        simp only
        by_cases hi : i = 9
        · subst hi
          have : c.toNat ≤ 1 := by omega
          have : c.toNat * 128 ^ 9 ≤ 1 * 128 ^ 9 := Nat.mul_le_mul_right _ this
          simp only [Nat.reducePow] at *; omega
        · have h3 : c.toNat * 128 ^ i ≤ 127 * 128 ^ i := Nat.mul_le_mul_right _ (by omega)
          have h4 : 128 ^ (i + 1) ≤ 128 ^ 9 := Nat.pow_le_pow_right (by omega) (by omega)
          rw [Nat.pow_succ] at h4
          simp only [Nat.reducePow] at h4; omega
theorem takeS_lt (l : List UInt8) : (takeS l).1 < 18446744073709551616 := takeG_lt 10 0 0 l rfl (by simp)

theorem and127 (n : Nat) (h : n < 256) : andI .u8 (n : Int) 127 = ((n % 128 : Nat) : Int) := by
  have : ∀ n : Fin 256, andI .u8 ((n.val : Nat) : Int) 127 = ((n.val % 128 : Nat) : Int) := by decide +kernel
  exact this ⟨n, h⟩
theorem pow128 (i : Nat) : 128 ^ i = 2 ^ (7 * i) := by rw [Nat.pow_mul]
theorem or_shl {u c i : Nat} (hu : u < 128 ^ i) (hc : c < 128) (hi : i < 10) (h9 : i = 9 → c ≤ 1) : orI .u64 (u : Int) (shlI .u64 (c : Int) ((7 * i : Nat) : Int)) = ((u + c * 128 ^ i : Nat) : Int) := by
  have hlt : c * 128 ^ i < 18446744073709551616 ∧ u < 18446744073709551616 ∧ u + c * 128 ^ i < 18446744073709551616 := by
    by_cases h : i = 9
    · subst h
      have : c * 128 ^ 9 ≤ 1 * 128 ^ 9 := Nat.mul_le_mul_right _ (h9 rfl)
      simp only [Nat.reducePow] at *; omega
    · have h3 : c * 128 ^ i ≤ 127 * 128 ^ i := Nat.mul_le_mul_right _ (by omega)
      have h4 : 128 ^ (i + 1) ≤ 128 ^ 9 := Nat.pow_le_pow_right (by omega) (by omega)
      rw [Nat.pow_succ] at h4
      simp only [Nat.reducePow] at h4; omega
  have hs : shlI .u64 (c : Int) ((7 * i : Nat) : Int) = ((c * 128 ^ i : Nat) : Int) := by
    unfold shlI
    rw [Int.toNat_natCast, show min (7 * i) IntKind.u64.bits = 7 * i by simp [IntKind.bits]; omega]
    have : (c : Int) * 2 ^ (7 * i) = ((c * 128 ^ i : Nat) : Int) := by rw [pow128]; push_cast; rfl
    rw [this, wrap_u64 _ hlt.1]
  rw [hs]
  unfold orI
  have hk : IntKind.u64.bits = 64 := rfl
  rw [hk]
  have e1 : (BitVec.ofInt 64 (u : Int)).toNat = u := by rw [BitVec.ofInt_natCast, BitVec.toNat_ofNat]; exact Nat.mod_eq_of_lt hlt.2.1
  have e2 : (BitVec.ofInt 64 ((c * 128 ^ i : Nat) : Int)).toNat = c * 128 ^ i := by rw [BitVec.ofInt_natCast, BitVec.toNat_ofNat]; exact Nat.mod_eq_of_lt hlt.1
  rw [BitVec.toNat_or, e1, e2]
  have : u ||| c * 128 ^ i = u + c * 128 ^ i := by
    rw [pow128] at *
    rw [Nat.or_comm, ← Nat.shiftLeft_eq, ← Nat.shiftLeft_add_eq_or_of_lt hu, Nat.add_comm]
  rw [this, wrap_u64 _ hlt.2.2]
theorem OkS.drop {α : Type} {k : SK} {z n : Nat} {l : List α} (h : OkS k z n l) (i : Nat) : OkS k z n (l.drop i) := ⟨h.1.imp_right fun h => by rw [h]; simp, fun hk => by rw [h.2 hk]; simp⟩
theorem OkS.take {α : Type} {k : SK} {z n : Nat} {l : List α} (h : OkS k z n l) (i : Nat) : OkS k z n (l.take i) := ⟨h.1.imp_right fun h => by rw [h]; simp, fun hk => by rw [h.2 hk]; simp⟩
@[go_sem] theorem take_dropped {α : Type} (l : List α) (k : Nat) : (l.drop k).take (l.length - k) = l.drop k := List.take_of_length_le (by simp)
theorem drop_get {α : Type} {l : List α} {i : Nat} {c : α} (h : l[i]? = some c) : l.drop i = c :: l.drop (i + 1) := by
  obtain ⟨hlt, rfl⟩ := List.getElem?_eq_some_iff.1 h
  exact (List.drop_eq_getElem_cons hlt)
end Go.Proofs.Ytogjoenpliphdaa
