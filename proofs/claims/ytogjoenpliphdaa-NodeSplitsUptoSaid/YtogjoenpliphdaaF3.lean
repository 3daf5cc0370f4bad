import Derived.Test.YtogjoenpliphdaaF2
set_option linter.unusedSimpArgs false
set_option linter.unusedVariables false
set_option maxHeartbeats 4000000
namespace Go.Proofs.Ytogjoenpliphdaa
open Go.Abs

/-! ### numbers as bytes -/
def leb (u : Nat) : List UInt8 := if u < 128 then [UInt8.ofNat u] else UInt8.ofNat (u % 128 + 128) :: leb (u / 128)
termination_by u
decreasing_by omega
theorem leb_small {u : Nat} (h : u < 128) : leb u = [UInt8.ofNat u] := by rw [leb, if_pos h]
theorem leb_great {u : Nat} (h : ¬ u < 128) : leb u = UInt8.ofNat (u % 128 + 128) :: leb (u / 128) := by rw [leb, if_neg h]
theorem leb_len : ∀ (n u : Nat), u < 128 ^ n → 0 < n → (leb u).length ≤ n
  | 0, u, h, h0 => by omega
  | n + 1, u, h, _ => by
    by_cases hu : u < 128
    · rw [leb_small hu]; simp
    · rw [leb_great hu]
      have hn : 0 < n := by
        cases n with
        | zero => simp at h; omega
        | succ n => omega
      have := leb_len n (u / 128) (by rw [Nat.pow_succ] at h; omega) hn
      simp; omega
theorem leb_len10 {u : Nat} (h : u < 18446744073709551616) : (leb u).length ≤ 10 := leb_len 10 u (by omega) (by omega)
theorem leb_pos (u : Nat) : 0 < (leb u).length := by
  by_cases h : u < 128
  · rw [leb_small h]; simp
  · rw [leb_great h]; simp

theorem u8_nat (n : Nat) (h : n < 256) : ((UInt8.ofNat n).toNat : Int) = n := by
  rw [UInt8.toNat_ofNat']
  simp; omega
theorem wrap_u8 (n : Nat) : IntKind.u8.wrap (n : Int) = ((UInt8.ofNat n).toNat : Int) := by
  rw [UInt8.toNat_ofNat']
  simp [IntKind.wrap, IntKind.bits, IntKind.signed]
theorem or128 (n : Nat) (h : n < 256) : (BitVec.ofInt 8 (n : Int) ||| BitVec.ofInt 8 128).toNat = n % 128 + 128 := by
  have : ∀ n : Fin 256, (BitVec.ofInt 8 ((n.val : Nat) : Int) ||| BitVec.ofInt 8 128).toNat = n.val % 128 + 128 := by decide +kernel
  exact this ⟨n, h⟩
theorem put_hi (u : Nat) : orI .u8 ((UInt8.ofNat u).toNat : Int) 128 = ((UInt8.ofNat (u % 128 + 128)).toNat : Int) := by
  unfold orI
  rw [show IntKind.u8.bits = 8 from rfl, or128 _ (UInt8.toNat_lt _), wrap_u8]
  congr 2
  simp
theorem shr7 (u : Nat) : shrI .u64 (u : Int) 7 = ((u / 128 : Nat) : Int) := by
  unfold shrI
  rw [show min (7 : Int).toNat IntKind.u64.bits = 7 from rfl, Int.fdiv_eq_ediv_of_nonneg _ (by decide)]
  simp

theorem e77 {k : SK} {z : Nat} {l : List UInt8} {u : Nat} (h : OkS k z 1 l) (hu : u < 18446744073709551616) (hl : l.length + 10 ≤ LIM) : acall S 77 [.sl k z (ofU8s l), .i .u64 u] = some (.ow 5 1 false (ofU8s (l ++ leb u)), []) := by
  have hc := e68 h (by omega)
  refine W_eq (g77 rfl ?_)
  simp only [go_sem, Nat.add_assoc, reduceIte, reduceCtorEq, Nat.reduceEqDiff, Nat.reduceAdd, Nat.reduceMul, Nat.reduceSub, Nat.reduceLeDiff, Nat.reduceLT, Nat.reduceBEq, Nat.reduceBNe, Int.reduceLE, Int.reduceLT, Int.reduceToNat, Int.reduceEq, Int.reduceNe, Int.reduceNeg, Nat.reduceEqDiff, a77, s68, hc, ofU8s_len]; repeat' (refine kont_next ?_ <;> (try simp only [go_sem, Nat.add_assoc, reduceIte, reduceCtorEq, Nat.reduceEqDiff, Nat.reduceAdd, Nat.reduceMul, Nat.reduceSub, Nat.reduceLeDiff, Nat.reduceLT, Nat.reduceBEq, Nat.reduceBNe, Int.reduceLE, Int.reduceLT, Int.reduceToNat, Int.reduceEq, Int.reduceNe, Int.reduceNeg, Nat.reduceEqDiff, a77, s68, hc, ofU8s_len]))
  refine kloop_inv (ι := Nat × Bool × List UInt8) (fun x => [.i .u64 x.1, .ow 5 1 x.2.1 (ofU8s x.2.2)]) (fun x => x.1 < 18446744073709551616 ∧ x.2.2 ++ leb x.1 = l ++ leb u) (fun x => x.1) (u, decide (k = .nil), l) rfl ⟨hu, rfl⟩ ?_
  rintro ⟨v, nl, o⟩ ⟨hv, he⟩
  have hlen : o.length + (leb v).length ≤ LIM := by
    have := congrArg List.length he
    have h10 := leb_len10 hu
    simp at this
    omega
  have hp := leb_pos v
  by_cases hlt : v < 128
  · have h1 : decide ((127 : Int) < (v : Int)) = false := by simp; omega
    have h2 : o.length + 1 ≤ LIM := by omega
    simp only [go_sem, Nat.add_assoc, reduceIte, reduceCtorEq, Nat.reduceEqDiff, Nat.reduceAdd, Nat.reduceMul, Nat.reduceSub, Nat.reduceLeDiff, Nat.reduceLT, Nat.reduceBEq, Nat.reduceBNe, Int.reduceLE, Int.reduceLT, Int.reduceToNat, Int.reduceEq, Int.reduceNe, Int.reduceNeg, Nat.reduceEqDiff, h1, wrap_u8, ofU8s_len, h2]; repeat' (refine kont_next ?_ <;> (try simp only [go_sem, Nat.add_assoc, reduceIte, reduceCtorEq, Nat.reduceEqDiff, Nat.reduceAdd, Nat.reduceMul, Nat.reduceSub, Nat.reduceLeDiff, Nat.reduceLT, Nat.reduceBEq, Nat.reduceBNe, Int.reduceLE, Int.reduceLT, Int.reduceToNat, Int.reduceEq, Int.reduceNe, Int.reduceNeg, Nat.reduceEqDiff, h1, wrap_u8, ofU8s_len, h2]))
    rw [← he, leb_small hlt]
  · have h1 : decide ((127 : Int) < (v : Int)) = true := by simp; omega
    have h2 : o.length + 1 ≤ LIM := by omega
    simp only [go_sem, Nat.add_assoc, reduceIte, reduceCtorEq, Nat.reduceEqDiff, Nat.reduceAdd, Nat.reduceMul, Nat.reduceSub, Nat.reduceLeDiff, Nat.reduceLT, Nat.reduceBEq, Nat.reduceBNe, Int.reduceLE, Int.reduceLT, Int.reduceToNat, Int.reduceEq, Int.reduceNe, Int.reduceNeg, Nat.reduceEqDiff, h1, put_hi, shr7, wrap_u8, ofU8s_len, h2]; repeat' (refine kont_next ?_ <;> (try simp only [go_sem, Nat.add_assoc, reduceIte, reduceCtorEq, Nat.reduceEqDiff, Nat.reduceAdd, Nat.reduceMul, Nat.reduceSub, Nat.reduceLeDiff, Nat.reduceLT, Nat.reduceBEq, Nat.reduceBNe, Int.reduceLE, Int.reduceLT, Int.reduceToNat, Int.reduceEq, Int.reduceNe, Int.reduceNeg, Nat.reduceEqDiff, h1, put_hi, shr7, wrap_u8, ofU8s_len, h2]))
    refine ⟨(v / 128, false, o ++ [UInt8.ofNat (v % 128 + 128)]), ?_, ⟨?_, ?_⟩, ?_⟩
    · rfl
    · simp only at hv ⊢; omega
    · simp only at he ⊢
      rw [← he, leb_great hlt]; simp
    · simp only; omega

theorem put_hi2 (v : Nat) : IntKind.u8.wrap (((UInt8.ofNat (v % 128)).toNat : Int) + 128) = ((UInt8.ofNat (v % 128 + 128)).toNat : Int) := by
  rw [u8_nat _ (by omega), u8_nat _ (by omega)]
  simp [IntKind.wrap, IntKind.bits, IntKind.signed]; omega
theorem wrap_u64 (n : Nat) (h : n < 18446744073709551616) : IntKind.u64.wrap (n : Int) = n := by
  simp [IntKind.wrap, IntKind.bits, IntKind.signed]; omega
theorem tmod128 (v : Nat) : (v : Int).tmod 128 = ((v % 128 : Nat) : Int) := by rw [Int.tmod_eq_emod_of_nonneg (by omega)]; simp
theorem tdiv128 (v : Nat) : (v : Int).tdiv 128 = ((v / 128 : Nat) : Int) := by rw [Int.tdiv_eq_ediv_of_nonneg (by omega)]; simp
theorem e78 {k : SK} {z : Nat} {l : List UInt8} {u : Nat} (h : OkS k z 1 l) (hu : u < 18446744073709551616) (hl : l.length + 10 ≤ LIM) : acall S 78 [.sl k z (ofU8s l), .i .u64 u] = some (.ow 5 1 false (ofU8s (l ++ leb u)), []) := by
  have h1 := h.1
  have h2 : l.length ≤ LIM := by omega
  refine W_eq (g78 rfl ?_)
  simp only [go_sem, Nat.add_assoc, reduceIte, reduceCtorEq, Nat.reduceEqDiff, Nat.reduceAdd, Nat.reduceMul, Nat.reduceSub, Nat.reduceLeDiff, Nat.reduceLT, Nat.reduceBEq, Nat.reduceBNe, Int.reduceLE, Int.reduceLT, Int.reduceToNat, Int.reduceEq, Int.reduceNe, Int.reduceNeg, Nat.reduceEqDiff, a78, h1, h2, ofU8s_len]; repeat' (refine kont_next ?_ <;> (try simp only [go_sem, Nat.add_assoc, reduceIte, reduceCtorEq, Nat.reduceEqDiff, Nat.reduceAdd, Nat.reduceMul, Nat.reduceSub, Nat.reduceLeDiff, Nat.reduceLT, Nat.reduceBEq, Nat.reduceBNe, Int.reduceLE, Int.reduceLT, Int.reduceToNat, Int.reduceEq, Int.reduceNe, Int.reduceNeg, Nat.reduceEqDiff, a78, h1, h2, ofU8s_len]))
  refine kloop_inv (ι := Nat × Bool × List UInt8) (fun x => [.i .u64 x.1, .ow 5 1 x.2.1 (ofU8s x.2.2)]) (fun x => x.1 < 18446744073709551616 ∧ x.2.2 ++ leb x.1 = l ++ leb u) (fun x => x.1) (u, l.isEmpty, l) rfl ⟨hu, rfl⟩ ?_
  rintro ⟨v, nl, o⟩ ⟨hv, he⟩
  have hlen : o.length + (leb v).length ≤ LIM := by
    have := congrArg List.length he
    have h10 := leb_len10 hu
    simp at this
    omega
  have hp := leb_pos v
  have h2 : o.length + 1 ≤ LIM := by omega
  by_cases hlt : v < 128
  · have h1 : decide ((128 : Int) ≤ (v : Int)) = false := by simp; omega
    simp only [go_sem, Nat.add_assoc, reduceIte, reduceCtorEq, Nat.reduceEqDiff, Nat.reduceAdd, Nat.reduceMul, Nat.reduceSub, Nat.reduceLeDiff, Nat.reduceLT, Nat.reduceBEq, Nat.reduceBNe, Int.reduceLE, Int.reduceLT, Int.reduceToNat, Int.reduceEq, Int.reduceNe, Int.reduceNeg, Nat.reduceEqDiff, h1, wrap_u8, h2]; repeat' (refine kont_next ?_ <;> (try simp only [go_sem, Nat.add_assoc, reduceIte, reduceCtorEq, Nat.reduceEqDiff, Nat.reduceAdd, Nat.reduceMul, Nat.reduceSub, Nat.reduceLeDiff, Nat.reduceLT, Nat.reduceBEq, Nat.reduceBNe, Int.reduceLE, Int.reduceLT, Int.reduceToNat, Int.reduceEq, Int.reduceNe, Int.reduceNeg, Nat.reduceEqDiff, h1, wrap_u8, h2]))
    rw [← he, leb_small hlt]
  · have h1 : decide ((128 : Int) ≤ (v : Int)) = true := by simp; omega
    simp only [go_sem, Nat.add_assoc, reduceIte, reduceCtorEq, Nat.reduceEqDiff, Nat.reduceAdd, Nat.reduceMul, Nat.reduceSub, Nat.reduceLeDiff, Nat.reduceLT, Nat.reduceBEq, Nat.reduceBNe, Int.reduceLE, Int.reduceLT, Int.reduceToNat, Int.reduceEq, Int.reduceNe, Int.reduceNeg, Nat.reduceEqDiff, h1, put_hi2, tmod128, tdiv128, wrap_u64 (v / 128) (by simp only at hv; omega), wrap_u8, h2]; repeat' (refine kont_next ?_ <;> (try simp only [go_sem, Nat.add_assoc, reduceIte, reduceCtorEq, Nat.reduceEqDiff, Nat.reduceAdd, Nat.reduceMul, Nat.reduceSub, Nat.reduceLeDiff, Nat.reduceLT, Nat.reduceBEq, Nat.reduceBNe, Int.reduceLE, Int.reduceLT, Int.reduceToNat, Int.reduceEq, Int.reduceNe, Int.reduceNeg, Nat.reduceEqDiff, h1, put_hi2, tmod128, tdiv128, wrap_u64 (v / 128) (by simp only at hv; omega), wrap_u8, h2]))
    refine ⟨(v / 128, false, o ++ [UInt8.ofNat (v % 128 + 128)]), ?_, ⟨?_, ?_⟩, ?_⟩
    · rfl
    · simp only at hv ⊢; omega
    · simp only at he ⊢
      rw [← he, leb_great hlt]; simp
    · simp only; omega
def u64 (n : Int) : Nat := (n % 18446744073709551616).toNat
theorem u64_lt (n : Int) : u64 n < 18446744073709551616 := by unfold u64; omega
theorem u64_nat (n : Nat) (h : n < 18446744073709551616) : u64 (n : Int) = n := by unfold u64; omega
theorem wrap_u64i (n : Int) : IntKind.u64.wrap n = (u64 n : Int) := by
  simp [IntKind.wrap, IntKind.bits, IntKind.signed, u64]; omega
theorem e62 {k : SK} {z : Nat} {l : List UInt8} (n : Int) (h : OkS k z 1 l) (hl : l.length + 10 ≤ LIM) : acall S 62 [.sl k z (ofU8s l), .i .i64 n] = some (.ow 5 1 false (ofU8s (l ++ leb (u64 n))), []) := by
  have hc := e77 h (u64_lt n) hl
  refine W_eq (g62 rfl ?_)
  simp only [go_sem, Nat.add_assoc, reduceIte, reduceCtorEq, Nat.reduceEqDiff, Nat.reduceAdd, Nat.reduceMul, Nat.reduceSub, Nat.reduceLeDiff, Nat.reduceLT, Nat.reduceBEq, Nat.reduceBNe, Int.reduceLE, Int.reduceLT, Int.reduceToNat, Int.reduceEq, Int.reduceNe, Int.reduceNeg, Nat.reduceEqDiff, a62, s77, wrap_u64i, hc]; repeat' (refine kont_next ?_ <;> (try simp only [go_sem, Nat.add_assoc, reduceIte, reduceCtorEq, Nat.reduceEqDiff, Nat.reduceAdd, Nat.reduceMul, Nat.reduceSub, Nat.reduceLeDiff, Nat.reduceLT, Nat.reduceBEq, Nat.reduceBNe, Int.reduceLE, Int.reduceLT, Int.reduceToNat, Int.reduceEq, Int.reduceNe, Int.reduceNeg, Nat.reduceEqDiff, a62, s77, wrap_u64i, hc]))
theorem e64 {k : SK} {z : Nat} {l : List UInt8} (n : Int) (h : OkS k z 1 l) (hl : l.length + 10 ≤ LIM) : acall S 64 [.sl k z (ofU8s l), .i .i64 n] = some (.ow 5 1 false (ofU8s (l ++ leb (u64 n))), []) := by
  have hc := e78 h (u64_lt n) hl
  refine W_eq (g64 rfl ?_)
  simp only [go_sem, Nat.add_assoc, reduceIte, reduceCtorEq, Nat.reduceEqDiff, Nat.reduceAdd, Nat.reduceMul, Nat.reduceSub, Nat.reduceLeDiff, Nat.reduceLT, Nat.reduceBEq, Nat.reduceBNe, Int.reduceLE, Int.reduceLT, Int.reduceToNat, Int.reduceEq, Int.reduceNe, Int.reduceNeg, Nat.reduceEqDiff, a64, s78, wrap_u64i, hc]; repeat' (refine kont_next ?_ <;> (try simp only [go_sem, Nat.add_assoc, reduceIte, reduceCtorEq, Nat.reduceEqDiff, Nat.reduceAdd, Nat.reduceMul, Nat.reduceSub, Nat.reduceLeDiff, Nat.reduceLT, Nat.reduceBEq, Nat.reduceBNe, Int.reduceLE, Int.reduceLT, Int.reduceToNat, Int.reduceEq, Int.reduceNe, Int.reduceNeg, Nat.reduceEqDiff, a64, s78, wrap_u64i, hc]))
/-- bytes with their length ahead -/
def fb (x : List UInt8) : List UInt8 := leb x.length ++ x
theorem e63 {k k' : SK} {z z' : Nat} {l x : List UInt8} (h : OkS k z 1 l) (h' : OkS k' z' 1 x) (hl : l.length + 10 + x.length ≤ LIM) : acall S 63 [.sl k z (ofU8s l), .sl k' z' (ofU8s x)] = some (.ow 5 1 false (ofU8s (l ++ fb x)), []) := by
  have hu : x.length < 18446744073709551616 := by unfold LIM at hl; omega
  have hc := e62 (x.length : Int) h (by omega)
  rw [u64_nat _ hu] at hc
  have h10 := leb_len10 hu
  refine W_eq (g63 rfl ?_)
  simp only [go_sem, Nat.add_assoc, reduceIte, reduceCtorEq, Nat.reduceEqDiff, Nat.reduceAdd, Nat.reduceMul, Nat.reduceSub, Nat.reduceLeDiff, Nat.reduceLT, Nat.reduceBEq, Nat.reduceBNe, Int.reduceLE, Int.reduceLT, Int.reduceToNat, Int.reduceEq, Int.reduceNe, Int.reduceNeg, Nat.reduceEqDiff, a63, s62, hc, h'.1, fb]; repeat' (first | (first | refine kway_sp (fun hh => ?_) (fun hh => ?_) | refine kgdn_sp (fun hh => ?_) (fun hh => ?_) | refine kgd_sp (fun hh => ?_) (fun hh => ?_) | refine kgddn_sp (fun hh => ?_) (fun hh => ?_) | refine kgdd_sp (fun hh => ?_) (fun hh => ?_) | refine kop_way (fun hh => ?_) (fun hh => ?_) | refine kop_bway (fun hh => ?_) (fun hh => ?_) | refine kopd_way (fun hh => ?_) (fun hh => ?_) | refine kopd_bway (fun hh => ?_) (fun hh => ?_)) <;> (try simp only [go_sem, Nat.add_assoc, reduceIte, reduceCtorEq, Nat.reduceEqDiff, Nat.reduceAdd, Nat.reduceMul, Nat.reduceSub, Nat.reduceLeDiff, Nat.reduceLT, Nat.reduceBEq, Nat.reduceBNe, Int.reduceLE, Int.reduceLT, Int.reduceToNat, Int.reduceEq, Int.reduceNe, Int.reduceNeg, Nat.reduceEqDiff, a63, s62, hc, h'.1, fb, hh]) | (first | refine kop_ask (by omega) ?_ | refine kopd_ask (by omega) ?_ | refine kans_ask (by omega) ?_ | refine kpack_ask (by omega) ?_ | refine kpk_ask (by omega) ?_ | refine kont_next ?_) <;> (try simp only [go_sem, Nat.add_assoc, reduceIte, reduceCtorEq, Nat.reduceEqDiff, Nat.reduceAdd, Nat.reduceMul, Nat.reduceSub, Nat.reduceLeDiff, Nat.reduceLT, Nat.reduceBEq, Nat.reduceBNe, Int.reduceLE, Int.reduceLT, Int.reduceToNat, Int.reduceEq, Int.reduceNe, Int.reduceNeg, Nat.reduceEqDiff, a63, s62, hc, h'.1, fb]) | (show @Eq Nat _ _; omega) | (show @LE.le Nat _ _ _; omega))
end Go.Proofs.Ytogjoenpliphdaa
