/-
  The program's Same; BulkMakes answers true.
-/
import Derived.Test.YtabbjdclfmeipaaB12
import Derived.Test.YtabbjdclfmeipaaB7
set_option linter.unusedSimpArgs false
set_option linter.unusedVariables false
set_option maxHeartbeats 8000000
set_option maxRecDepth 100000
namespace Go.Proofs.Ytabbjdclfmeipaa
open Go.Abs

open Classical in
theorem e52 (c d : Vl) (m m' : Int) (hc : c.ok) (hd : d.ok) (q : Bool) (hq : q = true ↔ cP (c, m) = cP (d, m')) : acall S 52 [.agg (cC (c, m)), .agg (cC (d, m'))] = some (.b q, []) := by
  have er := e53 c d hc hd
  simp only [cP, Prod.mk.injEq] at hq
  generalize c.p = cp at *
  generalize d.p = dp at *
  obtain ⟨ck, cn, cs, ckk, cz, cl⟩ := c
  obtain ⟨dk, dn, ds, dkk, dz, dl⟩ := d
  simp only [Vl.c] at er
  refine W_eq (g52 rfl ?_)
  by_cases hm : m = m'
  case neg =>
    have g1 : decide (m = m') = false := decide_eq_false hm
    have : q = false := by cases q with | false => rfl | true => exact absurd (hq.1 rfl).2 hm
    subst this
    (simp only [go_sem, Nat.add_assoc, reduceIte, reduceCtorEq, Nat.reduceEqDiff, Nat.reduceAdd, Nat.reduceMul, Nat.reduceSub, Nat.reduceLeDiff, Nat.reduceLT, Nat.reduceBEq, Nat.reduceBNe, Int.reduceLE, Int.reduceLT, Int.reduceToNat, Int.reduceEq, Int.reduceNe, Int.reduceNeg, Nat.reduceEqDiff, Int.reduceAdd, Int.reduceSub, Int.reduceMul, Int.cast_ofNat_Int, Int.natCast_zero, a52, cC, g1]; repeat' ((first | refine kont_next ?_ | refine kont_nextn ?_ | refine ikont_next ?_ | refine ikont_nextn ?_) <;> (try simp only [go_sem, Nat.add_assoc, reduceIte, reduceCtorEq, Nat.reduceEqDiff, Nat.reduceAdd, Nat.reduceMul, Nat.reduceSub, Nat.reduceLeDiff, Nat.reduceLT, Nat.reduceBEq, Nat.reduceBNe, Int.reduceLE, Int.reduceLT, Int.reduceToNat, Int.reduceEq, Int.reduceNe, Int.reduceNeg, Nat.reduceEqDiff, Int.reduceAdd, Int.reduceSub, Int.reduceMul, Int.cast_ofNat_Int, Int.natCast_zero, a52, cC, g1])))
  have g1 : decide (m = m') = true := decide_eq_true hm
  have : decide (cp = dp) = q := by
    apply Bool.eq_iff_iff.2
    rw [hq]
    simp [hm]
  rw [this] at er
  (simp only [go_sem, Nat.add_assoc, reduceIte, reduceCtorEq, Nat.reduceEqDiff, Nat.reduceAdd, Nat.reduceMul, Nat.reduceSub, Nat.reduceLeDiff, Nat.reduceLT, Nat.reduceBEq, Nat.reduceBNe, Int.reduceLE, Int.reduceLT, Int.reduceToNat, Int.reduceEq, Int.reduceNe, Int.reduceNeg, Nat.reduceEqDiff, Int.reduceAdd, Int.reduceSub, Int.reduceMul, Int.cast_ofNat_Int, Int.natCast_zero, a52, cC, g1, s53, er]; repeat' ((first | refine kont_next ?_ | refine kont_nextn ?_ | refine ikont_next ?_ | refine ikont_nextn ?_) <;> (try simp only [go_sem, Nat.add_assoc, reduceIte, reduceCtorEq, Nat.reduceEqDiff, Nat.reduceAdd, Nat.reduceMul, Nat.reduceSub, Nat.reduceLeDiff, Nat.reduceLT, Nat.reduceBEq, Nat.reduceBNe, Int.reduceLE, Int.reduceLT, Int.reduceToNat, Int.reduceEq, Int.reduceNe, Int.reduceNeg, Nat.reduceEqDiff, Int.reduceAdd, Int.reduceSub, Int.reduceMul, Int.cast_ofNat_Int, Int.natCast_zero, a52, cC, g1, s53, er])))
theorem e51 (a b : Bg) (ha : a.ok) (hb : b.ok) (q : Bool) (hq : q = true ↔ a.p = b.p) : acall S 51 [a.a, b.a, .fn 52 []] = some (.b q, []) := by
  obtain ⟨k, z, l⟩ := a
  obtain ⟨k', z', r⟩ := b
  obtain ⟨ha1, ha2, ha3⟩ := ha
  obtain ⟨hb1, hb2, hb3⟩ := hb
  simp only [Bg.a, Bg.p] at *
  refine W_eq (g51 rfl ?_)
  by_cases hlen : l.length = r.length
  case neg =>
    have g1 : decide (¬ (l.length : Int) = (r.length : Int)) = true := decide_eq_true (by omega)
    have : q = false := by
      cases q with
      | false => rfl
      | true =>
        have := congrArg List.length (hq.1 rfl)
        simp only [List.length_map] at this
        exact absurd this hlen
    subst this
    (simp only [go_sem, Nat.add_assoc, reduceIte, reduceCtorEq, Nat.reduceEqDiff, Nat.reduceAdd, Nat.reduceMul, Nat.reduceSub, Nat.reduceLeDiff, Nat.reduceLT, Nat.reduceBEq, Nat.reduceBNe, Int.reduceLE, Int.reduceLT, Int.reduceToNat, Int.reduceEq, Int.reduceNe, Int.reduceNeg, Nat.reduceEqDiff, Int.reduceAdd, Int.reduceSub, Int.reduceMul, Int.cast_ofNat_Int, Int.natCast_zero, a51, g1]; repeat' ((first | refine kont_next ?_ | refine kont_nextn ?_ | refine ikont_next ?_ | refine ikont_nextn ?_) <;> (try simp only [go_sem, Nat.add_assoc, reduceIte, reduceCtorEq, Nat.reduceEqDiff, Nat.reduceAdd, Nat.reduceMul, Nat.reduceSub, Nat.reduceLeDiff, Nat.reduceLT, Nat.reduceBEq, Nat.reduceBNe, Int.reduceLE, Int.reduceLT, Int.reduceToNat, Int.reduceEq, Int.reduceNe, Int.reduceNeg, Nat.reduceEqDiff, Int.reduceAdd, Int.reduceSub, Int.reduceMul, Int.cast_ofNat_Int, Int.natCast_zero, a51, g1])))
  have g1 : decide (¬ (l.length : Int) = (r.length : Int)) = false := decide_eq_false (by omega)
  (simp only [go_sem, Nat.add_assoc, reduceIte, reduceCtorEq, Nat.reduceEqDiff, Nat.reduceAdd, Nat.reduceMul, Nat.reduceSub, Nat.reduceLeDiff, Nat.reduceLT, Nat.reduceBEq, Nat.reduceBNe, Int.reduceLE, Int.reduceLT, Int.reduceToNat, Int.reduceEq, Int.reduceNe, Int.reduceNeg, Nat.reduceEqDiff, Int.reduceAdd, Int.reduceSub, Int.reduceMul, Int.cast_ofNat_Int, Int.natCast_zero, a51, g1]; repeat' ((first | refine kont_next ?_ | refine kont_nextn ?_ | refine ikont_next ?_ | refine ikont_nextn ?_) <;> (try simp only [go_sem, Nat.add_assoc, reduceIte, reduceCtorEq, Nat.reduceEqDiff, Nat.reduceAdd, Nat.reduceMul, Nat.reduceSub, Nat.reduceLeDiff, Nat.reduceLT, Nat.reduceBEq, Nat.reduceBNe, Int.reduceLE, Int.reduceLT, Int.reduceToNat, Int.reduceEq, Int.reduceNe, Int.reduceNeg, Nat.reduceEqDiff, Int.reduceAdd, Int.reduceSub, Int.reduceMul, Int.cast_ofNat_Int, Int.natCast_zero, a51, g1])))
  refine kloop_inv (ι := Nat) (fun i => [.sl k' z' (r.map cC), .fn 52 [], .sl k z (l.map cC), .i .i64 l.length, .i .i64 i])
    (fun i => i ≤ l.length ∧ (cPs l).take i = (cPs r).take i) (fun i => l.length - i) 0 rfl ⟨by omega, rfl⟩ ?_
  rintro i ⟨hi, hT⟩
  by_cases hlt : i < l.length
  · obtain ⟨⟨c, m⟩, gc⟩ := get_lt3 hlt
    obtain ⟨⟨d, m'⟩, gd⟩ := get_lt3 (show i < r.length by omega)
    have q1 : decide ((i : Int) < (l.length : Int)) = true := decide_eq_true (by omega)
    have b1 : (0 : Int) ≤ (i : Int) := by omega
    have hw := wrap_succ (k := i) (by omega)
    have hc := ha3 _ (List.mem_of_getElem? gc)
    have hd := hb3 _ (List.mem_of_getElem? gd)
    by_cases he : cP (c, m) = cP (d, m')
    · have er := e52 c d m m' hc hd true (by simp [he])
      have hn2 : (cPs l).take (i + 1) = (cPs r).take (i + 1) := by
        rw [take_get (cPs_get gc), take_get (cPs_get gd), hT, he]
      obtain ⟨ck, cn, cs, ckk, cz, cl⟩ := c
      obtain ⟨dk, dn, ds, dkk, dz, dl⟩ := d
      simp only [cC] at er
      (simp only [go_sem, Nat.add_assoc, reduceIte, reduceCtorEq, Nat.reduceEqDiff, Nat.reduceAdd, Nat.reduceMul, Nat.reduceSub, Nat.reduceLeDiff, Nat.reduceLT, Nat.reduceBEq, Nat.reduceBNe, Int.reduceLE, Int.reduceLT, Int.reduceToNat, Int.reduceEq, Int.reduceNe, Int.reduceNeg, Nat.reduceEqDiff, Int.reduceAdd, Int.reduceSub, Int.reduceMul, Int.cast_ofNat_Int, Int.natCast_zero, q1, b1, gc, gd, ha1.1, hb1.1, cC, s52, er, hw]; repeat' ((first | refine kont_next ?_ | refine kont_nextn ?_ | refine ikont_next ?_ | refine ikont_nextn ?_) <;> (try simp only [go_sem, Nat.add_assoc, reduceIte, reduceCtorEq, Nat.reduceEqDiff, Nat.reduceAdd, Nat.reduceMul, Nat.reduceSub, Nat.reduceLeDiff, Nat.reduceLT, Nat.reduceBEq, Nat.reduceBNe, Int.reduceLE, Int.reduceLT, Int.reduceToNat, Int.reduceEq, Int.reduceNe, Int.reduceNeg, Nat.reduceEqDiff, Int.reduceAdd, Int.reduceSub, Int.reduceMul, Int.cast_ofNat_Int, Int.natCast_zero, q1, b1, gc, gd, ha1.1, hb1.1, cC, s52, er, hw])))
      exact ⟨i + 1, rfl, ⟨by omega, hn2⟩, by omega⟩
    · have er := e52 c d m m' hc hd false (by simp [he])
      have : q = false := by
        cases q with
        | false => rfl
        | true =>
          have h1 := cPs_get gc
          have h2 := cPs_get gd
          rw [hq.1 rfl, h2] at h1
          exact absurd (Option.some.inj h1).symm he
      subst this
      obtain ⟨ck, cn, cs, ckk, cz, cl⟩ := c
      obtain ⟨dk, dn, ds, dkk, dz, dl⟩ := d
      simp only [cC] at er
      (simp only [go_sem, Nat.add_assoc, reduceIte, reduceCtorEq, Nat.reduceEqDiff, Nat.reduceAdd, Nat.reduceMul, Nat.reduceSub, Nat.reduceLeDiff, Nat.reduceLT, Nat.reduceBEq, Nat.reduceBNe, Int.reduceLE, Int.reduceLT, Int.reduceToNat, Int.reduceEq, Int.reduceNe, Int.reduceNeg, Nat.reduceEqDiff, Int.reduceAdd, Int.reduceSub, Int.reduceMul, Int.cast_ofNat_Int, Int.natCast_zero, q1, b1, gc, gd, ha1.1, hb1.1, cC, s52, er]; repeat' ((first | refine kont_next ?_ | refine kont_nextn ?_ | refine ikont_next ?_ | refine ikont_nextn ?_) <;> (try simp only [go_sem, Nat.add_assoc, reduceIte, reduceCtorEq, Nat.reduceEqDiff, Nat.reduceAdd, Nat.reduceMul, Nat.reduceSub, Nat.reduceLeDiff, Nat.reduceLT, Nat.reduceBEq, Nat.reduceBNe, Int.reduceLE, Int.reduceLT, Int.reduceToNat, Int.reduceEq, Int.reduceNe, Int.reduceNeg, Nat.reduceEqDiff, Int.reduceAdd, Int.reduceSub, Int.reduceMul, Int.cast_ofNat_Int, Int.natCast_zero, q1, b1, gc, gd, ha1.1, hb1.1, cC, s52, er])))
  · have q1 : decide ((i : Int) < (l.length : Int)) = false := decide_eq_false (by omega)
    have : q = true := hq.2 (by
      rw [List.take_of_length_le (by simp; omega), List.take_of_length_le (by simp; omega)] at hT
      exact hT)
    subst this
    (simp only [go_sem, Nat.add_assoc, reduceIte, reduceCtorEq, Nat.reduceEqDiff, Nat.reduceAdd, Nat.reduceMul, Nat.reduceSub, Nat.reduceLeDiff, Nat.reduceLT, Nat.reduceBEq, Nat.reduceBNe, Int.reduceLE, Int.reduceLT, Int.reduceToNat, Int.reduceEq, Int.reduceNe, Int.reduceNeg, Nat.reduceEqDiff, Int.reduceAdd, Int.reduceSub, Int.reduceMul, Int.cast_ofNat_Int, Int.natCast_zero, q1]; repeat' ((first | refine kont_next ?_ | refine kont_nextn ?_ | refine ikont_next ?_ | refine ikont_nextn ?_) <;> (try simp only [go_sem, Nat.add_assoc, reduceIte, reduceCtorEq, Nat.reduceEqDiff, Nat.reduceAdd, Nat.reduceMul, Nat.reduceSub, Nat.reduceLeDiff, Nat.reduceLT, Nat.reduceBEq, Nat.reduceBNe, Int.reduceLE, Int.reduceLT, Int.reduceToNat, Int.reduceEq, Int.reduceNe, Int.reduceNeg, Nat.reduceEqDiff, Int.reduceAdd, Int.reduceSub, Int.reduceMul, Int.cast_ofNat_Int, Int.natCast_zero, q1])))
theorem e16 (a b : Bg) (ha : a.ok) (hb : b.ok) (q : Bool) (hq : q = true ↔ a.p = b.p) : acall S 16 [a.a, b.a] = some (.b q, []) := by
  have e1 := e51 a b ha hb q hq
  obtain ⟨k, z, l⟩ := a
  obtain ⟨k', z', r⟩ := b
  simp only [Bg.a] at *
  refine W_eq (g16 rfl ?_)
  (simp only [go_sem, Nat.add_assoc, reduceIte, reduceCtorEq, Nat.reduceEqDiff, Nat.reduceAdd, Nat.reduceMul, Nat.reduceSub, Nat.reduceLeDiff, Nat.reduceLT, Nat.reduceBEq, Nat.reduceBNe, Int.reduceLE, Int.reduceLT, Int.reduceToNat, Int.reduceEq, Int.reduceNe, Int.reduceNeg, Nat.reduceEqDiff, Int.reduceAdd, Int.reduceSub, Int.reduceMul, Int.cast_ofNat_Int, Int.natCast_zero, a16, s51, e1]; repeat' ((first | refine kont_next ?_ | refine kont_nextn ?_ | refine ikont_next ?_ | refine ikont_nextn ?_) <;> (try simp only [go_sem, Nat.add_assoc, reduceIte, reduceCtorEq, Nat.reduceEqDiff, Nat.reduceAdd, Nat.reduceMul, Nat.reduceSub, Nat.reduceLeDiff, Nat.reduceLT, Nat.reduceBEq, Nat.reduceBNe, Int.reduceLE, Int.reduceLT, Int.reduceToNat, Int.reduceEq, Int.reduceNe, Int.reduceNeg, Nat.reduceEqDiff, Int.reduceAdd, Int.reduceSub, Int.reduceMul, Int.cast_ofNat_Int, Int.natCast_zero, a16, s51, e1])))

open Classical in
theorem makes (bk ck lk : SK) (bz cz lz : Nat) (bl cl : List (Vl × Int)) (ll : List Vl) (hb : OkL bk bz bl) (hc : OkL ck cz cl) (hl : OkS lk lz 4 ll) (hlo : ∀ x ∈ ll, x.ok) (hll : ll.length ≤ 1073741824) (v : Vl) (hv : v.ok) (n : Int) :
    acall S 4 [.sl bk bz (bl.map cC), .sl ck cz (cl.map cC), .sl lk lz (ll.map Vl.c), .agg v.c, .i .i64 n] = some (.b true, []) := by
  have hMC : MC = 9007199254740992 := rfl
  have fb := e7 bk bz (bl.map cC)
  have fc := e7 ck cz (cl.map cC)
  rw [List.length_map] at fb fc
  have hbeg := e9
  obtain ⟨vk, vn, vs, vkk, vz, vl⟩ := v
  refine W_eq (g4 rfl ?_)
  cases qb : decide ((bl.length : Int) ≤ 60) with
  | false =>
    rw [qb] at fb
    (simp only [go_sem, Nat.add_assoc, reduceIte, reduceCtorEq, Nat.reduceEqDiff, Nat.reduceAdd, Nat.reduceMul, Nat.reduceSub, Nat.reduceLeDiff, Nat.reduceLT, Nat.reduceBEq, Nat.reduceBNe, Int.reduceLE, Int.reduceLT, Int.reduceToNat, Int.reduceEq, Int.reduceNe, Int.reduceNeg, Nat.reduceEqDiff, Int.reduceAdd, Int.reduceSub, Int.reduceMul, Int.cast_ofNat_Int, Int.natCast_zero, a4, Vl.c, s7, fb]; repeat' ((first | refine kont_next ?_ | refine kont_nextn ?_ | refine ikont_next ?_ | refine ikont_nextn ?_) <;> (try simp only [go_sem, Nat.add_assoc, reduceIte, reduceCtorEq, Nat.reduceEqDiff, Nat.reduceAdd, Nat.reduceMul, Nat.reduceSub, Nat.reduceLeDiff, Nat.reduceLT, Nat.reduceBEq, Nat.reduceBNe, Int.reduceLE, Int.reduceLT, Int.reduceToNat, Int.reduceEq, Int.reduceNe, Int.reduceNeg, Nat.reduceEqDiff, Int.reduceAdd, Int.reduceSub, Int.reduceMul, Int.cast_ofNat_Int, Int.natCast_zero, a4, Vl.c, s7, fb])))
  | true =>
  rw [qb] at fb
  cases qc : decide ((cl.length : Int) ≤ 60) with
  | false =>
    rw [qc] at fc
    (simp only [go_sem, Nat.add_assoc, reduceIte, reduceCtorEq, Nat.reduceEqDiff, Nat.reduceAdd, Nat.reduceMul, Nat.reduceSub, Nat.reduceLeDiff, Nat.reduceLT, Nat.reduceBEq, Nat.reduceBNe, Int.reduceLE, Int.reduceLT, Int.reduceToNat, Int.reduceEq, Int.reduceNe, Int.reduceNeg, Nat.reduceEqDiff, Int.reduceAdd, Int.reduceSub, Int.reduceMul, Int.cast_ofNat_Int, Int.natCast_zero, a4, Vl.c, s7, fb, fc]; repeat' ((first | refine kont_next ?_ | refine kont_nextn ?_ | refine ikont_next ?_ | refine ikont_nextn ?_) <;> (try simp only [go_sem, Nat.add_assoc, reduceIte, reduceCtorEq, Nat.reduceEqDiff, Nat.reduceAdd, Nat.reduceMul, Nat.reduceSub, Nat.reduceLeDiff, Nat.reduceLT, Nat.reduceBEq, Nat.reduceBNe, Int.reduceLE, Int.reduceLT, Int.reduceToNat, Int.reduceEq, Int.reduceNe, Int.reduceNeg, Nat.reduceEqDiff, Int.reduceAdd, Int.reduceSub, Int.reduceMul, Int.cast_ofNat_Int, Int.natCast_zero, a4, Vl.c, s7, fb, fc])))
  | true =>
  rw [qc] at fc
  have lb := of_decide_eq_true qb
  have lc := of_decide_eq_true qc
  by_cases hl60 : (60 : Int) < (ll.length : Int)
  · have g60 := decide_eq_true hl60
    (simp only [go_sem, Nat.add_assoc, reduceIte, reduceCtorEq, Nat.reduceEqDiff, Nat.reduceAdd, Nat.reduceMul, Nat.reduceSub, Nat.reduceLeDiff, Nat.reduceLT, Nat.reduceBEq, Nat.reduceBNe, Int.reduceLE, Int.reduceLT, Int.reduceToNat, Int.reduceEq, Int.reduceNe, Int.reduceNeg, Nat.reduceEqDiff, Int.reduceAdd, Int.reduceSub, Int.reduceMul, Int.cast_ofNat_Int, Int.natCast_zero, a4, Vl.c, s7, fb, fc, g60]; repeat' ((first | refine kont_next ?_ | refine kont_nextn ?_ | refine ikont_next ?_ | refine ikont_nextn ?_) <;> (try simp only [go_sem, Nat.add_assoc, reduceIte, reduceCtorEq, Nat.reduceEqDiff, Nat.reduceAdd, Nat.reduceMul, Nat.reduceSub, Nat.reduceLeDiff, Nat.reduceLT, Nat.reduceBEq, Nat.reduceBNe, Int.reduceLE, Int.reduceLT, Int.reduceToNat, Int.reduceEq, Int.reduceNe, Int.reduceNeg, Nat.reduceEqDiff, Int.reduceAdd, Int.reduceSub, Int.reduceMul, Int.cast_ofNat_Int, Int.natCast_zero, a4, Vl.c, s7, fb, fc, g60])))
  have g60 := decide_eq_false hl60
  let B : Bg := ⟨bk, bz, bl⟩
  let C : Bg := ⟨ck, cz, cl⟩
  have x1 := e12 hb
  have x2 := e13 hb
  obtain ⟨⟨k3, z3, l3⟩, x3, o3, p3, _, _⟩ := e14 hl hll hlo
  obtain ⟨⟨k4, z4, l4⟩, x4, o4, p4⟩ := e15 hl hll hlo
  have s34 := same_t o3 o4 (p3.trans p4.symm)
  obtain ⟨q, hq⟩ : ∃ q : Bool, q = true ↔ B.p = C.p := ⟨decide (B.p = C.p), by simp⟩
  have x5 := e16 B C hb hc q hq
  have x6 := e10 B C hb hc q hq
  obtain ⟨⟨k7, z7, l7⟩, x7, o7, p7, _⟩ := e17 hb
  obtain ⟨⟨k8, z8, l8⟩, x8, o8, p8, _⟩ := e18 hb
  have s78 := same_t o7 o8 (p7.trans p8.symm)
  obtain ⟨⟨k9, z9, l9⟩, x9, o9, p9⟩ := e19 hb (by omega) _ hv n
  obtain ⟨⟨k10, z10, l10⟩, x10, o10, p10⟩ := e20 hb (by omega) _ hv n
  have s910 := same_t o9 o10 (p9.trans p10.symm)
  obtain ⟨⟨k11, z11, l11⟩, x11, o11, p11, _⟩ := e8 hb (L := [C, B]) (OkS.open_ 1 _) (by simp; exact ⟨hc, hb⟩) (by simp [lens, B, C]; omega) (by simp)
  obtain ⟨⟨k12, z12, l12⟩, x12, o12, p12, _⟩ := e21 hb (L := [C, B]) (OkS.open_ 1 _) (by simp; exact ⟨hc, hb⟩) (by simp [lens, B, C]; omega) (by simp)
  have s1112 := same_t o11 o12 (p11.trans p12.symm)
  obtain ⟨⟨k13, z13, l13⟩, x13, o13, p13, _⟩ := e11 hb n
  obtain ⟨⟨k14, z14, l14⟩, x14, o14, p14, _⟩ := e22 hb n
  have s1314 := same_t o13 o14 (p13.trans p14.symm)
  simp only [B, C, List.map_cons, List.map_nil, Bg.c, Bg.a, Vl.c] at x3 x4 x5 x6 x7 x8 x9 x10 x11 x12 x13 x14 s34 s78 s910 s1112 s1314
  generalize (if okB (cPs bl) = true then (0 : Int) else 210) = E1 at x1 x2
  generalize (putR (mayB (cPs bl)) (Vl.p (.mk vk vn vs vkk vz vl)) n).2 = E2 at x9 x10
  generalize errB _ = E3 at x11 x12
  generalize (scR (mayB (cPs bl)) n).2 = E4 at x13 x14
  clear p3 p4 p7 p8 p9 p10 p11 p12 p13 p14 o3 o4 o7 o8 o9 o10 o11 o12 o13 o14
  have hqq : (q != q) = false := by simp
  (simp only [go_sem, Nat.add_assoc, reduceIte, reduceCtorEq, Nat.reduceEqDiff, Nat.reduceAdd, Nat.reduceMul, Nat.reduceSub, Nat.reduceLeDiff, Nat.reduceLT, Nat.reduceBEq, Nat.reduceBNe, Int.reduceLE, Int.reduceLT, Int.reduceToNat, Int.reduceEq, Int.reduceNe, Int.reduceNeg, Nat.reduceEqDiff, Int.reduceAdd, Int.reduceSub, Int.reduceMul, Int.cast_ofNat_Int, Int.natCast_zero, a4, Vl.c, s7, fb, fc, g60, s9, hbeg, s12, x1, s13, x2, s14, x3, s15, x4, s10, s34, s16, x5, x6, s17, x7, s18, x8, s78, s19, x9, s20, x10, s910, s8, x11, s21, x12, s1112, s11, x13, s22, x14, s1314, hqq]; repeat' ((first | refine kont_next ?_ | refine kont_nextn ?_ | refine ikont_next ?_ | refine ikont_nextn ?_) <;> (try simp only [go_sem, Nat.add_assoc, reduceIte, reduceCtorEq, Nat.reduceEqDiff, Nat.reduceAdd, Nat.reduceMul, Nat.reduceSub, Nat.reduceLeDiff, Nat.reduceLT, Nat.reduceBEq, Nat.reduceBNe, Int.reduceLE, Int.reduceLT, Int.reduceToNat, Int.reduceEq, Int.reduceNe, Int.reduceNeg, Nat.reduceEqDiff, Int.reduceAdd, Int.reduceSub, Int.reduceMul, Int.cast_ofNat_Int, Int.natCast_zero, a4, Vl.c, s7, fb, fc, g60, s9, hbeg, s12, x1, s13, x2, s14, x3, s15, x4, s10, s34, s16, x5, x6, s17, x7, s18, x8, s78, s19, x9, s20, x10, s910, s8, x11, s21, x12, s1112, s11, x13, s22, x14, s1314, hqq])))
end Go.Proofs.Ytabbjdclfmeipaa
