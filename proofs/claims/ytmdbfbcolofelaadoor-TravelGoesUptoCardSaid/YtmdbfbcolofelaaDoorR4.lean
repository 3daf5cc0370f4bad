import Derived.Test.YtmdbfbcolofelaaDoorR3
set_option linter.unusedSimpArgs false
set_option linter.unusedVariables false
set_option maxHeartbeats 8000000
set_option maxRecDepth 100000
namespace Go.Proofs.YtmdbfbcolofelaaDoor
open Go.Abs

def zeroV : Vl := .mk 0 0 [] .nil 0 []
theorem zeroV_ok : zeroV.ok := ⟨by simp, by simp, ⟨.inr rfl, fun _ => rfl⟩, trivial⟩
def intV (n : Int) : Vl := .mk 1 n [] .nil 0 []
theorem intV_ok (n : Int) : (intV n).ok := ⟨by simp, by simp, ⟨.inr rfl, fun _ => rfl⟩, trivial⟩
def strV (s : List UInt8) : Vl := .mk 2 0 s .nil 0 []
theorem strV_ok {s : List UInt8} (h : s.length ≤ 137438953472) : (strV s).ok := ⟨h, by simp, ⟨.inr rfl, fun _ => rfl⟩, trivial⟩
theorem e32 (n : Int) : acall S 32 [.i .i64 n] = some (.agg (intV n).c, []) := by
  refine W_eq (g32 rfl ?_)
  (simp only [go_sem, Nat.add_assoc, reduceIte, reduceCtorEq, Nat.reduceEqDiff, Nat.reduceAdd, Nat.reduceMul, Nat.reduceSub, Nat.reduceLeDiff, Nat.reduceLT, Nat.reduceBEq, Nat.reduceBNe, Int.reduceLE, Int.reduceLT, Int.reduceToNat, Int.reduceEq, Int.reduceNe, Int.reduceNeg, Nat.reduceEqDiff, Int.reduceAdd, Int.reduceSub, Int.reduceMul, Int.cast_ofNat_Int, Int.natCast_zero, a32, intV, Vl.c, Vl.cs]; repeat' (refine kont_next ?_ <;> (try simp only [go_sem, Nat.add_assoc, reduceIte, reduceCtorEq, Nat.reduceEqDiff, Nat.reduceAdd, Nat.reduceMul, Nat.reduceSub, Nat.reduceLeDiff, Nat.reduceLT, Nat.reduceBEq, Nat.reduceBNe, Int.reduceLE, Int.reduceLT, Int.reduceToNat, Int.reduceEq, Int.reduceNe, Int.reduceNeg, Nat.reduceEqDiff, Int.reduceAdd, Int.reduceSub, Int.reduceMul, Int.cast_ofNat_Int, Int.natCast_zero, a32, intV, Vl.c, Vl.cs])))
theorem e37 (s : List UInt8) : acall S 37 [.str s] = some (.agg (strV s).c, []) := by
  refine W_eq (g37 rfl ?_)
  (simp only [go_sem, Nat.add_assoc, reduceIte, reduceCtorEq, Nat.reduceEqDiff, Nat.reduceAdd, Nat.reduceMul, Nat.reduceSub, Nat.reduceLeDiff, Nat.reduceLT, Nat.reduceBEq, Nat.reduceBNe, Int.reduceLE, Int.reduceLT, Int.reduceToNat, Int.reduceEq, Int.reduceNe, Int.reduceNeg, Nat.reduceEqDiff, Int.reduceAdd, Int.reduceSub, Int.reduceMul, Int.cast_ofNat_Int, Int.natCast_zero, a37, strV, Vl.c, Vl.cs]; repeat' (refine kont_next ?_ <;> (try simp only [go_sem, Nat.add_assoc, reduceIte, reduceCtorEq, Nat.reduceEqDiff, Nat.reduceAdd, Nat.reduceMul, Nat.reduceSub, Nat.reduceLeDiff, Nat.reduceLT, Nat.reduceBEq, Nat.reduceBNe, Int.reduceLE, Int.reduceLT, Int.reduceToNat, Int.reduceEq, Int.reduceNe, Int.reduceNeg, Nat.reduceEqDiff, Int.reduceAdd, Int.reduceSub, Int.reduceMul, Int.cast_ofNat_Int, Int.natCast_zero, a37, strV, Vl.c, Vl.cs])))
theorem e25 : acall S 25 [] = some (.agg (Tv.cs ⟨.mk 4 0 [] .nil 0 [], .nil, 0, [], .nil, 0, [], 0⟩), []) := by
  refine W_eq (g25 rfl ?_)
  (simp only [go_sem, Nat.add_assoc, reduceIte, reduceCtorEq, Nat.reduceEqDiff, Nat.reduceAdd, Nat.reduceMul, Nat.reduceSub, Nat.reduceLeDiff, Nat.reduceLT, Nat.reduceBEq, Nat.reduceBNe, Int.reduceLE, Int.reduceLT, Int.reduceToNat, Int.reduceEq, Int.reduceNe, Int.reduceNeg, Nat.reduceEqDiff, Int.reduceAdd, Int.reduceSub, Int.reduceMul, Int.cast_ofNat_Int, Int.natCast_zero, a25, Tv.cs, Vl.c, Vl.cs]; repeat' (refine kont_next ?_ <;> (try simp only [go_sem, Nat.add_assoc, reduceIte, reduceCtorEq, Nat.reduceEqDiff, Nat.reduceAdd, Nat.reduceMul, Nat.reduceSub, Nat.reduceLeDiff, Nat.reduceLT, Nat.reduceBEq, Nat.reduceBNe, Int.reduceLE, Int.reduceLT, Int.reduceToNat, Int.reduceEq, Int.reduceNe, Int.reduceNeg, Nat.reduceEqDiff, Int.reduceAdd, Int.reduceSub, Int.reduceMul, Int.cast_ofNat_Int, Int.natCast_zero, a25, Tv.cs, Vl.c, Vl.cs])))
theorem e54 (k : SK) (z : Nat) (nm : List UInt8) : acall S 54 [.sl k z [], .str nm] = some (.i .i64 (-1), []) := by
  refine W_eq (g54 rfl ?_)
  (simp only [go_sem, Nat.add_assoc, reduceIte, reduceCtorEq, Nat.reduceEqDiff, Nat.reduceAdd, Nat.reduceMul, Nat.reduceSub, Nat.reduceLeDiff, Nat.reduceLT, Nat.reduceBEq, Nat.reduceBNe, Int.reduceLE, Int.reduceLT, Int.reduceToNat, Int.reduceEq, Int.reduceNe, Int.reduceNeg, Nat.reduceEqDiff, Int.reduceAdd, Int.reduceSub, Int.reduceMul, Int.cast_ofNat_Int, Int.natCast_zero, a54]; repeat' (refine kont_next ?_ <;> (try simp only [go_sem, Nat.add_assoc, reduceIte, reduceCtorEq, Nat.reduceEqDiff, Nat.reduceAdd, Nat.reduceMul, Nat.reduceSub, Nat.reduceLeDiff, Nat.reduceLT, Nat.reduceBEq, Nat.reduceBNe, Int.reduceLE, Int.reduceLT, Int.reduceToNat, Int.reduceEq, Int.reduceNe, Int.reduceNeg, Nat.reduceEqDiff, Int.reduceAdd, Int.reduceSub, Int.reduceMul, Int.cast_ofNat_Int, Int.natCast_zero, a54])))
  refine kloop_inv (ι := Unit) (fun _ => [.sl k z [], .str nm, .i .i64 0, .i .i64 0]) (fun _ => True) (fun _ => 0) () rfl trivial ?_
  intro _ _
  (simp only [go_sem, Nat.add_assoc, reduceIte, reduceCtorEq, Nat.reduceEqDiff, Nat.reduceAdd, Nat.reduceMul, Nat.reduceSub, Nat.reduceLeDiff, Nat.reduceLT, Nat.reduceBEq, Nat.reduceBNe, Int.reduceLE, Int.reduceLT, Int.reduceToNat, Int.reduceEq, Int.reduceNe, Int.reduceNeg, Nat.reduceEqDiff, Int.reduceAdd, Int.reduceSub, Int.reduceMul, Int.cast_ofNat_Int, Int.natCast_zero]; repeat' (refine kont_next ?_ <;> (try simp only [go_sem, Nat.add_assoc, reduceIte, reduceCtorEq, Nat.reduceEqDiff, Nat.reduceAdd, Nat.reduceMul, Nat.reduceSub, Nat.reduceLeDiff, Nat.reduceLT, Nat.reduceBEq, Nat.reduceBNe, Int.reduceLE, Int.reduceLT, Int.reduceToNat, Int.reduceEq, Int.reduceNe, Int.reduceNeg, Nat.reduceEqDiff, Int.reduceAdd, Int.reduceSub, Int.reduceMul, Int.cast_ofNat_Int, Int.natCast_zero])))
theorem e36 (k : SK) (z : Nat) (nm : List UInt8) : acall S 36 [.sl k z [], .str nm] = some (.b false, []) := by
  have e1 := e54 k z nm
  refine W_eq (g36 rfl ?_)
  (simp only [go_sem, Nat.add_assoc, reduceIte, reduceCtorEq, Nat.reduceEqDiff, Nat.reduceAdd, Nat.reduceMul, Nat.reduceSub, Nat.reduceLeDiff, Nat.reduceLT, Nat.reduceBEq, Nat.reduceBNe, Int.reduceLE, Int.reduceLT, Int.reduceToNat, Int.reduceEq, Int.reduceNe, Int.reduceNeg, Nat.reduceEqDiff, Int.reduceAdd, Int.reduceSub, Int.reduceMul, Int.cast_ofNat_Int, Int.natCast_zero, a36, s54, e1]; repeat' (refine kont_next ?_ <;> (try simp only [go_sem, Nat.add_assoc, reduceIte, reduceCtorEq, Nat.reduceEqDiff, Nat.reduceAdd, Nat.reduceMul, Nat.reduceSub, Nat.reduceLeDiff, Nat.reduceLT, Nat.reduceBEq, Nat.reduceBNe, Int.reduceLE, Int.reduceLT, Int.reduceToNat, Int.reduceEq, Int.reduceNe, Int.reduceNeg, Nat.reduceEqDiff, Int.reduceAdd, Int.reduceSub, Int.reduceMul, Int.cast_ofNat_Int, Int.natCast_zero, a36, s54, e1])))

theorem e14 (t : Tv) (h : t.ok) (nm : List UInt8) : ∃ (r : Vl) (b : Bool), acall S 14 [.agg t.cs, .sl .open_ 1 [[.str nm]]] = some (.tup [.agg r.c, .b b], []) ∧ r.ok ∧ (∀ x, lk nm t.p.tags = some x → b = true ∧ r.p = x) := by
  suffices hW : W (acall S 14 [.agg t.cs, .sl .open_ 1 [[.str nm]]]) (fun q => ∃ (r : Vl) (b : Bool), q = (.tup [.agg r.c, .b b], []) ∧ r.ok ∧ (∀ x, lk nm t.p.tags = some x → b = true ∧ r.p = x)) by
    obtain ⟨q, h1, r, b, rfl, h2⟩ := hW
    exact ⟨r, b, h1, h2⟩
  have eT := e33 t h nm
  have eN := e37 nm
  have eK := e36 .open_ 1 nm
  have hL : LIM = 274877906944 := rfl
  refine g14 rfl ?_
  cases hany : t.tags.any (tagIs nm) with
  | false =>
    have hlk : lk nm t.p.tags = none := lk_none hany
    have eT' : acall S 33 [.agg t.cs, .str nm] = some (.i .i64 (-1), []) := by rw [eT]; unfold tagI; rw [idx_none hany]
    obtain ⟨⟨tvk, tvn, tvs, tvkk, tvz, tvl⟩, tpk, tpz, tpath, ttk, ttz, ttags, tloops⟩ := t
    simp only [Tv.cs, Vl.c, Vl.cs_map, List.cons_append, List.nil_append] at eT'
    (simp only [go_sem, Nat.add_assoc, reduceIte, reduceCtorEq, Nat.reduceEqDiff, Nat.reduceAdd, Nat.reduceMul, Nat.reduceSub, Nat.reduceLeDiff, Nat.reduceLT, Nat.reduceBEq, Nat.reduceBNe, Int.reduceLE, Int.reduceLT, Int.reduceToNat, Int.reduceEq, Int.reduceNe, Int.reduceNeg, Nat.reduceEqDiff, Int.reduceAdd, Int.reduceSub, Int.reduceMul, Int.cast_ofNat_Int, Int.natCast_zero, a14, Tv.cs, Vl.c, Vl.cs_map]; repeat' (refine kont_next ?_ <;> (try simp only [go_sem, Nat.add_assoc, reduceIte, reduceCtorEq, Nat.reduceEqDiff, Nat.reduceAdd, Nat.reduceMul, Nat.reduceSub, Nat.reduceLeDiff, Nat.reduceLT, Nat.reduceBEq, Nat.reduceBNe, Int.reduceLE, Int.reduceLT, Int.reduceToNat, Int.reduceEq, Int.reduceNe, Int.reduceNeg, Nat.reduceEqDiff, Int.reduceAdd, Int.reduceSub, Int.reduceMul, Int.cast_ofNat_Int, Int.natCast_zero, a14, Tv.cs, Vl.c, Vl.cs_map])))
    refine kloop_inv (ι := Unit) (fun _ => [.sl .open_ 1 [[.str nm]], .bx [.i .i64 tvk, .i .i64 tvn, .str tvs, .sl tvkk tvz (tvl.map Vl.c), .sl tpk tpz (tpath.map Vl.c), .sl ttk ttz (ttags.map tagC), .i .i64 tloops], .bx [.i .i64 0, .i .i64 0, .str [], .sl .nil 0 []], .ow 24 4 true [], .sl .open_ 1 [[.str nm]], .i .i64 1, .i .i64 0]) (fun _ => True) (fun _ => 0) () rfl trivial ?_
    intro _ _
    (simp only [go_sem, Nat.add_assoc, reduceIte, reduceCtorEq, Nat.reduceEqDiff, Nat.reduceAdd, Nat.reduceMul, Nat.reduceSub, Nat.reduceLeDiff, Nat.reduceLT, Nat.reduceBEq, Nat.reduceBNe, Int.reduceLE, Int.reduceLT, Int.reduceToNat, Int.reduceEq, Int.reduceNe, Int.reduceNeg, Nat.reduceEqDiff, Int.reduceAdd, Int.reduceSub, Int.reduceMul, Int.cast_ofNat_Int, Int.natCast_zero, s33, eT']; repeat' (refine kont_next ?_ <;> (try simp only [go_sem, Nat.add_assoc, reduceIte, reduceCtorEq, Nat.reduceEqDiff, Nat.reduceAdd, Nat.reduceMul, Nat.reduceSub, Nat.reduceLeDiff, Nat.reduceLT, Nat.reduceBEq, Nat.reduceBNe, Int.reduceLE, Int.reduceLT, Int.reduceToNat, Int.reduceEq, Int.reduceNe, Int.reduceNeg, Nat.reduceEqDiff, Int.reduceAdd, Int.reduceSub, Int.reduceMul, Int.cast_ofNat_Int, Int.natCast_zero, s33, eT'])))
    exact ⟨zeroV, false, by simp [zeroV, Vl.c, Vl.cs], zeroV_ok, fun x hx => by rw [hlk] at hx; cases hx⟩
  | true =>
    obtain ⟨k, x, i1, i2, i3, i4⟩ := idx_some hany
    have hk : k < t.tags.length := (List.getElem?_eq_some_iff.1 i2).1
    have hlk : lk nm t.p.tags = some x.2.p := lk_hit i2 i3 i4
    have eT' : acall S 33 [.agg t.cs, .str nm] = some (.i .i64 (k : Int), []) := by rw [eT]; unfold tagI; rw [i1]
    obtain ⟨u, eu, hup, huo⟩ := e35 x.2 (h.to x (List.mem_of_getElem? i2)).1
    have hts := h.ts.1
    have g1 : decide ((k : Int) < 0) = false := decide_eq_false (by omega)
    have b1 : (0 : Int) ≤ (k : Int) := by omega
    have b2 : (k : Int) < (t.tags.length : Int) := by omega
    have blim : 2 ≤ LIM := by omega
    obtain ⟨xn, x⟩ := x
    obtain ⟨⟨tvk, tvn, tvs, tvkk, tvz, tvl⟩, tpk, tpz, tpath, ttk, ttz, ttags, tloops⟩ := t
    obtain ⟨uk, un, us, ukk, uz, ul⟩ := u
    obtain ⟨xk, xxn, xs, xkk, xz, xl⟩ := x
    simp only at i2 hts b2 hk
    simp only [Tv.cs, Vl.c, Vl.cs_map, List.cons_append, List.nil_append] at eT' eu
    simp only [strV, Vl.c, Vl.cs] at eN
    (simp only [go_sem, Nat.add_assoc, reduceIte, reduceCtorEq, Nat.reduceEqDiff, Nat.reduceAdd, Nat.reduceMul, Nat.reduceSub, Nat.reduceLeDiff, Nat.reduceLT, Nat.reduceBEq, Nat.reduceBNe, Int.reduceLE, Int.reduceLT, Int.reduceToNat, Int.reduceEq, Int.reduceNe, Int.reduceNeg, Nat.reduceEqDiff, Int.reduceAdd, Int.reduceSub, Int.reduceMul, Int.cast_ofNat_Int, Int.natCast_zero, a14, Tv.cs, Vl.c, Vl.cs_map]; repeat' (refine kont_next ?_ <;> (try simp only [go_sem, Nat.add_assoc, reduceIte, reduceCtorEq, Nat.reduceEqDiff, Nat.reduceAdd, Nat.reduceMul, Nat.reduceSub, Nat.reduceLeDiff, Nat.reduceLT, Nat.reduceBEq, Nat.reduceBNe, Int.reduceLE, Int.reduceLT, Int.reduceToNat, Int.reduceEq, Int.reduceNe, Int.reduceNeg, Nat.reduceEqDiff, Int.reduceAdd, Int.reduceSub, Int.reduceMul, Int.cast_ofNat_Int, Int.natCast_zero, a14, Tv.cs, Vl.c, Vl.cs_map])))
    refine kloop_inv (ι := Bool) (fun d => [.sl .open_ 1 [[.str nm]], .bx [.i .i64 tvk, .i .i64 tvn, .str tvs, .sl tvkk tvz (tvl.map Vl.c), .sl tpk tpz (tpath.map Vl.c), .sl ttk ttz (ttags.map tagC), .i .i64 tloops], .bx [.i .i64 0, .i .i64 0, .str [], .sl .nil 0 []], if d then .ow 24 4 false [[.i .i64 2, .i .i64 0, .str nm, .sl .nil 0 []], [.i .i64 uk, .i .i64 un, .str us, .sl ukk uz (ul.map Vl.c)]] else .ow 24 4 true [], .sl .open_ 1 [[.str nm]], .i .i64 1, if d then .i .i64 1 else .i .i64 0]) (fun _ => True) (fun d => if d then 0 else 1) false rfl trivial ?_
    intro d _
    cases d with
    | false =>
      (simp only [go_sem, Nat.add_assoc, reduceIte, reduceCtorEq, Nat.reduceEqDiff, Nat.reduceAdd, Nat.reduceMul, Nat.reduceSub, Nat.reduceLeDiff, Nat.reduceLT, Nat.reduceBEq, Nat.reduceBNe, Int.reduceLE, Int.reduceLT, Int.reduceToNat, Int.reduceEq, Int.reduceNe, Int.reduceNeg, Nat.reduceEqDiff, Int.reduceAdd, Int.reduceSub, Int.reduceMul, Int.cast_ofNat_Int, Int.natCast_zero, Bool.false_eq_true, if_false, s33, eT', g1, s36, eK, s37, eN, b1, b2, hts, i2, tagC, Vl.c, Vl.cs_map, s35, eu, blim, wrap_i64 (show (-9223372036854775808 : Int) ≤ 1 by decide) (by decide)]; repeat' (refine kont_next ?_ <;> (try simp only [go_sem, Nat.add_assoc, reduceIte, reduceCtorEq, Nat.reduceEqDiff, Nat.reduceAdd, Nat.reduceMul, Nat.reduceSub, Nat.reduceLeDiff, Nat.reduceLT, Nat.reduceBEq, Nat.reduceBNe, Int.reduceLE, Int.reduceLT, Int.reduceToNat, Int.reduceEq, Int.reduceNe, Int.reduceNeg, Nat.reduceEqDiff, Int.reduceAdd, Int.reduceSub, Int.reduceMul, Int.cast_ofNat_Int, Int.natCast_zero, Bool.false_eq_true, if_false, s33, eT', g1, s36, eK, s37, eN, b1, b2, hts, i2, tagC, Vl.c, Vl.cs_map, s35, eu, blim, wrap_i64 (show (-9223372036854775808 : Int) ≤ 1 by decide) (by decide)])))
      exact ⟨true, rfl, by simp⟩
    | true =>
      (simp only [go_sem, Nat.add_assoc, reduceIte, reduceCtorEq, Nat.reduceEqDiff, Nat.reduceAdd, Nat.reduceMul, Nat.reduceSub, Nat.reduceLeDiff, Nat.reduceLT, Nat.reduceBEq, Nat.reduceBNe, Int.reduceLE, Int.reduceLT, Int.reduceToNat, Int.reduceEq, Int.reduceNe, Int.reduceNeg, Nat.reduceEqDiff, Int.reduceAdd, Int.reduceSub, Int.reduceMul, Int.cast_ofNat_Int, Int.natCast_zero, if_true]; repeat' (refine kont_next ?_ <;> (try simp only [go_sem, Nat.add_assoc, reduceIte, reduceCtorEq, Nat.reduceEqDiff, Nat.reduceAdd, Nat.reduceMul, Nat.reduceSub, Nat.reduceLeDiff, Nat.reduceLT, Nat.reduceBEq, Nat.reduceBNe, Int.reduceLE, Int.reduceLT, Int.reduceToNat, Int.reduceEq, Int.reduceNe, Int.reduceNeg, Nat.reduceEqDiff, Int.reduceAdd, Int.reduceSub, Int.reduceMul, Int.cast_ofNat_Int, Int.natCast_zero, if_true])))
      exact ⟨.mk uk un us ukk uz ul, true, by simp [Vl.c, Vl.cs_map], huo, fun y hy => ⟨rfl, by rw [hlk] at hy; injection hy with hy; rw [← hy]; exact hup⟩⟩
end Go.Proofs.YtmdbfbcolofelaaDoor
