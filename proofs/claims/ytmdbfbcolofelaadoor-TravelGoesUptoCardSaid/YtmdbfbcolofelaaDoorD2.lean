/-
  The reference's steps of a traverser; Home.
-/
import Derived.Test.YtmdbfbcolofelaaDoorD1
import Derived.Test.YtmdbfbcolofelaaDoorR4
set_option linter.unusedSimpArgs false
set_option linter.unusedVariables false
set_option maxHeartbeats 8000000
set_option maxRecDepth 100000
namespace Go.Proofs.YtmdbfbcolofelaaDoor
open Go.Abs

theorem e24 (t : Tv) (h : t.ok) (x : Vl) (hx : x.ok) : ∃ u : Tv, acall S 24 [.agg t.cs, .agg x.c] = some (.tup [.agg u.cs, .i .i64 (toE t.p)], []) ∧ u.p = toP t.p x.p ∧ u.ok := by
  obtain ⟨v, path, tags, eC, hp, ho, htl, hpl⟩ := e16 t h
  obtain ⟨y, ey, hyp, hyo⟩ := e40 x hx
  have hL : LIM = 274877906944 := rfl
  have ht := h.pl
  have hlen : t.p.path.length = t.path.length := by simp [Tv.p]
  have hloop : t.loops = t.p.loops := rfl
  unfold toP toE
  by_cases hl : t.path.length ≥ 256
  · rw [if_pos (by omega), if_pos (by omega)]
    refine ⟨mkT v path tags t.loops, W_eq (g24 rfl ?_), hp, ho⟩
    have g1 : decide ((256 : Int) ≤ (path.length : Int)) = true := decide_eq_true (by omega)
    obtain ⟨⟨tvk, tvn, tvs, tvkk, tvz, tvl⟩, tpk, tpz, tpath, ttk, ttz, ttags, tloops⟩ := t
    obtain ⟨vk, vn, vs, vkk, vz, vl⟩ := v
    obtain ⟨xk, xn, xs, xkk, xz, xl⟩ := x
    simp only [Tv.cs, Tv.ov, mkT, Vl.c, Vl.cs_map, List.cons_append, List.nil_append] at eC ⊢
    (simp only [go_sem, Nat.add_assoc, reduceIte, reduceCtorEq, Nat.reduceEqDiff, Nat.reduceAdd, Nat.reduceMul, Nat.reduceSub, Nat.reduceLeDiff, Nat.reduceLT, Nat.reduceBEq, Nat.reduceBNe, Int.reduceLE, Int.reduceLT, Int.reduceToNat, Int.reduceEq, Int.reduceNe, Int.reduceNeg, Nat.reduceEqDiff, Int.reduceAdd, Int.reduceSub, Int.reduceMul, Int.cast_ofNat_Int, Int.natCast_zero, a24, s16, eC, g1]; repeat' (refine kont_next ?_ <;> (try simp only [go_sem, Nat.add_assoc, reduceIte, reduceCtorEq, Nat.reduceEqDiff, Nat.reduceAdd, Nat.reduceMul, Nat.reduceSub, Nat.reduceLeDiff, Nat.reduceLT, Nat.reduceBEq, Nat.reduceBNe, Int.reduceLE, Int.reduceLT, Int.reduceToNat, Int.reduceEq, Int.reduceNe, Int.reduceNeg, Nat.reduceEqDiff, Int.reduceAdd, Int.reduceSub, Int.reduceMul, Int.cast_ofNat_Int, Int.natCast_zero, a24, s16, eC, g1])))
  · rw [if_neg (by omega), if_neg (by omega)]
    have g1 : decide ((256 : Int) ≤ (path.length : Int)) = false := decide_eq_false (by omega)
    have glim : path.length + 1 ≤ LIM := by omega
    refine ⟨mkT y (path ++ [y]) tags t.loops, W_eq (g24 rfl ?_), ?_, ?_⟩
    · obtain ⟨⟨tvk, tvn, tvs, tvkk, tvz, tvl⟩, tpk, tpz, tpath, ttk, ttz, ttags, tloops⟩ := t
      obtain ⟨vk, vn, vs, vkk, vz, vl⟩ := v
      obtain ⟨xk, xn, xs, xkk, xz, xl⟩ := x
      obtain ⟨yk, yn, ys, ykk, yz, yl⟩ := y
      have hne : (path ++ [Vl.mk yk yn ys ykk yz yl]).isEmpty = false := by simp
      simp only [Tv.cs, Tv.ov, mkT, Vl.c, Vl.cs_map, List.cons_append, List.nil_append, hne, List.map_append, List.map_cons, List.map_nil] at eC ey ⊢
      (simp only [go_sem, Nat.add_assoc, reduceIte, reduceCtorEq, Nat.reduceEqDiff, Nat.reduceAdd, Nat.reduceMul, Nat.reduceSub, Nat.reduceLeDiff, Nat.reduceLT, Nat.reduceBEq, Nat.reduceBNe, Int.reduceLE, Int.reduceLT, Int.reduceToNat, Int.reduceEq, Int.reduceNe, Int.reduceNeg, Nat.reduceEqDiff, Int.reduceAdd, Int.reduceSub, Int.reduceMul, Int.cast_ofNat_Int, Int.natCast_zero, a24, s16, eC, g1, s40, ey, glim]; repeat' (refine kont_next ?_ <;> (try simp only [go_sem, Nat.add_assoc, reduceIte, reduceCtorEq, Nat.reduceEqDiff, Nat.reduceAdd, Nat.reduceMul, Nat.reduceSub, Nat.reduceLeDiff, Nat.reduceLT, Nat.reduceBEq, Nat.reduceBNe, Int.reduceLE, Int.reduceLT, Int.reduceToNat, Int.reduceEq, Int.reduceNe, Int.reduceNeg, Nat.reduceEqDiff, Int.reduceAdd, Int.reduceSub, Int.reduceMul, Int.cast_ofNat_Int, Int.natCast_zero, a24, s16, eC, g1, s40, ey, glim])))
    · have h1 := congrArg PT.path hp
      have h2 := congrArg PT.tags hp
      have h3 := congrArg PT.loops hp
      simp only [Tv.p, mkT] at h1 h2 h3 ⊢
      simp only [List.map_append, h1, h2, h3, List.map_cons, List.map_nil, hyp]
    · exact mkT_ok hyo (by simp; omega) (by rw [htl]; exact h.tl) (fun z hz => by
        rcases List.mem_append.1 hz with h1 | h1
        · exact ho.po z h1
        · simp only [List.mem_singleton] at h1; rw [h1]; exact hyo) ho.to
theorem e27 (t : Tv) (h : t.ok) (x : Vl) (hx : x.ok) : ∃ u : Tv, acall S 27 [.agg t.cs, .agg x.c] = some (.agg u.cs, []) ∧ u.p = atP t.p x.p ∧ u.ok := by
  obtain ⟨v, path, tags, eC, hp, ho, htl, hpl⟩ := e16 t h
  obtain ⟨y, ey, hyp, hyo⟩ := e40 x hx
  refine ⟨mkT y path tags t.loops, W_eq (g27 rfl ?_), ?_, mkT_ok hyo ho.pl ho.tl ho.po ho.to⟩
  · obtain ⟨⟨tvk, tvn, tvs, tvkk, tvz, tvl⟩, tpk, tpz, tpath, ttk, ttz, ttags, tloops⟩ := t
    obtain ⟨vk, vn, vs, vkk, vz, vl⟩ := v
    obtain ⟨xk, xn, xs, xkk, xz, xl⟩ := x
    obtain ⟨yk, yn, ys, ykk, yz, yl⟩ := y
    simp only [Tv.cs, Tv.ov, mkT, Vl.c, Vl.cs_map, List.cons_append, List.nil_append] at eC ey ⊢
    (simp only [go_sem, Nat.add_assoc, reduceIte, reduceCtorEq, Nat.reduceEqDiff, Nat.reduceAdd, Nat.reduceMul, Nat.reduceSub, Nat.reduceLeDiff, Nat.reduceLT, Nat.reduceBEq, Nat.reduceBNe, Int.reduceLE, Int.reduceLT, Int.reduceToNat, Int.reduceEq, Int.reduceNe, Int.reduceNeg, Nat.reduceEqDiff, Int.reduceAdd, Int.reduceSub, Int.reduceMul, Int.cast_ofNat_Int, Int.natCast_zero, a27, s16, eC, s40, ey]; repeat' (refine kont_next ?_ <;> (try simp only [go_sem, Nat.add_assoc, reduceIte, reduceCtorEq, Nat.reduceEqDiff, Nat.reduceAdd, Nat.reduceMul, Nat.reduceSub, Nat.reduceLeDiff, Nat.reduceLT, Nat.reduceBEq, Nat.reduceBNe, Int.reduceLE, Int.reduceLT, Int.reduceToNat, Int.reduceEq, Int.reduceNe, Int.reduceNeg, Nat.reduceEqDiff, Int.reduceAdd, Int.reduceSub, Int.reduceMul, Int.cast_ofNat_Int, Int.natCast_zero, a27, s16, eC, s40, ey])))
  · have h1 := congrArg PT.path hp
    have h2 := congrArg PT.tags hp
    simp only [Tv.p, mkT, atP] at h1 h2 ⊢
    simp only [h1, h2, hyp]
theorem e28 (t : Tv) (h : t.ok) : ∃ u : Tv, acall S 28 [.agg t.cs] = some (.agg u.cs, []) ∧ u.p = roundP t.p ∧ u.ok := by
  obtain ⟨v, path, tags, eC, hp, ho, htl, hpl⟩ := e16 t h
  unfold roundP
  by_cases hl : t.loops < 9223372036854775807
  · rw [if_pos (show t.p.loops < 9223372036854775807 from hl)]
    have g1 : decide (t.loops < 9223372036854775807) = true := decide_eq_true hl
    refine ⟨mkT v path tags (IntKind.i64.wrap (t.loops + 1)), W_eq (g28 rfl ?_), ?_, mkT_ok ho.v ho.pl ho.tl ho.po ho.to⟩
    · obtain ⟨⟨tvk, tvn, tvs, tvkk, tvz, tvl⟩, tpk, tpz, tpath, ttk, ttz, ttags, tloops⟩ := t
      obtain ⟨vk, vn, vs, vkk, vz, vl⟩ := v
      simp only [Tv.cs, Tv.ov, mkT, Vl.c, Vl.cs_map, List.cons_append, List.nil_append] at eC g1 ⊢
      (simp only [go_sem, Nat.add_assoc, reduceIte, reduceCtorEq, Nat.reduceEqDiff, Nat.reduceAdd, Nat.reduceMul, Nat.reduceSub, Nat.reduceLeDiff, Nat.reduceLT, Nat.reduceBEq, Nat.reduceBNe, Int.reduceLE, Int.reduceLT, Int.reduceToNat, Int.reduceEq, Int.reduceNe, Int.reduceNeg, Nat.reduceEqDiff, Int.reduceAdd, Int.reduceSub, Int.reduceMul, Int.cast_ofNat_Int, Int.natCast_zero, a28, s16, eC, g1]; repeat' (refine kont_next ?_ <;> (try simp only [go_sem, Nat.add_assoc, reduceIte, reduceCtorEq, Nat.reduceEqDiff, Nat.reduceAdd, Nat.reduceMul, Nat.reduceSub, Nat.reduceLeDiff, Nat.reduceLT, Nat.reduceBEq, Nat.reduceBNe, Int.reduceLE, Int.reduceLT, Int.reduceToNat, Int.reduceEq, Int.reduceNe, Int.reduceNeg, Nat.reduceEqDiff, Int.reduceAdd, Int.reduceSub, Int.reduceMul, Int.cast_ofNat_Int, Int.natCast_zero, a28, s16, eC, g1])))
    · have h1 := congrArg PT.path hp
      have h2 := congrArg PT.tags hp
      have h3 := congrArg PT.v hp
      simp only [Tv.p, mkT] at h1 h2 h3 ⊢
      simp only [h1, h2, h3]
  · rw [if_neg (show ¬ t.p.loops < 9223372036854775807 from hl)]
    have g1 : decide (t.loops < 9223372036854775807) = false := decide_eq_false hl
    refine ⟨mkT v path tags t.loops, W_eq (g28 rfl ?_), hp, ho⟩
    obtain ⟨⟨tvk, tvn, tvs, tvkk, tvz, tvl⟩, tpk, tpz, tpath, ttk, ttz, ttags, tloops⟩ := t
    obtain ⟨vk, vn, vs, vkk, vz, vl⟩ := v
    simp only [Tv.cs, Tv.ov, mkT, Vl.c, Vl.cs_map, List.cons_append, List.nil_append] at eC g1 ⊢
    (simp only [go_sem, Nat.add_assoc, reduceIte, reduceCtorEq, Nat.reduceEqDiff, Nat.reduceAdd, Nat.reduceMul, Nat.reduceSub, Nat.reduceLeDiff, Nat.reduceLT, Nat.reduceBEq, Nat.reduceBNe, Int.reduceLE, Int.reduceLT, Int.reduceToNat, Int.reduceEq, Int.reduceNe, Int.reduceNeg, Nat.reduceEqDiff, Int.reduceAdd, Int.reduceSub, Int.reduceMul, Int.cast_ofNat_Int, Int.natCast_zero, a28, s16, eC, g1]; repeat' (refine kont_next ?_ <;> (try simp only [go_sem, Nat.add_assoc, reduceIte, reduceCtorEq, Nat.reduceEqDiff, Nat.reduceAdd, Nat.reduceMul, Nat.reduceSub, Nat.reduceLeDiff, Nat.reduceLT, Nat.reduceBEq, Nat.reduceBNe, Int.reduceLE, Int.reduceLT, Int.reduceToNat, Int.reduceEq, Int.reduceNe, Int.reduceNeg, Nat.reduceEqDiff, Int.reduceAdd, Int.reduceSub, Int.reduceMul, Int.cast_ofNat_Int, Int.natCast_zero, a28, s16, eC, g1])))

theorem e26 : acall S 26 [] = some (.agg (Tv.cs ⟨.mk 4 0 [] .nil 0 [], .nil, 0, [], .nil, 0, [], 0⟩), []) := by
  refine W_eq (g26 rfl ?_)
  (simp only [go_sem, Nat.add_assoc, reduceIte, reduceCtorEq, Nat.reduceEqDiff, Nat.reduceAdd, Nat.reduceMul, Nat.reduceSub, Nat.reduceLeDiff, Nat.reduceLT, Nat.reduceBEq, Nat.reduceBNe, Int.reduceLE, Int.reduceLT, Int.reduceToNat, Int.reduceEq, Int.reduceNe, Int.reduceNeg, Nat.reduceEqDiff, Int.reduceAdd, Int.reduceSub, Int.reduceMul, Int.cast_ofNat_Int, Int.natCast_zero, a26, Tv.cs, Vl.c, Vl.cs, List.map_nil]; repeat' (refine kont_next ?_ <;> (try simp only [go_sem, Nat.add_assoc, reduceIte, reduceCtorEq, Nat.reduceEqDiff, Nat.reduceAdd, Nat.reduceMul, Nat.reduceSub, Nat.reduceLeDiff, Nat.reduceLT, Nat.reduceBEq, Nat.reduceBNe, Int.reduceLE, Int.reduceLT, Int.reduceToNat, Int.reduceEq, Int.reduceNe, Int.reduceNeg, Nat.reduceEqDiff, Int.reduceAdd, Int.reduceSub, Int.reduceMul, Int.cast_ofNat_Int, Int.natCast_zero, a26, Tv.cs, Vl.c, Vl.cs, List.map_nil])))
def homeP (t : PT) (n : Int) : PT := { t with loops := n }
theorem e29 (t : Tv) (h : t.ok) (n : Int) : ∃ u : Tv, acall S 29 [.agg t.cs, .i .i64 n] = some (.agg u.cs, []) ∧ u.p = homeP t.p n ∧ u.ok := by
  obtain ⟨v, path, tags, eC, hp, ho, htl, hpl⟩ := e19 t h
  refine ⟨mkT v path tags n, W_eq (g29 rfl ?_), ?_, mkT_ok ho.v ho.pl ho.tl ho.po ho.to⟩
  · obtain ⟨⟨tvk, tvn, tvs, tvkk, tvz, tvl⟩, tpk, tpz, tpath, ttk, ttz, ttags, tloops⟩ := t
    obtain ⟨vk, vn, vs, vkk, vz, vl⟩ := v
    simp only [Tv.cs, Tv.ov, mkT, Vl.c, Vl.cs_map, List.cons_append, List.nil_append] at eC ⊢
    (simp only [go_sem, Nat.add_assoc, reduceIte, reduceCtorEq, Nat.reduceEqDiff, Nat.reduceAdd, Nat.reduceMul, Nat.reduceSub, Nat.reduceLeDiff, Nat.reduceLT, Nat.reduceBEq, Nat.reduceBNe, Int.reduceLE, Int.reduceLT, Int.reduceToNat, Int.reduceEq, Int.reduceNe, Int.reduceNeg, Nat.reduceEqDiff, Int.reduceAdd, Int.reduceSub, Int.reduceMul, Int.cast_ofNat_Int, Int.natCast_zero, a29, s19, eC]; repeat' (refine kont_next ?_ <;> (try simp only [go_sem, Nat.add_assoc, reduceIte, reduceCtorEq, Nat.reduceEqDiff, Nat.reduceAdd, Nat.reduceMul, Nat.reduceSub, Nat.reduceLeDiff, Nat.reduceLT, Nat.reduceBEq, Nat.reduceBNe, Int.reduceLE, Int.reduceLT, Int.reduceToNat, Int.reduceEq, Int.reduceNe, Int.reduceNeg, Nat.reduceEqDiff, Int.reduceAdd, Int.reduceSub, Int.reduceMul, Int.cast_ofNat_Int, Int.natCast_zero, a29, s19, eC])))
  · have h1 := congrArg PT.path hp
    have h2 := congrArg PT.tags hp
    have h3 := congrArg PT.v hp
    simp only [Tv.p, mkT, homeP] at h1 h2 h3 ⊢
    simp only [h1, h2, h3]
end Go.Proofs.YtmdbfbcolofelaaDoor
