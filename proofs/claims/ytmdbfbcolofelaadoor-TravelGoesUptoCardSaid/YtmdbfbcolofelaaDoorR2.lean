import Derived.Test.YtmdbfbcolofelaaDoorR1
set_option linter.unusedSimpArgs false
set_option linter.unusedVariables false
set_option maxHeartbeats 8000000
set_option maxRecDepth 100000
namespace Go.Proofs.YtmdbfbcolofelaaDoor
open Go.Abs

theorem e8 (t : Tv) (h : t.ok) : ∃ u : Tv, acall S 8 [.agg t.cs] = some (.agg u.cs, []) ∧ u.p = t.p ∧ u.ok := by
  obtain ⟨v, path, tags, eC, hp, ho, _, _⟩ := e19 t h
  refine ⟨_, W_eq (g8 rfl ?_), hp, ho⟩
  obtain ⟨⟨tvk, tvn, tvs, tvkk, tvz, tvl⟩, tpk, tpz, tpath, ttk, ttz, ttags, tloops⟩ := t
  obtain ⟨vk, vn, vs, vkk, vz, vl⟩ := v
  simp only [Tv.cs, Tv.ov, mkT, Vl.c, Vl.cs_map, List.cons_append, List.nil_append] at eC ⊢
  (simp only [go_sem, Nat.add_assoc, reduceIte, reduceCtorEq, Nat.reduceEqDiff, Nat.reduceAdd, Nat.reduceMul, Nat.reduceSub, Nat.reduceLeDiff, Nat.reduceLT, Nat.reduceBEq, Nat.reduceBNe, Int.reduceLE, Int.reduceLT, Int.reduceToNat, Int.reduceEq, Int.reduceNe, Int.reduceNeg, Nat.reduceEqDiff, Int.reduceAdd, Int.reduceSub, Int.reduceMul, Int.cast_ofNat_Int, Int.natCast_zero, a8, s19, eC]; repeat' (refine kont_next ?_ <;> (try simp only [go_sem, Nat.add_assoc, reduceIte, reduceCtorEq, Nat.reduceEqDiff, Nat.reduceAdd, Nat.reduceMul, Nat.reduceSub, Nat.reduceLeDiff, Nat.reduceLT, Nat.reduceBEq, Nat.reduceBNe, Int.reduceLE, Int.reduceLT, Int.reduceToNat, Int.reduceEq, Int.reduceNe, Int.reduceNeg, Nat.reduceEqDiff, Int.reduceAdd, Int.reduceSub, Int.reduceMul, Int.cast_ofNat_Int, Int.natCast_zero, a8, s19, eC])))

def toP (t : PT) (v : PV) : PT := if t.path.length ≥ 256 then t else { t with v := v, path := t.path ++ [v] }
def toE (t : PT) : Int := if t.path.length ≥ 256 then 3 else 0
theorem pl_p {t u : Tv} (h : t.p = u.p) : t.path.length = u.path.length := by simpa [Tv.p] using congrArg (fun x => x.path.length) h
theorem e10 (t : Tv) (h : t.ok) (x : Vl) (hx : x.ok) : ∃ u : Tv, acall S 10 [.agg t.cs, .agg x.c] = some (.tup [.agg u.cs, .i .i64 (toE t.p)], []) ∧ u.p = toP t.p x.p ∧ u.ok := by
  obtain ⟨v, path, tags, eC, hp, ho, htl, hpl⟩ := e19 t h
  obtain ⟨y, ey, hyp, hyo⟩ := e35 x hx
  have hL : LIM = 274877906944 := rfl
  have ht := h.pl
  have hlen : t.p.path.length = t.path.length := by simp [Tv.p]
  have hloop : t.loops = t.p.loops := rfl
  unfold toP toE
  by_cases hl : t.path.length ≥ 256
  · rw [if_pos (by omega), if_pos (by omega)]
    refine ⟨mkT v path tags t.loops, W_eq (g10 rfl ?_), hp, ho⟩
    have g1 : decide ((256 : Int) ≤ (path.length : Int)) = true := decide_eq_true (by omega)
    obtain ⟨⟨tvk, tvn, tvs, tvkk, tvz, tvl⟩, tpk, tpz, tpath, ttk, ttz, ttags, tloops⟩ := t
    obtain ⟨vk, vn, vs, vkk, vz, vl⟩ := v
    obtain ⟨xk, xn, xs, xkk, xz, xl⟩ := x
    simp only [Tv.cs, Tv.ov, mkT, Vl.c, Vl.cs_map, List.cons_append, List.nil_append] at eC ⊢
    (simp only [go_sem, Nat.add_assoc, reduceIte, reduceCtorEq, Nat.reduceEqDiff, Nat.reduceAdd, Nat.reduceMul, Nat.reduceSub, Nat.reduceLeDiff, Nat.reduceLT, Nat.reduceBEq, Nat.reduceBNe, Int.reduceLE, Int.reduceLT, Int.reduceToNat, Int.reduceEq, Int.reduceNe, Int.reduceNeg, Nat.reduceEqDiff, Int.reduceAdd, Int.reduceSub, Int.reduceMul, Int.cast_ofNat_Int, Int.natCast_zero, a10, s19, eC, g1]; repeat' (refine kont_next ?_ <;> (try simp only [go_sem, Nat.add_assoc, reduceIte, reduceCtorEq, Nat.reduceEqDiff, Nat.reduceAdd, Nat.reduceMul, Nat.reduceSub, Nat.reduceLeDiff, Nat.reduceLT, Nat.reduceBEq, Nat.reduceBNe, Int.reduceLE, Int.reduceLT, Int.reduceToNat, Int.reduceEq, Int.reduceNe, Int.reduceNeg, Nat.reduceEqDiff, Int.reduceAdd, Int.reduceSub, Int.reduceMul, Int.cast_ofNat_Int, Int.natCast_zero, a10, s19, eC, g1])))
  · rw [if_neg (by omega), if_neg (by omega)]
    have g1 : decide ((256 : Int) ≤ (path.length : Int)) = false := decide_eq_false (by omega)
    have glim : path.length + 1 ≤ LIM := by omega
    refine ⟨mkT y (path ++ [y]) tags t.loops, W_eq (g10 rfl ?_), ?_, ?_⟩
    · obtain ⟨⟨tvk, tvn, tvs, tvkk, tvz, tvl⟩, tpk, tpz, tpath, ttk, ttz, ttags, tloops⟩ := t
      obtain ⟨vk, vn, vs, vkk, vz, vl⟩ := v
      obtain ⟨xk, xn, xs, xkk, xz, xl⟩ := x
      obtain ⟨yk, yn, ys, ykk, yz, yl⟩ := y
      have hne : (path ++ [Vl.mk yk yn ys ykk yz yl]).isEmpty = false := by simp
      simp only [Tv.cs, Tv.ov, mkT, Vl.c, Vl.cs_map, List.cons_append, List.nil_append, hne, List.map_append, List.map_cons, List.map_nil] at eC ey ⊢
      (simp only [go_sem, Nat.add_assoc, reduceIte, reduceCtorEq, Nat.reduceEqDiff, Nat.reduceAdd, Nat.reduceMul, Nat.reduceSub, Nat.reduceLeDiff, Nat.reduceLT, Nat.reduceBEq, Nat.reduceBNe, Int.reduceLE, Int.reduceLT, Int.reduceToNat, Int.reduceEq, Int.reduceNe, Int.reduceNeg, Nat.reduceEqDiff, Int.reduceAdd, Int.reduceSub, Int.reduceMul, Int.cast_ofNat_Int, Int.natCast_zero, a10, s19, eC, g1, s35, ey, glim]; repeat' (refine kont_next ?_ <;> (try simp only [go_sem, Nat.add_assoc, reduceIte, reduceCtorEq, Nat.reduceEqDiff, Nat.reduceAdd, Nat.reduceMul, Nat.reduceSub, Nat.reduceLeDiff, Nat.reduceLT, Nat.reduceBEq, Nat.reduceBNe, Int.reduceLE, Int.reduceLT, Int.reduceToNat, Int.reduceEq, Int.reduceNe, Int.reduceNeg, Nat.reduceEqDiff, Int.reduceAdd, Int.reduceSub, Int.reduceMul, Int.cast_ofNat_Int, Int.natCast_zero, a10, s19, eC, g1, s35, ey, glim])))
    · have h1 := congrArg PT.path hp
      have h2 := congrArg PT.tags hp
      have h3 := congrArg PT.loops hp
      simp only [Tv.p, mkT] at h1 h2 h3 ⊢
      simp only [List.map_append, h1, h2, h3, List.map_cons, List.map_nil, hyp]
    · exact mkT_ok hyo (by simp; omega) (by rw [htl]; exact h.tl) (fun z hz => by
        rcases List.mem_append.1 hz with h1 | h1
        · exact ho.po z h1
        · simp only [List.mem_singleton] at h1; rw [h1]; exact hyo) ho.to
def atP (t : PT) (v : PV) : PT := { t with v := v }
theorem e11 (t : Tv) (h : t.ok) (x : Vl) (hx : x.ok) : ∃ u : Tv, acall S 11 [.agg t.cs, .agg x.c] = some (.agg u.cs, []) ∧ u.p = atP t.p x.p ∧ u.ok := by
  obtain ⟨v, path, tags, eC, hp, ho, htl, hpl⟩ := e19 t h
  obtain ⟨y, ey, hyp, hyo⟩ := e35 x hx
  refine ⟨mkT y path tags t.loops, W_eq (g11 rfl ?_), ?_, mkT_ok hyo ho.pl ho.tl ho.po ho.to⟩
  · obtain ⟨⟨tvk, tvn, tvs, tvkk, tvz, tvl⟩, tpk, tpz, tpath, ttk, ttz, ttags, tloops⟩ := t
    obtain ⟨vk, vn, vs, vkk, vz, vl⟩ := v
    obtain ⟨xk, xn, xs, xkk, xz, xl⟩ := x
    obtain ⟨yk, yn, ys, ykk, yz, yl⟩ := y
    simp only [Tv.cs, Tv.ov, mkT, Vl.c, Vl.cs_map, List.cons_append, List.nil_append] at eC ey ⊢
    (simp only [go_sem, Nat.add_assoc, reduceIte, reduceCtorEq, Nat.reduceEqDiff, Nat.reduceAdd, Nat.reduceMul, Nat.reduceSub, Nat.reduceLeDiff, Nat.reduceLT, Nat.reduceBEq, Nat.reduceBNe, Int.reduceLE, Int.reduceLT, Int.reduceToNat, Int.reduceEq, Int.reduceNe, Int.reduceNeg, Nat.reduceEqDiff, Int.reduceAdd, Int.reduceSub, Int.reduceMul, Int.cast_ofNat_Int, Int.natCast_zero, a11, s19, eC, s35, ey]; repeat' (refine kont_next ?_ <;> (try simp only [go_sem, Nat.add_assoc, reduceIte, reduceCtorEq, Nat.reduceEqDiff, Nat.reduceAdd, Nat.reduceMul, Nat.reduceSub, Nat.reduceLeDiff, Nat.reduceLT, Nat.reduceBEq, Nat.reduceBNe, Int.reduceLE, Int.reduceLT, Int.reduceToNat, Int.reduceEq, Int.reduceNe, Int.reduceNeg, Nat.reduceEqDiff, Int.reduceAdd, Int.reduceSub, Int.reduceMul, Int.cast_ofNat_Int, Int.natCast_zero, a11, s19, eC, s35, ey])))
  · have h1 := congrArg PT.path hp
    have h2 := congrArg PT.tags hp
    simp only [Tv.p, mkT, atP] at h1 h2 ⊢
    simp only [h1, h2, hyp]
def roundP (t : PT) : PT := if t.loops < 9223372036854775807 then { t with loops := IntKind.i64.wrap (t.loops + 1) } else t
theorem e13 (t : Tv) (h : t.ok) : ∃ u : Tv, acall S 13 [.agg t.cs] = some (.agg u.cs, []) ∧ u.p = roundP t.p ∧ u.ok := by
  obtain ⟨v, path, tags, eC, hp, ho, htl, hpl⟩ := e19 t h
  unfold roundP
  by_cases hl : t.loops < 9223372036854775807
  · rw [if_pos (show t.p.loops < 9223372036854775807 from hl)]
    have g1 : decide (t.loops < 9223372036854775807) = true := decide_eq_true hl
    refine ⟨mkT v path tags (IntKind.i64.wrap (t.loops + 1)), W_eq (g13 rfl ?_), ?_, mkT_ok ho.v ho.pl ho.tl ho.po ho.to⟩
    · obtain ⟨⟨tvk, tvn, tvs, tvkk, tvz, tvl⟩, tpk, tpz, tpath, ttk, ttz, ttags, tloops⟩ := t
      obtain ⟨vk, vn, vs, vkk, vz, vl⟩ := v
      simp only [Tv.cs, Tv.ov, mkT, Vl.c, Vl.cs_map, List.cons_append, List.nil_append] at eC g1 ⊢
      (simp only [go_sem, Nat.add_assoc, reduceIte, reduceCtorEq, Nat.reduceEqDiff, Nat.reduceAdd, Nat.reduceMul, Nat.reduceSub, Nat.reduceLeDiff, Nat.reduceLT, Nat.reduceBEq, Nat.reduceBNe, Int.reduceLE, Int.reduceLT, Int.reduceToNat, Int.reduceEq, Int.reduceNe, Int.reduceNeg, Nat.reduceEqDiff, Int.reduceAdd, Int.reduceSub, Int.reduceMul, Int.cast_ofNat_Int, Int.natCast_zero, a13, s19, eC, g1]; repeat' (refine kont_next ?_ <;> (try simp only [go_sem, Nat.add_assoc, reduceIte, reduceCtorEq, Nat.reduceEqDiff, Nat.reduceAdd, Nat.reduceMul, Nat.reduceSub, Nat.reduceLeDiff, Nat.reduceLT, Nat.reduceBEq, Nat.reduceBNe, Int.reduceLE, Int.reduceLT, Int.reduceToNat, Int.reduceEq, Int.reduceNe, Int.reduceNeg, Nat.reduceEqDiff, Int.reduceAdd, Int.reduceSub, Int.reduceMul, Int.cast_ofNat_Int, Int.natCast_zero, a13, s19, eC, g1])))
    · have h1 := congrArg PT.path hp
      have h2 := congrArg PT.tags hp
      have h3 := congrArg PT.v hp
      simp only [Tv.p, mkT] at h1 h2 h3 ⊢
      simp only [h1, h2, h3]
  · rw [if_neg (show ¬ t.p.loops < 9223372036854775807 from hl)]
    have g1 : decide (t.loops < 9223372036854775807) = false := decide_eq_false hl
    refine ⟨mkT v path tags t.loops, W_eq (g13 rfl ?_), hp, ho⟩
    obtain ⟨⟨tvk, tvn, tvs, tvkk, tvz, tvl⟩, tpk, tpz, tpath, ttk, ttz, ttags, tloops⟩ := t
    obtain ⟨vk, vn, vs, vkk, vz, vl⟩ := v
    simp only [Tv.cs, Tv.ov, mkT, Vl.c, Vl.cs_map, List.cons_append, List.nil_append] at eC g1 ⊢
    (simp only [go_sem, Nat.add_assoc, reduceIte, reduceCtorEq, Nat.reduceEqDiff, Nat.reduceAdd, Nat.reduceMul, Nat.reduceSub, Nat.reduceLeDiff, Nat.reduceLT, Nat.reduceBEq, Nat.reduceBNe, Int.reduceLE, Int.reduceLT, Int.reduceToNat, Int.reduceEq, Int.reduceNe, Int.reduceNeg, Nat.reduceEqDiff, Int.reduceAdd, Int.reduceSub, Int.reduceMul, Int.cast_ofNat_Int, Int.natCast_zero, a13, s19, eC, g1]; repeat' (refine kont_next ?_ <;> (try simp only [go_sem, Nat.add_assoc, reduceIte, reduceCtorEq, Nat.reduceEqDiff, Nat.reduceAdd, Nat.reduceMul, Nat.reduceSub, Nat.reduceLeDiff, Nat.reduceLT, Nat.reduceBEq, Nat.reduceBNe, Int.reduceLE, Int.reduceLT, Int.reduceToNat, Int.reduceEq, Int.reduceNe, Int.reduceNeg, Nat.reduceEqDiff, Int.reduceAdd, Int.reduceSub, Int.reduceMul, Int.cast_ofNat_Int, Int.natCast_zero, a13, s19, eC, g1])))

/-! ### tags -/
def tagIs (nm : List UInt8) (x : List UInt8 × Vl) : Bool := decide (x.1 = nm)
def tagI (nm : List UInt8) (t : Tv) : Int := idxI (tagIs nm) t.tags
theorem e50 {k : SK} {z : Nat} {l : List (List UInt8 × Vl)} (nm : List UInt8) (h : OkS k z 5 l) (hl : l.length < 4611686018427387904) :
    acall S 50 [.sl k z (l.map tagC), .fn 51 [.ip [.str nm]]] = some (.i .i64 (idxI (tagIs nm) l), []) := by
  refine W_eq (g50 rfl ?_)
  (simp only [go_sem, Nat.add_assoc, reduceIte, reduceCtorEq, Nat.reduceEqDiff, Nat.reduceAdd, Nat.reduceMul, Nat.reduceSub, Nat.reduceLeDiff, Nat.reduceLT, Nat.reduceBEq, Nat.reduceBNe, Int.reduceLE, Int.reduceLT, Int.reduceToNat, Int.reduceEq, Int.reduceNe, Int.reduceNeg, Nat.reduceEqDiff, Int.reduceAdd, Int.reduceSub, Int.reduceMul, Int.cast_ofNat_Int, Int.natCast_zero, a50]; repeat' (refine kont_next ?_ <;> (try simp only [go_sem, Nat.add_assoc, reduceIte, reduceCtorEq, Nat.reduceEqDiff, Nat.reduceAdd, Nat.reduceMul, Nat.reduceSub, Nat.reduceLeDiff, Nat.reduceLT, Nat.reduceBEq, Nat.reduceBNe, Int.reduceLE, Int.reduceLT, Int.reduceToNat, Int.reduceEq, Int.reduceNe, Int.reduceNeg, Nat.reduceEqDiff, Int.reduceAdd, Int.reduceSub, Int.reduceMul, Int.cast_ofNat_Int, Int.natCast_zero, a50])))
  refine kloop_inv (ι := Nat) (fun k' => [.sl k z (l.map tagC), .fn 51 [.ip [.str nm]], .i .i64 l.length, .i .i64 k']) (fun k => k ≤ l.length ∧ (l.take k).any (tagIs nm) = false) (fun k => l.length - k) 0 (by simp) (by simp) ?_
  rintro i ⟨hi, hn⟩
  by_cases hlt : i < l.length
  · obtain ⟨⟨xn, x⟩, hc⟩ := get_lt hlt
    obtain ⟨ck, cn, cs, ckk, cz, cl⟩ := x
    have hw := wrap_succ (k := i) (by omega)
    have hb : decide ((i : Int) < (l.length : Int)) = true := decide_eq_true (by omega)
    have e1 : acall S 51 [.agg (tagC (xn, .mk ck cn cs ckk cz cl)), .ip [.str nm]] = some (.b (tagIs nm (xn, .mk ck cn cs ckk cz cl)), []) := by
      refine W_eq (g51 rfl ?_)
      (simp only [go_sem, Nat.add_assoc, reduceIte, reduceCtorEq, Nat.reduceEqDiff, Nat.reduceAdd, Nat.reduceMul, Nat.reduceSub, Nat.reduceLeDiff, Nat.reduceLT, Nat.reduceBEq, Nat.reduceBNe, Int.reduceLE, Int.reduceLT, Int.reduceToNat, Int.reduceEq, Int.reduceNe, Int.reduceNeg, Nat.reduceEqDiff, Int.reduceAdd, Int.reduceSub, Int.reduceMul, Int.cast_ofNat_Int, Int.natCast_zero, a51, tagC, Vl.c, tagIs]; repeat' (refine kont_next ?_ <;> (try simp only [go_sem, Nat.add_assoc, reduceIte, reduceCtorEq, Nat.reduceEqDiff, Nat.reduceAdd, Nat.reduceMul, Nat.reduceSub, Nat.reduceLeDiff, Nat.reduceLT, Nat.reduceBEq, Nat.reduceBNe, Int.reduceLE, Int.reduceLT, Int.reduceToNat, Int.reduceEq, Int.reduceNe, Int.reduceNeg, Nat.reduceEqDiff, Int.reduceAdd, Int.reduceSub, Int.reduceMul, Int.cast_ofNat_Int, Int.natCast_zero, a51, tagC, Vl.c, tagIs])))
    simp only [tagC, Vl.c, Vl.cs_map] at e1
    cases hp : tagIs nm (xn, .mk ck cn cs ckk cz cl) with
    | true =>
      rw [hp] at e1
      (simp only [go_sem, Nat.add_assoc, reduceIte, reduceCtorEq, Nat.reduceEqDiff, Nat.reduceAdd, Nat.reduceMul, Nat.reduceSub, Nat.reduceLeDiff, Nat.reduceLT, Nat.reduceBEq, Nat.reduceBNe, Int.reduceLE, Int.reduceLT, Int.reduceToNat, Int.reduceEq, Int.reduceNe, Int.reduceNeg, Nat.reduceEqDiff, Int.reduceAdd, Int.reduceSub, Int.reduceMul, Int.cast_ofNat_Int, Int.natCast_zero, hb, h.1, hc, tagC, Vl.c, Vl.cs_map, s51, e1, hw]; repeat' (refine kont_next ?_ <;> (try simp only [go_sem, Nat.add_assoc, reduceIte, reduceCtorEq, Nat.reduceEqDiff, Nat.reduceAdd, Nat.reduceMul, Nat.reduceSub, Nat.reduceLeDiff, Nat.reduceLT, Nat.reduceBEq, Nat.reduceBNe, Int.reduceLE, Int.reduceLT, Int.reduceToNat, Int.reduceEq, Int.reduceNe, Int.reduceNeg, Nat.reduceEqDiff, Int.reduceAdd, Int.reduceSub, Int.reduceMul, Int.cast_ofNat_Int, Int.natCast_zero, hb, h.1, hc, tagC, Vl.c, Vl.cs_map, s51, e1, hw])))
      rw [idx_hit hc hp hn]
    | false =>
      rw [hp] at e1
      (simp only [go_sem, Nat.add_assoc, reduceIte, reduceCtorEq, Nat.reduceEqDiff, Nat.reduceAdd, Nat.reduceMul, Nat.reduceSub, Nat.reduceLeDiff, Nat.reduceLT, Nat.reduceBEq, Nat.reduceBNe, Int.reduceLE, Int.reduceLT, Int.reduceToNat, Int.reduceEq, Int.reduceNe, Int.reduceNeg, Nat.reduceEqDiff, Int.reduceAdd, Int.reduceSub, Int.reduceMul, Int.cast_ofNat_Int, Int.natCast_zero, hb, h.1, hc, tagC, Vl.c, Vl.cs_map, s51, e1, hw]; repeat' (refine kont_next ?_ <;> (try simp only [go_sem, Nat.add_assoc, reduceIte, reduceCtorEq, Nat.reduceEqDiff, Nat.reduceAdd, Nat.reduceMul, Nat.reduceSub, Nat.reduceLeDiff, Nat.reduceLT, Nat.reduceBEq, Nat.reduceBNe, Int.reduceLE, Int.reduceLT, Int.reduceToNat, Int.reduceEq, Int.reduceNe, Int.reduceNeg, Nat.reduceEqDiff, Int.reduceAdd, Int.reduceSub, Int.reduceMul, Int.cast_ofNat_Int, Int.natCast_zero, hb, h.1, hc, tagC, Vl.c, Vl.cs_map, s51, e1, hw])))
      exact ⟨i + 1, rfl, ⟨by omega, by rw [any_take hc, hn, hp]; rfl⟩, by omega⟩
  · have hb : decide ((i : Int) < (l.length : Int)) = false := decide_eq_false (by omega)
    have hii : i = l.length := by omega
    rw [hii, List.take_length] at hn
    (simp only [go_sem, Nat.add_assoc, reduceIte, reduceCtorEq, Nat.reduceEqDiff, Nat.reduceAdd, Nat.reduceMul, Nat.reduceSub, Nat.reduceLeDiff, Nat.reduceLT, Nat.reduceBEq, Nat.reduceBNe, Int.reduceLE, Int.reduceLT, Int.reduceToNat, Int.reduceEq, Int.reduceNe, Int.reduceNeg, Nat.reduceEqDiff, Int.reduceAdd, Int.reduceSub, Int.reduceMul, Int.cast_ofNat_Int, Int.natCast_zero, hb, idx_none hn]; repeat' (refine kont_next ?_ <;> (try simp only [go_sem, Nat.add_assoc, reduceIte, reduceCtorEq, Nat.reduceEqDiff, Nat.reduceAdd, Nat.reduceMul, Nat.reduceSub, Nat.reduceLeDiff, Nat.reduceLT, Nat.reduceBEq, Nat.reduceBNe, Int.reduceLE, Int.reduceLT, Int.reduceToNat, Int.reduceEq, Int.reduceNe, Int.reduceNeg, Nat.reduceEqDiff, Int.reduceAdd, Int.reduceSub, Int.reduceMul, Int.cast_ofNat_Int, Int.natCast_zero, hb, idx_none hn])))
theorem e33 (t : Tv) (h : t.ok) (nm : List UInt8) : acall S 33 [.agg t.cs, .str nm] = some (.i .i64 (tagI nm t), []) := by
  have e1 := e50 nm h.ts (by have := h.tl; omega)
  refine W_eq (g33 rfl ?_)
  obtain ⟨⟨tvk, tvn, tvs, tvkk, tvz, tvl⟩, tpk, tpz, tpath, ttk, ttz, ttags, tloops⟩ := t
  simp only [Tv.cs, Vl.c, Vl.cs_map, List.cons_append, List.nil_append, tagI] at e1 ⊢
  (simp only [go_sem, Nat.add_assoc, reduceIte, reduceCtorEq, Nat.reduceEqDiff, Nat.reduceAdd, Nat.reduceMul, Nat.reduceSub, Nat.reduceLeDiff, Nat.reduceLT, Nat.reduceBEq, Nat.reduceBNe, Int.reduceLE, Int.reduceLT, Int.reduceToNat, Int.reduceEq, Int.reduceNe, Int.reduceNeg, Nat.reduceEqDiff, Int.reduceAdd, Int.reduceSub, Int.reduceMul, Int.cast_ofNat_Int, Int.natCast_zero, a33, s50, e1]; repeat' (refine kont_next ?_ <;> (try simp only [go_sem, Nat.add_assoc, reduceIte, reduceCtorEq, Nat.reduceEqDiff, Nat.reduceAdd, Nat.reduceMul, Nat.reduceSub, Nat.reduceLeDiff, Nat.reduceLT, Nat.reduceBEq, Nat.reduceBNe, Int.reduceLE, Int.reduceLT, Int.reduceToNat, Int.reduceEq, Int.reduceNe, Int.reduceNeg, Nat.reduceEqDiff, Int.reduceAdd, Int.reduceSub, Int.reduceMul, Int.cast_ofNat_Int, Int.natCast_zero, a33, s50, e1])))
def nameB (s : List UInt8) : Bool := !(decide (s = []) || decide ((24 : Int) < (s.length : Int)) || (decide ((48 : Int) ≤ ((s.headD 0).toNat : Int)) && decide (((s.headD 0).toNat : Int) ≤ 57))) && decide (Go.Lib.trimS s nameSet = [])
theorem e34 (s : List UInt8) (hs : s.length ≤ LIM) : acall S 34 [.str s] = some (.b (nameB s), []) := by
  have e1 : acall S 52 [.str s, .str nameSet] = some (.str (Go.Lib.trimS s nameSet), []) := by
    refine acall_prim (p := primTrim) rfl ?_
    simp only [primTrim, hs, and_self, ask_true]
  simp only [nameSet] at e1
  refine W_eq (g34 rfl ?_)
  unfold nameB
  simp only [nameSet]
  cases s with
  | nil => (simp only [go_sem, Nat.add_assoc, reduceIte, reduceCtorEq, Nat.reduceEqDiff, Nat.reduceAdd, Nat.reduceMul, Nat.reduceSub, Nat.reduceLeDiff, Nat.reduceLT, Nat.reduceBEq, Nat.reduceBNe, Int.reduceLE, Int.reduceLT, Int.reduceToNat, Int.reduceEq, Int.reduceNe, Int.reduceNeg, Nat.reduceEqDiff, Int.reduceAdd, Int.reduceSub, Int.reduceMul, Int.cast_ofNat_Int, Int.natCast_zero, a34]; repeat' (refine kont_next ?_ <;> (try simp only [go_sem, Nat.add_assoc, reduceIte, reduceCtorEq, Nat.reduceEqDiff, Nat.reduceAdd, Nat.reduceMul, Nat.reduceSub, Nat.reduceLeDiff, Nat.reduceLT, Nat.reduceBEq, Nat.reduceBNe, Int.reduceLE, Int.reduceLT, Int.reduceToNat, Int.reduceEq, Int.reduceNe, Int.reduceNeg, Nat.reduceEqDiff, Int.reduceAdd, Int.reduceSub, Int.reduceMul, Int.cast_ofNat_Int, Int.natCast_zero, a34])))
  | cons c r =>
    cases h1 : decide ((24 : Int) < (((c :: r).length : Nat) : Int)) with
    | true =>
      simp only [List.length_cons] at h1
      (simp only [go_sem, Nat.add_assoc, reduceIte, reduceCtorEq, Nat.reduceEqDiff, Nat.reduceAdd, Nat.reduceMul, Nat.reduceSub, Nat.reduceLeDiff, Nat.reduceLT, Nat.reduceBEq, Nat.reduceBNe, Int.reduceLE, Int.reduceLT, Int.reduceToNat, Int.reduceEq, Int.reduceNe, Int.reduceNeg, Nat.reduceEqDiff, Int.reduceAdd, Int.reduceSub, Int.reduceMul, Int.cast_ofNat_Int, Int.natCast_zero, a34, h1]; repeat' (refine kont_next ?_ <;> (try simp only [go_sem, Nat.add_assoc, reduceIte, reduceCtorEq, Nat.reduceEqDiff, Nat.reduceAdd, Nat.reduceMul, Nat.reduceSub, Nat.reduceLeDiff, Nat.reduceLT, Nat.reduceBEq, Nat.reduceBNe, Int.reduceLE, Int.reduceLT, Int.reduceToNat, Int.reduceEq, Int.reduceNe, Int.reduceNeg, Nat.reduceEqDiff, Int.reduceAdd, Int.reduceSub, Int.reduceMul, Int.cast_ofNat_Int, Int.natCast_zero, a34, h1])))
    | false =>
      simp only [List.length_cons] at h1
      cases h2 : decide ((48 : Int) ≤ (c.toNat : Int)) with
      | false =>
        have h2' := of_decide_eq_false h2
        (simp only [go_sem, Nat.add_assoc, reduceIte, reduceCtorEq, Nat.reduceEqDiff, Nat.reduceAdd, Nat.reduceMul, Nat.reduceSub, Nat.reduceLeDiff, Nat.reduceLT, Nat.reduceBEq, Nat.reduceBNe, Int.reduceLE, Int.reduceLT, Int.reduceToNat, Int.reduceEq, Int.reduceNe, Int.reduceNeg, Nat.reduceEqDiff, Int.reduceAdd, Int.reduceSub, Int.reduceMul, Int.cast_ofNat_Int, Int.natCast_zero, a34, h1, h2, s52, e1]; repeat' (refine kont_next ?_ <;> (try simp only [go_sem, Nat.add_assoc, reduceIte, reduceCtorEq, Nat.reduceEqDiff, Nat.reduceAdd, Nat.reduceMul, Nat.reduceSub, Nat.reduceLeDiff, Nat.reduceLT, Nat.reduceBEq, Nat.reduceBNe, Int.reduceLE, Int.reduceLT, Int.reduceToNat, Int.reduceEq, Int.reduceNe, Int.reduceNeg, Nat.reduceEqDiff, Int.reduceAdd, Int.reduceSub, Int.reduceMul, Int.cast_ofNat_Int, Int.natCast_zero, a34, h1, h2, s52, e1])))
        simp [h2']
        exact decide_eq_decide.2 Iff.rfl
      | true =>
        cases h3 : decide ((c.toNat : Int) ≤ 57) with
        | true =>
          have h2' := of_decide_eq_true h2
          have h3' := of_decide_eq_true h3
          (simp only [go_sem, Nat.add_assoc, reduceIte, reduceCtorEq, Nat.reduceEqDiff, Nat.reduceAdd, Nat.reduceMul, Nat.reduceSub, Nat.reduceLeDiff, Nat.reduceLT, Nat.reduceBEq, Nat.reduceBNe, Int.reduceLE, Int.reduceLT, Int.reduceToNat, Int.reduceEq, Int.reduceNe, Int.reduceNeg, Nat.reduceEqDiff, Int.reduceAdd, Int.reduceSub, Int.reduceMul, Int.cast_ofNat_Int, Int.natCast_zero, a34, h1, h2, h3, s52, e1]; repeat' (refine kont_next ?_ <;> (try simp only [go_sem, Nat.add_assoc, reduceIte, reduceCtorEq, Nat.reduceEqDiff, Nat.reduceAdd, Nat.reduceMul, Nat.reduceSub, Nat.reduceLeDiff, Nat.reduceLT, Nat.reduceBEq, Nat.reduceBNe, Int.reduceLE, Int.reduceLT, Int.reduceToNat, Int.reduceEq, Int.reduceNe, Int.reduceNeg, Nat.reduceEqDiff, Int.reduceAdd, Int.reduceSub, Int.reduceMul, Int.cast_ofNat_Int, Int.natCast_zero, a34, h1, h2, h3, s52, e1])))
          simp [h2', h3']
        | false =>
          have h3' := of_decide_eq_false h3
          (simp only [go_sem, Nat.add_assoc, reduceIte, reduceCtorEq, Nat.reduceEqDiff, Nat.reduceAdd, Nat.reduceMul, Nat.reduceSub, Nat.reduceLeDiff, Nat.reduceLT, Nat.reduceBEq, Nat.reduceBNe, Int.reduceLE, Int.reduceLT, Int.reduceToNat, Int.reduceEq, Int.reduceNe, Int.reduceNeg, Nat.reduceEqDiff, Int.reduceAdd, Int.reduceSub, Int.reduceMul, Int.cast_ofNat_Int, Int.natCast_zero, a34, h1, h2, h3, s52, e1]; repeat' (refine kont_next ?_ <;> (try simp only [go_sem, Nat.add_assoc, reduceIte, reduceCtorEq, Nat.reduceEqDiff, Nat.reduceAdd, Nat.reduceMul, Nat.reduceSub, Nat.reduceLeDiff, Nat.reduceLT, Nat.reduceBEq, Nat.reduceBNe, Int.reduceLE, Int.reduceLT, Int.reduceToNat, Int.reduceEq, Int.reduceNe, Int.reduceNeg, Nat.reduceEqDiff, Int.reduceAdd, Int.reduceSub, Int.reduceMul, Int.cast_ofNat_Int, Int.natCast_zero, a34, h1, h2, h3, s52, e1])))
          simp [h3']
          exact decide_eq_decide.2 Iff.rfl
end Go.Proofs.YtmdbfbcolofelaaDoor
