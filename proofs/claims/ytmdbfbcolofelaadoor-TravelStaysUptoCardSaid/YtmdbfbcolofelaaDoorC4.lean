/-
  What is made of a traverser that may be may be; the law TravelStays answers true.
-/
import Derived.Test.YtmdbfbcolofelaaDoorC3
import Derived.Test.YtmdbfbcolofelaaDoorR5
set_option linter.unusedSimpArgs false
set_option linter.unusedVariables false
set_option maxHeartbeats 8000000
set_option maxRecDepth 100000
namespace Go.Proofs.YtmdbfbcolofelaaDoor
open Go.Abs

theorem mayT_iff (t : PT) : mayT t = true ↔ mayV t.v 0 = true ∧ (t.path.length : Int) ≤ 256 ∧ (t.tags.length : Int) ≤ 32 ∧ 0 ≤ t.loops ∧ (∀ x ∈ t.path, mayV x 0 = true) ∧ tagsOk [] t.tags = true := by
  simp only [mayT, Bool.and_eq_true, decide_eq_true_eq, List.all_eq_true, and_assoc]
theorem mayT_to {t : PT} {v : PV} (h : mayT t = true) (hv : mayV v 0 = true) : mayT (toP t v) = true := by
  unfold toP
  split
  · exact h
  · obtain ⟨h1, h2, h3, h4, h5, h6⟩ := (mayT_iff t).1 h
    refine (mayT_iff _).2 ⟨hv, by simp only [List.length_append, List.length_cons, List.length_nil]; omega, h3, h4, fun x hx => ?_, h6⟩
    rcases List.mem_append.1 hx with hx | hx
    · exact h5 x hx
    · simp only [List.mem_singleton] at hx; rw [hx]; exact hv
theorem mayT_at {t : PT} {v : PV} (h : mayT t = true) (hv : mayV v 0 = true) : mayT (atP t v) = true := by
  obtain ⟨h1, h2, h3, h4, h5, h6⟩ := (mayT_iff t).1 h
  exact (mayT_iff _).2 ⟨hv, h2, h3, h4, h5, h6⟩
theorem mayT_round {t : PT} (h : mayT t = true) : mayT (roundP t) = true := by
  unfold roundP
  split
  · rename_i hl
    obtain ⟨h1, h2, h3, h4, h5, h6⟩ := (mayT_iff t).1 h
    refine (mayT_iff _).2 ⟨h1, h2, h3, ?_, h5, h6⟩
    show 0 ≤ IntKind.i64.wrap (t.loops + 1)
    rw [wrap_i64 (by omega) (by omega)]; omega
  · exact h
theorem tagsOk_set {nm : List UInt8} {w : PV} (hw : mayV w 0 = true) : ∀ {l : List (List UInt8 × PV)} {seen : List (List UInt8)}, tagsOk seen l = true → tagsOk seen (setTag nm w l) = true
  | [], seen, h => h
  | x :: r, seen, h => by
    simp only [tagsOk, Bool.and_eq_true] at h
    obtain ⟨⟨⟨h1, h2⟩, h3⟩, h4⟩ := h
    simp only [setTag]
    split
    · rename_i hx
      subst hx
      simp only [tagsOk, Bool.and_eq_true]
      exact ⟨⟨⟨h1, h2⟩, hw⟩, h4⟩
    · simp only [tagsOk, Bool.and_eq_true]
      exact ⟨⟨⟨h1, h2⟩, h3⟩, tagsOk_set hw h4⟩
theorem setTag_length {nm : List UInt8} {w : PV} : ∀ l : List (List UInt8 × PV), (setTag nm w l).length = l.length
  | [] => rfl
  | x :: r => by
    simp only [setTag]
    split
    · rfl
    · simp [setTag_length r]
theorem tagsOk_app {nm : List UInt8} {w : PV} (hn : nameR nm = true) (hw : mayV w 0 = true) : ∀ {l : List (List UInt8 × PV)} {seen : List (List UInt8)}, tagsOk seen l = true → nm ∉ seen → lk nm l = none → tagsOk seen (l ++ [(nm, w)]) = true
  | [], seen, h, hs, _ => by
    simp only [List.nil_append, tagsOk, Bool.and_eq_true, Bool.not_eq_true']
    exact ⟨⟨⟨hn, by simpa using hs⟩, hw⟩, trivial⟩
  | x :: r, seen, h, hs, hl => by
    simp only [tagsOk, Bool.and_eq_true] at h
    obtain ⟨⟨⟨h1, h2⟩, h3⟩, h4⟩ := h
    simp only [lk] at hl
    split at hl
    · cases hl
    · rename_i hx
      simp only [List.cons_append, tagsOk, Bool.and_eq_true]
      refine ⟨⟨⟨h1, h2⟩, h3⟩, tagsOk_app hn hw h4 ?_ hl⟩
      simp only [List.mem_append, List.mem_singleton, not_or]
      exact ⟨hs, fun e => hx e.symm⟩
theorem mayT_as {t : PT} {nm : List UInt8} (h : mayT t = true) : mayT (asP nm t) = true := by
  obtain ⟨h1, h2, h3, h4, h5, h6⟩ := (mayT_iff t).1 h
  unfold asP
  split
  · exact h
  · rename_i hn
    split
    · exact (mayT_iff _).2 ⟨h1, h2, by simp only [setTag_length]; exact h3, h4, h5, tagsOk_set h1 h6⟩
    · rename_i hk
      split
      · exact h
      · rename_i hl
        refine (mayT_iff _).2 ⟨h1, h2, by simp only [List.length_append, List.length_cons, List.length_nil]; omega, h4, h5, tagsOk_app (by rw [← nameB_eq]; simpa using hn) h1 h6 (by simp) ?_⟩
        cases hq : lk nm t.tags with
        | none => rfl
        | some x => rw [hq] at hk; simp at hk

theorem e5 (t : Tv) (ht : t.ok) (v : Vl) (hv : v.ok) (nm : List UInt8) (hnm : nm.length ≤ 137438953472) : acall S 5 [.agg t.cs, .agg v.c, .str nm] = some (.b true, []) := by
  have eB := e7
  have eC := e21 t ht
  have eV := e22 v hv
  obtain ⟨u0, e0, p0, o0⟩ := e8 t ht
  obtain ⟨u1, e1, p1, o1⟩ := e10 u0 o0 v hv
  obtain ⟨u2, e2, o2, _, _, _, p2⟩ := e9 u0 o0 nm hnm
  obtain ⟨u3, e3, p3, o3⟩ := e11 u0 o0 v hv
  obtain ⟨u4, e4, p4, o4⟩ := e13 u0 o0
  have c1 := e23 u1 o1
  have c2 := e23 u2 o2
  have c3 := e23 u3 o3
  have c4 := e23 u4 o4
  rw [p1, p0] at c1
  rw [p2, p0] at c2
  rw [p3, p0] at c3
  rw [p4, p0] at c4
  cases hmt : mayT t.p with
  | false =>
    rw [hmt] at eC
    obtain ⟨⟨tk, tn, ts, tkk, tz, tl⟩, tpk, tpz, tpath, ttk, ttz, ttags, tloops⟩ := t
    obtain ⟨vk, vn, vs, vkk, vz, vl⟩ := v
    simp only [Tv.cs, Vl.c, Vl.cs_map, List.cons_append, List.nil_append, Bool.false_eq_true, if_false] at eC ⊢
    refine W_eq (g5 rfl ?_)
    (simp only [go_sem, Nat.add_assoc, reduceIte, reduceCtorEq, Nat.reduceEqDiff, Nat.reduceAdd, Nat.reduceMul, Nat.reduceSub, Nat.reduceLeDiff, Nat.reduceLT, Nat.reduceBEq, Nat.reduceBNe, Int.reduceLE, Int.reduceLT, Int.reduceToNat, Int.reduceEq, Int.reduceNe, Int.reduceNeg, Nat.reduceEqDiff, Int.reduceAdd, Int.reduceSub, Int.reduceMul, Int.cast_ofNat_Int, Int.natCast_zero, a5, s7, eB, s21, eC]; repeat' (refine kont_next ?_ <;> (try simp only [go_sem, Nat.add_assoc, reduceIte, reduceCtorEq, Nat.reduceEqDiff, Nat.reduceAdd, Nat.reduceMul, Nat.reduceSub, Nat.reduceLeDiff, Nat.reduceLT, Nat.reduceBEq, Nat.reduceBNe, Int.reduceLE, Int.reduceLT, Int.reduceToNat, Int.reduceEq, Int.reduceNe, Int.reduceNeg, Nat.reduceEqDiff, Int.reduceAdd, Int.reduceSub, Int.reduceMul, Int.cast_ofNat_Int, Int.natCast_zero, a5, s7, eB, s21, eC])))
  | true =>
  rw [hmt] at eC
  cases hmv : mayV v.p 0 with
  | false =>
    rw [hmv] at eV
    obtain ⟨⟨tk, tn, ts, tkk, tz, tl⟩, tpk, tpz, tpath, ttk, ttz, ttags, tloops⟩ := t
    obtain ⟨vk, vn, vs, vkk, vz, vl⟩ := v
    simp only [Tv.cs, Vl.c, Vl.cs_map, List.cons_append, List.nil_append, Bool.false_eq_true, if_false, if_true] at eC eV ⊢
    refine W_eq (g5 rfl ?_)
    (simp only [go_sem, Nat.add_assoc, reduceIte, reduceCtorEq, Nat.reduceEqDiff, Nat.reduceAdd, Nat.reduceMul, Nat.reduceSub, Nat.reduceLeDiff, Nat.reduceLT, Nat.reduceBEq, Nat.reduceBNe, Int.reduceLE, Int.reduceLT, Int.reduceToNat, Int.reduceEq, Int.reduceNe, Int.reduceNeg, Nat.reduceEqDiff, Int.reduceAdd, Int.reduceSub, Int.reduceMul, Int.cast_ofNat_Int, Int.natCast_zero, a5, s7, eB, s21, eC, s22, eV]; repeat' (refine kont_next ?_ <;> (try simp only [go_sem, Nat.add_assoc, reduceIte, reduceCtorEq, Nat.reduceEqDiff, Nat.reduceAdd, Nat.reduceMul, Nat.reduceSub, Nat.reduceLeDiff, Nat.reduceLT, Nat.reduceBEq, Nat.reduceBNe, Int.reduceLE, Int.reduceLT, Int.reduceToNat, Int.reduceEq, Int.reduceNe, Int.reduceNeg, Nat.reduceEqDiff, Int.reduceAdd, Int.reduceSub, Int.reduceMul, Int.cast_ofNat_Int, Int.natCast_zero, a5, s7, eB, s21, eC, s22, eV])))
  | true =>
  rw [hmv] at eV
  rw [mayT_to hmt hmv] at c1
  rw [mayT_as hmt] at c2
  rw [mayT_at hmt hmv] at c3
  rw [mayT_round hmt] at c4
  generalize toE u0.p = E1 at e1
  generalize asE nm u0.p = E2 at e2
  clear p0 p1 p2 p3 p4 o0 o1 o2 o3 o4 hmt hmv ht hv hnm
  obtain ⟨⟨tk, tn, ts, tkk, tz, tl⟩, tpk, tpz, tpath, ttk, ttz, ttags, tloops⟩ := t
  obtain ⟨vk, vn, vs, vkk, vz, vl⟩ := v
  obtain ⟨⟨ak, an, as_, akk, az, al⟩, apk, apz, apath, atk, atz, atags, aloops⟩ := u0
  obtain ⟨⟨bk, bn, bs, bkk, bz, bl⟩, bpk, bpz, bpath, btk, btz, btags, bloops⟩ := u1
  obtain ⟨⟨ck, cn, cs, ckk, cz, cl⟩, cpk, cpz, cpath, ctk, ctz, ctags, cloops⟩ := u2
  obtain ⟨⟨dk, dn, ds, dkk, dz, dl⟩, dpk, dpz, dpath, dtk, dtz, dtags, dloops⟩ := u3
  obtain ⟨⟨ek, en, es, ekk, ez, el⟩, epk, epz, epath, etk, etz, etags, eloops⟩ := u4
  simp only [Tv.cs, Vl.c, Vl.cs_map, List.cons_append, List.nil_append, if_true] at e0 e1 e2 e3 e4 c1 c2 c3 c4 eC eV ⊢
  refine W_eq (g5 rfl ?_)
  (simp only [go_sem, Nat.add_assoc, reduceIte, reduceCtorEq, Nat.reduceEqDiff, Nat.reduceAdd, Nat.reduceMul, Nat.reduceSub, Nat.reduceLeDiff, Nat.reduceLT, Nat.reduceBEq, Nat.reduceBNe, Int.reduceLE, Int.reduceLT, Int.reduceToNat, Int.reduceEq, Int.reduceNe, Int.reduceNeg, Nat.reduceEqDiff, Int.reduceAdd, Int.reduceSub, Int.reduceMul, Int.cast_ofNat_Int, Int.natCast_zero, a5, s7, eB, s21, eC, s22, eV, s8, e0, s10, e1, s9, e2, s11, e3, s13, e4, s23, c1, c2, c3, c4]; repeat' (refine kont_next ?_ <;> (try simp only [go_sem, Nat.add_assoc, reduceIte, reduceCtorEq, Nat.reduceEqDiff, Nat.reduceAdd, Nat.reduceMul, Nat.reduceSub, Nat.reduceLeDiff, Nat.reduceLT, Nat.reduceBEq, Nat.reduceBNe, Int.reduceLE, Int.reduceLT, Int.reduceToNat, Int.reduceEq, Int.reduceNe, Int.reduceNeg, Nat.reduceEqDiff, Int.reduceAdd, Int.reduceSub, Int.reduceMul, Int.cast_ofNat_Int, Int.natCast_zero, a5, s7, eB, s21, eC, s22, eV, s8, e0, s10, e1, s9, e2, s11, e3, s13, e4, s23, c1, c2, c3, c4])))
end Go.Proofs.YtmdbfbcolofelaaDoor
