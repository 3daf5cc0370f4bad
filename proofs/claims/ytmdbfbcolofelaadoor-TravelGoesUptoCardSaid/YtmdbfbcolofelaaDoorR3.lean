import Derived.Test.YtmdbfbcolofelaaDoorR2
set_option linter.unusedSimpArgs false
set_option linter.unusedVariables false
set_option maxHeartbeats 8000000
set_option maxRecDepth 100000
namespace Go.Proofs.YtmdbfbcolofelaaDoor
open Go.Abs

theorem idx_some {α : Type} {p : α → Bool} : ∀ {l : List α}, l.any p = true → ∃ (k : Nat) (x : α), idxI p l = (k : Int) ∧ l[k]? = some x ∧ p x = true ∧ (l.take k).any p = false
  | [], h => by simp at h
  | a :: r, h => by
    by_cases ha : p a = true
    · exact ⟨0, a, by simp [idxI, ha], rfl, ha, rfl⟩
    · have hr : r.any p = true := by simpa [ha] using h
      obtain ⟨k, x, h1, h2, h3, h4⟩ := idx_some hr
      refine ⟨k + 1, x, ?_, by simpa using h2, h3, ?_⟩
      · simp only [idxI]
        rw [if_neg ha, h1, if_neg (by omega)]; omega
      · simp [ha, h4]
/-- what is tagged with a name -/
def lk (nm : List UInt8) : List (List UInt8 × PV) → Option PV
  | [] => none
  | x :: r => if x.1 = nm then some x.2 else lk nm r
theorem lk_hit : ∀ {l : List (List UInt8 × Vl)} {nm : List UInt8} {k : Nat} {x : List UInt8 × Vl}, l[k]? = some x → tagIs nm x = true → (l.take k).any (tagIs nm) = false → lk nm (l.map tagP) = some x.2.p
  | [], nm, k, x, h, _, _ => by simp at h
  | a :: r, nm, 0, x, h, hp, _ => by
    simp at h
    subst h
    have : a.1 = nm := by simpa [tagIs] using hp
    simp [lk, tagP, this]
  | a :: r, nm, k + 1, x, h, hp, hn => by
    simp only [List.take_succ_cons, List.any_cons, Bool.or_eq_false_iff] at hn
    have h1 : ¬ a.1 = nm := by simpa [tagIs] using hn.1
    have := lk_hit (l := r) (k := k) (x := x) (by simpa using h) hp hn.2
    simp only [List.map_cons, lk, tagP, if_neg h1]
    exact this
theorem lk_none {l : List (List UInt8 × Vl)} {nm : List UInt8} (h : l.any (tagIs nm) = false) : lk nm (l.map tagP) = none := by
  induction l with
  | nil => rfl
  | cons a r ih =>
    simp only [List.any_cons, Bool.or_eq_false_iff] at h
    have h1 : ¬ a.1 = nm := by simpa [tagIs] using h.1
    simp only [List.map_cons, lk, tagP, if_neg h1]
    exact ih h.2
theorem lk_append {nm : List UInt8} {l r : List (List UInt8 × PV)} (h : lk nm l = none) : lk nm (l ++ r) = lk nm r := by
  induction l with
  | nil => rfl
  | cons a t ih =>
    simp only [lk] at h
    split at h
    · cases h
    · rename_i h1
      simp only [List.cons_append, lk, if_neg h1]
      exact ih h

def asE (nm : List UInt8) (t : PT) : Int := if nameB nm = false then 100 else if (lk nm t.tags).isSome then 0 else if t.tags.length ≥ 32 then 3 else 0
/-- the first tag of that name is given another value -/
def setTag (nm : List UInt8) (v : PV) : List (List UInt8 × PV) → List (List UInt8 × PV)
  | [] => []
  | x :: r => if x.1 = nm then (nm, v) :: r else x :: setTag nm v r
theorem setTag_hit : ∀ {l : List (List UInt8 × Vl)} {nm : List UInt8} {k : Nat} {x : List UInt8 × Vl} (v : PV), l[k]? = some x → tagIs nm x = true → (l.take k).any (tagIs nm) = false → setTag nm v (l.map tagP) = (l.map tagP).set k (nm, v)
  | [], nm, k, x, v, h, _, _ => by simp at h
  | a :: r, nm, 0, x, v, h, hp, _ => by
    simp at h
    subst h
    have : a.1 = nm := by simpa [tagIs] using hp
    simp [setTag, tagP, this]
  | a :: r, nm, k + 1, x, v, h, hp, hn => by
    simp only [List.take_succ_cons, List.any_cons, Bool.or_eq_false_iff] at hn
    have h1 : ¬ a.1 = nm := by simpa [tagIs] using hn.1
    have := setTag_hit (l := r) (k := k) (x := x) v (by simpa using h) hp hn.2
    simp only [List.map_cons, setTag, tagP, if_neg h1, List.set_cons_succ]
    congr 1
def asP (nm : List UInt8) (t : PT) : PT := if nameB nm = false then t else if (lk nm t.tags).isSome then { t with tags := setTag nm t.v t.tags } else if t.tags.length ≥ 32 then t else { t with tags := t.tags ++ [(nm, t.v)] }
theorem e9 (t : Tv) (h : t.ok) (nm : List UInt8) (hnm : nm.length ≤ 137438953472) : ∃ u : Tv, acall S 9 [.agg t.cs, .str nm] = some (.tup [.agg u.cs, .i .i64 (asE nm t.p)], []) ∧ u.ok ∧ u.p.path = t.p.path ∧ u.p.v = t.p.v ∧ (asE nm t.p = 0 → lk nm u.p.tags = some t.p.v) ∧ u.p = asP nm t.p := by
  obtain ⟨v, path, tags, eC, hp, ho, htl, hpl⟩ := e19 t h
  have hL : LIM = 274877906944 := rfl
  have ht := h.tl
  have h1 := congrArg PT.path hp
  have h2 := congrArg PT.tags hp
  have h3 := congrArg PT.v hp
  have eT := e33 _ ho nm
  have eN := e34 nm (by omega)
  have h2' : tags.map tagP = t.p.tags := h2
  have h1' : path.map Vl.p = t.p.path := h1
  have h3' : v.p = t.p.v := h3
  have hlt : t.p.tags.length = tags.length := by rw [← h2']; simp
  unfold asE asP
  cases hb : nameB nm with
  | false =>
    rw [hb] at eN
    refine ⟨mkT v path tags t.loops, W_eq (g9 rfl ?_), ho, h1, h3, (fun h => by cases h), hp⟩
    obtain ⟨⟨tvk, tvn, tvs, tvkk, tvz, tvl⟩, tpk, tpz, tpath, ttk, ttz, ttags, tloops⟩ := t
    obtain ⟨vk, vn, vs, vkk, vz, vl⟩ := v
    simp only [Tv.cs, Tv.ov, mkT, Vl.c, Vl.cs_map, List.cons_append, List.nil_append] at eC eT ⊢
    (simp only [go_sem, Nat.add_assoc, reduceIte, reduceCtorEq, Nat.reduceEqDiff, Nat.reduceAdd, Nat.reduceMul, Nat.reduceSub, Nat.reduceLeDiff, Nat.reduceLT, Nat.reduceBEq, Nat.reduceBNe, Int.reduceLE, Int.reduceLT, Int.reduceToNat, Int.reduceEq, Int.reduceNe, Int.reduceNeg, Nat.reduceEqDiff, Int.reduceAdd, Int.reduceSub, Int.reduceMul, Int.cast_ofNat_Int, Int.natCast_zero, a9, s19, eC, s33, eT, s34, eN]; repeat' (refine kont_next ?_ <;> (try simp only [go_sem, Nat.add_assoc, reduceIte, reduceCtorEq, Nat.reduceEqDiff, Nat.reduceAdd, Nat.reduceMul, Nat.reduceSub, Nat.reduceLeDiff, Nat.reduceLT, Nat.reduceBEq, Nat.reduceBNe, Int.reduceLE, Int.reduceLT, Int.reduceToNat, Int.reduceEq, Int.reduceNe, Int.reduceNeg, Nat.reduceEqDiff, Int.reduceAdd, Int.reduceSub, Int.reduceMul, Int.cast_ofNat_Int, Int.natCast_zero, a9, s19, eC, s33, eT, s34, eN])))
  | true =>
  rw [hb] at eN
  simp only [Bool.true_eq_false, if_false]
  obtain ⟨u, eu, hup, huo⟩ := e35 v ho.v
  cases hany : tags.any (tagIs nm) with
  | true =>
    obtain ⟨k, x, i1, i2, i3, i4⟩ := idx_some hany
    have hk : k < tags.length := (List.getElem?_eq_some_iff.1 i2).1
    have hlk : lk nm t.p.tags = some x.2.p := by rw [← h2']; exact lk_hit i2 i3 i4
    rw [hlk]
    simp only [Option.isSome_some, if_true]
    have eT' : acall S 33 [.agg (mkT v path tags t.loops).cs, .str nm] = some (.i .i64 (k : Int), []) := by rw [eT]; unfold tagI; rw [show (mkT v path tags t.loops).tags = tags from rfl, i1]
    have g1 : decide ((0 : Int) ≤ (k : Int)) = true := decide_eq_true (by omega)
    have b1 : (0 : Int) ≤ (k : Int) := by omega
    have b2 : (k : Int) < (tags.length : Int) := by omega
    obtain ⟨xn, x⟩ := x
    have hxn : xn = nm := by simpa [tagIs] using i3
    have hsetl : (tags.set k (xn, u)).map tagP = (t.p.tags).set k (xn, u.p) := by rw [← h2', List.map_set]; rfl
    refine ⟨mkT v path (tags.set k (xn, u)) t.loops, W_eq (g9 rfl ?_), ?_, h1, h3, (fun _ => ?_), ?_⟩
    · have hne : (tags.set k (xn, u)).isEmpty = tags.isEmpty := by cases tags with | nil => simp at hk | cons a r => cases k <;> rfl
      have hsc : (tags.set k (xn, u)).map tagC = (tags.map tagC).set k (tagC (xn, u)) := List.map_set ..
      obtain ⟨⟨tvk, tvn, tvs, tvkk, tvz, tvl⟩, tpk, tpz, tpath, ttk, ttz, ttags, tloops⟩ := t
      obtain ⟨vk, vn, vs, vkk, vz, vl⟩ := v
      obtain ⟨uk, un, us, ukk, uz, ul⟩ := u
      obtain ⟨xk, xxn, xs, xkk, xz, xl⟩ := x
      simp only [Tv.cs, Tv.ov, mkT, Vl.c, Vl.cs_map, List.cons_append, List.nil_append, hne, hsc] at eC eT' eu ⊢
      (simp only [go_sem, Nat.add_assoc, reduceIte, reduceCtorEq, Nat.reduceEqDiff, Nat.reduceAdd, Nat.reduceMul, Nat.reduceSub, Nat.reduceLeDiff, Nat.reduceLT, Nat.reduceBEq, Nat.reduceBNe, Int.reduceLE, Int.reduceLT, Int.reduceToNat, Int.reduceEq, Int.reduceNe, Int.reduceNeg, Nat.reduceEqDiff, Int.reduceAdd, Int.reduceSub, Int.reduceMul, Int.cast_ofNat_Int, Int.natCast_zero, a9, s19, eC, s33, eT', s34, eN, g1, b1, b2, hk, i2, tagC, Vl.c, Vl.cs_map, s35, eu, List.length_set]; repeat' (refine kont_next ?_ <;> (try simp only [go_sem, Nat.add_assoc, reduceIte, reduceCtorEq, Nat.reduceEqDiff, Nat.reduceAdd, Nat.reduceMul, Nat.reduceSub, Nat.reduceLeDiff, Nat.reduceLT, Nat.reduceBEq, Nat.reduceBNe, Int.reduceLE, Int.reduceLT, Int.reduceToNat, Int.reduceEq, Int.reduceNe, Int.reduceNeg, Nat.reduceEqDiff, Int.reduceAdd, Int.reduceSub, Int.reduceMul, Int.cast_ofNat_Int, Int.natCast_zero, a9, s19, eC, s33, eT', s34, eN, g1, b1, b2, hk, i2, tagC, Vl.c, Vl.cs_map, s35, eu, List.length_set])))
    · refine mkT_ok ho.v ho.pl (by simp only [List.length_set]; omega) ho.po fun z hz => ?_
      rcases List.mem_or_eq_of_mem_set hz with hz | hz
      · exact ho.to z hz
      · rw [hz]; exact ⟨huo, by rw [hxn]; exact hnm⟩
    · have hfirst : ((tags.set k (xn, u)).take k).any (tagIs nm) = false := by
        rw [List.take_set, List.set_eq_of_length_le (by simp; omega)]; exact i4
      have := lk_hit (l := tags.set k (xn, u)) (nm := nm) (k := k) (x := (xn, u)) (List.getElem?_set_self hk) (by simp [tagIs, hxn]) hfirst
      rw [show (mkT v path (tags.set k (xn, u)) t.loops).p.tags = (tags.set k (xn, u)).map tagP from rfl, this]
      simp only [hup, h3']
    · have hst := setTag_hit t.p.v i2 i3 i4
      rw [h2'] at hst
      have hx : (nm, t.p.v) = (xn, u.p) := by rw [hxn, hup, h3']
      rw [hst, hx, ← hsetl]
      show (⟨v.p, path.map Vl.p, (tags.set k (xn, u)).map tagP, t.loops⟩ : PT) = _
      rw [h1', h3']
      rfl
  | false =>
    have hlk : lk nm t.p.tags = none := by rw [← h2']; exact lk_none hany
    rw [hlk]
    simp only [Option.isSome_none, Bool.false_eq_true, if_false]
    have eT' : acall S 33 [.agg (mkT v path tags t.loops).cs, .str nm] = some (.i .i64 (-1), []) := by rw [eT]; unfold tagI; rw [show (mkT v path tags t.loops).tags = tags from rfl, idx_none hany]
    by_cases hl : t.p.tags.length ≥ 32
    · rw [if_pos hl, if_pos hl]
      have g2 : decide ((32 : Int) ≤ (tags.length : Int)) = true := decide_eq_true (by omega)
      refine ⟨mkT v path tags t.loops, W_eq (g9 rfl ?_), ho, h1, h3, (fun h => by cases h), hp⟩
      obtain ⟨⟨tvk, tvn, tvs, tvkk, tvz, tvl⟩, tpk, tpz, tpath, ttk, ttz, ttags, tloops⟩ := t
      obtain ⟨vk, vn, vs, vkk, vz, vl⟩ := v
      simp only [Tv.cs, Tv.ov, mkT, Vl.c, Vl.cs_map, List.cons_append, List.nil_append] at eC eT' ⊢
      (simp only [go_sem, Nat.add_assoc, reduceIte, reduceCtorEq, Nat.reduceEqDiff, Nat.reduceAdd, Nat.reduceMul, Nat.reduceSub, Nat.reduceLeDiff, Nat.reduceLT, Nat.reduceBEq, Nat.reduceBNe, Int.reduceLE, Int.reduceLT, Int.reduceToNat, Int.reduceEq, Int.reduceNe, Int.reduceNeg, Nat.reduceEqDiff, Int.reduceAdd, Int.reduceSub, Int.reduceMul, Int.cast_ofNat_Int, Int.natCast_zero, a9, s19, eC, s33, eT', s34, eN, g2]; repeat' (refine kont_next ?_ <;> (try simp only [go_sem, Nat.add_assoc, reduceIte, reduceCtorEq, Nat.reduceEqDiff, Nat.reduceAdd, Nat.reduceMul, Nat.reduceSub, Nat.reduceLeDiff, Nat.reduceLT, Nat.reduceBEq, Nat.reduceBNe, Int.reduceLE, Int.reduceLT, Int.reduceToNat, Int.reduceEq, Int.reduceNe, Int.reduceNeg, Nat.reduceEqDiff, Int.reduceAdd, Int.reduceSub, Int.reduceMul, Int.cast_ofNat_Int, Int.natCast_zero, a9, s19, eC, s33, eT', s34, eN, g2])))
    · rw [if_neg hl, if_neg hl]
      have g2 : decide ((32 : Int) ≤ (tags.length : Int)) = false := decide_eq_false (by omega)
      have glim : tags.length + 1 ≤ LIM := by omega
      refine ⟨mkT v path (tags ++ [(nm, u)]) t.loops, W_eq (g9 rfl ?_), ?_, h1, h3, (fun _ => ?_), ?_⟩
      · have hne : (tags ++ [(nm, u)]).isEmpty = false := by simp
        obtain ⟨⟨tvk, tvn, tvs, tvkk, tvz, tvl⟩, tpk, tpz, tpath, ttk, ttz, ttags, tloops⟩ := t
        obtain ⟨vk, vn, vs, vkk, vz, vl⟩ := v
        obtain ⟨uk, un, us, ukk, uz, ul⟩ := u
        simp only [Tv.cs, Tv.ov, mkT, Vl.c, Vl.cs_map, List.cons_append, List.nil_append, hne, List.map_append, List.map_cons, List.map_nil, tagC] at eC eT' eu ⊢
        (simp only [go_sem, Nat.add_assoc, reduceIte, reduceCtorEq, Nat.reduceEqDiff, Nat.reduceAdd, Nat.reduceMul, Nat.reduceSub, Nat.reduceLeDiff, Nat.reduceLT, Nat.reduceBEq, Nat.reduceBNe, Int.reduceLE, Int.reduceLT, Int.reduceToNat, Int.reduceEq, Int.reduceNe, Int.reduceNeg, Nat.reduceEqDiff, Int.reduceAdd, Int.reduceSub, Int.reduceMul, Int.cast_ofNat_Int, Int.natCast_zero, a9, s19, eC, s33, eT', s34, eN, g2, s35, eu, glim, tagC]; repeat' (refine kont_next ?_ <;> (try simp only [go_sem, Nat.add_assoc, reduceIte, reduceCtorEq, Nat.reduceEqDiff, Nat.reduceAdd, Nat.reduceMul, Nat.reduceSub, Nat.reduceLeDiff, Nat.reduceLT, Nat.reduceBEq, Nat.reduceBNe, Int.reduceLE, Int.reduceLT, Int.reduceToNat, Int.reduceEq, Int.reduceNe, Int.reduceNeg, Nat.reduceEqDiff, Int.reduceAdd, Int.reduceSub, Int.reduceMul, Int.cast_ofNat_Int, Int.natCast_zero, a9, s19, eC, s33, eT', s34, eN, g2, s35, eu, glim, tagC])))
      · refine mkT_ok ho.v ho.pl (by simp; omega) ho.po fun z hz => ?_
        rcases List.mem_append.1 hz with hz | hz
        · exact ho.to z hz
        · simp only [List.mem_singleton] at hz; rw [hz]; exact ⟨huo, hnm⟩
      · rw [show (mkT v path (tags ++ [(nm, u)]) t.loops).p.tags = tags.map tagP ++ [(nm, u.p)] by simp [mkT, Tv.p, tagP], lk_append (by rw [h2']; exact hlk)]
        simp only [lk, if_true, hup, h3']
      · show (⟨v.p, path.map Vl.p, (tags ++ [(nm, u)]).map tagP, t.loops⟩ : PT) = _
        rw [List.map_append, h1', h2', h3']
        simp only [List.map_cons, List.map_nil, tagP, hup, h3']
        rfl
end Go.Proofs.YtmdbfbcolofelaaDoor
