/-
  The reference's clones.
-/
import Derived.Test.YtmdbfbcolofelaaDoorR2
set_option linter.unusedSimpArgs false
set_option linter.unusedVariables false
set_option maxHeartbeats 8000000
set_option maxRecDepth 100000
namespace Go.Proofs.YtmdbfbcolofelaaDoor
open Go.Abs

theorem e40' : ∀ (m : Nat) (v : Vl), v.size ≤ m → v.ok → ∃ u : Vl, acall S 40 [.agg v.c] = some (.agg u.c, []) ∧ u.p = v.p ∧ u.ok
  | 0, .mk kd n s k z l, hm, _ => by simp [Vl.size] at hm
  | m + 1, .mk kd n s k z l, hm, hv => by
    obtain ⟨hs, hl, hok, hall⟩ := hv
    have hL : LIM = 274877906944 := rfl
    simp only [Vl.size] at hm
    suffices hW : W (acall S 40 [.agg (Vl.mk kd n s k z l).c]) (fun x => ∃ u : Vl, x = (.agg u.c, []) ∧ u.p = (Vl.mk kd n s k z l).p ∧ u.ok) by
      obtain ⟨x, h1, u, rfl, h2⟩ := hW
      exact ⟨u, h1, h2⟩
    refine g40 rfl ?_
    (simp only [go_sem, Nat.add_assoc, reduceIte, reduceCtorEq, Nat.reduceEqDiff, Nat.reduceAdd, Nat.reduceMul, Nat.reduceSub, Nat.reduceLeDiff, Nat.reduceLT, Nat.reduceBEq, Nat.reduceBNe, Int.reduceLE, Int.reduceLT, Int.reduceToNat, Int.reduceEq, Int.reduceNe, Int.reduceNeg, Nat.reduceEqDiff, Int.reduceAdd, Int.reduceSub, Int.reduceMul, Int.cast_ofNat_Int, Int.natCast_zero, a40, Vl.c, Vl.cs_map]; repeat' (refine kont_next ?_ <;> (try simp only [go_sem, Nat.add_assoc, reduceIte, reduceCtorEq, Nat.reduceEqDiff, Nat.reduceAdd, Nat.reduceMul, Nat.reduceSub, Nat.reduceLeDiff, Nat.reduceLT, Nat.reduceBEq, Nat.reduceBNe, Int.reduceLE, Int.reduceLT, Int.reduceToNat, Int.reduceEq, Int.reduceNe, Int.reduceNeg, Nat.reduceEqDiff, Int.reduceAdd, Int.reduceSub, Int.reduceMul, Int.cast_ofNat_Int, Int.natCast_zero, a40, Vl.c, Vl.cs_map])))
    refine kloop_inv (ι := List Vl) (fun es => [.bx [.i .i64 kd, .i .i64 n, .str s, .sl k z (l.map Vl.c)], .bx [.i .i64 0, .i .i64 0, .str [], .sl .nil 0 []], .ow 24 4 es.isEmpty (es.map Vl.c), .i .i64 es.length])
      (fun es => es.length ≤ l.length ∧ es.map Vl.p = (l.take es.length).map Vl.p ∧ ∀ x ∈ es, x.ok) (fun es => l.length - es.length) [] rfl ⟨by simp, rfl, by simp⟩ ?_
    rintro es ⟨k1, k2, k3⟩
    by_cases hlt : es.length < l.length
    · obtain ⟨c, gc⟩ := get_lt hlt
      have hw := wrap_succ (k := es.length) (by omega)
      have hbt : decide ((es.length : Int) < (l.length : Int)) = true := decide_eq_true (by omega)
      have glim : es.length + 1 ≤ LIM := by omega
      have b1 : (0 : Int) ≤ (es.length : Int) := by omega
      have hcs := Vl.size_get gc
      obtain ⟨d, ed, hdp, hdo⟩ := e40' m c (by omega) (Vl.oks_get hall gc)
      have hnext : (es ++ [d]).map Vl.p = (l.take (es.length + 1)).map Vl.p := by
        rw [take_get gc, List.map_append, List.map_append, k2]; simp [hdp]
      obtain ⟨ck, cn, cs, ckk, cz, cl⟩ := c
      obtain ⟨dk, dn, ds, dkk, dz, dl⟩ := d
      simp only [Vl.c, Vl.cs_map] at ed
      (simp only [go_sem, Nat.add_assoc, reduceIte, reduceCtorEq, Nat.reduceEqDiff, Nat.reduceAdd, Nat.reduceMul, Nat.reduceSub, Nat.reduceLeDiff, Nat.reduceLT, Nat.reduceBEq, Nat.reduceBNe, Int.reduceLE, Int.reduceLT, Int.reduceToNat, Int.reduceEq, Int.reduceNe, Int.reduceNeg, Nat.reduceEqDiff, Int.reduceAdd, Int.reduceSub, Int.reduceMul, Int.cast_ofNat_Int, Int.natCast_zero, hbt, hok.1, b1, gc, Vl.c, Vl.cs_map, s40, ed, hw, glim]; repeat' (refine kont_next ?_ <;> (try simp only [go_sem, Nat.add_assoc, reduceIte, reduceCtorEq, Nat.reduceEqDiff, Nat.reduceAdd, Nat.reduceMul, Nat.reduceSub, Nat.reduceLeDiff, Nat.reduceLT, Nat.reduceBEq, Nat.reduceBNe, Int.reduceLE, Int.reduceLT, Int.reduceToNat, Int.reduceEq, Int.reduceNe, Int.reduceNeg, Nat.reduceEqDiff, Int.reduceAdd, Int.reduceSub, Int.reduceMul, Int.cast_ofNat_Int, Int.natCast_zero, hbt, hok.1, b1, gc, Vl.c, Vl.cs_map, s40, ed, hw, glim])))
      refine ⟨es ++ [.mk dk dn ds dkk dz dl], ?_, ⟨by simp; omega, by simpa using hnext, ?_⟩, by simp; omega⟩
      · simp [Vl.c, Vl.cs_map]
      · intro x hx
        rcases List.mem_append.1 hx with h | h
        · exact k3 x h
        · simp only [List.mem_singleton] at h; rw [h]; exact hdo
    have hbf : decide ((es.length : Int) < (l.length : Int)) = false := decide_eq_false (by omega)
    have hpp : es.map Vl.p = l.map Vl.p := by rw [k2, List.take_of_length_le (by omega)]
    (simp only [go_sem, Nat.add_assoc, reduceIte, reduceCtorEq, Nat.reduceEqDiff, Nat.reduceAdd, Nat.reduceMul, Nat.reduceSub, Nat.reduceLeDiff, Nat.reduceLT, Nat.reduceBEq, Nat.reduceBNe, Int.reduceLE, Int.reduceLT, Int.reduceToNat, Int.reduceEq, Int.reduceNe, Int.reduceNeg, Nat.reduceEqDiff, Int.reduceAdd, Int.reduceSub, Int.reduceMul, Int.cast_ofNat_Int, Int.natCast_zero, hbf]; repeat' (refine kont_next ?_ <;> (try simp only [go_sem, Nat.add_assoc, reduceIte, reduceCtorEq, Nat.reduceEqDiff, Nat.reduceAdd, Nat.reduceMul, Nat.reduceSub, Nat.reduceLeDiff, Nat.reduceLT, Nat.reduceBEq, Nat.reduceBNe, Int.reduceLE, Int.reduceLT, Int.reduceToNat, Int.reduceEq, Int.reduceNe, Int.reduceNeg, Nat.reduceEqDiff, Int.reduceAdd, Int.reduceSub, Int.reduceMul, Int.cast_ofNat_Int, Int.natCast_zero, hbf])))
    refine ⟨.mk kd n s (skOf es.isEmpty) 4 es, ?_, ?_, ⟨hs, by omega, ⟨.inl rfl, skOf_nil'⟩, (Vl.oks_iff es).2 k3⟩⟩
    · simp [Vl.c, Vl.cs_map]
    · simp only [Vl.p, Vl.ps_map, hpp]
theorem e40 (v : Vl) (h : v.ok) : ∃ u : Vl, acall S 40 [.agg v.c] = some (.agg u.c, []) ∧ u.p = v.p ∧ u.ok := e40' v.size v (Nat.le_refl _) h
theorem e16 (t : Tv) (h : t.ok) : ∃ (v : Vl) (path : List Vl) (tags : List (List UInt8 × Vl)), acall S 16 [.agg t.cs] = some ((mkT v path tags t.loops).ov, []) ∧ (mkT v path tags t.loops).p = t.p ∧ (mkT v path tags t.loops).ok ∧ tags.length = t.tags.length ∧ path.length = t.path.length := by
  obtain ⟨hv, hpl, htl, hps, hts, hpo, hto⟩ := h
  suffices hW : W (acall S 16 [.agg t.cs]) (fun x => ∃ (v : Vl) (path : List Vl) (tags : List (List UInt8 × Vl)), x = ((mkT v path tags t.loops).ov, []) ∧ (mkT v path tags t.loops).p = t.p ∧ (mkT v path tags t.loops).ok ∧ tags.length = t.tags.length ∧ path.length = t.path.length) by
    obtain ⟨x, h1, v, path, tags, rfl, h2⟩ := hW
    exact ⟨v, path, tags, h1, h2⟩
  have hL : LIM = 274877906944 := rfl
  obtain ⟨v, pk, pz, path, tk, tz, tags, loops⟩ := t
  simp only at hv hpl htl hps hts hpo hto
  obtain ⟨u, eu, hup, huo⟩ := e40 v hv
  obtain ⟨vk, vn, vs, vkk, vz, vl⟩ := v
  obtain ⟨uk, un, us, ukk, uz, ul⟩ := u
  simp only [Vl.c, Vl.cs_map] at eu
  refine g16 rfl ?_
  (simp only [go_sem, Nat.add_assoc, reduceIte, reduceCtorEq, Nat.reduceEqDiff, Nat.reduceAdd, Nat.reduceMul, Nat.reduceSub, Nat.reduceLeDiff, Nat.reduceLT, Nat.reduceBEq, Nat.reduceBNe, Int.reduceLE, Int.reduceLT, Int.reduceToNat, Int.reduceEq, Int.reduceNe, Int.reduceNeg, Nat.reduceEqDiff, Int.reduceAdd, Int.reduceSub, Int.reduceMul, Int.cast_ofNat_Int, Int.natCast_zero, a16, Tv.cs, Vl.c, Vl.cs_map, s40, eu]; repeat' (refine kont_next ?_ <;> (try simp only [go_sem, Nat.add_assoc, reduceIte, reduceCtorEq, Nat.reduceEqDiff, Nat.reduceAdd, Nat.reduceMul, Nat.reduceSub, Nat.reduceLeDiff, Nat.reduceLT, Nat.reduceBEq, Nat.reduceBNe, Int.reduceLE, Int.reduceLT, Int.reduceToNat, Int.reduceEq, Int.reduceNe, Int.reduceNeg, Nat.reduceEqDiff, Int.reduceAdd, Int.reduceSub, Int.reduceMul, Int.cast_ofNat_Int, Int.natCast_zero, a16, Tv.cs, Vl.c, Vl.cs_map, s40, eu])))
  refine kloop_inv (ι := List Vl) (fun ps => [.bx [.i .i64 vk, .i .i64 vn, .str vs, .sl vkk vz (vl.map Vl.c), .sl pk pz (path.map Vl.c), .sl tk tz (tags.map tagC), .i .i64 loops],
      .bx [.i .i64 0, .i .i64 0, .str [], .sl .nil 0 [], .sl .nil 0 [], .sl .nil 0 [], .i .i64 0],
      .bx [.i .i64 uk, .i .i64 un, .str us, .sl ukk uz (ul.map Vl.c), .ow 24 4 ps.isEmpty (ps.map Vl.c), .sl .nil 0 [], .i .i64 loops], .i .i64 ps.length])
    (fun ps => ps.length ≤ path.length ∧ ps.map Vl.p = (path.take ps.length).map Vl.p ∧ ∀ x ∈ ps, x.ok) (fun ps => path.length - ps.length) [] rfl ⟨by simp, rfl, by simp⟩ ?_
  rintro ps ⟨k1, k2, k3⟩
  by_cases hlt : ps.length < path.length
  · obtain ⟨c, gc⟩ := get_lt hlt
    have hw := wrap_succ (k := ps.length) (by omega)
    have hbt : decide ((ps.length : Int) < (path.length : Int)) = true := decide_eq_true (by omega)
    have glim : ps.length + 1 ≤ LIM := by omega
    have b1 : (0 : Int) ≤ (ps.length : Int) := by omega
    obtain ⟨d, ed, hdp, hdo⟩ := e40 c (hpo c (List.mem_of_getElem? gc))
    have hnext : (ps ++ [d]).map Vl.p = (path.take (ps.length + 1)).map Vl.p := by
      rw [take_get gc, List.map_append, List.map_append, k2]; simp [hdp]
    obtain ⟨ck, cn, cs, ckk, cz, cl⟩ := c
    obtain ⟨dk, dn, ds, dkk, dz, dl⟩ := d
    simp only [Vl.c, Vl.cs_map] at ed
    (simp only [go_sem, Nat.add_assoc, reduceIte, reduceCtorEq, Nat.reduceEqDiff, Nat.reduceAdd, Nat.reduceMul, Nat.reduceSub, Nat.reduceLeDiff, Nat.reduceLT, Nat.reduceBEq, Nat.reduceBNe, Int.reduceLE, Int.reduceLT, Int.reduceToNat, Int.reduceEq, Int.reduceNe, Int.reduceNeg, Nat.reduceEqDiff, Int.reduceAdd, Int.reduceSub, Int.reduceMul, Int.cast_ofNat_Int, Int.natCast_zero, hbt, hps.1, gc, Vl.c, Vl.cs_map, s40, ed, hw, glim]; repeat' (refine kont_next ?_ <;> (try simp only [go_sem, Nat.add_assoc, reduceIte, reduceCtorEq, Nat.reduceEqDiff, Nat.reduceAdd, Nat.reduceMul, Nat.reduceSub, Nat.reduceLeDiff, Nat.reduceLT, Nat.reduceBEq, Nat.reduceBNe, Int.reduceLE, Int.reduceLT, Int.reduceToNat, Int.reduceEq, Int.reduceNe, Int.reduceNeg, Nat.reduceEqDiff, Int.reduceAdd, Int.reduceSub, Int.reduceMul, Int.cast_ofNat_Int, Int.natCast_zero, hbt, hps.1, gc, Vl.c, Vl.cs_map, s40, ed, hw, glim])))
    refine ⟨ps ++ [.mk dk dn ds dkk dz dl], ?_, ⟨by simp; omega, by simpa using hnext, ?_⟩, by simp; omega⟩
    · simp [Vl.c, Vl.cs_map]
    · intro x hx
      rcases List.mem_append.1 hx with h | h
      · exact k3 x h
      · simp only [List.mem_singleton] at h; rw [h]; exact hdo
  have hbf : decide ((ps.length : Int) < (path.length : Int)) = false := decide_eq_false (by omega)
  have hpp : ps.map Vl.p = path.map Vl.p := by rw [k2, List.take_of_length_le (by omega)]
  (simp only [go_sem, Nat.add_assoc, reduceIte, reduceCtorEq, Nat.reduceEqDiff, Nat.reduceAdd, Nat.reduceMul, Nat.reduceSub, Nat.reduceLeDiff, Nat.reduceLT, Nat.reduceBEq, Nat.reduceBNe, Int.reduceLE, Int.reduceLT, Int.reduceToNat, Int.reduceEq, Int.reduceNe, Int.reduceNeg, Nat.reduceEqDiff, Int.reduceAdd, Int.reduceSub, Int.reduceMul, Int.cast_ofNat_Int, Int.natCast_zero, hbf]; repeat' (refine kont_next ?_ <;> (try simp only [go_sem, Nat.add_assoc, reduceIte, reduceCtorEq, Nat.reduceEqDiff, Nat.reduceAdd, Nat.reduceMul, Nat.reduceSub, Nat.reduceLeDiff, Nat.reduceLT, Nat.reduceBEq, Nat.reduceBNe, Int.reduceLE, Int.reduceLT, Int.reduceToNat, Int.reduceEq, Int.reduceNe, Int.reduceNeg, Nat.reduceEqDiff, Int.reduceAdd, Int.reduceSub, Int.reduceMul, Int.cast_ofNat_Int, Int.natCast_zero, hbf])))
  refine kloop_inv (ι := List (List UInt8 × Vl)) (fun ts => [
      .bx [.i .i64 vk, .i .i64 vn, .str vs, .sl vkk vz (vl.map Vl.c), .sl pk pz (path.map Vl.c), .sl tk tz (tags.map tagC), .i .i64 loops],
      .bx [.i .i64 0, .i .i64 0, .str [], .sl .nil 0 [], .sl .nil 0 [], .sl .nil 0 [], .i .i64 0],
      .bx [.i .i64 uk, .i .i64 un, .str us, .sl ukk uz (ul.map Vl.c), .ow 24 4 ps.isEmpty (ps.map Vl.c), .ow 48 5 ts.isEmpty (ts.map tagC), .i .i64 loops], .i .i64 ts.length])
    (fun ts => ts.length ≤ tags.length ∧ ts.map tagP = (tags.take ts.length).map tagP ∧ ∀ x ∈ ts, x.2.ok ∧ x.1.length ≤ 137438953472) (fun ts => tags.length - ts.length) [] rfl ⟨by simp, rfl, by simp⟩ ?_
  rintro ts ⟨q1, q2, q3⟩
  by_cases hlt : ts.length < tags.length
  · obtain ⟨⟨nm, c⟩, gc⟩ := get_lt hlt
    have hw := wrap_succ (k := ts.length) (by omega)
    have hbt : decide ((ts.length : Int) < (tags.length : Int)) = true := decide_eq_true (by omega)
    have glim : ts.length + 1 ≤ LIM := by omega
    have b1 : (0 : Int) ≤ (ts.length : Int) := by omega
    have hco := hto (nm, c) (List.mem_of_getElem? gc)
    obtain ⟨d, ed, hdp, hdo⟩ := e40 c hco.1
    have hnext : (ts ++ [(nm, d)]).map tagP = (tags.take (ts.length + 1)).map tagP := by
      rw [take_get gc, List.map_append, List.map_append, q2]; simp [tagP, hdp]
    obtain ⟨ck, cn, cs, ckk, cz, cl⟩ := c
    obtain ⟨dk, dn, ds, dkk, dz, dl⟩ := d
    simp only [Vl.c, Vl.cs_map] at ed
    (simp only [go_sem, Nat.add_assoc, reduceIte, reduceCtorEq, Nat.reduceEqDiff, Nat.reduceAdd, Nat.reduceMul, Nat.reduceSub, Nat.reduceLeDiff, Nat.reduceLT, Nat.reduceBEq, Nat.reduceBNe, Int.reduceLE, Int.reduceLT, Int.reduceToNat, Int.reduceEq, Int.reduceNe, Int.reduceNeg, Nat.reduceEqDiff, Int.reduceAdd, Int.reduceSub, Int.reduceMul, Int.cast_ofNat_Int, Int.natCast_zero, hbt, hts.1, gc, tagC, Vl.c, Vl.cs_map, s40, ed, hw, glim]; repeat' (refine kont_next ?_ <;> (try simp only [go_sem, Nat.add_assoc, reduceIte, reduceCtorEq, Nat.reduceEqDiff, Nat.reduceAdd, Nat.reduceMul, Nat.reduceSub, Nat.reduceLeDiff, Nat.reduceLT, Nat.reduceBEq, Nat.reduceBNe, Int.reduceLE, Int.reduceLT, Int.reduceToNat, Int.reduceEq, Int.reduceNe, Int.reduceNeg, Nat.reduceEqDiff, Int.reduceAdd, Int.reduceSub, Int.reduceMul, Int.cast_ofNat_Int, Int.natCast_zero, hbt, hts.1, gc, tagC, Vl.c, Vl.cs_map, s40, ed, hw, glim])))
    refine ⟨ts ++ [(nm, .mk dk dn ds dkk dz dl)], ?_, ⟨by simp; omega, by simpa using hnext, ?_⟩, by simp; omega⟩
    · simp [tagC, Vl.c, Vl.cs_map]
    · intro x hx
      rcases List.mem_append.1 hx with h | h
      · exact q3 x h
      · simp only [List.mem_singleton] at h; rw [h]; exact ⟨hdo, hco.2⟩
  have hbf2 : decide ((ts.length : Int) < (tags.length : Int)) = false := decide_eq_false (by omega)
  have htp : ts.map tagP = tags.map tagP := by rw [q2, List.take_of_length_le (by omega)]
  (simp only [go_sem, Nat.add_assoc, reduceIte, reduceCtorEq, Nat.reduceEqDiff, Nat.reduceAdd, Nat.reduceMul, Nat.reduceSub, Nat.reduceLeDiff, Nat.reduceLT, Nat.reduceBEq, Nat.reduceBNe, Int.reduceLE, Int.reduceLT, Int.reduceToNat, Int.reduceEq, Int.reduceNe, Int.reduceNeg, Nat.reduceEqDiff, Int.reduceAdd, Int.reduceSub, Int.reduceMul, Int.cast_ofNat_Int, Int.natCast_zero, hbf2]; repeat' (refine kont_next ?_ <;> (try simp only [go_sem, Nat.add_assoc, reduceIte, reduceCtorEq, Nat.reduceEqDiff, Nat.reduceAdd, Nat.reduceMul, Nat.reduceSub, Nat.reduceLeDiff, Nat.reduceLT, Nat.reduceBEq, Nat.reduceBNe, Int.reduceLE, Int.reduceLT, Int.reduceToNat, Int.reduceEq, Int.reduceNe, Int.reduceNeg, Nat.reduceEqDiff, Int.reduceAdd, Int.reduceSub, Int.reduceMul, Int.cast_ofNat_Int, Int.natCast_zero, hbf2])))
  refine ⟨.mk uk un us ukk uz ul, ps, ts, ?_, ?_, mkT_ok huo (by omega) (by omega) k3 q3, by omega, by omega⟩
  · simp [Tv.ov, mkT, Vl.c, Vl.cs_map]
  · simp only [Tv.p, mkT, hpp, htp, hup]
end Go.Proofs.YtmdbfbcolofelaaDoor
