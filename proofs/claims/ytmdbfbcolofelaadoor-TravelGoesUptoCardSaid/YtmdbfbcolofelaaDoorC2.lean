/-
  The program's answer: which traversers may be.
-/
import Derived.Test.YtmdbfbcolofelaaDoorC1
import Derived.Test.YtmdbfbcolofelaaDoorV10
set_option linter.unusedSimpArgs false
set_option linter.unusedVariables false
set_option maxHeartbeats 8000000
set_option maxRecDepth 100000
namespace Go.Proofs.YtmdbfbcolofelaaDoor
open Go.Abs

theorem e47 (v : Vl) (ho : v.ok) : acall S 47 [.agg v.c] = some (.b (!mayV v.p 0), []) := by
  have em := e67 v ho
  obtain ⟨k, n, s, sk, z, l⟩ := v
  simp only [Vl.c, Vl.cs_map] at em ⊢
  refine W_eq (g47 rfl ?_)
  cases hc : mayV (Vl.mk k n s sk z l).p 0 with
  | true => rw [hc] at em; (simp only [go_sem, Nat.add_assoc, reduceIte, reduceCtorEq, Nat.reduceEqDiff, Nat.reduceAdd, Nat.reduceMul, Nat.reduceSub, Nat.reduceLeDiff, Nat.reduceLT, Nat.reduceBEq, Nat.reduceBNe, Int.reduceLE, Int.reduceLT, Int.reduceToNat, Int.reduceEq, Int.reduceNe, Int.reduceNeg, Nat.reduceEqDiff, Int.reduceAdd, Int.reduceSub, Int.reduceMul, Int.cast_ofNat_Int, Int.natCast_zero, a47, s67, em]; repeat' (refine kont_next ?_ <;> (try simp only [go_sem, Nat.add_assoc, reduceIte, reduceCtorEq, Nat.reduceEqDiff, Nat.reduceAdd, Nat.reduceMul, Nat.reduceSub, Nat.reduceLeDiff, Nat.reduceLT, Nat.reduceBEq, Nat.reduceBNe, Int.reduceLE, Int.reduceLT, Int.reduceToNat, Int.reduceEq, Int.reduceNe, Int.reduceNeg, Nat.reduceEqDiff, Int.reduceAdd, Int.reduceSub, Int.reduceMul, Int.cast_ofNat_Int, Int.natCast_zero, a47, s67, em])))
  | false => rw [hc] at em; (simp only [go_sem, Nat.add_assoc, reduceIte, reduceCtorEq, Nat.reduceEqDiff, Nat.reduceAdd, Nat.reduceMul, Nat.reduceSub, Nat.reduceLeDiff, Nat.reduceLT, Nat.reduceBEq, Nat.reduceBNe, Int.reduceLE, Int.reduceLT, Int.reduceToNat, Int.reduceEq, Int.reduceNe, Int.reduceNeg, Nat.reduceEqDiff, Int.reduceAdd, Int.reduceSub, Int.reduceMul, Int.cast_ofNat_Int, Int.natCast_zero, a47, s67, em]; repeat' (refine kont_next ?_ <;> (try simp only [go_sem, Nat.add_assoc, reduceIte, reduceCtorEq, Nat.reduceEqDiff, Nat.reduceAdd, Nat.reduceMul, Nat.reduceSub, Nat.reduceLeDiff, Nat.reduceLT, Nat.reduceBEq, Nat.reduceBNe, Int.reduceLE, Int.reduceLT, Int.reduceToNat, Int.reduceEq, Int.reduceNe, Int.reduceNeg, Nat.reduceEqDiff, Int.reduceAdd, Int.reduceSub, Int.reduceMul, Int.cast_ofNat_Int, Int.natCast_zero, a47, s67, em])))
theorem tagsOk_take {l : List (List UInt8 × Vl)} {i : Nat} {x : List UInt8 × Vl} (h : l[i]? = some x) : tagsOk ((l.take i).map Prod.fst) ((l.drop i).map tagP) = (nameR x.1 && !((l.take i).map Prod.fst).contains x.1 && mayV x.2.p 0 && tagsOk ((l.take (i + 1)).map Prod.fst) ((l.drop (i + 1)).map tagP)) := by
  rw [drop_get3 h, take_get h]
  simp only [List.map_cons, tagsOk, List.map_append, List.map_nil, tagP]
theorem seen_next {l : List (List UInt8 × Vl)} {i : Nat} {x : List UInt8 × Vl} (h : l[i]? = some x) : seenM (l.take (i + 1)) = seenM (l.take i) ++ [[.str x.1, .b true]] := by
  rw [take_get h]
  simp [seenM]
theorem any_bad (l : List Vl) : (l.any fun x => !mayV x.p 0) = !((l.map Vl.p).all fun x => mayV x 0) := by
  induction l with
  | nil => rfl
  | cons v r ih =>
    simp only [List.any_cons, List.map_cons, List.all_cons, ih]
    cases mayV v.p 0 <;> rfl
theorem e23 (t : Tv) (h : t.ok) : acall S 23 [.agg t.cs] = some (.i .i64 (if mayT t.p then 0 else 180), []) := by
  obtain ⟨hv, hpl, htl, hps, hts, hpo, hto⟩ := h
  have hL : LIM = 274877906944 := rfl
  obtain ⟨v, pk, pz, path, tk, tz, tags, loops⟩ := t
  simp only at hv hpl htl hps hts hpo hto
  have eb := e47 v hv
  have ec := con_bad (q := fun x => !mayV x.p 0) hps hpl (fun x hx => e47 x (hpo x hx))
  rw [any_bad] at ec
  have hmay : mayT (Tv.p ⟨v, pk, pz, path, tk, tz, tags, loops⟩) = (mayV v.p 0 && decide ((path.length : Int) ≤ 256) && decide ((tags.length : Int) ≤ 32) && decide (0 ≤ loops) && ((path.map Vl.p).all fun x => mayV x 0) && tagsOk [] (tags.map tagP)) := by
    show (mayV v.p 0 && decide ((((path.map Vl.p).length : Nat) : Int) ≤ 256) && decide ((((tags.map tagP).length : Nat) : Int) ≤ 32) && decide (0 ≤ loops) && ((path.map Vl.p).all fun x => mayV x 0) && tagsOk [] (tags.map tagP)) = _
    rw [show decide ((((path.map Vl.p).length : Nat) : Int) ≤ 256) = decide ((path.length : Int) ≤ 256) from decide_eq_decide.2 (by rw [List.length_map]), show decide ((((tags.map tagP).length : Nat) : Int) ≤ 32) = decide ((tags.length : Int) ≤ 32) from decide_eq_decide.2 (by rw [List.length_map])]
  rw [hmay]
  obtain ⟨vk, vn, vs, vkk, vz, vl⟩ := v
  simp only [Vl.c, Vl.cs_map] at eb
  refine W_eq (g23 rfl ?_)
  cases hb : mayV (Vl.mk vk vn vs vkk vz vl).p 0 with
  | false =>
    rw [hb] at eb
    (simp only [go_sem, Nat.add_assoc, reduceIte, reduceCtorEq, Nat.reduceEqDiff, Nat.reduceAdd, Nat.reduceMul, Nat.reduceSub, Nat.reduceLeDiff, Nat.reduceLT, Nat.reduceBEq, Nat.reduceBNe, Int.reduceLE, Int.reduceLT, Int.reduceToNat, Int.reduceEq, Int.reduceNe, Int.reduceNeg, Nat.reduceEqDiff, Int.reduceAdd, Int.reduceSub, Int.reduceMul, Int.cast_ofNat_Int, Int.natCast_zero, a23, Tv.cs, Vl.c, Vl.cs_map, s47, eb]; repeat' (refine kont_next ?_ <;> (try simp only [go_sem, Nat.add_assoc, reduceIte, reduceCtorEq, Nat.reduceEqDiff, Nat.reduceAdd, Nat.reduceMul, Nat.reduceSub, Nat.reduceLeDiff, Nat.reduceLT, Nat.reduceBEq, Nat.reduceBNe, Int.reduceLE, Int.reduceLT, Int.reduceToNat, Int.reduceEq, Int.reduceNe, Int.reduceNeg, Nat.reduceEqDiff, Int.reduceAdd, Int.reduceSub, Int.reduceMul, Int.cast_ofNat_Int, Int.natCast_zero, a23, Tv.cs, Vl.c, Vl.cs_map, s47, eb])))
  | true =>
  rw [hb] at eb
  by_cases h1 : (256 : Int) < (path.length : Int)
  · have g1 := decide_eq_true h1
    rw [decide_eq_false (show ¬ (path.length : Int) ≤ 256 by omega)]
    (simp only [go_sem, Nat.add_assoc, reduceIte, reduceCtorEq, Nat.reduceEqDiff, Nat.reduceAdd, Nat.reduceMul, Nat.reduceSub, Nat.reduceLeDiff, Nat.reduceLT, Nat.reduceBEq, Nat.reduceBNe, Int.reduceLE, Int.reduceLT, Int.reduceToNat, Int.reduceEq, Int.reduceNe, Int.reduceNeg, Nat.reduceEqDiff, Int.reduceAdd, Int.reduceSub, Int.reduceMul, Int.cast_ofNat_Int, Int.natCast_zero, a23, Tv.cs, Vl.c, Vl.cs_map, s47, eb, g1]; repeat' (refine kont_next ?_ <;> (try simp only [go_sem, Nat.add_assoc, reduceIte, reduceCtorEq, Nat.reduceEqDiff, Nat.reduceAdd, Nat.reduceMul, Nat.reduceSub, Nat.reduceLeDiff, Nat.reduceLT, Nat.reduceBEq, Nat.reduceBNe, Int.reduceLE, Int.reduceLT, Int.reduceToNat, Int.reduceEq, Int.reduceNe, Int.reduceNeg, Nat.reduceEqDiff, Int.reduceAdd, Int.reduceSub, Int.reduceMul, Int.cast_ofNat_Int, Int.natCast_zero, a23, Tv.cs, Vl.c, Vl.cs_map, s47, eb, g1])))
  have g1 := decide_eq_false h1
  rw [decide_eq_true (show (path.length : Int) ≤ 256 by omega)]
  by_cases h2 : (32 : Int) < (tags.length : Int)
  · have g2 := decide_eq_true h2
    rw [decide_eq_false (show ¬ (tags.length : Int) ≤ 32 by omega)]
    (simp only [go_sem, Nat.add_assoc, reduceIte, reduceCtorEq, Nat.reduceEqDiff, Nat.reduceAdd, Nat.reduceMul, Nat.reduceSub, Nat.reduceLeDiff, Nat.reduceLT, Nat.reduceBEq, Nat.reduceBNe, Int.reduceLE, Int.reduceLT, Int.reduceToNat, Int.reduceEq, Int.reduceNe, Int.reduceNeg, Nat.reduceEqDiff, Int.reduceAdd, Int.reduceSub, Int.reduceMul, Int.cast_ofNat_Int, Int.natCast_zero, a23, Tv.cs, Vl.c, Vl.cs_map, s47, eb, g1, g2]; repeat' (refine kont_next ?_ <;> (try simp only [go_sem, Nat.add_assoc, reduceIte, reduceCtorEq, Nat.reduceEqDiff, Nat.reduceAdd, Nat.reduceMul, Nat.reduceSub, Nat.reduceLeDiff, Nat.reduceLT, Nat.reduceBEq, Nat.reduceBNe, Int.reduceLE, Int.reduceLT, Int.reduceToNat, Int.reduceEq, Int.reduceNe, Int.reduceNeg, Nat.reduceEqDiff, Int.reduceAdd, Int.reduceSub, Int.reduceMul, Int.cast_ofNat_Int, Int.natCast_zero, a23, Tv.cs, Vl.c, Vl.cs_map, s47, eb, g1, g2])))
  have g2 := decide_eq_false h2
  rw [decide_eq_true (show (tags.length : Int) ≤ 32 by omega)]
  by_cases h3 : loops < 0
  · have g3 := decide_eq_true h3
    rw [decide_eq_false (show ¬ 0 ≤ loops by omega)]
    (simp only [go_sem, Nat.add_assoc, reduceIte, reduceCtorEq, Nat.reduceEqDiff, Nat.reduceAdd, Nat.reduceMul, Nat.reduceSub, Nat.reduceLeDiff, Nat.reduceLT, Nat.reduceBEq, Nat.reduceBNe, Int.reduceLE, Int.reduceLT, Int.reduceToNat, Int.reduceEq, Int.reduceNe, Int.reduceNeg, Nat.reduceEqDiff, Int.reduceAdd, Int.reduceSub, Int.reduceMul, Int.cast_ofNat_Int, Int.natCast_zero, a23, Tv.cs, Vl.c, Vl.cs_map, s47, eb, g1, g2, g3]; repeat' (refine kont_next ?_ <;> (try simp only [go_sem, Nat.add_assoc, reduceIte, reduceCtorEq, Nat.reduceEqDiff, Nat.reduceAdd, Nat.reduceMul, Nat.reduceSub, Nat.reduceLeDiff, Nat.reduceLT, Nat.reduceBEq, Nat.reduceBNe, Int.reduceLE, Int.reduceLT, Int.reduceToNat, Int.reduceEq, Int.reduceNe, Int.reduceNeg, Nat.reduceEqDiff, Int.reduceAdd, Int.reduceSub, Int.reduceMul, Int.cast_ofNat_Int, Int.natCast_zero, a23, Tv.cs, Vl.c, Vl.cs_map, s47, eb, g1, g2, g3])))
  have g3 := decide_eq_false h3
  rw [decide_eq_true (show 0 ≤ loops by omega)]
  cases h4 : ((path.map Vl.p).all fun x => mayV x 0) with
  | false =>
    rw [h4] at ec
    (simp only [go_sem, Nat.add_assoc, reduceIte, reduceCtorEq, Nat.reduceEqDiff, Nat.reduceAdd, Nat.reduceMul, Nat.reduceSub, Nat.reduceLeDiff, Nat.reduceLT, Nat.reduceBEq, Nat.reduceBNe, Int.reduceLE, Int.reduceLT, Int.reduceToNat, Int.reduceEq, Int.reduceNe, Int.reduceNeg, Nat.reduceEqDiff, Int.reduceAdd, Int.reduceSub, Int.reduceMul, Int.cast_ofNat_Int, Int.natCast_zero, a23, Tv.cs, Vl.c, Vl.cs_map, s47, eb, g1, g2, g3, s48, ec]; repeat' (refine kont_next ?_ <;> (try simp only [go_sem, Nat.add_assoc, reduceIte, reduceCtorEq, Nat.reduceEqDiff, Nat.reduceAdd, Nat.reduceMul, Nat.reduceSub, Nat.reduceLeDiff, Nat.reduceLT, Nat.reduceBEq, Nat.reduceBNe, Int.reduceLE, Int.reduceLT, Int.reduceToNat, Int.reduceEq, Int.reduceNe, Int.reduceNeg, Nat.reduceEqDiff, Int.reduceAdd, Int.reduceSub, Int.reduceMul, Int.cast_ofNat_Int, Int.natCast_zero, a23, Tv.cs, Vl.c, Vl.cs_map, s47, eb, g1, g2, g3, s48, ec])))
  | true =>
  rw [h4] at ec
  simp only [Bool.true_and]
  (simp only [go_sem, Nat.add_assoc, reduceIte, reduceCtorEq, Nat.reduceEqDiff, Nat.reduceAdd, Nat.reduceMul, Nat.reduceSub, Nat.reduceLeDiff, Nat.reduceLT, Nat.reduceBEq, Nat.reduceBNe, Int.reduceLE, Int.reduceLT, Int.reduceToNat, Int.reduceEq, Int.reduceNe, Int.reduceNeg, Nat.reduceEqDiff, Int.reduceAdd, Int.reduceSub, Int.reduceMul, Int.cast_ofNat_Int, Int.natCast_zero, a23, Tv.cs, Vl.c, Vl.cs_map, s47, eb, g1, g2, g3, s48, ec]; repeat' (refine kont_next ?_ <;> (try simp only [go_sem, Nat.add_assoc, reduceIte, reduceCtorEq, Nat.reduceEqDiff, Nat.reduceAdd, Nat.reduceMul, Nat.reduceSub, Nat.reduceLeDiff, Nat.reduceLT, Nat.reduceBEq, Nat.reduceBNe, Int.reduceLE, Int.reduceLT, Int.reduceToNat, Int.reduceEq, Int.reduceNe, Int.reduceNeg, Nat.reduceEqDiff, Int.reduceAdd, Int.reduceSub, Int.reduceMul, Int.cast_ofNat_Int, Int.natCast_zero, a23, Tv.cs, Vl.c, Vl.cs_map, s47, eb, g1, g2, g3, s48, ec])))
  refine kloop_inv (ι := Nat) (fun i => [.om (seenM (tags.take i)), .sl tk tz (tags.map tagC), .i .i64 tags.length, .i .i64 i]) (fun i => i ≤ tags.length ∧ tagsOk ((tags.take i).map Prod.fst) ((tags.drop i).map tagP) = tagsOk [] (tags.map tagP)) (fun i => tags.length - i) 0 rfl ⟨by omega, rfl⟩ ?_
  rintro i ⟨hi, hT⟩
  by_cases hlt : i < tags.length
  · obtain ⟨c, gc⟩ := get_lt3 hlt
    have r1 : decide ((i : Int) < (tags.length : Int)) = true := decide_eq_true (by omega)
    have b1 : (0 : Int) ≤ (i : Int) := by omega
    have hw := wrap_succ (k := i) (by omega)
    have hnx := seen_next gc
    rw [tagsOk_take gc] at hT
    obtain ⟨hco, hcl⟩ := hto c (List.mem_of_getElem? gc)
    obtain ⟨nm, u⟩ := c
    simp only at hT hco hcl hnx
    have en := e34 nm (by omega)
    rw [nameB_eq] at en
    have ebu := e47 u hco
    obtain ⟨uk, un, us, ukk, uz, ul⟩ := u
    simp only [Vl.c, Vl.cs_map] at ebu
    cases hn : nameR nm with
    | false =>
      rw [hn] at en hT
      simp only [Bool.false_and] at hT
      rw [← hT]
      (simp only [go_sem, Nat.add_assoc, reduceIte, reduceCtorEq, Nat.reduceEqDiff, Nat.reduceAdd, Nat.reduceMul, Nat.reduceSub, Nat.reduceLeDiff, Nat.reduceLT, Nat.reduceBEq, Nat.reduceBNe, Int.reduceLE, Int.reduceLT, Int.reduceToNat, Int.reduceEq, Int.reduceNe, Int.reduceNeg, Nat.reduceEqDiff, Int.reduceAdd, Int.reduceSub, Int.reduceMul, Int.cast_ofNat_Int, Int.natCast_zero, r1, b1, gc, hts.1, tagC, Vl.c, Vl.cs_map, s34, en]; repeat' (refine kont_next ?_ <;> (try simp only [go_sem, Nat.add_assoc, reduceIte, reduceCtorEq, Nat.reduceEqDiff, Nat.reduceAdd, Nat.reduceMul, Nat.reduceSub, Nat.reduceLeDiff, Nat.reduceLT, Nat.reduceBEq, Nat.reduceBNe, Int.reduceLE, Int.reduceLT, Int.reduceToNat, Int.reduceEq, Int.reduceNe, Int.reduceNeg, Nat.reduceEqDiff, Int.reduceAdd, Int.reduceSub, Int.reduceMul, Int.cast_ofNat_Int, Int.natCast_zero, r1, b1, gc, hts.1, tagC, Vl.c, Vl.cs_map, s34, en])))
    | true =>
    rw [hn] at en hT
    obtain ⟨f1, f2⟩ := find_seen nm (tags.take i) 0
    by_cases hm : nm ∈ (tags.take i).map Prod.fst
    · obtain ⟨j, hj⟩ := f2 hm
      rw [show ((tags.take i).map Prod.fst).contains nm = true by simpa using hm] at hT
      simp only [Bool.not_true, Bool.and_false, Bool.false_and] at hT
      rw [← hT]
      (simp only [go_sem, Nat.add_assoc, reduceIte, reduceCtorEq, Nat.reduceEqDiff, Nat.reduceAdd, Nat.reduceMul, Nat.reduceSub, Nat.reduceLeDiff, Nat.reduceLT, Nat.reduceBEq, Nat.reduceBNe, Int.reduceLE, Int.reduceLT, Int.reduceToNat, Int.reduceEq, Int.reduceNe, Int.reduceNeg, Nat.reduceEqDiff, Int.reduceAdd, Int.reduceSub, Int.reduceMul, Int.cast_ofNat_Int, Int.natCast_zero, r1, b1, gc, hts.1, tagC, Vl.c, Vl.cs_map, s34, en, hj]; repeat' (refine kont_next ?_ <;> (try simp only [go_sem, Nat.add_assoc, reduceIte, reduceCtorEq, Nat.reduceEqDiff, Nat.reduceAdd, Nat.reduceMul, Nat.reduceSub, Nat.reduceLeDiff, Nat.reduceLT, Nat.reduceBEq, Nat.reduceBNe, Int.reduceLE, Int.reduceLT, Int.reduceToNat, Int.reduceEq, Int.reduceNe, Int.reduceNeg, Nat.reduceEqDiff, Int.reduceAdd, Int.reduceSub, Int.reduceMul, Int.cast_ofNat_Int, Int.natCast_zero, r1, b1, gc, hts.1, tagC, Vl.c, Vl.cs_map, s34, en, hj])))
    · have hj := f1 hm
      rw [show ((tags.take i).map Prod.fst).contains nm = false by simpa using hm] at hT
      cases hbu : mayV (Vl.mk uk un us ukk uz ul).p 0 with
      | false =>
        rw [hbu] at ebu hT
        simp only [Bool.and_false, Bool.false_and] at hT
        rw [← hT]
        (simp only [go_sem, Nat.add_assoc, reduceIte, reduceCtorEq, Nat.reduceEqDiff, Nat.reduceAdd, Nat.reduceMul, Nat.reduceSub, Nat.reduceLeDiff, Nat.reduceLT, Nat.reduceBEq, Nat.reduceBNe, Int.reduceLE, Int.reduceLT, Int.reduceToNat, Int.reduceEq, Int.reduceNe, Int.reduceNeg, Nat.reduceEqDiff, Int.reduceAdd, Int.reduceSub, Int.reduceMul, Int.cast_ofNat_Int, Int.natCast_zero, r1, b1, gc, hts.1, tagC, Vl.c, Vl.cs_map, s34, en, hj, s47, ebu]; repeat' (refine kont_next ?_ <;> (try simp only [go_sem, Nat.add_assoc, reduceIte, reduceCtorEq, Nat.reduceEqDiff, Nat.reduceAdd, Nat.reduceMul, Nat.reduceSub, Nat.reduceLeDiff, Nat.reduceLT, Nat.reduceBEq, Nat.reduceBNe, Int.reduceLE, Int.reduceLT, Int.reduceToNat, Int.reduceEq, Int.reduceNe, Int.reduceNeg, Nat.reduceEqDiff, Int.reduceAdd, Int.reduceSub, Int.reduceMul, Int.cast_ofNat_Int, Int.natCast_zero, r1, b1, gc, hts.1, tagC, Vl.c, Vl.cs_map, s34, en, hj, s47, ebu])))
      | true =>
        rw [hbu] at ebu hT
        simp only [Bool.not_false, Bool.and_true, Bool.true_and] at hT
        (simp only [go_sem, Nat.add_assoc, reduceIte, reduceCtorEq, Nat.reduceEqDiff, Nat.reduceAdd, Nat.reduceMul, Nat.reduceSub, Nat.reduceLeDiff, Nat.reduceLT, Nat.reduceBEq, Nat.reduceBNe, Int.reduceLE, Int.reduceLT, Int.reduceToNat, Int.reduceEq, Int.reduceNe, Int.reduceNeg, Nat.reduceEqDiff, Int.reduceAdd, Int.reduceSub, Int.reduceMul, Int.cast_ofNat_Int, Int.natCast_zero, r1, b1, gc, hts.1, tagC, Vl.c, Vl.cs_map, s34, en, hj, s47, ebu, hw]; repeat' (refine kont_next ?_ <;> (try simp only [go_sem, Nat.add_assoc, reduceIte, reduceCtorEq, Nat.reduceEqDiff, Nat.reduceAdd, Nat.reduceMul, Nat.reduceSub, Nat.reduceLeDiff, Nat.reduceLT, Nat.reduceBEq, Nat.reduceBNe, Int.reduceLE, Int.reduceLT, Int.reduceToNat, Int.reduceEq, Int.reduceNe, Int.reduceNeg, Nat.reduceEqDiff, Int.reduceAdd, Int.reduceSub, Int.reduceMul, Int.cast_ofNat_Int, Int.natCast_zero, r1, b1, gc, hts.1, tagC, Vl.c, Vl.cs_map, s34, en, hj, s47, ebu, hw])))
        exact ⟨i + 1, by rw [hnx], ⟨by omega, hT⟩, by omega⟩
  · have r1 : decide ((i : Int) < (tags.length : Int)) = false := decide_eq_false (by omega)
    rw [List.drop_of_length_le (by omega)] at hT
    rw [← hT]
    (simp only [go_sem, Nat.add_assoc, reduceIte, reduceCtorEq, Nat.reduceEqDiff, Nat.reduceAdd, Nat.reduceMul, Nat.reduceSub, Nat.reduceLeDiff, Nat.reduceLT, Nat.reduceBEq, Nat.reduceBNe, Int.reduceLE, Int.reduceLT, Int.reduceToNat, Int.reduceEq, Int.reduceNe, Int.reduceNeg, Nat.reduceEqDiff, Int.reduceAdd, Int.reduceSub, Int.reduceMul, Int.cast_ofNat_Int, Int.natCast_zero, r1]; repeat' (refine kont_next ?_ <;> (try simp only [go_sem, Nat.add_assoc, reduceIte, reduceCtorEq, Nat.reduceEqDiff, Nat.reduceAdd, Nat.reduceMul, Nat.reduceSub, Nat.reduceLeDiff, Nat.reduceLT, Nat.reduceBEq, Nat.reduceBNe, Int.reduceLE, Int.reduceLT, Int.reduceToNat, Int.reduceEq, Int.reduceNe, Int.reduceNeg, Nat.reduceEqDiff, Int.reduceAdd, Int.reduceSub, Int.reduceMul, Int.cast_ofNat_Int, Int.natCast_zero, r1])))
    rfl
end Go.Proofs.YtmdbfbcolofelaaDoor
