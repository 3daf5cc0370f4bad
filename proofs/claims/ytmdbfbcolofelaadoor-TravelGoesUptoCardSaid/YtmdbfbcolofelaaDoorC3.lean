/-
  The reference's answer: which traversers may be.
-/
import Derived.Test.YtmdbfbcolofelaaDoorC2
set_option linter.unusedSimpArgs false
set_option linter.unusedVariables false
set_option maxHeartbeats 8000000
set_option maxRecDepth 100000
namespace Go.Proofs.YtmdbfbcolofelaaDoor
open Go.Abs

theorem all_drop {l : List Vl} {i : Nat} {x : Vl} (h : l[i]? = some x) : ((l.drop i).all fun x => mayV x.p 0) = (mayV x.p 0 && (l.drop (i + 1)).all fun x => mayV x.p 0) := by
  rw [drop_get3 h, List.all_cons]
theorem mem_take {l : List (List UInt8 × Vl)} {k : Nat} {x : List UInt8 × Vl} (nm : List UInt8) (h : l[k]? = some x) : ((l.take (k + 1)).map Prod.fst).contains nm = (((l.take k).map Prod.fst).contains nm || decide (x.1 = nm)) := by
  rw [take_get h, List.map_append]
  simp only [List.map_cons, List.map_nil, List.contains_eq_mem, List.mem_append, List.mem_singleton]
  rw [Bool.decide_or]
  congr 1
  exact decide_eq_decide.2 eq_comm
theorem all_mapP (l : List Vl) : ((l.map Vl.p).all fun x => mayV x 0) = l.all fun x => mayV x.p 0 := by
  rw [List.all_map]; rfl
theorem e21 (t : Tv) (h : t.ok) : acall S 21 [.agg t.cs] = some (.i .i64 (if mayT t.p then 0 else 180), []) := by
  obtain ⟨hv, hpl, htl, hps, hts, hpo, hto⟩ := h
  have hL : LIM = 274877906944 := rfl
  obtain ⟨v, pk, pz, path, tk, tz, tags, loops⟩ := t
  simp only at hv hpl htl hps hts hpo hto
  have eb := e22 v hv
  have hmay : mayT (Tv.p ⟨v, pk, pz, path, tk, tz, tags, loops⟩) = (mayV v.p 0 && decide ((path.length : Int) ≤ 256) && decide ((tags.length : Int) ≤ 32) && decide (0 ≤ loops) && (path.all fun x => mayV x.p 0) && tagsOk [] (tags.map tagP)) := by
    show (mayV v.p 0 && decide ((((path.map Vl.p).length : Nat) : Int) ≤ 256) && decide ((((tags.map tagP).length : Nat) : Int) ≤ 32) && decide (0 ≤ loops) && ((path.map Vl.p).all fun x => mayV x 0) && tagsOk [] (tags.map tagP)) = _
    rw [show decide ((((path.map Vl.p).length : Nat) : Int) ≤ 256) = decide ((path.length : Int) ≤ 256) from decide_eq_decide.2 (by rw [List.length_map]), show decide ((((tags.map tagP).length : Nat) : Int) ≤ 32) = decide ((tags.length : Int) ≤ 32) from decide_eq_decide.2 (by rw [List.length_map]), all_mapP]
  rw [hmay]
  obtain ⟨vk, vn, vs, vkk, vz, vl⟩ := v
  simp only [Vl.c, Vl.cs_map] at eb
  refine W_eq (g21 rfl ?_)
  have cells : (Tv.cs ⟨.mk vk vn vs vkk vz vl, pk, pz, path, tk, tz, tags, loops⟩) = [.i .i64 vk, .i .i64 vn, .str vs, .sl vkk vz (vl.map Vl.c), .sl pk pz (path.map Vl.c), .sl tk tz (tags.map tagC), .i .i64 loops] := by simp [Tv.cs, Vl.c, Vl.cs_map]
  rw [cells]
  clear cells hmay
  generalize hpre : (mayV (Vl.mk vk vn vs vkk vz vl).p 0 && decide ((path.length : Int) ≤ 256) && decide ((tags.length : Int) ≤ 32) && decide (0 ≤ loops)) = pre
  generalize hR1 : (pre && (path.all fun x => mayV x.p 0)) = R1
  have hcase : (mayV (Vl.mk vk vn vs vkk vz vl).p 0 = false ∧ pre = false) ∨ (mayV (Vl.mk vk vn vs vkk vz vl).p 0 = true ∧ decide ((path.length : Int) ≤ 256) = false ∧ pre = false) ∨
      (mayV (Vl.mk vk vn vs vkk vz vl).p 0 = true ∧ decide ((path.length : Int) ≤ 256) = true ∧ decide ((tags.length : Int) ≤ 32) = false ∧ pre = false) ∨ (mayV (Vl.mk vk vn vs vkk vz vl).p 0 = true ∧ decide ((path.length : Int) ≤ 256) = true ∧ decide ((tags.length : Int) ≤ 32) = true ∧ decide (0 ≤ loops) = false ∧ pre = false) ∨
      (mayV (Vl.mk vk vn vs vkk vz vl).p 0 = true ∧ decide ((path.length : Int) ≤ 256) = true ∧ decide ((tags.length : Int) ≤ 32) = true ∧ decide (0 ≤ loops) = true ∧ pre = true) := by
    revert hpre
    cases mayV (Vl.mk vk vn vs vkk vz vl).p 0 <;> cases decide ((path.length : Int) ≤ 256) <;> cases decide ((tags.length : Int) ≤ 32) <;> cases decide (0 ≤ loops) <;> simp
  clear hpre
  rcases hcase with ⟨c1, rfl⟩ | ⟨c1, c2, rfl⟩ | ⟨c1, c2, c3, rfl⟩ | ⟨c1, c2, c3, c4, rfl⟩ | ⟨c1, c2, c3, c4, rfl⟩
  all_goals (rw [c1] at eb)
  · (simp only [go_sem, Nat.add_assoc, reduceIte, reduceCtorEq, Nat.reduceEqDiff, Nat.reduceAdd, Nat.reduceMul, Nat.reduceSub, Nat.reduceLeDiff, Nat.reduceLT, Nat.reduceBEq, Nat.reduceBNe, Int.reduceLE, Int.reduceLT, Int.reduceToNat, Int.reduceEq, Int.reduceNe, Int.reduceNeg, Nat.reduceEqDiff, Int.reduceAdd, Int.reduceSub, Int.reduceMul, Int.cast_ofNat_Int, Int.natCast_zero, a21, s22, eb]; repeat' (refine kont_next ?_ <;> (try simp only [go_sem, Nat.add_assoc, reduceIte, reduceCtorEq, Nat.reduceEqDiff, Nat.reduceAdd, Nat.reduceMul, Nat.reduceSub, Nat.reduceLeDiff, Nat.reduceLT, Nat.reduceBEq, Nat.reduceBNe, Int.reduceLE, Int.reduceLT, Int.reduceToNat, Int.reduceEq, Int.reduceNe, Int.reduceNeg, Nat.reduceEqDiff, Int.reduceAdd, Int.reduceSub, Int.reduceMul, Int.cast_ofNat_Int, Int.natCast_zero, a21, s22, eb])))
    simp only [Bool.false_and] at hR1
    subst hR1
    refine kloop_inv (ι := Unit) (fun _ => [.bx [.i .i64 vk, .i .i64 vn, .str vs, .sl vkk vz (vl.map Vl.c), .sl pk pz (path.map Vl.c), .sl tk tz (tags.map tagC), .i .i64 loops], .b false, .i .i64 0]) (fun _ => True) (fun _ => 0) () rfl trivial ?_
    rintro _ _
    (simp only [go_sem, Nat.add_assoc, reduceIte, reduceCtorEq, Nat.reduceEqDiff, Nat.reduceAdd, Nat.reduceMul, Nat.reduceSub, Nat.reduceLeDiff, Nat.reduceLT, Nat.reduceBEq, Nat.reduceBNe, Int.reduceLE, Int.reduceLT, Int.reduceToNat, Int.reduceEq, Int.reduceNe, Int.reduceNeg, Nat.reduceEqDiff, Int.reduceAdd, Int.reduceSub, Int.reduceMul, Int.cast_ofNat_Int, Int.natCast_zero]; repeat' (refine kont_next ?_ <;> (try simp only [go_sem, Nat.add_assoc, reduceIte, reduceCtorEq, Nat.reduceEqDiff, Nat.reduceAdd, Nat.reduceMul, Nat.reduceSub, Nat.reduceLeDiff, Nat.reduceLT, Nat.reduceBEq, Nat.reduceBNe, Int.reduceLE, Int.reduceLT, Int.reduceToNat, Int.reduceEq, Int.reduceNe, Int.reduceNeg, Nat.reduceEqDiff, Int.reduceAdd, Int.reduceSub, Int.reduceMul, Int.cast_ofNat_Int, Int.natCast_zero])))
    refine kloop_inv (ι := Unit) (fun _ => [.bx [.i .i64 vk, .i .i64 vn, .str vs, .sl vkk vz (vl.map Vl.c), .sl pk pz (path.map Vl.c), .sl tk tz (tags.map tagC), .i .i64 loops], .b false, .i .i64 0]) (fun _ => True) (fun _ => 0) () rfl trivial ?_
    rintro _ _
    (simp only [go_sem, Nat.add_assoc, reduceIte, reduceCtorEq, Nat.reduceEqDiff, Nat.reduceAdd, Nat.reduceMul, Nat.reduceSub, Nat.reduceLeDiff, Nat.reduceLT, Nat.reduceBEq, Nat.reduceBNe, Int.reduceLE, Int.reduceLT, Int.reduceToNat, Int.reduceEq, Int.reduceNe, Int.reduceNeg, Nat.reduceEqDiff, Int.reduceAdd, Int.reduceSub, Int.reduceMul, Int.cast_ofNat_Int, Int.natCast_zero]; repeat' (refine kont_next ?_ <;> (try simp only [go_sem, Nat.add_assoc, reduceIte, reduceCtorEq, Nat.reduceEqDiff, Nat.reduceAdd, Nat.reduceMul, Nat.reduceSub, Nat.reduceLeDiff, Nat.reduceLT, Nat.reduceBEq, Nat.reduceBNe, Int.reduceLE, Int.reduceLT, Int.reduceToNat, Int.reduceEq, Int.reduceNe, Int.reduceNeg, Nat.reduceEqDiff, Int.reduceAdd, Int.reduceSub, Int.reduceMul, Int.cast_ofNat_Int, Int.natCast_zero])))
  · (simp only [go_sem, Nat.add_assoc, reduceIte, reduceCtorEq, Nat.reduceEqDiff, Nat.reduceAdd, Nat.reduceMul, Nat.reduceSub, Nat.reduceLeDiff, Nat.reduceLT, Nat.reduceBEq, Nat.reduceBNe, Int.reduceLE, Int.reduceLT, Int.reduceToNat, Int.reduceEq, Int.reduceNe, Int.reduceNeg, Nat.reduceEqDiff, Int.reduceAdd, Int.reduceSub, Int.reduceMul, Int.cast_ofNat_Int, Int.natCast_zero, a21, s22, eb, c2]; repeat' (refine kont_next ?_ <;> (try simp only [go_sem, Nat.add_assoc, reduceIte, reduceCtorEq, Nat.reduceEqDiff, Nat.reduceAdd, Nat.reduceMul, Nat.reduceSub, Nat.reduceLeDiff, Nat.reduceLT, Nat.reduceBEq, Nat.reduceBNe, Int.reduceLE, Int.reduceLT, Int.reduceToNat, Int.reduceEq, Int.reduceNe, Int.reduceNeg, Nat.reduceEqDiff, Int.reduceAdd, Int.reduceSub, Int.reduceMul, Int.cast_ofNat_Int, Int.natCast_zero, a21, s22, eb, c2])))
    simp only [Bool.false_and] at hR1
    subst hR1
    refine kloop_inv (ι := Unit) (fun _ => [.bx [.i .i64 vk, .i .i64 vn, .str vs, .sl vkk vz (vl.map Vl.c), .sl pk pz (path.map Vl.c), .sl tk tz (tags.map tagC), .i .i64 loops], .b false, .i .i64 0]) (fun _ => True) (fun _ => 0) () rfl trivial ?_
    rintro _ _
    (simp only [go_sem, Nat.add_assoc, reduceIte, reduceCtorEq, Nat.reduceEqDiff, Nat.reduceAdd, Nat.reduceMul, Nat.reduceSub, Nat.reduceLeDiff, Nat.reduceLT, Nat.reduceBEq, Nat.reduceBNe, Int.reduceLE, Int.reduceLT, Int.reduceToNat, Int.reduceEq, Int.reduceNe, Int.reduceNeg, Nat.reduceEqDiff, Int.reduceAdd, Int.reduceSub, Int.reduceMul, Int.cast_ofNat_Int, Int.natCast_zero]; repeat' (refine kont_next ?_ <;> (try simp only [go_sem, Nat.add_assoc, reduceIte, reduceCtorEq, Nat.reduceEqDiff, Nat.reduceAdd, Nat.reduceMul, Nat.reduceSub, Nat.reduceLeDiff, Nat.reduceLT, Nat.reduceBEq, Nat.reduceBNe, Int.reduceLE, Int.reduceLT, Int.reduceToNat, Int.reduceEq, Int.reduceNe, Int.reduceNeg, Nat.reduceEqDiff, Int.reduceAdd, Int.reduceSub, Int.reduceMul, Int.cast_ofNat_Int, Int.natCast_zero])))
    refine kloop_inv (ι := Unit) (fun _ => [.bx [.i .i64 vk, .i .i64 vn, .str vs, .sl vkk vz (vl.map Vl.c), .sl pk pz (path.map Vl.c), .sl tk tz (tags.map tagC), .i .i64 loops], .b false, .i .i64 0]) (fun _ => True) (fun _ => 0) () rfl trivial ?_
    rintro _ _
    (simp only [go_sem, Nat.add_assoc, reduceIte, reduceCtorEq, Nat.reduceEqDiff, Nat.reduceAdd, Nat.reduceMul, Nat.reduceSub, Nat.reduceLeDiff, Nat.reduceLT, Nat.reduceBEq, Nat.reduceBNe, Int.reduceLE, Int.reduceLT, Int.reduceToNat, Int.reduceEq, Int.reduceNe, Int.reduceNeg, Nat.reduceEqDiff, Int.reduceAdd, Int.reduceSub, Int.reduceMul, Int.cast_ofNat_Int, Int.natCast_zero]; repeat' (refine kont_next ?_ <;> (try simp only [go_sem, Nat.add_assoc, reduceIte, reduceCtorEq, Nat.reduceEqDiff, Nat.reduceAdd, Nat.reduceMul, Nat.reduceSub, Nat.reduceLeDiff, Nat.reduceLT, Nat.reduceBEq, Nat.reduceBNe, Int.reduceLE, Int.reduceLT, Int.reduceToNat, Int.reduceEq, Int.reduceNe, Int.reduceNeg, Nat.reduceEqDiff, Int.reduceAdd, Int.reduceSub, Int.reduceMul, Int.cast_ofNat_Int, Int.natCast_zero])))
  · (simp only [go_sem, Nat.add_assoc, reduceIte, reduceCtorEq, Nat.reduceEqDiff, Nat.reduceAdd, Nat.reduceMul, Nat.reduceSub, Nat.reduceLeDiff, Nat.reduceLT, Nat.reduceBEq, Nat.reduceBNe, Int.reduceLE, Int.reduceLT, Int.reduceToNat, Int.reduceEq, Int.reduceNe, Int.reduceNeg, Nat.reduceEqDiff, Int.reduceAdd, Int.reduceSub, Int.reduceMul, Int.cast_ofNat_Int, Int.natCast_zero, a21, s22, eb, c2, c3]; repeat' (refine kont_next ?_ <;> (try simp only [go_sem, Nat.add_assoc, reduceIte, reduceCtorEq, Nat.reduceEqDiff, Nat.reduceAdd, Nat.reduceMul, Nat.reduceSub, Nat.reduceLeDiff, Nat.reduceLT, Nat.reduceBEq, Nat.reduceBNe, Int.reduceLE, Int.reduceLT, Int.reduceToNat, Int.reduceEq, Int.reduceNe, Int.reduceNeg, Nat.reduceEqDiff, Int.reduceAdd, Int.reduceSub, Int.reduceMul, Int.cast_ofNat_Int, Int.natCast_zero, a21, s22, eb, c2, c3])))
    simp only [Bool.false_and] at hR1
    subst hR1
    refine kloop_inv (ι := Unit) (fun _ => [.bx [.i .i64 vk, .i .i64 vn, .str vs, .sl vkk vz (vl.map Vl.c), .sl pk pz (path.map Vl.c), .sl tk tz (tags.map tagC), .i .i64 loops], .b false, .i .i64 0]) (fun _ => True) (fun _ => 0) () rfl trivial ?_
    rintro _ _
    (simp only [go_sem, Nat.add_assoc, reduceIte, reduceCtorEq, Nat.reduceEqDiff, Nat.reduceAdd, Nat.reduceMul, Nat.reduceSub, Nat.reduceLeDiff, Nat.reduceLT, Nat.reduceBEq, Nat.reduceBNe, Int.reduceLE, Int.reduceLT, Int.reduceToNat, Int.reduceEq, Int.reduceNe, Int.reduceNeg, Nat.reduceEqDiff, Int.reduceAdd, Int.reduceSub, Int.reduceMul, Int.cast_ofNat_Int, Int.natCast_zero]; repeat' (refine kont_next ?_ <;> (try simp only [go_sem, Nat.add_assoc, reduceIte, reduceCtorEq, Nat.reduceEqDiff, Nat.reduceAdd, Nat.reduceMul, Nat.reduceSub, Nat.reduceLeDiff, Nat.reduceLT, Nat.reduceBEq, Nat.reduceBNe, Int.reduceLE, Int.reduceLT, Int.reduceToNat, Int.reduceEq, Int.reduceNe, Int.reduceNeg, Nat.reduceEqDiff, Int.reduceAdd, Int.reduceSub, Int.reduceMul, Int.cast_ofNat_Int, Int.natCast_zero])))
    refine kloop_inv (ι := Unit) (fun _ => [.bx [.i .i64 vk, .i .i64 vn, .str vs, .sl vkk vz (vl.map Vl.c), .sl pk pz (path.map Vl.c), .sl tk tz (tags.map tagC), .i .i64 loops], .b false, .i .i64 0]) (fun _ => True) (fun _ => 0) () rfl trivial ?_
    rintro _ _
    (simp only [go_sem, Nat.add_assoc, reduceIte, reduceCtorEq, Nat.reduceEqDiff, Nat.reduceAdd, Nat.reduceMul, Nat.reduceSub, Nat.reduceLeDiff, Nat.reduceLT, Nat.reduceBEq, Nat.reduceBNe, Int.reduceLE, Int.reduceLT, Int.reduceToNat, Int.reduceEq, Int.reduceNe, Int.reduceNeg, Nat.reduceEqDiff, Int.reduceAdd, Int.reduceSub, Int.reduceMul, Int.cast_ofNat_Int, Int.natCast_zero]; repeat' (refine kont_next ?_ <;> (try simp only [go_sem, Nat.add_assoc, reduceIte, reduceCtorEq, Nat.reduceEqDiff, Nat.reduceAdd, Nat.reduceMul, Nat.reduceSub, Nat.reduceLeDiff, Nat.reduceLT, Nat.reduceBEq, Nat.reduceBNe, Int.reduceLE, Int.reduceLT, Int.reduceToNat, Int.reduceEq, Int.reduceNe, Int.reduceNeg, Nat.reduceEqDiff, Int.reduceAdd, Int.reduceSub, Int.reduceMul, Int.cast_ofNat_Int, Int.natCast_zero])))
  · (simp only [go_sem, Nat.add_assoc, reduceIte, reduceCtorEq, Nat.reduceEqDiff, Nat.reduceAdd, Nat.reduceMul, Nat.reduceSub, Nat.reduceLeDiff, Nat.reduceLT, Nat.reduceBEq, Nat.reduceBNe, Int.reduceLE, Int.reduceLT, Int.reduceToNat, Int.reduceEq, Int.reduceNe, Int.reduceNeg, Nat.reduceEqDiff, Int.reduceAdd, Int.reduceSub, Int.reduceMul, Int.cast_ofNat_Int, Int.natCast_zero, a21, s22, eb, c2, c3, c4]; repeat' (refine kont_next ?_ <;> (try simp only [go_sem, Nat.add_assoc, reduceIte, reduceCtorEq, Nat.reduceEqDiff, Nat.reduceAdd, Nat.reduceMul, Nat.reduceSub, Nat.reduceLeDiff, Nat.reduceLT, Nat.reduceBEq, Nat.reduceBNe, Int.reduceLE, Int.reduceLT, Int.reduceToNat, Int.reduceEq, Int.reduceNe, Int.reduceNeg, Nat.reduceEqDiff, Int.reduceAdd, Int.reduceSub, Int.reduceMul, Int.cast_ofNat_Int, Int.natCast_zero, a21, s22, eb, c2, c3, c4])))
    simp only [Bool.false_and] at hR1
    subst hR1
    refine kloop_inv (ι := Unit) (fun _ => [.bx [.i .i64 vk, .i .i64 vn, .str vs, .sl vkk vz (vl.map Vl.c), .sl pk pz (path.map Vl.c), .sl tk tz (tags.map tagC), .i .i64 loops], .b false, .i .i64 0]) (fun _ => True) (fun _ => 0) () rfl trivial ?_
    rintro _ _
    (simp only [go_sem, Nat.add_assoc, reduceIte, reduceCtorEq, Nat.reduceEqDiff, Nat.reduceAdd, Nat.reduceMul, Nat.reduceSub, Nat.reduceLeDiff, Nat.reduceLT, Nat.reduceBEq, Nat.reduceBNe, Int.reduceLE, Int.reduceLT, Int.reduceToNat, Int.reduceEq, Int.reduceNe, Int.reduceNeg, Nat.reduceEqDiff, Int.reduceAdd, Int.reduceSub, Int.reduceMul, Int.cast_ofNat_Int, Int.natCast_zero]; repeat' (refine kont_next ?_ <;> (try simp only [go_sem, Nat.add_assoc, reduceIte, reduceCtorEq, Nat.reduceEqDiff, Nat.reduceAdd, Nat.reduceMul, Nat.reduceSub, Nat.reduceLeDiff, Nat.reduceLT, Nat.reduceBEq, Nat.reduceBNe, Int.reduceLE, Int.reduceLT, Int.reduceToNat, Int.reduceEq, Int.reduceNe, Int.reduceNeg, Nat.reduceEqDiff, Int.reduceAdd, Int.reduceSub, Int.reduceMul, Int.cast_ofNat_Int, Int.natCast_zero])))
    refine kloop_inv (ι := Unit) (fun _ => [.bx [.i .i64 vk, .i .i64 vn, .str vs, .sl vkk vz (vl.map Vl.c), .sl pk pz (path.map Vl.c), .sl tk tz (tags.map tagC), .i .i64 loops], .b false, .i .i64 0]) (fun _ => True) (fun _ => 0) () rfl trivial ?_
    rintro _ _
    (simp only [go_sem, Nat.add_assoc, reduceIte, reduceCtorEq, Nat.reduceEqDiff, Nat.reduceAdd, Nat.reduceMul, Nat.reduceSub, Nat.reduceLeDiff, Nat.reduceLT, Nat.reduceBEq, Nat.reduceBNe, Int.reduceLE, Int.reduceLT, Int.reduceToNat, Int.reduceEq, Int.reduceNe, Int.reduceNeg, Nat.reduceEqDiff, Int.reduceAdd, Int.reduceSub, Int.reduceMul, Int.cast_ofNat_Int, Int.natCast_zero]; repeat' (refine kont_next ?_ <;> (try simp only [go_sem, Nat.add_assoc, reduceIte, reduceCtorEq, Nat.reduceEqDiff, Nat.reduceAdd, Nat.reduceMul, Nat.reduceSub, Nat.reduceLeDiff, Nat.reduceLT, Nat.reduceBEq, Nat.reduceBNe, Int.reduceLE, Int.reduceLT, Int.reduceToNat, Int.reduceEq, Int.reduceNe, Int.reduceNeg, Nat.reduceEqDiff, Int.reduceAdd, Int.reduceSub, Int.reduceMul, Int.cast_ofNat_Int, Int.natCast_zero])))
  (simp only [go_sem, Nat.add_assoc, reduceIte, reduceCtorEq, Nat.reduceEqDiff, Nat.reduceAdd, Nat.reduceMul, Nat.reduceSub, Nat.reduceLeDiff, Nat.reduceLT, Nat.reduceBEq, Nat.reduceBNe, Int.reduceLE, Int.reduceLT, Int.reduceToNat, Int.reduceEq, Int.reduceNe, Int.reduceNeg, Nat.reduceEqDiff, Int.reduceAdd, Int.reduceSub, Int.reduceMul, Int.cast_ofNat_Int, Int.natCast_zero, a21, s22, eb, c2, c3, c4]; repeat' (refine kont_next ?_ <;> (try simp only [go_sem, Nat.add_assoc, reduceIte, reduceCtorEq, Nat.reduceEqDiff, Nat.reduceAdd, Nat.reduceMul, Nat.reduceSub, Nat.reduceLeDiff, Nat.reduceLT, Nat.reduceBEq, Nat.reduceBNe, Int.reduceLE, Int.reduceLT, Int.reduceToNat, Int.reduceEq, Int.reduceNe, Int.reduceNeg, Nat.reduceEqDiff, Int.reduceAdd, Int.reduceSub, Int.reduceMul, Int.cast_ofNat_Int, Int.natCast_zero, a21, s22, eb, c2, c3, c4])))
  clear c1 c2 c3 c4 eb hv
  refine kloop_inv (ι := Nat × Bool) (fun x => [.bx [.i .i64 vk, .i .i64 vn, .str vs, .sl vkk vz (vl.map Vl.c), .sl pk pz (path.map Vl.c), .sl tk tz (tags.map tagC), .i .i64 loops], .b x.2, .i .i64 x.1]) (fun x => x.1 ≤ path.length ∧ (x.2 && ((path.drop x.1).all fun x => mayV x.p 0)) = R1) (fun x => path.length - x.1) (0, true) rfl ⟨Nat.zero_le _, hR1⟩ ?_
  rintro ⟨i, b⟩ ⟨hi, hT⟩
  simp only at hi hT
  clear hR1
  cases b with
  | false =>
    simp only [Bool.false_and] at hT
    subst hT
    (simp only [go_sem, Nat.add_assoc, reduceIte, reduceCtorEq, Nat.reduceEqDiff, Nat.reduceAdd, Nat.reduceMul, Nat.reduceSub, Nat.reduceLeDiff, Nat.reduceLT, Nat.reduceBEq, Nat.reduceBNe, Int.reduceLE, Int.reduceLT, Int.reduceToNat, Int.reduceEq, Int.reduceNe, Int.reduceNeg, Nat.reduceEqDiff, Int.reduceAdd, Int.reduceSub, Int.reduceMul, Int.cast_ofNat_Int, Int.natCast_zero]; repeat' (refine kont_next ?_ <;> (try simp only [go_sem, Nat.add_assoc, reduceIte, reduceCtorEq, Nat.reduceEqDiff, Nat.reduceAdd, Nat.reduceMul, Nat.reduceSub, Nat.reduceLeDiff, Nat.reduceLT, Nat.reduceBEq, Nat.reduceBNe, Int.reduceLE, Int.reduceLT, Int.reduceToNat, Int.reduceEq, Int.reduceNe, Int.reduceNeg, Nat.reduceEqDiff, Int.reduceAdd, Int.reduceSub, Int.reduceMul, Int.cast_ofNat_Int, Int.natCast_zero])))
    refine kloop_inv (ι := Unit) (fun _ => [.bx [.i .i64 vk, .i .i64 vn, .str vs, .sl vkk vz (vl.map Vl.c), .sl pk pz (path.map Vl.c), .sl tk tz (tags.map tagC), .i .i64 loops], .b false, .i .i64 0]) (fun _ => True) (fun _ => 0) () rfl trivial ?_
    rintro _ _
    (simp only [go_sem, Nat.add_assoc, reduceIte, reduceCtorEq, Nat.reduceEqDiff, Nat.reduceAdd, Nat.reduceMul, Nat.reduceSub, Nat.reduceLeDiff, Nat.reduceLT, Nat.reduceBEq, Nat.reduceBNe, Int.reduceLE, Int.reduceLT, Int.reduceToNat, Int.reduceEq, Int.reduceNe, Int.reduceNeg, Nat.reduceEqDiff, Int.reduceAdd, Int.reduceSub, Int.reduceMul, Int.cast_ofNat_Int, Int.natCast_zero]; repeat' (refine kont_next ?_ <;> (try simp only [go_sem, Nat.add_assoc, reduceIte, reduceCtorEq, Nat.reduceEqDiff, Nat.reduceAdd, Nat.reduceMul, Nat.reduceSub, Nat.reduceLeDiff, Nat.reduceLT, Nat.reduceBEq, Nat.reduceBNe, Int.reduceLE, Int.reduceLT, Int.reduceToNat, Int.reduceEq, Int.reduceNe, Int.reduceNeg, Nat.reduceEqDiff, Int.reduceAdd, Int.reduceSub, Int.reduceMul, Int.cast_ofNat_Int, Int.natCast_zero])))
  | true =>
  by_cases hlt : i < path.length
  · obtain ⟨c, gc⟩ := get_lt3 hlt
    have r1 : decide ((i : Int) < (path.length : Int)) = true := decide_eq_true (by omega)
    have b1 : (0 : Int) ≤ (i : Int) := by omega
    have hw := wrap_succ (k := i) (by omega)
    rw [all_drop gc] at hT
    have ec := e22 c (hpo c (List.mem_of_getElem? gc))
    obtain ⟨ck, cn, cs, ckk, cz, cl⟩ := c
    simp only [Vl.c, Vl.cs_map] at ec
    cases hm : mayV (Vl.mk ck cn cs ckk cz cl).p 0 with
    | true =>
      rw [hm] at ec hT
      (simp only [go_sem, Nat.add_assoc, reduceIte, reduceCtorEq, Nat.reduceEqDiff, Nat.reduceAdd, Nat.reduceMul, Nat.reduceSub, Nat.reduceLeDiff, Nat.reduceLT, Nat.reduceBEq, Nat.reduceBNe, Int.reduceLE, Int.reduceLT, Int.reduceToNat, Int.reduceEq, Int.reduceNe, Int.reduceNeg, Nat.reduceEqDiff, Int.reduceAdd, Int.reduceSub, Int.reduceMul, Int.cast_ofNat_Int, Int.natCast_zero, r1, b1, gc, hps.1, Vl.c, Vl.cs_map, s22, ec, hw]; repeat' (refine kont_next ?_ <;> (try simp only [go_sem, Nat.add_assoc, reduceIte, reduceCtorEq, Nat.reduceEqDiff, Nat.reduceAdd, Nat.reduceMul, Nat.reduceSub, Nat.reduceLeDiff, Nat.reduceLT, Nat.reduceBEq, Nat.reduceBNe, Int.reduceLE, Int.reduceLT, Int.reduceToNat, Int.reduceEq, Int.reduceNe, Int.reduceNeg, Nat.reduceEqDiff, Int.reduceAdd, Int.reduceSub, Int.reduceMul, Int.cast_ofNat_Int, Int.natCast_zero, r1, b1, gc, hps.1, Vl.c, Vl.cs_map, s22, ec, hw])))
      exact ⟨(i + 1, true), rfl, ⟨by simp only; omega, by simpa using hT⟩, by simp only; omega⟩
    | false =>
      rw [hm] at ec hT
      (simp only [go_sem, Nat.add_assoc, reduceIte, reduceCtorEq, Nat.reduceEqDiff, Nat.reduceAdd, Nat.reduceMul, Nat.reduceSub, Nat.reduceLeDiff, Nat.reduceLT, Nat.reduceBEq, Nat.reduceBNe, Int.reduceLE, Int.reduceLT, Int.reduceToNat, Int.reduceEq, Int.reduceNe, Int.reduceNeg, Nat.reduceEqDiff, Int.reduceAdd, Int.reduceSub, Int.reduceMul, Int.cast_ofNat_Int, Int.natCast_zero, r1, b1, gc, hps.1, Vl.c, Vl.cs_map, s22, ec, hw]; repeat' (refine kont_next ?_ <;> (try simp only [go_sem, Nat.add_assoc, reduceIte, reduceCtorEq, Nat.reduceEqDiff, Nat.reduceAdd, Nat.reduceMul, Nat.reduceSub, Nat.reduceLeDiff, Nat.reduceLT, Nat.reduceBEq, Nat.reduceBNe, Int.reduceLE, Int.reduceLT, Int.reduceToNat, Int.reduceEq, Int.reduceNe, Int.reduceNeg, Nat.reduceEqDiff, Int.reduceAdd, Int.reduceSub, Int.reduceMul, Int.cast_ofNat_Int, Int.natCast_zero, r1, b1, gc, hps.1, Vl.c, Vl.cs_map, s22, ec, hw])))
      exact ⟨(i + 1, false), rfl, ⟨by simp only; omega, by simpa using hT⟩, by simp only; omega⟩
  have r1 : decide ((i : Int) < (path.length : Int)) = false := decide_eq_false (by omega)
  rw [List.drop_of_length_le (by omega)] at hT
  simp only [List.all_nil, Bool.and_true] at hT
  subst hT
  (simp only [go_sem, Nat.add_assoc, reduceIte, reduceCtorEq, Nat.reduceEqDiff, Nat.reduceAdd, Nat.reduceMul, Nat.reduceSub, Nat.reduceLeDiff, Nat.reduceLT, Nat.reduceBEq, Nat.reduceBNe, Int.reduceLE, Int.reduceLT, Int.reduceToNat, Int.reduceEq, Int.reduceNe, Int.reduceNeg, Nat.reduceEqDiff, Int.reduceAdd, Int.reduceSub, Int.reduceMul, Int.cast_ofNat_Int, Int.natCast_zero, r1]; repeat' (refine kont_next ?_ <;> (try simp only [go_sem, Nat.add_assoc, reduceIte, reduceCtorEq, Nat.reduceEqDiff, Nat.reduceAdd, Nat.reduceMul, Nat.reduceSub, Nat.reduceLeDiff, Nat.reduceLT, Nat.reduceBEq, Nat.reduceBNe, Int.reduceLE, Int.reduceLT, Int.reduceToNat, Int.reduceEq, Int.reduceNe, Int.reduceNeg, Nat.reduceEqDiff, Int.reduceAdd, Int.reduceSub, Int.reduceMul, Int.cast_ofNat_Int, Int.natCast_zero, r1])))
  clear r1 hlt hi
  refine kloop_inv (ι := Nat × Bool) (fun x => [.bx [.i .i64 vk, .i .i64 vn, .str vs, .sl vkk vz (vl.map Vl.c), .sl pk pz (path.map Vl.c), .sl tk tz (tags.map tagC), .i .i64 loops], .b x.2, .i .i64 x.1]) (fun x => x.1 ≤ tags.length ∧ (x.2 && tagsOk ((tags.take x.1).map Prod.fst) ((tags.drop x.1).map tagP)) = tagsOk [] (tags.map tagP)) (fun x => tags.length - x.1) (0, true) rfl ⟨Nat.zero_le _, by simp⟩ ?_
  rintro ⟨j, b⟩ ⟨hj, hT⟩
  simp only at hj hT
  cases b with
  | false =>
    simp only [Bool.false_and] at hT
    rw [← hT]
    (simp only [go_sem, Nat.add_assoc, reduceIte, reduceCtorEq, Nat.reduceEqDiff, Nat.reduceAdd, Nat.reduceMul, Nat.reduceSub, Nat.reduceLeDiff, Nat.reduceLT, Nat.reduceBEq, Nat.reduceBNe, Int.reduceLE, Int.reduceLT, Int.reduceToNat, Int.reduceEq, Int.reduceNe, Int.reduceNeg, Nat.reduceEqDiff, Int.reduceAdd, Int.reduceSub, Int.reduceMul, Int.cast_ofNat_Int, Int.natCast_zero]; repeat' (refine kont_next ?_ <;> (try simp only [go_sem, Nat.add_assoc, reduceIte, reduceCtorEq, Nat.reduceEqDiff, Nat.reduceAdd, Nat.reduceMul, Nat.reduceSub, Nat.reduceLeDiff, Nat.reduceLT, Nat.reduceBEq, Nat.reduceBNe, Int.reduceLE, Int.reduceLT, Int.reduceToNat, Int.reduceEq, Int.reduceNe, Int.reduceNeg, Nat.reduceEqDiff, Int.reduceAdd, Int.reduceSub, Int.reduceMul, Int.cast_ofNat_Int, Int.natCast_zero])))
  | true =>
  by_cases hlt : j < tags.length
  case neg =>
    have r1 : decide ((j : Int) < (tags.length : Int)) = false := decide_eq_false (by omega)
    rw [List.drop_of_length_le (by omega)] at hT
    simp only [List.map_nil, tagsOk, Bool.and_true] at hT
    rw [← hT]
    (simp only [go_sem, Nat.add_assoc, reduceIte, reduceCtorEq, Nat.reduceEqDiff, Nat.reduceAdd, Nat.reduceMul, Nat.reduceSub, Nat.reduceLeDiff, Nat.reduceLT, Nat.reduceBEq, Nat.reduceBNe, Int.reduceLE, Int.reduceLT, Int.reduceToNat, Int.reduceEq, Int.reduceNe, Int.reduceNeg, Nat.reduceEqDiff, Int.reduceAdd, Int.reduceSub, Int.reduceMul, Int.cast_ofNat_Int, Int.natCast_zero, r1]; repeat' (refine kont_next ?_ <;> (try simp only [go_sem, Nat.add_assoc, reduceIte, reduceCtorEq, Nat.reduceEqDiff, Nat.reduceAdd, Nat.reduceMul, Nat.reduceSub, Nat.reduceLeDiff, Nat.reduceLT, Nat.reduceBEq, Nat.reduceBNe, Int.reduceLE, Int.reduceLT, Int.reduceToNat, Int.reduceEq, Int.reduceNe, Int.reduceNeg, Nat.reduceEqDiff, Int.reduceAdd, Int.reduceSub, Int.reduceMul, Int.cast_ofNat_Int, Int.natCast_zero, r1])))
  obtain ⟨c, gc⟩ := get_lt3 hlt
  have r1 : decide ((j : Int) < (tags.length : Int)) = true := decide_eq_true (by omega)
  have b1 : (0 : Int) ≤ (j : Int) := by omega
  have hw := wrap_succ (k := j) (by omega)
  rw [tagsOk_take gc, Bool.true_and] at hT
  obtain ⟨hco, hcl⟩ := hto c (List.mem_of_getElem? gc)
  obtain ⟨nm, u⟩ := c
  simp only at hT hco hcl
  have en := e45 nm (by omega)
  have ebu := e22 u hco
  obtain ⟨uk, un, us, ukk, uz, ul⟩ := u
  simp only [Vl.c, Vl.cs_map] at ebu
  generalize hc0 : (nameR nm && mayV (Vl.mk uk un us ukk uz ul).p 0) = c0
  have hT2 : ((c0 && !((tags.take j).map Prod.fst).contains nm) && tagsOk ((tags.take (j + 1)).map Prod.fst) ((tags.drop (j + 1)).map tagP)) = tagsOk [] (tags.map tagP) := by
    rw [← hT, ← hc0]
    cases nameR nm <;> cases mayV (Vl.mk uk un us ukk uz ul).p 0 <;> simp
  clear hT
  have hc : (nameR nm = false ∧ c0 = false) ∨ (nameR nm = true ∧ mayV (Vl.mk uk un us ukk uz ul).p 0 = false ∧ c0 = false) ∨ (nameR nm = true ∧ mayV (Vl.mk uk un us ukk uz ul).p 0 = true ∧ c0 = true) := by
    revert hc0
    cases nameR nm <;> cases mayV (Vl.mk uk un us ukk uz ul).p 0 <;> simp
  clear hc0
  rcases hc with ⟨d1, rfl⟩ | ⟨d1, d2, rfl⟩ | ⟨d1, d2, rfl⟩
  · rw [d1] at en
    (simp only [go_sem, Nat.add_assoc, reduceIte, reduceCtorEq, Nat.reduceEqDiff, Nat.reduceAdd, Nat.reduceMul, Nat.reduceSub, Nat.reduceLeDiff, Nat.reduceLT, Nat.reduceBEq, Nat.reduceBNe, Int.reduceLE, Int.reduceLT, Int.reduceToNat, Int.reduceEq, Int.reduceNe, Int.reduceNeg, Nat.reduceEqDiff, Int.reduceAdd, Int.reduceSub, Int.reduceMul, Int.cast_ofNat_Int, Int.natCast_zero, r1, b1, gc, hts.1, tagC, Vl.c, Vl.cs_map, s45, en]; repeat' (refine kont_next ?_ <;> (try simp only [go_sem, Nat.add_assoc, reduceIte, reduceCtorEq, Nat.reduceEqDiff, Nat.reduceAdd, Nat.reduceMul, Nat.reduceSub, Nat.reduceLeDiff, Nat.reduceLT, Nat.reduceBEq, Nat.reduceBNe, Int.reduceLE, Int.reduceLT, Int.reduceToNat, Int.reduceEq, Int.reduceNe, Int.reduceNeg, Nat.reduceEqDiff, Int.reduceAdd, Int.reduceSub, Int.reduceMul, Int.cast_ofNat_Int, Int.natCast_zero, r1, b1, gc, hts.1, tagC, Vl.c, Vl.cs_map, s45, en])))
    refine kloop_inv (ι := Nat × Bool) (fun x => [.bx [.i .i64 vk, .i .i64 vn, .str vs, .sl vkk vz (vl.map Vl.c), .sl pk pz (path.map Vl.c), .sl tk tz (tags.map tagC), .i .i64 loops], .b x.2, .i .i64 j, .i .i64 x.1]) (fun x => x.1 ≤ j ∧ x.2 = false) (fun x => j - x.1) (0, false) rfl ⟨Nat.zero_le _, rfl⟩ ?_
    rintro ⟨k, b⟩ ⟨hk, hb⟩
    simp only at hk hb
    subst hb
    by_cases hkj : k < j
    · obtain ⟨x, gx⟩ := get_lt3 (show k < tags.length by omega)
      have r2 : decide ((k : Int) < (j : Int)) = true := decide_eq_true (by omega)
      have b2 : (0 : Int) ≤ (k : Int) := by omega
      have hw2 := wrap_succ (k := k) (by omega)
      (simp only [go_sem, Nat.add_assoc, reduceIte, reduceCtorEq, Nat.reduceEqDiff, Nat.reduceAdd, Nat.reduceMul, Nat.reduceSub, Nat.reduceLeDiff, Nat.reduceLT, Nat.reduceBEq, Nat.reduceBNe, Int.reduceLE, Int.reduceLT, Int.reduceToNat, Int.reduceEq, Int.reduceNe, Int.reduceNeg, Nat.reduceEqDiff, Int.reduceAdd, Int.reduceSub, Int.reduceMul, Int.cast_ofNat_Int, Int.natCast_zero, r2, b1, b2, gx, gc, hts.1, tagC, Vl.c, Vl.cs_map, hw2]; repeat' (refine kont_next ?_ <;> (try simp only [go_sem, Nat.add_assoc, reduceIte, reduceCtorEq, Nat.reduceEqDiff, Nat.reduceAdd, Nat.reduceMul, Nat.reduceSub, Nat.reduceLeDiff, Nat.reduceLT, Nat.reduceBEq, Nat.reduceBNe, Int.reduceLE, Int.reduceLT, Int.reduceToNat, Int.reduceEq, Int.reduceNe, Int.reduceNeg, Nat.reduceEqDiff, Int.reduceAdd, Int.reduceSub, Int.reduceMul, Int.cast_ofNat_Int, Int.natCast_zero, r2, b1, b2, gx, gc, hts.1, tagC, Vl.c, Vl.cs_map, hw2])))
      exact ⟨(k + 1, false), rfl, ⟨by simp only; omega, rfl⟩, by simp only; omega⟩
    · have r2 : decide ((k : Int) < (j : Int)) = false := decide_eq_false (by omega)
      obtain rfl : k = j := by omega
      (simp only [go_sem, Nat.add_assoc, reduceIte, reduceCtorEq, Nat.reduceEqDiff, Nat.reduceAdd, Nat.reduceMul, Nat.reduceSub, Nat.reduceLeDiff, Nat.reduceLT, Nat.reduceBEq, Nat.reduceBNe, Int.reduceLE, Int.reduceLT, Int.reduceToNat, Int.reduceEq, Int.reduceNe, Int.reduceNeg, Nat.reduceEqDiff, Int.reduceAdd, Int.reduceSub, Int.reduceMul, Int.cast_ofNat_Int, Int.natCast_zero, r2, hw]; repeat' (refine kont_next ?_ <;> (try simp only [go_sem, Nat.add_assoc, reduceIte, reduceCtorEq, Nat.reduceEqDiff, Nat.reduceAdd, Nat.reduceMul, Nat.reduceSub, Nat.reduceLeDiff, Nat.reduceLT, Nat.reduceBEq, Nat.reduceBNe, Int.reduceLE, Int.reduceLT, Int.reduceToNat, Int.reduceEq, Int.reduceNe, Int.reduceNeg, Nat.reduceEqDiff, Int.reduceAdd, Int.reduceSub, Int.reduceMul, Int.cast_ofNat_Int, Int.natCast_zero, r2, hw])))
      exact ⟨(k + 1, false), rfl, ⟨by simp only; omega, hT2⟩, by simp only; omega⟩
  · rw [d1] at en
    rw [d2] at ebu
    (simp only [go_sem, Nat.add_assoc, reduceIte, reduceCtorEq, Nat.reduceEqDiff, Nat.reduceAdd, Nat.reduceMul, Nat.reduceSub, Nat.reduceLeDiff, Nat.reduceLT, Nat.reduceBEq, Nat.reduceBNe, Int.reduceLE, Int.reduceLT, Int.reduceToNat, Int.reduceEq, Int.reduceNe, Int.reduceNeg, Nat.reduceEqDiff, Int.reduceAdd, Int.reduceSub, Int.reduceMul, Int.cast_ofNat_Int, Int.natCast_zero, r1, b1, gc, hts.1, tagC, Vl.c, Vl.cs_map, s45, en, s22, ebu]; repeat' (refine kont_next ?_ <;> (try simp only [go_sem, Nat.add_assoc, reduceIte, reduceCtorEq, Nat.reduceEqDiff, Nat.reduceAdd, Nat.reduceMul, Nat.reduceSub, Nat.reduceLeDiff, Nat.reduceLT, Nat.reduceBEq, Nat.reduceBNe, Int.reduceLE, Int.reduceLT, Int.reduceToNat, Int.reduceEq, Int.reduceNe, Int.reduceNeg, Nat.reduceEqDiff, Int.reduceAdd, Int.reduceSub, Int.reduceMul, Int.cast_ofNat_Int, Int.natCast_zero, r1, b1, gc, hts.1, tagC, Vl.c, Vl.cs_map, s45, en, s22, ebu])))
    refine kloop_inv (ι := Nat × Bool) (fun x => [.bx [.i .i64 vk, .i .i64 vn, .str vs, .sl vkk vz (vl.map Vl.c), .sl pk pz (path.map Vl.c), .sl tk tz (tags.map tagC), .i .i64 loops], .b x.2, .i .i64 j, .i .i64 x.1]) (fun x => x.1 ≤ j ∧ x.2 = false) (fun x => j - x.1) (0, false) rfl ⟨Nat.zero_le _, rfl⟩ ?_
    rintro ⟨k, b⟩ ⟨hk, hb⟩
    simp only at hk hb
    subst hb
    by_cases hkj : k < j
    · obtain ⟨x, gx⟩ := get_lt3 (show k < tags.length by omega)
      have r2 : decide ((k : Int) < (j : Int)) = true := decide_eq_true (by omega)
      have b2 : (0 : Int) ≤ (k : Int) := by omega
      have hw2 := wrap_succ (k := k) (by omega)
      (simp only [go_sem, Nat.add_assoc, reduceIte, reduceCtorEq, Nat.reduceEqDiff, Nat.reduceAdd, Nat.reduceMul, Nat.reduceSub, Nat.reduceLeDiff, Nat.reduceLT, Nat.reduceBEq, Nat.reduceBNe, Int.reduceLE, Int.reduceLT, Int.reduceToNat, Int.reduceEq, Int.reduceNe, Int.reduceNeg, Nat.reduceEqDiff, Int.reduceAdd, Int.reduceSub, Int.reduceMul, Int.cast_ofNat_Int, Int.natCast_zero, r2, b1, b2, gx, gc, hts.1, tagC, Vl.c, Vl.cs_map, hw2]; repeat' (refine kont_next ?_ <;> (try simp only [go_sem, Nat.add_assoc, reduceIte, reduceCtorEq, Nat.reduceEqDiff, Nat.reduceAdd, Nat.reduceMul, Nat.reduceSub, Nat.reduceLeDiff, Nat.reduceLT, Nat.reduceBEq, Nat.reduceBNe, Int.reduceLE, Int.reduceLT, Int.reduceToNat, Int.reduceEq, Int.reduceNe, Int.reduceNeg, Nat.reduceEqDiff, Int.reduceAdd, Int.reduceSub, Int.reduceMul, Int.cast_ofNat_Int, Int.natCast_zero, r2, b1, b2, gx, gc, hts.1, tagC, Vl.c, Vl.cs_map, hw2])))
      exact ⟨(k + 1, false), rfl, ⟨by simp only; omega, rfl⟩, by simp only; omega⟩
    · have r2 : decide ((k : Int) < (j : Int)) = false := decide_eq_false (by omega)
      obtain rfl : k = j := by omega
      (simp only [go_sem, Nat.add_assoc, reduceIte, reduceCtorEq, Nat.reduceEqDiff, Nat.reduceAdd, Nat.reduceMul, Nat.reduceSub, Nat.reduceLeDiff, Nat.reduceLT, Nat.reduceBEq, Nat.reduceBNe, Int.reduceLE, Int.reduceLT, Int.reduceToNat, Int.reduceEq, Int.reduceNe, Int.reduceNeg, Nat.reduceEqDiff, Int.reduceAdd, Int.reduceSub, Int.reduceMul, Int.cast_ofNat_Int, Int.natCast_zero, r2, hw]; repeat' (refine kont_next ?_ <;> (try simp only [go_sem, Nat.add_assoc, reduceIte, reduceCtorEq, Nat.reduceEqDiff, Nat.reduceAdd, Nat.reduceMul, Nat.reduceSub, Nat.reduceLeDiff, Nat.reduceLT, Nat.reduceBEq, Nat.reduceBNe, Int.reduceLE, Int.reduceLT, Int.reduceToNat, Int.reduceEq, Int.reduceNe, Int.reduceNeg, Nat.reduceEqDiff, Int.reduceAdd, Int.reduceSub, Int.reduceMul, Int.cast_ofNat_Int, Int.natCast_zero, r2, hw])))
      exact ⟨(k + 1, false), rfl, ⟨by simp only; omega, hT2⟩, by simp only; omega⟩
  · rw [d1] at en
    rw [d2] at ebu
    (simp only [go_sem, Nat.add_assoc, reduceIte, reduceCtorEq, Nat.reduceEqDiff, Nat.reduceAdd, Nat.reduceMul, Nat.reduceSub, Nat.reduceLeDiff, Nat.reduceLT, Nat.reduceBEq, Nat.reduceBNe, Int.reduceLE, Int.reduceLT, Int.reduceToNat, Int.reduceEq, Int.reduceNe, Int.reduceNeg, Nat.reduceEqDiff, Int.reduceAdd, Int.reduceSub, Int.reduceMul, Int.cast_ofNat_Int, Int.natCast_zero, r1, b1, gc, hts.1, tagC, Vl.c, Vl.cs_map, s45, en, s22, ebu]; repeat' (refine kont_next ?_ <;> (try simp only [go_sem, Nat.add_assoc, reduceIte, reduceCtorEq, Nat.reduceEqDiff, Nat.reduceAdd, Nat.reduceMul, Nat.reduceSub, Nat.reduceLeDiff, Nat.reduceLT, Nat.reduceBEq, Nat.reduceBNe, Int.reduceLE, Int.reduceLT, Int.reduceToNat, Int.reduceEq, Int.reduceNe, Int.reduceNeg, Nat.reduceEqDiff, Int.reduceAdd, Int.reduceSub, Int.reduceMul, Int.cast_ofNat_Int, Int.natCast_zero, r1, b1, gc, hts.1, tagC, Vl.c, Vl.cs_map, s45, en, s22, ebu])))
    refine kloop_inv (ι := Nat × Bool) (fun x => [.bx [.i .i64 vk, .i .i64 vn, .str vs, .sl vkk vz (vl.map Vl.c), .sl pk pz (path.map Vl.c), .sl tk tz (tags.map tagC), .i .i64 loops], .b x.2, .i .i64 j, .i .i64 x.1]) (fun x => x.1 ≤ j ∧ x.2 = (true && !((tags.take x.1).map Prod.fst).contains nm)) (fun x => j - x.1) (0, true) rfl ⟨Nat.zero_le _, by simp⟩ ?_
    rintro ⟨k, b⟩ ⟨hk, hb⟩
    simp only at hk hb
    by_cases hkj : k < j
    · obtain ⟨x, gx⟩ := get_lt3 (show k < tags.length by omega)
      have r2 : decide ((k : Int) < (j : Int)) = true := decide_eq_true (by omega)
      have b2 : (0 : Int) ≤ (k : Int) := by omega
      have hw2 := wrap_succ (k := k) (by omega)
      have hmt := mem_take nm gx
      obtain ⟨xn, ⟨xk, xm, xs, xkk, xz, xl⟩⟩ := x
      simp only at hmt
      cases b with
      | false =>
        (simp only [go_sem, Nat.add_assoc, reduceIte, reduceCtorEq, Nat.reduceEqDiff, Nat.reduceAdd, Nat.reduceMul, Nat.reduceSub, Nat.reduceLeDiff, Nat.reduceLT, Nat.reduceBEq, Nat.reduceBNe, Int.reduceLE, Int.reduceLT, Int.reduceToNat, Int.reduceEq, Int.reduceNe, Int.reduceNeg, Nat.reduceEqDiff, Int.reduceAdd, Int.reduceSub, Int.reduceMul, Int.cast_ofNat_Int, Int.natCast_zero, r2, b1, b2, gx, gc, hts.1, tagC, Vl.c, Vl.cs_map, hw2]; repeat' (refine kont_next ?_ <;> (try simp only [go_sem, Nat.add_assoc, reduceIte, reduceCtorEq, Nat.reduceEqDiff, Nat.reduceAdd, Nat.reduceMul, Nat.reduceSub, Nat.reduceLeDiff, Nat.reduceLT, Nat.reduceBEq, Nat.reduceBNe, Int.reduceLE, Int.reduceLT, Int.reduceToNat, Int.reduceEq, Int.reduceNe, Int.reduceNeg, Nat.reduceEqDiff, Int.reduceAdd, Int.reduceSub, Int.reduceMul, Int.cast_ofNat_Int, Int.natCast_zero, r2, b1, b2, gx, gc, hts.1, tagC, Vl.c, Vl.cs_map, hw2])))
        refine ⟨(k + 1, false), rfl, ⟨by simp only; omega, ?_⟩, by simp only; omega⟩
        simp only
        rw [hmt]
        generalize ((tags.take k).map Prod.fst).contains nm = q at hb
        revert hb
        cases q <;> simp
      | true =>
        by_cases hx : xn = nm
        · have r3 : decide (¬ xn = nm) = false := decide_eq_false (by simpa using hx)
          (simp only [go_sem, Nat.add_assoc, reduceIte, reduceCtorEq, Nat.reduceEqDiff, Nat.reduceAdd, Nat.reduceMul, Nat.reduceSub, Nat.reduceLeDiff, Nat.reduceLT, Nat.reduceBEq, Nat.reduceBNe, Int.reduceLE, Int.reduceLT, Int.reduceToNat, Int.reduceEq, Int.reduceNe, Int.reduceNeg, Nat.reduceEqDiff, Int.reduceAdd, Int.reduceSub, Int.reduceMul, Int.cast_ofNat_Int, Int.natCast_zero, r2, b1, b2, gx, gc, hts.1, tagC, Vl.c, Vl.cs_map, hw2, r3]; repeat' (refine kont_next ?_ <;> (try simp only [go_sem, Nat.add_assoc, reduceIte, reduceCtorEq, Nat.reduceEqDiff, Nat.reduceAdd, Nat.reduceMul, Nat.reduceSub, Nat.reduceLeDiff, Nat.reduceLT, Nat.reduceBEq, Nat.reduceBNe, Int.reduceLE, Int.reduceLT, Int.reduceToNat, Int.reduceEq, Int.reduceNe, Int.reduceNeg, Nat.reduceEqDiff, Int.reduceAdd, Int.reduceSub, Int.reduceMul, Int.cast_ofNat_Int, Int.natCast_zero, r2, b1, b2, gx, gc, hts.1, tagC, Vl.c, Vl.cs_map, hw2, r3])))
          refine ⟨(k + 1, false), rfl, ⟨by simp only; omega, ?_⟩, by simp only; omega⟩
          simp only
          rw [hmt, decide_eq_true hx]
          simp
        · have r3 : decide (¬ xn = nm) = true := decide_eq_true hx
          (simp only [go_sem, Nat.add_assoc, reduceIte, reduceCtorEq, Nat.reduceEqDiff, Nat.reduceAdd, Nat.reduceMul, Nat.reduceSub, Nat.reduceLeDiff, Nat.reduceLT, Nat.reduceBEq, Nat.reduceBNe, Int.reduceLE, Int.reduceLT, Int.reduceToNat, Int.reduceEq, Int.reduceNe, Int.reduceNeg, Nat.reduceEqDiff, Int.reduceAdd, Int.reduceSub, Int.reduceMul, Int.cast_ofNat_Int, Int.natCast_zero, r2, b1, b2, gx, gc, hts.1, tagC, Vl.c, Vl.cs_map, hw2, r3]; repeat' (refine kont_next ?_ <;> (try simp only [go_sem, Nat.add_assoc, reduceIte, reduceCtorEq, Nat.reduceEqDiff, Nat.reduceAdd, Nat.reduceMul, Nat.reduceSub, Nat.reduceLeDiff, Nat.reduceLT, Nat.reduceBEq, Nat.reduceBNe, Int.reduceLE, Int.reduceLT, Int.reduceToNat, Int.reduceEq, Int.reduceNe, Int.reduceNeg, Nat.reduceEqDiff, Int.reduceAdd, Int.reduceSub, Int.reduceMul, Int.cast_ofNat_Int, Int.natCast_zero, r2, b1, b2, gx, gc, hts.1, tagC, Vl.c, Vl.cs_map, hw2, r3])))
          refine ⟨(k + 1, true), rfl, ⟨by simp only; omega, ?_⟩, by simp only; omega⟩
          simp only
          rw [hmt, decide_eq_false hx, Bool.or_false]
          exact hb
    · have r2 : decide ((k : Int) < (j : Int)) = false := decide_eq_false (by omega)
      obtain rfl : k = j := by omega
      rw [← hb] at hT2
      (simp only [go_sem, Nat.add_assoc, reduceIte, reduceCtorEq, Nat.reduceEqDiff, Nat.reduceAdd, Nat.reduceMul, Nat.reduceSub, Nat.reduceLeDiff, Nat.reduceLT, Nat.reduceBEq, Nat.reduceBNe, Int.reduceLE, Int.reduceLT, Int.reduceToNat, Int.reduceEq, Int.reduceNe, Int.reduceNeg, Nat.reduceEqDiff, Int.reduceAdd, Int.reduceSub, Int.reduceMul, Int.cast_ofNat_Int, Int.natCast_zero, r2, hw]; repeat' (refine kont_next ?_ <;> (try simp only [go_sem, Nat.add_assoc, reduceIte, reduceCtorEq, Nat.reduceEqDiff, Nat.reduceAdd, Nat.reduceMul, Nat.reduceSub, Nat.reduceLeDiff, Nat.reduceLT, Nat.reduceBEq, Nat.reduceBNe, Int.reduceLE, Int.reduceLT, Int.reduceToNat, Int.reduceEq, Int.reduceNe, Int.reduceNeg, Nat.reduceEqDiff, Int.reduceAdd, Int.reduceSub, Int.reduceMul, Int.cast_ofNat_Int, Int.natCast_zero, r2, hw])))
      exact ⟨(k + 1, b), rfl, ⟨by simp only; omega, hT2⟩, by simp only; omega⟩
end Go.Proofs.YtmdbfbcolofelaaDoor
