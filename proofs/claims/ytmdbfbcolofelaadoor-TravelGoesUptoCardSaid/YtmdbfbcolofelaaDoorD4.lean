/-
  Which traversers never were at a value twice.
-/
import Derived.Test.YtmdbfbcolofelaaDoorD3
set_option linter.unusedSimpArgs false
set_option linter.unusedVariables false
set_option maxHeartbeats 8000000
set_option maxRecDepth 100000
namespace Go.Proofs.YtmdbfbcolofelaaDoor
open Go.Abs

open Classical in
/-- none of these was seen, nor is twice among them -/
noncomputable def simpleL : List PV → List PV → Bool
  | _, [] => true
  | seen, x :: r => !(seen.any fun y => decide (x = y)) && simpleL (seen ++ [x]) r
open Classical in
theorem simple_step {l : List Vl} {i : Nat} {x : Vl} (h : l[i]? = some x) : simpleL ((l.take i).map Vl.p) ((l.drop i).map Vl.p) = (!((l.take i).any fun y => decide (x.p = y.p)) && simpleL ((l.take (i + 1)).map Vl.p) ((l.drop (i + 1)).map Vl.p)) := by
  have hd : l.drop i = x :: l.drop (i + 1) := by
    obtain ⟨hlt, rfl⟩ := List.getElem?_eq_some_iff.1 h
    exact (List.drop_eq_getElem_cons hlt)
  rw [hd, take_get h]
  simp only [List.map_cons, simpleL, List.map_append, List.map_nil, List.any_map]
  rfl
open Classical in
theorem e49 (w v : Vl) (hw : w.ok) (hv : v.ok) : acall S 49 [.agg w.c, .ip v.c] = some (.b (decide (v.p = w.p)), []) := by
  have e1 := e41 v w hv hw
  generalize decide (v.p = w.p) = R at e1 ⊢
  obtain ⟨ak, an, as_, akk, az, al⟩ := v
  obtain ⟨bk, bn, bs, bkk, bz, bl⟩ := w
  simp only [Vl.c, Vl.cs_map] at e1 ⊢
  refine W_eq (g49 rfl ?_)
  (simp only [go_sem, Nat.add_assoc, reduceIte, reduceCtorEq, Nat.reduceEqDiff, Nat.reduceAdd, Nat.reduceMul, Nat.reduceSub, Nat.reduceLeDiff, Nat.reduceLT, Nat.reduceBEq, Nat.reduceBNe, Int.reduceLE, Int.reduceLT, Int.reduceToNat, Int.reduceEq, Int.reduceNe, Int.reduceNeg, Nat.reduceEqDiff, Int.reduceAdd, Int.reduceSub, Int.reduceMul, Int.cast_ofNat_Int, Int.natCast_zero, a49, s41, e1]; repeat' (refine kont_next ?_ <;> (try simp only [go_sem, Nat.add_assoc, reduceIte, reduceCtorEq, Nat.reduceEqDiff, Nat.reduceAdd, Nat.reduceMul, Nat.reduceSub, Nat.reduceLeDiff, Nat.reduceLT, Nat.reduceBEq, Nat.reduceBNe, Int.reduceLE, Int.reduceLT, Int.reduceToNat, Int.reduceEq, Int.reduceNe, Int.reduceNeg, Nat.reduceEqDiff, Int.reduceAdd, Int.reduceSub, Int.reduceMul, Int.cast_ofNat_Int, Int.natCast_zero, a49, s41, e1])))
open Classical in
theorem e30 (t : Tv) (h : t.ok) : acall S 30 [.agg t.cs] = some (.b (simpleL [] (t.path.map Vl.p)), []) := by
  obtain ⟨hv, hpl, htl, hps, hts, hpo, hto⟩ := h
  have hL : LIM = 274877906944 := rfl
  obtain ⟨⟨vk, vn, vs, vkk, vz, vl⟩, pk, pz, path, tk, tz, tags, loops⟩ := t
  simp only at hv hpl htl hps hts hpo hto
  simp only [Tv.cs, Vl.c, Vl.cs_map, List.cons_append, List.nil_append]
  refine W_eq (g30 rfl ?_)
  (simp only [go_sem, Nat.add_assoc, reduceIte, reduceCtorEq, Nat.reduceEqDiff, Nat.reduceAdd, Nat.reduceMul, Nat.reduceSub, Nat.reduceLeDiff, Nat.reduceLT, Nat.reduceBEq, Nat.reduceBNe, Int.reduceLE, Int.reduceLT, Int.reduceToNat, Int.reduceEq, Int.reduceNe, Int.reduceNeg, Nat.reduceEqDiff, Int.reduceAdd, Int.reduceSub, Int.reduceMul, Int.cast_ofNat_Int, Int.natCast_zero, a30]; repeat' (refine kont_next ?_ <;> (try simp only [go_sem, Nat.add_assoc, reduceIte, reduceCtorEq, Nat.reduceEqDiff, Nat.reduceAdd, Nat.reduceMul, Nat.reduceSub, Nat.reduceLeDiff, Nat.reduceLT, Nat.reduceBEq, Nat.reduceBNe, Int.reduceLE, Int.reduceLT, Int.reduceToNat, Int.reduceEq, Int.reduceNe, Int.reduceNeg, Nat.reduceEqDiff, Int.reduceAdd, Int.reduceSub, Int.reduceMul, Int.cast_ofNat_Int, Int.natCast_zero, a30])))
  refine kloop_inv (ι := Nat) (fun i => [.bx [.i .i64 vk, .i .i64 vn, .str vs, .sl vkk vz (vl.map Vl.c), .sl pk pz (path.map Vl.c), .sl tk tz (tags.map tagC), .i .i64 loops], .sl pk pz (path.map Vl.c), .i .i64 path.length, .i .i64 i])
    (fun i => i ≤ path.length ∧ simpleL ((path.take i).map Vl.p) ((path.drop i).map Vl.p) = simpleL [] (path.map Vl.p)) (fun i => path.length - i) 0 rfl ⟨by omega, rfl⟩ ?_
  rintro i ⟨hi, hT⟩
  by_cases hlt : i < path.length
  · obtain ⟨c, gc⟩ := get_lt hlt
    have r1 : decide ((i : Int) < (path.length : Int)) = true := decide_eq_true (by omega)
    have b1 : (0 : Int) ≤ (i : Int) := by omega
    have b2 : i ≤ path.length := by omega
    have hw := wrap_succ (k := i) (by omega)
    rw [simple_step gc] at hT
    have hco := hpo c (List.mem_of_getElem? gc)
    have hkn : pk ≠ SK.nil := fun e => by have := hps.2 e; subst this; simp at hlt
    have hok : OkS SK.open_ pz 4 (path.take i) := ⟨hps.1.imp id fun e => by subst e; simp at hlt, fun h => by cases h⟩
    have hil : ¬ i = path.length := by omega
    have ec : acall S 48 [.sl .open_ pz ((path.take i).map Vl.c), .fn 49 [.ip c.c]] = some (.b ((path.take i).any fun y => decide (c.p = y.p)), []) := by
      obtain ⟨ck, cn, cs, ckk, cz, cl⟩ := c
      simp only [Vl.c, Vl.cs_map]
      refine con_simple _ _ _ _ _ _ (q := fun y => decide (Vl.p (.mk ck cn cs ckk cz cl) = y.p)) hok (by simp; omega) fun x hx => ?_
      have := e49 x (.mk ck cn cs ckk cz cl) (hpo x (List.mem_of_mem_take hx)) hco
      simp only [Vl.c, Vl.cs_map] at this
      exact this
    generalize ((path.take i).any fun y => decide (c.p = y.p)) = R at ec hT
    obtain ⟨ck, cn, cs, ckk, cz, cl⟩ := c
    simp only [Vl.c, Vl.cs_map, List.map_take] at ec
    cases R with
    | true =>
      simp only [Bool.not_true, Bool.false_and] at hT
      rw [← hT]
      (simp only [go_sem, Nat.add_assoc, reduceIte, reduceCtorEq, Nat.reduceEqDiff, Nat.reduceAdd, Nat.reduceMul, Nat.reduceSub, Nat.reduceLeDiff, Nat.reduceLT, Nat.reduceBEq, Nat.reduceBNe, Int.reduceLE, Int.reduceLT, Int.reduceToNat, Int.reduceEq, Int.reduceNe, Int.reduceNeg, Nat.reduceEqDiff, Int.reduceAdd, Int.reduceSub, Int.reduceMul, Int.cast_ofNat_Int, Int.natCast_zero, r1, b1, b2, hps.1, gc, Vl.c, Vl.cs_map, hkn, hil, s48, ec]; repeat' (refine kont_next ?_ <;> (try simp only [go_sem, Nat.add_assoc, reduceIte, reduceCtorEq, Nat.reduceEqDiff, Nat.reduceAdd, Nat.reduceMul, Nat.reduceSub, Nat.reduceLeDiff, Nat.reduceLT, Nat.reduceBEq, Nat.reduceBNe, Int.reduceLE, Int.reduceLT, Int.reduceToNat, Int.reduceEq, Int.reduceNe, Int.reduceNeg, Nat.reduceEqDiff, Int.reduceAdd, Int.reduceSub, Int.reduceMul, Int.cast_ofNat_Int, Int.natCast_zero, r1, b1, b2, hps.1, gc, Vl.c, Vl.cs_map, hkn, hil, s48, ec])))
    | false =>
      simp only [Bool.not_false, Bool.true_and] at hT
      (simp only [go_sem, Nat.add_assoc, reduceIte, reduceCtorEq, Nat.reduceEqDiff, Nat.reduceAdd, Nat.reduceMul, Nat.reduceSub, Nat.reduceLeDiff, Nat.reduceLT, Nat.reduceBEq, Nat.reduceBNe, Int.reduceLE, Int.reduceLT, Int.reduceToNat, Int.reduceEq, Int.reduceNe, Int.reduceNeg, Nat.reduceEqDiff, Int.reduceAdd, Int.reduceSub, Int.reduceMul, Int.cast_ofNat_Int, Int.natCast_zero, r1, b1, b2, hps.1, gc, Vl.c, Vl.cs_map, hkn, hil, s48, ec, hw]; repeat' (refine kont_next ?_ <;> (try simp only [go_sem, Nat.add_assoc, reduceIte, reduceCtorEq, Nat.reduceEqDiff, Nat.reduceAdd, Nat.reduceMul, Nat.reduceSub, Nat.reduceLeDiff, Nat.reduceLT, Nat.reduceBEq, Nat.reduceBNe, Int.reduceLE, Int.reduceLT, Int.reduceToNat, Int.reduceEq, Int.reduceNe, Int.reduceNeg, Nat.reduceEqDiff, Int.reduceAdd, Int.reduceSub, Int.reduceMul, Int.cast_ofNat_Int, Int.natCast_zero, r1, b1, b2, hps.1, gc, Vl.c, Vl.cs_map, hkn, hil, s48, ec, hw])))
      exact ⟨i + 1, rfl, ⟨by omega, hT⟩, by omega⟩
  · have r1 : decide ((i : Int) < (path.length : Int)) = false := decide_eq_false (by omega)
    rw [List.drop_of_length_le (by omega)] at hT
    rw [← hT]
    (simp only [go_sem, Nat.add_assoc, reduceIte, reduceCtorEq, Nat.reduceEqDiff, Nat.reduceAdd, Nat.reduceMul, Nat.reduceSub, Nat.reduceLeDiff, Nat.reduceLT, Nat.reduceBEq, Nat.reduceBNe, Int.reduceLE, Int.reduceLT, Int.reduceToNat, Int.reduceEq, Int.reduceNe, Int.reduceNeg, Nat.reduceEqDiff, Int.reduceAdd, Int.reduceSub, Int.reduceMul, Int.cast_ofNat_Int, Int.natCast_zero, r1]; repeat' (refine kont_next ?_ <;> (try simp only [go_sem, Nat.add_assoc, reduceIte, reduceCtorEq, Nat.reduceEqDiff, Nat.reduceAdd, Nat.reduceMul, Nat.reduceSub, Nat.reduceLeDiff, Nat.reduceLT, Nat.reduceBEq, Nat.reduceBNe, Int.reduceLE, Int.reduceLT, Int.reduceToNat, Int.reduceEq, Int.reduceNe, Int.reduceNeg, Nat.reduceEqDiff, Int.reduceAdd, Int.reduceSub, Int.reduceMul, Int.cast_ofNat_Int, Int.natCast_zero, r1])))
    rfl
open Classical in
theorem e31 (t : Tv) (h : t.ok) : acall S 31 [.agg t.cs] = some (.b (simpleL [] (t.path.map Vl.p)), []) := by
  obtain ⟨hv, hpl, htl, hps, hts, hpo, hto⟩ := h
  have hL : LIM = 274877906944 := rfl
  obtain ⟨⟨vk, vn, vs, vkk, vz, vl⟩, pk, pz, path, tk, tz, tags, loops⟩ := t
  simp only at hv hpl htl hps hts hpo hto
  simp only [Tv.cs, Vl.c, Vl.cs_map, List.cons_append, List.nil_append]
  refine W_eq (g31 rfl ?_)
  (simp only [go_sem, Nat.add_assoc, reduceIte, reduceCtorEq, Nat.reduceEqDiff, Nat.reduceAdd, Nat.reduceMul, Nat.reduceSub, Nat.reduceLeDiff, Nat.reduceLT, Nat.reduceBEq, Nat.reduceBNe, Int.reduceLE, Int.reduceLT, Int.reduceToNat, Int.reduceEq, Int.reduceNe, Int.reduceNeg, Nat.reduceEqDiff, Int.reduceAdd, Int.reduceSub, Int.reduceMul, Int.cast_ofNat_Int, Int.natCast_zero, a31]; repeat' (refine kont_next ?_ <;> (try simp only [go_sem, Nat.add_assoc, reduceIte, reduceCtorEq, Nat.reduceEqDiff, Nat.reduceAdd, Nat.reduceMul, Nat.reduceSub, Nat.reduceLeDiff, Nat.reduceLT, Nat.reduceBEq, Nat.reduceBNe, Int.reduceLE, Int.reduceLT, Int.reduceToNat, Int.reduceEq, Int.reduceNe, Int.reduceNeg, Nat.reduceEqDiff, Int.reduceAdd, Int.reduceSub, Int.reduceMul, Int.cast_ofNat_Int, Int.natCast_zero, a31])))
  refine kloop_inv (ι := Nat) (fun i => [.bx [.i .i64 vk, .i .i64 vn, .str vs, .sl vkk vz (vl.map Vl.c), .sl pk pz (path.map Vl.c), .sl tk tz (tags.map tagC), .i .i64 loops], .i .i64 i])
    (fun i => i ≤ path.length ∧ simpleL ((path.take i).map Vl.p) ((path.drop i).map Vl.p) = simpleL [] (path.map Vl.p)) (fun i => path.length - i) 0 rfl ⟨by omega, rfl⟩ ?_
  rintro i ⟨hi, hT⟩
  by_cases hlt : i < path.length
  case neg =>
    have r1 : decide ((i : Int) < (path.length : Int)) = false := decide_eq_false (by omega)
    rw [List.drop_of_length_le (by omega)] at hT
    rw [← hT]
    (simp only [go_sem, Nat.add_assoc, reduceIte, reduceCtorEq, Nat.reduceEqDiff, Nat.reduceAdd, Nat.reduceMul, Nat.reduceSub, Nat.reduceLeDiff, Nat.reduceLT, Nat.reduceBEq, Nat.reduceBNe, Int.reduceLE, Int.reduceLT, Int.reduceToNat, Int.reduceEq, Int.reduceNe, Int.reduceNeg, Nat.reduceEqDiff, Int.reduceAdd, Int.reduceSub, Int.reduceMul, Int.cast_ofNat_Int, Int.natCast_zero, r1]; repeat' (refine kont_next ?_ <;> (try simp only [go_sem, Nat.add_assoc, reduceIte, reduceCtorEq, Nat.reduceEqDiff, Nat.reduceAdd, Nat.reduceMul, Nat.reduceSub, Nat.reduceLeDiff, Nat.reduceLT, Nat.reduceBEq, Nat.reduceBNe, Int.reduceLE, Int.reduceLT, Int.reduceToNat, Int.reduceEq, Int.reduceNe, Int.reduceNeg, Nat.reduceEqDiff, Int.reduceAdd, Int.reduceSub, Int.reduceMul, Int.cast_ofNat_Int, Int.natCast_zero, r1])))
    rfl
  obtain ⟨c, gc⟩ := get_lt hlt
  have r1 : decide ((i : Int) < (path.length : Int)) = true := decide_eq_true (by omega)
  have b1 : (0 : Int) ≤ (i : Int) := by omega
  have hw := wrap_succ (k := i) (by omega)
  rw [simple_step gc] at hT
  have hco := hpo c (List.mem_of_getElem? gc)
  (simp only [go_sem, Nat.add_assoc, reduceIte, reduceCtorEq, Nat.reduceEqDiff, Nat.reduceAdd, Nat.reduceMul, Nat.reduceSub, Nat.reduceLeDiff, Nat.reduceLT, Nat.reduceBEq, Nat.reduceBNe, Int.reduceLE, Int.reduceLT, Int.reduceToNat, Int.reduceEq, Int.reduceNe, Int.reduceNeg, Nat.reduceEqDiff, Int.reduceAdd, Int.reduceSub, Int.reduceMul, Int.cast_ofNat_Int, Int.natCast_zero, r1]; repeat' (refine kont_next ?_ <;> (try simp only [go_sem, Nat.add_assoc, reduceIte, reduceCtorEq, Nat.reduceEqDiff, Nat.reduceAdd, Nat.reduceMul, Nat.reduceSub, Nat.reduceLeDiff, Nat.reduceLT, Nat.reduceBEq, Nat.reduceBNe, Int.reduceLE, Int.reduceLT, Int.reduceToNat, Int.reduceEq, Int.reduceNe, Int.reduceNeg, Nat.reduceEqDiff, Int.reduceAdd, Int.reduceSub, Int.reduceMul, Int.cast_ofNat_Int, Int.natCast_zero, r1])))
  refine kloop_inv (ι := Nat) (fun k => [.bx [.i .i64 vk, .i .i64 vn, .str vs, .sl vkk vz (vl.map Vl.c), .sl pk pz (path.map Vl.c), .sl tk tz (tags.map tagC), .i .i64 loops], .i .i64 i, .i .i64 k])
    (fun k => k ≤ i ∧ ((path.take k).any fun y => decide (c.p = y.p)) = false) (fun k => i - k) 0 rfl ⟨by omega, rfl⟩ ?_
  rintro k ⟨hk, hn⟩
  by_cases hki : k < i
  · obtain ⟨d, gd⟩ := get_lt (show k < path.length by omega)
    have r2 : decide ((k : Int) < (i : Int)) = true := decide_eq_true (by omega)
    have b2 : (0 : Int) ≤ (k : Int) := by omega
    have hw2 := wrap_succ (k := k) (by omega)
    have es := e15 c d hco (hpo d (List.mem_of_getElem? gd))
    have hnext : ((path.take (k + 1)).any fun y => decide (c.p = y.p)) = decide (c.p = d.p) := by
      rw [take_get gd, List.any_append, hn]; simp
    have hall : decide (c.p = d.p) = true → ((path.take i).any fun y => decide (c.p = y.p)) = true := fun h => by
      rw [List.any_eq_true]
      exact ⟨d, List.mem_iff_getElem?.2 ⟨k, by rw [List.getElem?_take]; simp [hki, gd]⟩, h⟩
    generalize decide (c.p = d.p) = R at es hnext hall
    cases R with
    | true =>
      rw [hall rfl] at hT
      simp only [Bool.not_true, Bool.false_and] at hT
      rw [← hT]
      obtain ⟨ck, cn, cs, ckk, cz, cl⟩ := c
      obtain ⟨dk, dn, ds, dkk, dz, dl⟩ := d
      simp only [Vl.c, Vl.cs_map] at es
      (simp only [go_sem, Nat.add_assoc, reduceIte, reduceCtorEq, Nat.reduceEqDiff, Nat.reduceAdd, Nat.reduceMul, Nat.reduceSub, Nat.reduceLeDiff, Nat.reduceLT, Nat.reduceBEq, Nat.reduceBNe, Int.reduceLE, Int.reduceLT, Int.reduceToNat, Int.reduceEq, Int.reduceNe, Int.reduceNeg, Nat.reduceEqDiff, Int.reduceAdd, Int.reduceSub, Int.reduceMul, Int.cast_ofNat_Int, Int.natCast_zero, r2, b1, b2, hps.1, gc, gd, Vl.c, Vl.cs_map, s15, es]; repeat' (refine kont_next ?_ <;> (try simp only [go_sem, Nat.add_assoc, reduceIte, reduceCtorEq, Nat.reduceEqDiff, Nat.reduceAdd, Nat.reduceMul, Nat.reduceSub, Nat.reduceLeDiff, Nat.reduceLT, Nat.reduceBEq, Nat.reduceBNe, Int.reduceLE, Int.reduceLT, Int.reduceToNat, Int.reduceEq, Int.reduceNe, Int.reduceNeg, Nat.reduceEqDiff, Int.reduceAdd, Int.reduceSub, Int.reduceMul, Int.cast_ofNat_Int, Int.natCast_zero, r2, b1, b2, hps.1, gc, gd, Vl.c, Vl.cs_map, s15, es])))
    | false =>
      obtain ⟨ck, cn, cs, ckk, cz, cl⟩ := c
      obtain ⟨dk, dn, ds, dkk, dz, dl⟩ := d
      simp only [Vl.c, Vl.cs_map] at es
      (simp only [go_sem, Nat.add_assoc, reduceIte, reduceCtorEq, Nat.reduceEqDiff, Nat.reduceAdd, Nat.reduceMul, Nat.reduceSub, Nat.reduceLeDiff, Nat.reduceLT, Nat.reduceBEq, Nat.reduceBNe, Int.reduceLE, Int.reduceLT, Int.reduceToNat, Int.reduceEq, Int.reduceNe, Int.reduceNeg, Nat.reduceEqDiff, Int.reduceAdd, Int.reduceSub, Int.reduceMul, Int.cast_ofNat_Int, Int.natCast_zero, r2, b1, b2, hps.1, gc, gd, Vl.c, Vl.cs_map, s15, es, hw2]; repeat' (refine kont_next ?_ <;> (try simp only [go_sem, Nat.add_assoc, reduceIte, reduceCtorEq, Nat.reduceEqDiff, Nat.reduceAdd, Nat.reduceMul, Nat.reduceSub, Nat.reduceLeDiff, Nat.reduceLT, Nat.reduceBEq, Nat.reduceBNe, Int.reduceLE, Int.reduceLT, Int.reduceToNat, Int.reduceEq, Int.reduceNe, Int.reduceNeg, Nat.reduceEqDiff, Int.reduceAdd, Int.reduceSub, Int.reduceMul, Int.cast_ofNat_Int, Int.natCast_zero, r2, b1, b2, hps.1, gc, gd, Vl.c, Vl.cs_map, s15, es, hw2])))
      exact ⟨k + 1, rfl, ⟨by omega, hnext⟩, by omega⟩
  · have r2 : decide ((k : Int) < (i : Int)) = false := decide_eq_false (by omega)
    obtain rfl : k = i := by omega
    rw [hn] at hT
    simp only [Bool.not_false, Bool.true_and] at hT
    (simp only [go_sem, Nat.add_assoc, reduceIte, reduceCtorEq, Nat.reduceEqDiff, Nat.reduceAdd, Nat.reduceMul, Nat.reduceSub, Nat.reduceLeDiff, Nat.reduceLT, Nat.reduceBEq, Nat.reduceBNe, Int.reduceLE, Int.reduceLT, Int.reduceToNat, Int.reduceEq, Int.reduceNe, Int.reduceNeg, Nat.reduceEqDiff, Int.reduceAdd, Int.reduceSub, Int.reduceMul, Int.cast_ofNat_Int, Int.natCast_zero, r2, hw]; repeat' (refine kont_next ?_ <;> (try simp only [go_sem, Nat.add_assoc, reduceIte, reduceCtorEq, Nat.reduceEqDiff, Nat.reduceAdd, Nat.reduceMul, Nat.reduceSub, Nat.reduceLeDiff, Nat.reduceLT, Nat.reduceBEq, Nat.reduceBNe, Int.reduceLE, Int.reduceLT, Int.reduceToNat, Int.reduceEq, Int.reduceNe, Int.reduceNeg, Nat.reduceEqDiff, Int.reduceAdd, Int.reduceSub, Int.reduceMul, Int.cast_ofNat_Int, Int.natCast_zero, r2, hw])))
    exact ⟨k + 1, rfl, ⟨by omega, hT⟩, by omega⟩
end Go.Proofs.YtmdbfbcolofelaaDoor
