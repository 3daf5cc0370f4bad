/-
  The iterators over edges. (The two theorems are alike: printed by a program.)
-/
import Derived.Test.YtgeaibhgaihobaaDoorG5
set_option linter.unusedSimpArgs false
set_option linter.unusedVariables false
set_option maxHeartbeats 8000000
set_option maxRecDepth 100000
namespace Go.Proofs.YtgeaibhgaihobaaDoor
open Go.Abs

/-- what is told of edges that are wanted -/
noncomputable def told (q : PLk → Bool) (es : List Lk) : List (List AV) := (es.filter fun e => q e.p).map fun e => [.agg e.cl.c]
theorem told_snoc {q : PLk → Bool} {es : List Lk} {i : Nat} {x : Lk} (h : es[i]? = some x) : told q (es.take (i + 1)) = if q x.p = true then told q (es.take i) ++ [[.agg x.cl.c]] else told q (es.take i) := by
  unfold told
  rw [take_get h, List.filter_append]
  by_cases hq : q x.p = true
  · simp [hq]
  · simp [hq]
theorem told_pre {q : PLk → Bool} {a b : List Lk} (h : a <+: b) : told q a <+: told q b := (h.filter _).map _
theorem gvOut (g : Gr) (hg : g.ok) {k : SK} {z : Nat} {l : List (List UInt8)} (id : Int) (h : OkS k z 1 l) (hl : l.length ≤ 137438953472) :
    acall S 50 [.yq, .ip g.c, .ip [.fn 25 [.ip [.i .i64 id], .ip [.sl k z (l.map strC)]]]] = some (.sl .open_ 0 (told (outB id l) g.es), []) := by
  have he1 := hg.e.1
  have hel := hg.el
  obtain ⟨vk, vz, vs, ek, ez, es, last⟩ := g
  simp only at he1 hel
  have hea := hg.ea
  simp only at hea
  simp only
  refine g50 rfl rfl ?_
  intro o ho
  (simp only [go_sem, Nat.add_assoc, reduceIte, reduceCtorEq, Nat.reduceEqDiff, Nat.reduceAdd, Nat.reduceMul, Nat.reduceSub, Nat.reduceLeDiff, Nat.reduceLT, Nat.reduceBEq, Nat.reduceBNe, Int.reduceLE, Int.reduceLT, Int.reduceToNat, Int.reduceEq, Int.reduceNe, Int.reduceNeg, Nat.reduceEqDiff, Int.reduceAdd, Int.reduceSub, Int.reduceMul, Int.cast_ofNat_Int, Int.natCast_zero, a50, Gr.c]; repeat' ((first | refine kont_next ?_ | refine kont_nextn ?_ | refine ikont_next ?_ | refine ikont_nextn ?_) <;> (try simp only [go_sem, Nat.add_assoc, reduceIte, reduceCtorEq, Nat.reduceEqDiff, Nat.reduceAdd, Nat.reduceMul, Nat.reduceSub, Nat.reduceLeDiff, Nat.reduceLT, Nat.reduceBEq, Nat.reduceBNe, Int.reduceLE, Int.reduceLT, Int.reduceToNat, Int.reduceEq, Int.reduceNe, Int.reduceNeg, Nat.reduceEqDiff, Int.reduceAdd, Int.reduceSub, Int.reduceMul, Int.cast_ofNat_Int, Int.natCast_zero, a50, Gr.c])))
  refine ikloop_inv (ι := Nat) (fun i => [.ip [.fn 25 [.ip [.i .i64 id], .ip [.sl k z (l.map strC)]]], .sl ek ez (es.map Lk.c), .i .i64 es.length, .i .i64 i])
    (fun i => told (outB id l) (es.take i)) (fun i => mdk o (told (outB id l) (es.take i)).length)
    (fun i => i ≤ es.length ∧ ∀ n, o = some n → (told (outB id l) (es.take i)).length ≤ n) (fun i => es.length - i) 0 rfl rfl rfl ⟨Nat.zero_le _, fun n _ => Nat.zero_le _⟩ ?_
  rintro i ⟨hi, hn⟩
  by_cases hlt : i < es.length
  · obtain ⟨x, gx⟩ := get_lt hlt
    have hx := hea x (List.mem_of_getElem? gx)
    have e1 := e25 id h hl x
    have ec := e51 x.id x.label x.out x.inn hx.ps
    have hw := wrap_succ (k := i) (by omega)
    have hbt : decide ((i : Int) < (es.length : Int)) = true := decide_eq_true (by omega)
    have b1 : (0 : Int) ≤ (i : Int) := by omega
    have hsn := told_snoc (q := outB id l) gx
    cases hq : outB id l x.p with
    | false =>
      rw [hq] at e1
      rw [hq, if_neg (by simp)] at hsn
      obtain ⟨xid, xl, xo, xi, xpk, xpz, xps⟩ := x
      simp only [Lk.c] at e1
      (simp only [go_sem, Nat.add_assoc, reduceIte, reduceCtorEq, Nat.reduceEqDiff, Nat.reduceAdd, Nat.reduceMul, Nat.reduceSub, Nat.reduceLeDiff, Nat.reduceLT, Nat.reduceBEq, Nat.reduceBNe, Int.reduceLE, Int.reduceLT, Int.reduceToNat, Int.reduceEq, Int.reduceNe, Int.reduceNeg, Nat.reduceEqDiff, Int.reduceAdd, Int.reduceSub, Int.reduceMul, Int.cast_ofNat_Int, Int.natCast_zero, hbt, he1, b1, gx, Lk.c, s25, e1, hw]; repeat' ((first | refine kont_next ?_ | refine kont_nextn ?_ | refine ikont_next ?_ | refine ikont_nextn ?_) <;> (try simp only [go_sem, Nat.add_assoc, reduceIte, reduceCtorEq, Nat.reduceEqDiff, Nat.reduceAdd, Nat.reduceMul, Nat.reduceSub, Nat.reduceLeDiff, Nat.reduceLT, Nat.reduceBEq, Nat.reduceBNe, Int.reduceLE, Int.reduceLT, Int.reduceToNat, Int.reduceEq, Int.reduceNe, Int.reduceNeg, Nat.reduceEqDiff, Int.reduceAdd, Int.reduceSub, Int.reduceMul, Int.cast_ofNat_Int, Int.natCast_zero, hbt, he1, b1, gx, Lk.c, s25, e1, hw])))
      exact ⟨i + 1, rfl, by rw [hsn], by rw [hsn], ⟨by omega, by rw [hsn]; exact hn⟩, by omega⟩
    | true =>
      rw [hq] at e1
      rw [hq, if_pos rfl] at hsn
      have hmd := mdk_next (o := o) (k := (told (outB id l) (es.take i)).length) hn
      have hpre : told (outB id l) (es.take (i + 1)) <+: told (outB id l) es := told_pre (es.take_prefix (i + 1))
      have hlen : (told (outB id l) (es.take (i + 1))).length = (told (outB id l) (es.take i)).length + 1 := by rw [hsn]; simp
      obtain ⟨xid, xl, xo, xi, xpk, xpz, xps⟩ := x
      simp only [Lk.c, Lk.cl] at e1 hsn
      by_cases ho2 : o = some (told (outB id l) (es.take i)).length
      · rw [if_pos ho2, decide_eq_false (by simp [ho2])] at hmd
        have hend : told (outB id l) (es.take (i + 1)) = (told (outB id l) es).take ((told (outB id l) (es.take i)).length + 1) := by
          rw [← hlen]
          exact (List.prefix_iff_eq_take.1 hpre)
        rw [hsn] at hend
        (simp only [go_sem, Nat.add_assoc, reduceIte, reduceCtorEq, Nat.reduceEqDiff, Nat.reduceAdd, Nat.reduceMul, Nat.reduceSub, Nat.reduceLeDiff, Nat.reduceLT, Nat.reduceBEq, Nat.reduceBNe, Int.reduceLE, Int.reduceLT, Int.reduceToNat, Int.reduceEq, Int.reduceNe, Int.reduceNeg, Nat.reduceEqDiff, Int.reduceAdd, Int.reduceSub, Int.reduceMul, Int.cast_ofNat_Int, Int.natCast_zero, hbt, he1, b1, gx, Lk.c, s25, e1, hw, s51, ec, hmd]; repeat' ((first | refine kont_next ?_ | refine kont_nextn ?_ | refine ikont_next ?_ | refine ikont_nextn ?_) <;> (try simp only [go_sem, Nat.add_assoc, reduceIte, reduceCtorEq, Nat.reduceEqDiff, Nat.reduceAdd, Nat.reduceMul, Nat.reduceSub, Nat.reduceLeDiff, Nat.reduceLT, Nat.reduceBEq, Nat.reduceBNe, Int.reduceLE, Int.reduceLT, Int.reduceToNat, Int.reduceEq, Int.reduceNe, Int.reduceNeg, Nat.reduceEqDiff, Int.reduceAdd, Int.reduceSub, Int.reduceMul, Int.cast_ofNat_Int, Int.natCast_zero, hbt, he1, b1, gx, Lk.c, s25, e1, hw, s51, ec, hmd])))
        subst ho2
        exact ⟨(fun id h => by cases h), hend, rfl⟩
      · rw [if_neg ho2, decide_eq_true (by simpa using ho2)] at hmd
        (simp only [go_sem, Nat.add_assoc, reduceIte, reduceCtorEq, Nat.reduceEqDiff, Nat.reduceAdd, Nat.reduceMul, Nat.reduceSub, Nat.reduceLeDiff, Nat.reduceLT, Nat.reduceBEq, Nat.reduceBNe, Int.reduceLE, Int.reduceLT, Int.reduceToNat, Int.reduceEq, Int.reduceNe, Int.reduceNeg, Nat.reduceEqDiff, Int.reduceAdd, Int.reduceSub, Int.reduceMul, Int.cast_ofNat_Int, Int.natCast_zero, hbt, he1, b1, gx, Lk.c, s25, e1, hw, s51, ec, hmd]; repeat' ((first | refine kont_next ?_ | refine kont_nextn ?_ | refine ikont_next ?_ | refine ikont_nextn ?_) <;> (try simp only [go_sem, Nat.add_assoc, reduceIte, reduceCtorEq, Nat.reduceEqDiff, Nat.reduceAdd, Nat.reduceMul, Nat.reduceSub, Nat.reduceLeDiff, Nat.reduceLT, Nat.reduceBEq, Nat.reduceBNe, Int.reduceLE, Int.reduceLT, Int.reduceToNat, Int.reduceEq, Int.reduceNe, Int.reduceNeg, Nat.reduceEqDiff, Int.reduceAdd, Int.reduceSub, Int.reduceMul, Int.cast_ofNat_Int, Int.natCast_zero, hbt, he1, b1, gx, Lk.c, s25, e1, hw, s51, ec, hmd])))
        exact ⟨i + 1, rfl, by rw [hsn], by rw [hlen], ⟨by omega, fun n hn2 => by
          have := hn n hn2
          rw [hlen]
          rcases Nat.lt_or_ge (told (outB id l) (es.take i)).length n with h1 | h1
          · omega
          · exact absurd (by rw [hn2]; congr 1; omega) ho2⟩, by omega⟩
  · have hbf : decide ((i : Int) < (es.length : Int)) = false := decide_eq_false (by omega)
    obtain rfl : i = es.length := by omega
    rw [List.take_length] at hn ⊢
    have hoN : o = none := by
      cases o with
      | none => rfl
      | some n =>
        have h1 := hn n rfl
        have h2 := ho n rfl
        omega
    subst hoN
    (simp only [go_sem, Nat.add_assoc, reduceIte, reduceCtorEq, Nat.reduceEqDiff, Nat.reduceAdd, Nat.reduceMul, Nat.reduceSub, Nat.reduceLeDiff, Nat.reduceLT, Nat.reduceBEq, Nat.reduceBNe, Int.reduceLE, Int.reduceLT, Int.reduceToNat, Int.reduceEq, Int.reduceNe, Int.reduceNeg, Nat.reduceEqDiff, Int.reduceAdd, Int.reduceSub, Int.reduceMul, Int.cast_ofNat_Int, Int.natCast_zero, hbf]; repeat' ((first | refine kont_next ?_ | refine kont_nextn ?_ | refine ikont_next ?_ | refine ikont_nextn ?_) <;> (try simp only [go_sem, Nat.add_assoc, reduceIte, reduceCtorEq, Nat.reduceEqDiff, Nat.reduceAdd, Nat.reduceMul, Nat.reduceSub, Nat.reduceLeDiff, Nat.reduceLT, Nat.reduceBEq, Nat.reduceBNe, Int.reduceLE, Int.reduceLT, Int.reduceToNat, Int.reduceEq, Int.reduceNe, Int.reduceNeg, Nat.reduceEqDiff, Int.reduceAdd, Int.reduceSub, Int.reduceMul, Int.cast_ofNat_Int, Int.natCast_zero, hbf])))
    exact ⟨(fun id h => by cases h), rfl, rfl⟩
theorem gvIn (g : Gr) (hg : g.ok) {k : SK} {z : Nat} {l : List (List UInt8)} (id : Int) (h : OkS k z 1 l) (hl : l.length ≤ 137438953472) :
    acall S 50 [.yq, .ip g.c, .ip [.fn 28 [.ip [.i .i64 id], .ip [.sl k z (l.map strC)]]]] = some (.sl .open_ 0 (told (inB id l) g.es), []) := by
  have he1 := hg.e.1
  have hel := hg.el
  obtain ⟨vk, vz, vs, ek, ez, es, last⟩ := g
  simp only at he1 hel
  have hea := hg.ea
  simp only at hea
  simp only
  refine g50 rfl rfl ?_
  intro o ho
  (simp only [go_sem, Nat.add_assoc, reduceIte, reduceCtorEq, Nat.reduceEqDiff, Nat.reduceAdd, Nat.reduceMul, Nat.reduceSub, Nat.reduceLeDiff, Nat.reduceLT, Nat.reduceBEq, Nat.reduceBNe, Int.reduceLE, Int.reduceLT, Int.reduceToNat, Int.reduceEq, Int.reduceNe, Int.reduceNeg, Nat.reduceEqDiff, Int.reduceAdd, Int.reduceSub, Int.reduceMul, Int.cast_ofNat_Int, Int.natCast_zero, a50, Gr.c]; repeat' ((first | refine kont_next ?_ | refine kont_nextn ?_ | refine ikont_next ?_ | refine ikont_nextn ?_) <;> (try simp only [go_sem, Nat.add_assoc, reduceIte, reduceCtorEq, Nat.reduceEqDiff, Nat.reduceAdd, Nat.reduceMul, Nat.reduceSub, Nat.reduceLeDiff, Nat.reduceLT, Nat.reduceBEq, Nat.reduceBNe, Int.reduceLE, Int.reduceLT, Int.reduceToNat, Int.reduceEq, Int.reduceNe, Int.reduceNeg, Nat.reduceEqDiff, Int.reduceAdd, Int.reduceSub, Int.reduceMul, Int.cast_ofNat_Int, Int.natCast_zero, a50, Gr.c])))
  refine ikloop_inv (ι := Nat) (fun i => [.ip [.fn 28 [.ip [.i .i64 id], .ip [.sl k z (l.map strC)]]], .sl ek ez (es.map Lk.c), .i .i64 es.length, .i .i64 i])
    (fun i => told (inB id l) (es.take i)) (fun i => mdk o (told (inB id l) (es.take i)).length)
    (fun i => i ≤ es.length ∧ ∀ n, o = some n → (told (inB id l) (es.take i)).length ≤ n) (fun i => es.length - i) 0 rfl rfl rfl ⟨Nat.zero_le _, fun n _ => Nat.zero_le _⟩ ?_
  rintro i ⟨hi, hn⟩
  by_cases hlt : i < es.length
  · obtain ⟨x, gx⟩ := get_lt hlt
    have hx := hea x (List.mem_of_getElem? gx)
    have e1 := e28 id h hl x
    have ec := e51 x.id x.label x.out x.inn hx.ps
    have hw := wrap_succ (k := i) (by omega)
    have hbt : decide ((i : Int) < (es.length : Int)) = true := decide_eq_true (by omega)
    have b1 : (0 : Int) ≤ (i : Int) := by omega
    have hsn := told_snoc (q := inB id l) gx
    cases hq : inB id l x.p with
    | false =>
      rw [hq] at e1
      rw [hq, if_neg (by simp)] at hsn
      obtain ⟨xid, xl, xo, xi, xpk, xpz, xps⟩ := x
      simp only [Lk.c] at e1
      (simp only [go_sem, Nat.add_assoc, reduceIte, reduceCtorEq, Nat.reduceEqDiff, Nat.reduceAdd, Nat.reduceMul, Nat.reduceSub, Nat.reduceLeDiff, Nat.reduceLT, Nat.reduceBEq, Nat.reduceBNe, Int.reduceLE, Int.reduceLT, Int.reduceToNat, Int.reduceEq, Int.reduceNe, Int.reduceNeg, Nat.reduceEqDiff, Int.reduceAdd, Int.reduceSub, Int.reduceMul, Int.cast_ofNat_Int, Int.natCast_zero, hbt, he1, b1, gx, Lk.c, s28, e1, hw]; repeat' ((first | refine kont_next ?_ | refine kont_nextn ?_ | refine ikont_next ?_ | refine ikont_nextn ?_) <;> (try simp only [go_sem, Nat.add_assoc, reduceIte, reduceCtorEq, Nat.reduceEqDiff, Nat.reduceAdd, Nat.reduceMul, Nat.reduceSub, Nat.reduceLeDiff, Nat.reduceLT, Nat.reduceBEq, Nat.reduceBNe, Int.reduceLE, Int.reduceLT, Int.reduceToNat, Int.reduceEq, Int.reduceNe, Int.reduceNeg, Nat.reduceEqDiff, Int.reduceAdd, Int.reduceSub, Int.reduceMul, Int.cast_ofNat_Int, Int.natCast_zero, hbt, he1, b1, gx, Lk.c, s28, e1, hw])))
      exact ⟨i + 1, rfl, by rw [hsn], by rw [hsn], ⟨by omega, by rw [hsn]; exact hn⟩, by omega⟩
    | true =>
      rw [hq] at e1
      rw [hq, if_pos rfl] at hsn
      have hmd := mdk_next (o := o) (k := (told (inB id l) (es.take i)).length) hn
      have hpre : told (inB id l) (es.take (i + 1)) <+: told (inB id l) es := told_pre (es.take_prefix (i + 1))
      have hlen : (told (inB id l) (es.take (i + 1))).length = (told (inB id l) (es.take i)).length + 1 := by rw [hsn]; simp
      obtain ⟨xid, xl, xo, xi, xpk, xpz, xps⟩ := x
      simp only [Lk.c, Lk.cl] at e1 hsn
      by_cases ho2 : o = some (told (inB id l) (es.take i)).length
      · rw [if_pos ho2, decide_eq_false (by simp [ho2])] at hmd
        have hend : told (inB id l) (es.take (i + 1)) = (told (inB id l) es).take ((told (inB id l) (es.take i)).length + 1) := by
          rw [← hlen]
          exact (List.prefix_iff_eq_take.1 hpre)
        rw [hsn] at hend
        (simp only [go_sem, Nat.add_assoc, reduceIte, reduceCtorEq, Nat.reduceEqDiff, Nat.reduceAdd, Nat.reduceMul, Nat.reduceSub, Nat.reduceLeDiff, Nat.reduceLT, Nat.reduceBEq, Nat.reduceBNe, Int.reduceLE, Int.reduceLT, Int.reduceToNat, Int.reduceEq, Int.reduceNe, Int.reduceNeg, Nat.reduceEqDiff, Int.reduceAdd, Int.reduceSub, Int.reduceMul, Int.cast_ofNat_Int, Int.natCast_zero, hbt, he1, b1, gx, Lk.c, s28, e1, hw, s51, ec, hmd]; repeat' ((first | refine kont_next ?_ | refine kont_nextn ?_ | refine ikont_next ?_ | refine ikont_nextn ?_) <;> (try simp only [go_sem, Nat.add_assoc, reduceIte, reduceCtorEq, Nat.reduceEqDiff, Nat.reduceAdd, Nat.reduceMul, Nat.reduceSub, Nat.reduceLeDiff, Nat.reduceLT, Nat.reduceBEq, Nat.reduceBNe, Int.reduceLE, Int.reduceLT, Int.reduceToNat, Int.reduceEq, Int.reduceNe, Int.reduceNeg, Nat.reduceEqDiff, Int.reduceAdd, Int.reduceSub, Int.reduceMul, Int.cast_ofNat_Int, Int.natCast_zero, hbt, he1, b1, gx, Lk.c, s28, e1, hw, s51, ec, hmd])))
        subst ho2
        exact ⟨(fun id h => by cases h), hend, rfl⟩
      · rw [if_neg ho2, decide_eq_true (by simpa using ho2)] at hmd
        (simp only [go_sem, Nat.add_assoc, reduceIte, reduceCtorEq, Nat.reduceEqDiff, Nat.reduceAdd, Nat.reduceMul, Nat.reduceSub, Nat.reduceLeDiff, Nat.reduceLT, Nat.reduceBEq, Nat.reduceBNe, Int.reduceLE, Int.reduceLT, Int.reduceToNat, Int.reduceEq, Int.reduceNe, Int.reduceNeg, Nat.reduceEqDiff, Int.reduceAdd, Int.reduceSub, Int.reduceMul, Int.cast_ofNat_Int, Int.natCast_zero, hbt, he1, b1, gx, Lk.c, s28, e1, hw, s51, ec, hmd]; repeat' ((first | refine kont_next ?_ | refine kont_nextn ?_ | refine ikont_next ?_ | refine ikont_nextn ?_) <;> (try simp only [go_sem, Nat.add_assoc, reduceIte, reduceCtorEq, Nat.reduceEqDiff, Nat.reduceAdd, Nat.reduceMul, Nat.reduceSub, Nat.reduceLeDiff, Nat.reduceLT, Nat.reduceBEq, Nat.reduceBNe, Int.reduceLE, Int.reduceLT, Int.reduceToNat, Int.reduceEq, Int.reduceNe, Int.reduceNeg, Nat.reduceEqDiff, Int.reduceAdd, Int.reduceSub, Int.reduceMul, Int.cast_ofNat_Int, Int.natCast_zero, hbt, he1, b1, gx, Lk.c, s28, e1, hw, s51, ec, hmd])))
        exact ⟨i + 1, rfl, by rw [hsn], by rw [hlen], ⟨by omega, fun n hn2 => by
          have := hn n hn2
          rw [hlen]
          rcases Nat.lt_or_ge (told (inB id l) (es.take i)).length n with h1 | h1
          · omega
          · exact absurd (by rw [hn2]; congr 1; omega) ho2⟩, by omega⟩
  · have hbf : decide ((i : Int) < (es.length : Int)) = false := decide_eq_false (by omega)
    obtain rfl : i = es.length := by omega
    rw [List.take_length] at hn ⊢
    have hoN : o = none := by
      cases o with
      | none => rfl
      | some n =>
        have h1 := hn n rfl
        have h2 := ho n rfl
        omega
    subst hoN
    (simp only [go_sem, Nat.add_assoc, reduceIte, reduceCtorEq, Nat.reduceEqDiff, Nat.reduceAdd, Nat.reduceMul, Nat.reduceSub, Nat.reduceLeDiff, Nat.reduceLT, Nat.reduceBEq, Nat.reduceBNe, Int.reduceLE, Int.reduceLT, Int.reduceToNat, Int.reduceEq, Int.reduceNe, Int.reduceNeg, Nat.reduceEqDiff, Int.reduceAdd, Int.reduceSub, Int.reduceMul, Int.cast_ofNat_Int, Int.natCast_zero, hbf]; repeat' ((first | refine kont_next ?_ | refine kont_nextn ?_ | refine ikont_next ?_ | refine ikont_nextn ?_) <;> (try simp only [go_sem, Nat.add_assoc, reduceIte, reduceCtorEq, Nat.reduceEqDiff, Nat.reduceAdd, Nat.reduceMul, Nat.reduceSub, Nat.reduceLeDiff, Nat.reduceLT, Nat.reduceBEq, Nat.reduceBNe, Int.reduceLE, Int.reduceLT, Int.reduceToNat, Int.reduceEq, Int.reduceNe, Int.reduceNeg, Nat.reduceEqDiff, Int.reduceAdd, Int.reduceSub, Int.reduceMul, Int.cast_ofNat_Int, Int.natCast_zero, hbf])))
    exact ⟨(fun id h => by cases h), rfl, rfl⟩
end Go.Proofs.YtgeaibhgaihobaaDoor
