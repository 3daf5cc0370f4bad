/-
  A bag in memory of its own; how many there are.
-/
import Derived.Test.YtabbjdclfmeipaaB2
set_option linter.unusedSimpArgs false
set_option linter.unusedVariables false
set_option maxHeartbeats 8000000
set_option maxRecDepth 100000
namespace Go.Proofs.Ytabbjdclfmeipaa
open Go.Abs

abbrev rowU (u : List (Vl × Int)) : AV := .ow 67 5 (decide (u = [])) (u.map cC)
structure OkU (u : List (Vl × Int)) : Prop where
  ln : u.length ≤ 68719476736
  ok : ∀ x ∈ u, x.1.ok
theorem OkU.of {k z} {u : List (Vl × Int)} (h : OkL k z u) : OkU u := ⟨h.ln, h.ok⟩
theorem OkU.l {u : List (Vl × Int)} (h : OkU u) : OkL (skOf (decide (u = []))) 5 u := by
  refine ⟨⟨.inl rfl, ?_⟩, h.ln, h.ok⟩
  by_cases hu : u = []
  · exact fun _ => hu
  · simp [hu, skOf]
theorem e44 {k : SK} {z : Nat} {l : List (Vl × Int)} (h : OkL k z l) : ∃ u, acall S 44 [.sl k z (l.map cC)] = some (rowU u, []) ∧ cPs u = mayB (cPs l) ∧ OkU u ∧ u.length ≤ l.length := by
  have hl := h.ln
  have hL : LIM = 274877906944 := rfl
  have ec := e12 h
  suffices hW : W (acall S 44 [.sl k z (l.map cC)]) (fun r => ∃ u, r = (rowU u, []) ∧ cPs u = mayB (cPs l) ∧ OkU u ∧ u.length ≤ l.length) by
    obtain ⟨r, h1, u, rfl, h2⟩ := hW
    exact ⟨u, h1, h2⟩
  refine g44 rfl ?_
  unfold mayB
  cases hok : okB (cPs l) with
  | false =>
    rw [hok] at ec
    (simp only [go_sem, Nat.add_assoc, reduceIte, reduceCtorEq, Nat.reduceEqDiff, Nat.reduceAdd, Nat.reduceMul, Nat.reduceSub, Nat.reduceLeDiff, Nat.reduceLT, Nat.reduceBEq, Nat.reduceBNe, Int.reduceLE, Int.reduceLT, Int.reduceToNat, Int.reduceEq, Int.reduceNe, Int.reduceNeg, Nat.reduceEqDiff, Int.reduceAdd, Int.reduceSub, Int.reduceMul, Int.cast_ofNat_Int, Int.natCast_zero, a44, s12, ec]; repeat' ((first | refine kont_next ?_ | refine kont_nextn ?_ | refine ikont_next ?_ | refine ikont_nextn ?_) <;> (try simp only [go_sem, Nat.add_assoc, reduceIte, reduceCtorEq, Nat.reduceEqDiff, Nat.reduceAdd, Nat.reduceMul, Nat.reduceSub, Nat.reduceLeDiff, Nat.reduceLT, Nat.reduceBEq, Nat.reduceBNe, Int.reduceLE, Int.reduceLT, Int.reduceToNat, Int.reduceEq, Int.reduceNe, Int.reduceNeg, Nat.reduceEqDiff, Int.reduceAdd, Int.reduceSub, Int.reduceMul, Int.cast_ofNat_Int, Int.natCast_zero, a44, s12, ec])))
    exact ⟨[], rfl, rfl, ⟨by simp, by simp⟩, by simp⟩
  | true =>
    rw [hok] at ec
    (simp only [go_sem, Nat.add_assoc, reduceIte, reduceCtorEq, Nat.reduceEqDiff, Nat.reduceAdd, Nat.reduceMul, Nat.reduceSub, Nat.reduceLeDiff, Nat.reduceLT, Nat.reduceBEq, Nat.reduceBNe, Int.reduceLE, Int.reduceLT, Int.reduceToNat, Int.reduceEq, Int.reduceNe, Int.reduceNeg, Nat.reduceEqDiff, Int.reduceAdd, Int.reduceSub, Int.reduceMul, Int.cast_ofNat_Int, Int.natCast_zero, a44, s12, ec]; repeat' ((first | refine kont_next ?_ | refine kont_nextn ?_ | refine ikont_next ?_ | refine ikont_nextn ?_) <;> (try simp only [go_sem, Nat.add_assoc, reduceIte, reduceCtorEq, Nat.reduceEqDiff, Nat.reduceAdd, Nat.reduceMul, Nat.reduceSub, Nat.reduceLeDiff, Nat.reduceLT, Nat.reduceBEq, Nat.reduceBNe, Int.reduceLE, Int.reduceLT, Int.reduceToNat, Int.reduceEq, Int.reduceNe, Int.reduceNeg, Nat.reduceEqDiff, Int.reduceAdd, Int.reduceSub, Int.reduceMul, Int.cast_ofNat_Int, Int.natCast_zero, a44, s12, ec])))
    refine kloop_inv (ι := List (Vl × Int)) (fun u => [rowU u, .sl k z (l.map cC), .i .i64 l.length, .i .i64 u.length]) (fun u => u.length ≤ l.length ∧ cPs u = cPs (l.take u.length) ∧ OkU u) (fun u => l.length - u.length) [] (by simp) ⟨by simp, rfl, by simp, by simp⟩ ?_
    rintro u ⟨hu, hP, ho⟩
    by_cases hlt : u.length < l.length
    · obtain ⟨⟨c, m⟩, gc⟩ := get_lt3 hlt
      have g1 : decide ((u.length : Int) < (l.length : Int)) = true := decide_eq_true (by omega)
      have b1 : (0 : Int) ≤ (u.length : Int) := by omega
      have hw := wrap_succ (k := u.length) (by omega)
      obtain ⟨d, ed, hdp, hdo⟩ := e64 c (h.get gc)
      obtain ⟨ck, cn, cs, ckk, cz, cl⟩ := c
      simp only [Vl.c] at ed
      have hlim : u.length + 1 ≤ LIM := by omega
      obtain ⟨dk, dn, ds, dkk, dz, dl⟩ := d
      simp only [Vl.c] at ed
      (simp only [go_sem, Nat.add_assoc, reduceIte, reduceCtorEq, Nat.reduceEqDiff, Nat.reduceAdd, Nat.reduceMul, Nat.reduceSub, Nat.reduceLeDiff, Nat.reduceLT, Nat.reduceBEq, Nat.reduceBNe, Int.reduceLE, Int.reduceLT, Int.reduceToNat, Int.reduceEq, Int.reduceNe, Int.reduceNeg, Nat.reduceEqDiff, Int.reduceAdd, Int.reduceSub, Int.reduceMul, Int.cast_ofNat_Int, Int.natCast_zero, g1, b1, gc, h.sk.1, cC, s64, ed, hw, hlim, List.length_map]; repeat' ((first | refine kont_next ?_ | refine kont_nextn ?_ | refine ikont_next ?_ | refine ikont_nextn ?_) <;> (try simp only [go_sem, Nat.add_assoc, reduceIte, reduceCtorEq, Nat.reduceEqDiff, Nat.reduceAdd, Nat.reduceMul, Nat.reduceSub, Nat.reduceLeDiff, Nat.reduceLT, Nat.reduceBEq, Nat.reduceBNe, Int.reduceLE, Int.reduceLT, Int.reduceToNat, Int.reduceEq, Int.reduceNe, Int.reduceNeg, Nat.reduceEqDiff, Int.reduceAdd, Int.reduceSub, Int.reduceMul, Int.cast_ofNat_Int, Int.natCast_zero, g1, b1, gc, h.sk.1, cC, s64, ed, hw, hlim, List.length_map])))
      refine ⟨u ++ [(.mk dk dn ds dkk dz dl, m)], ?_, ⟨by simp; omega, ?_, ?_, ?_⟩, by simp; omega⟩
      · simp [rowU, cC]
      · rw [List.length_append, List.length_singleton, take_get gc]
        simp only [cPs, List.map_append] at hP ⊢
        rw [hP]
        simp [cP, hdp]
      · simp; omega
      · intro x hx
        rcases List.mem_append.1 hx with hx | hx
        · exact ho.ok x hx
        · rw [List.mem_singleton.1 hx]; exact hdo
    · have g1 : decide ((u.length : Int) < (l.length : Int)) = false := decide_eq_false (by omega)
      rw [List.take_of_length_le (by omega)] at hP
      (simp only [go_sem, Nat.add_assoc, reduceIte, reduceCtorEq, Nat.reduceEqDiff, Nat.reduceAdd, Nat.reduceMul, Nat.reduceSub, Nat.reduceLeDiff, Nat.reduceLT, Nat.reduceBEq, Nat.reduceBNe, Int.reduceLE, Int.reduceLT, Int.reduceToNat, Int.reduceEq, Int.reduceNe, Int.reduceNeg, Nat.reduceEqDiff, Int.reduceAdd, Int.reduceSub, Int.reduceMul, Int.cast_ofNat_Int, Int.natCast_zero, g1]; repeat' ((first | refine kont_next ?_ | refine kont_nextn ?_ | refine ikont_next ?_ | refine ikont_nextn ?_) <;> (try simp only [go_sem, Nat.add_assoc, reduceIte, reduceCtorEq, Nat.reduceEqDiff, Nat.reduceAdd, Nat.reduceMul, Nat.reduceSub, Nat.reduceLeDiff, Nat.reduceLT, Nat.reduceBEq, Nat.reduceBNe, Int.reduceLE, Int.reduceLT, Int.reduceToNat, Int.reduceEq, Int.reduceNe, Int.reduceNeg, Nat.reduceEqDiff, Int.reduceAdd, Int.reduceSub, Int.reduceMul, Int.cast_ofNat_Int, Int.natCast_zero, g1])))
      exact ⟨u, rfl, hP, ho, hu⟩

/-! going through it -/
def eachC (x : Vl × Int) : List AV := [.agg x.1.c, .i .i64 x.2]
theorem e59 (a : AV) (k : SK) (z : Nat) (es : List (List AV)) (ha : a = .sl k z es) : acall S 59 [a] = some (.fn 79 [.ip [.sl k z es]], []) := by
  subst ha
  refine W_eq (g59 rfl ?_)
  (simp only [go_sem, Nat.add_assoc, reduceIte, reduceCtorEq, Nat.reduceEqDiff, Nat.reduceAdd, Nat.reduceMul, Nat.reduceSub, Nat.reduceLeDiff, Nat.reduceLT, Nat.reduceBEq, Nat.reduceBNe, Int.reduceLE, Int.reduceLT, Int.reduceToNat, Int.reduceEq, Int.reduceNe, Int.reduceNeg, Nat.reduceEqDiff, Int.reduceAdd, Int.reduceSub, Int.reduceMul, Int.cast_ofNat_Int, Int.natCast_zero, a59]; repeat' ((first | refine kont_next ?_ | refine kont_nextn ?_ | refine ikont_next ?_ | refine ikont_nextn ?_) <;> (try simp only [go_sem, Nat.add_assoc, reduceIte, reduceCtorEq, Nat.reduceEqDiff, Nat.reduceAdd, Nat.reduceMul, Nat.reduceSub, Nat.reduceLeDiff, Nat.reduceLT, Nat.reduceBEq, Nat.reduceBNe, Int.reduceLE, Int.reduceLT, Int.reduceToNat, Int.reduceEq, Int.reduceNe, Int.reduceNeg, Nat.reduceEqDiff, Int.reduceAdd, Int.reduceSub, Int.reduceMul, Int.cast_ofNat_Int, Int.natCast_zero, a59])))
theorem gv_each {k : SK} {z : Nat} {l : List (Vl × Int)} (h : OkL k z l) : acall S 79 [.yq, .ip [.sl k z (l.map cC)]] = some (.sl .open_ 0 (l.map eachC), []) := by
  have hl := h.ln
  refine g79 rfl rfl ?_
  intro o ho
  rw [List.length_map] at ho
  (simp only [go_sem, Nat.add_assoc, reduceIte, reduceCtorEq, Nat.reduceEqDiff, Nat.reduceAdd, Nat.reduceMul, Nat.reduceSub, Nat.reduceLeDiff, Nat.reduceLT, Nat.reduceBEq, Nat.reduceBNe, Int.reduceLE, Int.reduceLT, Int.reduceToNat, Int.reduceEq, Int.reduceNe, Int.reduceNeg, Nat.reduceEqDiff, Int.reduceAdd, Int.reduceSub, Int.reduceMul, Int.cast_ofNat_Int, Int.natCast_zero, a79]; repeat' ((first | refine kont_next ?_ | refine kont_nextn ?_ | refine ikont_next ?_ | refine ikont_nextn ?_) <;> (try simp only [go_sem, Nat.add_assoc, reduceIte, reduceCtorEq, Nat.reduceEqDiff, Nat.reduceAdd, Nat.reduceMul, Nat.reduceSub, Nat.reduceLeDiff, Nat.reduceLT, Nat.reduceBEq, Nat.reduceBNe, Int.reduceLE, Int.reduceLT, Int.reduceToNat, Int.reduceEq, Int.reduceNe, Int.reduceNeg, Nat.reduceEqDiff, Int.reduceAdd, Int.reduceSub, Int.reduceMul, Int.cast_ofNat_Int, Int.natCast_zero, a79])))
  refine ikloop_inv (ι := Nat) (fun i => [.sl k z (l.map cC), .i .i64 l.length, .i .i64 i]) (fun i => (l.take i).map eachC) (fun i => mdk o i)
    (fun i => i ≤ l.length ∧ ∀ n, o = some n → i ≤ n) (fun i => l.length - i) 0 rfl rfl rfl ⟨Nat.zero_le _, fun n _ => Nat.zero_le _⟩ ?_
  rintro i ⟨hi, hn⟩
  by_cases hlt : i < l.length
  · obtain ⟨⟨c, m⟩, gc⟩ := get_lt hlt
    have hw := wrap_succ (k := i) (by omega)
    have hbt : decide ((i : Int) < (l.length : Int)) = true := decide_eq_true (by omega)
    have b1 : (0 : Int) ≤ (i : Int) := by omega
    have hsn : (l.take (i + 1)).map eachC = (l.take i).map eachC ++ [eachC (c, m)] := by rw [take_get gc]; simp
    have hmd := mdk_next (o := o) (k := i) hn
    obtain ⟨ck, cn, cs, ckk, cz, cl⟩ := c
    simp only [eachC, Vl.c] at hsn
    by_cases ho2 : o = some i
    · rw [if_pos ho2, decide_eq_false (by simp [ho2])] at hmd
      (simp only [go_sem, Nat.add_assoc, reduceIte, reduceCtorEq, Nat.reduceEqDiff, Nat.reduceAdd, Nat.reduceMul, Nat.reduceSub, Nat.reduceLeDiff, Nat.reduceLT, Nat.reduceBEq, Nat.reduceBNe, Int.reduceLE, Int.reduceLT, Int.reduceToNat, Int.reduceEq, Int.reduceNe, Int.reduceNeg, Nat.reduceEqDiff, Int.reduceAdd, Int.reduceSub, Int.reduceMul, Int.cast_ofNat_Int, Int.natCast_zero, hbt, h.sk.1, b1, gc, cC, hw, hmd]; repeat' ((first | refine kont_next ?_ | refine kont_nextn ?_ | refine ikont_next ?_ | refine ikont_nextn ?_) <;> (try simp only [go_sem, Nat.add_assoc, reduceIte, reduceCtorEq, Nat.reduceEqDiff, Nat.reduceAdd, Nat.reduceMul, Nat.reduceSub, Nat.reduceLeDiff, Nat.reduceLT, Nat.reduceBEq, Nat.reduceBNe, Int.reduceLE, Int.reduceLT, Int.reduceToNat, Int.reduceEq, Int.reduceNe, Int.reduceNeg, Nat.reduceEqDiff, Int.reduceAdd, Int.reduceSub, Int.reduceMul, Int.cast_ofNat_Int, Int.natCast_zero, hbt, h.sk.1, b1, gc, cC, hw, hmd])))
      subst ho2
      refine ⟨(fun id h => by cases h), ?_, rfl⟩
      simp only
      rw [← List.map_take, hsn]
    · rw [if_neg ho2, decide_eq_true (by simpa using ho2)] at hmd
      (simp only [go_sem, Nat.add_assoc, reduceIte, reduceCtorEq, Nat.reduceEqDiff, Nat.reduceAdd, Nat.reduceMul, Nat.reduceSub, Nat.reduceLeDiff, Nat.reduceLT, Nat.reduceBEq, Nat.reduceBNe, Int.reduceLE, Int.reduceLT, Int.reduceToNat, Int.reduceEq, Int.reduceNe, Int.reduceNeg, Nat.reduceEqDiff, Int.reduceAdd, Int.reduceSub, Int.reduceMul, Int.cast_ofNat_Int, Int.natCast_zero, hbt, h.sk.1, b1, gc, cC, hw, hmd]; repeat' ((first | refine kont_next ?_ | refine kont_nextn ?_ | refine ikont_next ?_ | refine ikont_nextn ?_) <;> (try simp only [go_sem, Nat.add_assoc, reduceIte, reduceCtorEq, Nat.reduceEqDiff, Nat.reduceAdd, Nat.reduceMul, Nat.reduceSub, Nat.reduceLeDiff, Nat.reduceLT, Nat.reduceBEq, Nat.reduceBNe, Int.reduceLE, Int.reduceLT, Int.reduceToNat, Int.reduceEq, Int.reduceNe, Int.reduceNeg, Nat.reduceEqDiff, Int.reduceAdd, Int.reduceSub, Int.reduceMul, Int.cast_ofNat_Int, Int.natCast_zero, hbt, h.sk.1, b1, gc, cC, hw, hmd])))
      exact ⟨i + 1, rfl, by rw [hsn], rfl, ⟨by omega, fun n hn2 => by
        have := hn n hn2
        rcases Nat.lt_or_ge i n with h1 | h1
        · omega
        · exact absurd (by rw [hn2]; congr 1; omega) ho2⟩, by omega⟩
  · have hbf : decide ((i : Int) < (l.length : Int)) = false := decide_eq_false (by omega)
    obtain rfl : i = l.length := by omega
    have hoN : o = none := by
      cases o with
      | none => rfl
      | some n =>
        have h1 := hn n rfl
        have h2 := ho n rfl
        omega
    subst hoN
    (simp only [go_sem, Nat.add_assoc, reduceIte, reduceCtorEq, Nat.reduceEqDiff, Nat.reduceAdd, Nat.reduceMul, Nat.reduceSub, Nat.reduceLeDiff, Nat.reduceLT, Nat.reduceBEq, Nat.reduceBNe, Int.reduceLE, Int.reduceLT, Int.reduceToNat, Int.reduceEq, Int.reduceNe, Int.reduceNeg, Nat.reduceEqDiff, Int.reduceAdd, Int.reduceSub, Int.reduceMul, Int.cast_ofNat_Int, Int.natCast_zero, hbf]; repeat' ((first | refine kont_next ?_ | refine kont_nextn ?_ | refine ikont_next ?_ | refine ikont_nextn ?_) <;> (try simp only [go_sem, Nat.add_assoc, reduceIte, reduceCtorEq, Nat.reduceEqDiff, Nat.reduceAdd, Nat.reduceMul, Nat.reduceSub, Nat.reduceLeDiff, Nat.reduceLT, Nat.reduceBEq, Nat.reduceBNe, Int.reduceLE, Int.reduceLT, Int.reduceToNat, Int.reduceEq, Int.reduceNe, Int.reduceNeg, Nat.reduceEqDiff, Int.reduceAdd, Int.reduceSub, Int.reduceMul, Int.cast_ofNat_Int, Int.natCast_zero, hbf])))
    refine ⟨(fun id h => by cases h), ?_, rfl⟩
    simp only [List.take_length]
theorem tot_take {b : PB} {i : Nat} {x : PV × Int} (h : b[i]? = some x) : totB (b.take (i + 1)) = totB (b.take i) + x.2 := by
  rw [take_get h]
  generalize b.take i = a
  induction a with
  | nil => simp [totB]
  | cons y r ih => simp only [List.cons_append, totB, ih]; omega
theorem tot_le : ∀ {b : PB} (i : Nat), (∀ x ∈ b, 1 ≤ x.2) → totB (b.take i) ≤ totB b
  | [], i, _ => by simp [totB]
  | x :: r, 0, h => by
    have := tot_nonneg h
    simpa [totB] using this
  | x :: r, i + 1, h => by
    have := tot_le (b := r) i fun y hy => h y (List.mem_cons_of_mem _ hy)
    simp only [List.take_succ_cons, totB]; omega
theorem e45 {k : SK} {z : Nat} {l : List (Vl × Int)} (h : OkL k z l) (hb : Ok (cPs l)) : acall S 45 [.sl k z (l.map cC)] = some (.i .i64 (totB (cPs l)), []) := by
  have hl := h.ln
  have e1 := e59 _ k z (l.map cC) rfl
  have e2 := gv_each h
  refine W_eq (g45 rfl ?_)
  (simp only [go_sem, Nat.add_assoc, reduceIte, reduceCtorEq, Nat.reduceEqDiff, Nat.reduceAdd, Nat.reduceMul, Nat.reduceSub, Nat.reduceLeDiff, Nat.reduceLT, Nat.reduceBEq, Nat.reduceBNe, Int.reduceLE, Int.reduceLT, Int.reduceToNat, Int.reduceEq, Int.reduceNe, Int.reduceNeg, Nat.reduceEqDiff, Int.reduceAdd, Int.reduceSub, Int.reduceMul, Int.cast_ofNat_Int, Int.natCast_zero, a45, s59, e1, seqOf, e2, elemsOf, s79]; repeat' ((first | refine kont_next ?_ | refine kont_nextn ?_ | refine ikont_next ?_ | refine ikont_nextn ?_) <;> (try simp only [go_sem, Nat.add_assoc, reduceIte, reduceCtorEq, Nat.reduceEqDiff, Nat.reduceAdd, Nat.reduceMul, Nat.reduceSub, Nat.reduceLeDiff, Nat.reduceLT, Nat.reduceBEq, Nat.reduceBNe, Int.reduceLE, Int.reduceLT, Int.reduceToNat, Int.reduceEq, Int.reduceNe, Int.reduceNeg, Nat.reduceEqDiff, Int.reduceAdd, Int.reduceSub, Int.reduceMul, Int.cast_ofNat_Int, Int.natCast_zero, a45, s59, e1, seqOf, e2, elemsOf, s79])))
  refine krange_inv (ι := Int) (fun y => [.bx [.i .i64 y], .fn 79 [.ip [.sl k z (l.map cC)]]]) (fun k y => y = totB ((cPs l).take k)) 0 rfl (by simp [totB]) ?_ ?_
  · rintro y rfl
    rw [List.length_map, show l.length = (cPs l).length by simp, List.take_length]
    (simp only [go_sem, Nat.add_assoc, reduceIte, reduceCtorEq, Nat.reduceEqDiff, Nat.reduceAdd, Nat.reduceMul, Nat.reduceSub, Nat.reduceLeDiff, Nat.reduceLT, Nat.reduceBEq, Nat.reduceBNe, Int.reduceLE, Int.reduceLT, Int.reduceToNat, Int.reduceEq, Int.reduceNe, Int.reduceNeg, Nat.reduceEqDiff, Int.reduceAdd, Int.reduceSub, Int.reduceMul, Int.cast_ofNat_Int, Int.natCast_zero]; repeat' ((first | refine kont_next ?_ | refine kont_nextn ?_ | refine ikont_next ?_ | refine ikont_nextn ?_) <;> (try simp only [go_sem, Nat.add_assoc, reduceIte, reduceCtorEq, Nat.reduceEqDiff, Nat.reduceAdd, Nat.reduceMul, Nat.reduceSub, Nat.reduceLeDiff, Nat.reduceLT, Nat.reduceBEq, Nat.reduceBNe, Int.reduceLE, Int.reduceLT, Int.reduceToNat, Int.reduceEq, Int.reduceNe, Int.reduceNeg, Nat.reduceEqDiff, Int.reduceAdd, Int.reduceSub, Int.reduceMul, Int.cast_ofNat_Int, Int.natCast_zero])))
  · rintro i x y hx rfl
    rw [List.getElem?_map] at hx
    simp only [Option.map_eq_some_iff] at hx
    obtain ⟨⟨c, m⟩, gc, rfl⟩ := hx
    have h1 := tot_take (cPs_get gc)
    have h2 := tot_le (i + 1) hb.pos
    have h3 := tot_nonneg (b := (cPs l).take (i + 1)) fun y hy => hb.pos y (List.mem_of_mem_take hy)
    have h4 := hb.tot
    have hMC : MC = 9007199254740992 := rfl
    simp only [cP] at h1
    have hw : IntKind.i64.wrap (totB ((cPs l).take i) + m) = totB ((cPs l).take (i + 1)) := by rw [← h1]; exact wrap_i64 (by omega) (by omega)
    refine ⟨_, rfl, ?_⟩
    (simp only [go_sem, Nat.add_assoc, reduceIte, reduceCtorEq, Nat.reduceEqDiff, Nat.reduceAdd, Nat.reduceMul, Nat.reduceSub, Nat.reduceLeDiff, Nat.reduceLT, Nat.reduceBEq, Nat.reduceBNe, Int.reduceLE, Int.reduceLT, Int.reduceToNat, Int.reduceEq, Int.reduceNe, Int.reduceNeg, Nat.reduceEqDiff, Int.reduceAdd, Int.reduceSub, Int.reduceMul, Int.cast_ofNat_Int, Int.natCast_zero, eachC, hw]; repeat' ((first | refine kont_next ?_ | refine kont_nextn ?_ | refine ikont_next ?_ | refine ikont_nextn ?_) <;> (try simp only [go_sem, Nat.add_assoc, reduceIte, reduceCtorEq, Nat.reduceEqDiff, Nat.reduceAdd, Nat.reduceMul, Nat.reduceSub, Nat.reduceLeDiff, Nat.reduceLT, Nat.reduceBEq, Nat.reduceBNe, Int.reduceLE, Int.reduceLT, Int.reduceToNat, Int.reduceEq, Int.reduceNe, Int.reduceNeg, Nat.reduceEqDiff, Int.reduceAdd, Int.reduceSub, Int.reduceMul, Int.cast_ofNat_Int, Int.natCast_zero, eachC, hw])))
    exact ⟨_, rfl, rfl⟩
theorem e27 {k : SK} {z : Nat} {l : List (Vl × Int)} (h : OkL k z l) : acall S 27 [.sl k z (l.map cC)] = some (.i .i64 (totB (mayB (cPs l))), []) := by
  have ec := e12 h
  refine W_eq (g27 rfl ?_)
  unfold mayB
  cases hok : okB (cPs l) with
  | false =>
    rw [hok] at ec
    (simp only [go_sem, Nat.add_assoc, reduceIte, reduceCtorEq, Nat.reduceEqDiff, Nat.reduceAdd, Nat.reduceMul, Nat.reduceSub, Nat.reduceLeDiff, Nat.reduceLT, Nat.reduceBEq, Nat.reduceBNe, Int.reduceLE, Int.reduceLT, Int.reduceToNat, Int.reduceEq, Int.reduceNe, Int.reduceNeg, Nat.reduceEqDiff, Int.reduceAdd, Int.reduceSub, Int.reduceMul, Int.cast_ofNat_Int, Int.natCast_zero, a27, s12, ec, totB]; repeat' ((first | refine kont_next ?_ | refine kont_nextn ?_ | refine ikont_next ?_ | refine ikont_nextn ?_) <;> (try simp only [go_sem, Nat.add_assoc, reduceIte, reduceCtorEq, Nat.reduceEqDiff, Nat.reduceAdd, Nat.reduceMul, Nat.reduceSub, Nat.reduceLeDiff, Nat.reduceLT, Nat.reduceBEq, Nat.reduceBNe, Int.reduceLE, Int.reduceLT, Int.reduceToNat, Int.reduceEq, Int.reduceNe, Int.reduceNeg, Nat.reduceEqDiff, Int.reduceAdd, Int.reduceSub, Int.reduceMul, Int.cast_ofNat_Int, Int.natCast_zero, a27, s12, ec, totB])))
  | true =>
    rw [hok] at ec
    have et := e45 h ((okB_iff _).1 hok)
    (simp only [go_sem, Nat.add_assoc, reduceIte, reduceCtorEq, Nat.reduceEqDiff, Nat.reduceAdd, Nat.reduceMul, Nat.reduceSub, Nat.reduceLeDiff, Nat.reduceLT, Nat.reduceBEq, Nat.reduceBNe, Int.reduceLE, Int.reduceLT, Int.reduceToNat, Int.reduceEq, Int.reduceNe, Int.reduceNeg, Nat.reduceEqDiff, Int.reduceAdd, Int.reduceSub, Int.reduceMul, Int.cast_ofNat_Int, Int.natCast_zero, a27, s12, ec, s45, et]; repeat' ((first | refine kont_next ?_ | refine kont_nextn ?_ | refine ikont_next ?_ | refine ikont_nextn ?_) <;> (try simp only [go_sem, Nat.add_assoc, reduceIte, reduceCtorEq, Nat.reduceEqDiff, Nat.reduceAdd, Nat.reduceMul, Nat.reduceSub, Nat.reduceLeDiff, Nat.reduceLT, Nat.reduceBEq, Nat.reduceBNe, Int.reduceLE, Int.reduceLT, Int.reduceToNat, Int.reduceEq, Int.reduceNe, Int.reduceNeg, Nat.reduceEqDiff, Int.reduceAdd, Int.reduceSub, Int.reduceMul, Int.cast_ofNat_Int, Int.natCast_zero, a27, s12, ec, s45, et])))
end Go.Proofs.Ytabbjdclfmeipaa
