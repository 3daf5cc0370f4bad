/-
  The reference's answers: a value more; many; some times; each once.
-/
import Derived.Test.YtabbjdclfmeipaaB9
set_option linter.unusedSimpArgs false
set_option linter.unusedVariables false
set_option maxHeartbeats 8000000
set_option maxRecDepth 100000
namespace Go.Proofs.Ytabbjdclfmeipaa
open Go.Abs

theorem pos_at (v : PV) : ∀ (b : PB) (x : PV × Int), b[posB v b]? = some x → ¬ cmpV x.1 v < 0
  | [], x, hx => by simp at hx
  | y :: r, x, hx => by
    simp only [posB] at hx
    split at hx
    · exact pos_at v r x (by simpa using hx)
    · rename_i h1
      simp at hx; subst hx; exact h1
open Classical in
theorem e50 {k : SK} {z : Nat} {l : List (Vl × Int)} (h : OkL k z l) (v : Vl) (hv : v.ok) (n : Int) (hr : ∀ x ∈ cPs l, -9223372036854775808 ≤ x.2 + n ∧ x.2 + n < 9223372036854775808) :
    ∃ l', acall S 50 [.sl k z (l.map cC), .agg v.c, .i .i64 n] = some (.sl .open_ 5 (l'.map cC), []) ∧ cPs l' = putB v.p n (cPs l) ∧ (∀ x ∈ l', x.1.ok) := by
  have hl := h.ln
  have hL : LIM = 274877906944 := rfl
  obtain ⟨d, ed, hdp, hdo⟩ := e65 v hv
  suffices hW : W (acall S 50 [.sl k z (l.map cC), .agg v.c, .i .i64 n]) (fun r => ∃ l', r = (.sl .open_ 5 (l'.map cC), []) ∧ cPs l' = putB v.p n (cPs l) ∧ (∀ x ∈ l', x.1.ok)) by
    obtain ⟨r, h1, l', rfl, h2⟩ := hW
    exact ⟨l', h1, h2⟩
  have hple := pos_le v.p (cPs l)
  rw [List.length_map] at hple
  have hpl := pos_lt v.p (cPs l)
  have hpa := pos_at v.p (cPs l)
  have hpA := put_at v.p n (cPs l)
  have hpP := put_pos v.p n (cPs l)
  have hq := fun c hc => e43 c v hc hv
  have hs := fun c hc => e31 c v hc hv
  obtain ⟨t, ht⟩ : ∃ t, t = posB v.p (cPs l) := ⟨_, rfl⟩
  have hib : isB v.p (cPs l) = match (cPs l)[t]? with | some x => decide (cmpV x.1 v.p = 0) | none => false := by rw [ht]; rfl
  rw [← ht] at hple hpl hpa hpA hpP
  generalize hvp : v.p = p at *
  obtain ⟨vk, vn, vs, vkk, vz, vl⟩ := v
  simp only [Vl.c] at hq hs ed ⊢
  refine g50 rfl ?_
  (simp only [go_sem, Nat.add_assoc, reduceIte, reduceCtorEq, Nat.reduceEqDiff, Nat.reduceAdd, Nat.reduceMul, Nat.reduceSub, Nat.reduceLeDiff, Nat.reduceLT, Nat.reduceBEq, Nat.reduceBNe, Int.reduceLE, Int.reduceLT, Int.reduceToNat, Int.reduceEq, Int.reduceNe, Int.reduceNeg, Nat.reduceEqDiff, Int.reduceAdd, Int.reduceSub, Int.reduceMul, Int.cast_ofNat_Int, Int.natCast_zero, a50]; repeat' ((first | refine kont_next ?_ | refine kont_nextn ?_ | refine ikont_next ?_ | refine ikont_nextn ?_) <;> (try simp only [go_sem, Nat.add_assoc, reduceIte, reduceCtorEq, Nat.reduceEqDiff, Nat.reduceAdd, Nat.reduceMul, Nat.reduceSub, Nat.reduceLeDiff, Nat.reduceLT, Nat.reduceBEq, Nat.reduceBNe, Int.reduceLE, Int.reduceLT, Int.reduceToNat, Int.reduceEq, Int.reduceNe, Int.reduceNeg, Nat.reduceEqDiff, Int.reduceAdd, Int.reduceSub, Int.reduceMul, Int.cast_ofNat_Int, Int.natCast_zero, a50])))
  refine kloop_inv (ι := Nat) (fun i => [.sl k z (l.map cC), .i .i64 n, .bx [.i .i64 vk, .i .i64 vn, .str vs, .sl vkk vz (Vl.cs vl)], .i .i64 i])
    (fun i => i ≤ t) (fun i => l.length - i) 0 rfl (Nat.zero_le _) ?_
  intro i hi
  have b1 : (0 : Int) ≤ (i : Int) := by omega
  have hw := wrap_succ (k := i) (by omega)
  by_cases hlt : i < t
  · obtain ⟨⟨c, m⟩, gc⟩ := get_lt3 (show i < l.length by omega)
    have g1 : decide ((i : Int) < (l.length : Int)) = true := decide_eq_true (by omega)
    have ec := hq c (h.get gc)
    have h1 := hpl i _ hlt (cPs_get gc)
    simp only [cP] at h1
    have g2 := decide_eq_true h1
    obtain ⟨ck, cn, cs, ckk, cz, cl⟩ := c
    simp only [Vl.c] at ec
    (simp only [go_sem, Nat.add_assoc, reduceIte, reduceCtorEq, Nat.reduceEqDiff, Nat.reduceAdd, Nat.reduceMul, Nat.reduceSub, Nat.reduceLeDiff, Nat.reduceLT, Nat.reduceBEq, Nat.reduceBNe, Int.reduceLE, Int.reduceLT, Int.reduceToNat, Int.reduceEq, Int.reduceNe, Int.reduceNeg, Nat.reduceEqDiff, Int.reduceAdd, Int.reduceSub, Int.reduceMul, Int.cast_ofNat_Int, Int.natCast_zero, g1, b1, gc, h.sk.1, cC, s43, ec, g2, hw]; repeat' ((first | refine kont_next ?_ | refine kont_nextn ?_ | refine ikont_next ?_ | refine ikont_nextn ?_) <;> (try simp only [go_sem, Nat.add_assoc, reduceIte, reduceCtorEq, Nat.reduceEqDiff, Nat.reduceAdd, Nat.reduceMul, Nat.reduceSub, Nat.reduceLeDiff, Nat.reduceLT, Nat.reduceBEq, Nat.reduceBNe, Int.reduceLE, Int.reduceLT, Int.reduceToNat, Int.reduceEq, Int.reduceNe, Int.reduceNeg, Nat.reduceEqDiff, Int.reduceAdd, Int.reduceSub, Int.reduceMul, Int.cast_ofNat_Int, Int.natCast_zero, g1, b1, gc, h.sk.1, cC, s43, ec, g2, hw])))
    exact ⟨i + 1, rfl, by omega, by omega⟩
  · obtain rfl : i = t := by omega
    by_cases hin : i < l.length
    · obtain ⟨⟨c, m⟩, gc⟩ := get_lt3 hin
      have g1 : decide ((i : Int) < (l.length : Int)) = true := decide_eq_true (by omega)
      have ec := hq c (h.get gc)
      have es := hs c (h.get gc)
      have h1 := hpa _ (cPs_get gc)
      simp only [cP] at h1
      have g2 := decide_eq_false h1
      have b2 : (i : Int) ≤ (l.length : Int) := by omega
      have b3 : i ≤ l.length := by omega
      have hrm := hr _ (List.mem_of_getElem? (cPs_get gc))
      simp only [cP] at hrm
      have hwn : IntKind.i64.wrap (n + m) = n + m := wrap_i64 (by omega) (by omega)
      rw [cPs_get gc] at hib
      simp only [cP] at hib
      have hlim : i + 1 ≤ LIM := by omega
      have hlim0 : i ≤ LIM := by omega
      have hmin : min i l.length = i := by omega
      have hlim2 : i + (1 + (l.length - i - 1)) ≤ LIM := by omega
      have hlim3 : i + (1 + (l.length - i)) ≤ LIM := by omega
      have hq2 : 1 + (l.length - i - 1) ≤ l.length - i - 1 + 1 := by omega
      have hq3 : 1 + (l.length - i) ≤ l.length - i + 1 := by omega
      have hz5 : z = 5 := by
        rcases h.sk.1 with h1 | h1
        · exact h1
        · rw [h1] at hin; simp at hin
      subst hz5
      by_cases he : Vl.p c = p
      · rw [decide_eq_true he] at es
        have hi1 : isB p (cPs l) = true := by rw [hib]; exact decide_eq_true ((cmpV_zero _ _).2 he)
        obtain ⟨m', hm', hput⟩ := hpA hi1
        rw [cPs_get gc] at hm'
        have hmm : m = m' := congrArg Prod.snd (Option.some.inj hm')
        rw [← hmm] at hput
        obtain ⟨ck, cn, cs, ckk, cz, cl⟩ := c
        obtain ⟨dk, dn, ds, dkk, dz, dl⟩ := d
        simp only [Vl.c] at ec es ed
        have b5 : (1 : Nat) ≤ l.length - i := by omega
        have b6 : (1 : Int) ≤ ((l.length - i : Nat) : Int) := by omega
        (simp only [go_sem, Nat.add_assoc, reduceIte, reduceCtorEq, Nat.reduceEqDiff, Nat.reduceAdd, Nat.reduceMul, Nat.reduceSub, Nat.reduceLeDiff, Nat.reduceLT, Nat.reduceBEq, Nat.reduceBNe, Int.reduceLE, Int.reduceLT, Int.reduceToNat, Int.reduceEq, Int.reduceNe, Int.reduceNeg, Nat.reduceEqDiff, Int.reduceAdd, Int.reduceSub, Int.reduceMul, Int.cast_ofNat_Int, Int.natCast_zero, g1, b1, gc, cC, s43, ec, g2, es, s31, b2, b3, b5, b6, hwn, s65, ed, hlim, hlim0, hlim2, hmin, hq2, List.length_map, List.length_take, List.length_drop, List.length_append, List.length_singleton, List.length_cons, List.length_nil, Nat.le_refl]; repeat' ((first | refine kont_next ?_ | refine kont_nextn ?_ | refine ikont_next ?_ | refine ikont_nextn ?_) <;> (try simp only [go_sem, Nat.add_assoc, reduceIte, reduceCtorEq, Nat.reduceEqDiff, Nat.reduceAdd, Nat.reduceMul, Nat.reduceSub, Nat.reduceLeDiff, Nat.reduceLT, Nat.reduceBEq, Nat.reduceBNe, Int.reduceLE, Int.reduceLT, Int.reduceToNat, Int.reduceEq, Int.reduceNe, Int.reduceNeg, Nat.reduceEqDiff, Int.reduceAdd, Int.reduceSub, Int.reduceMul, Int.cast_ofNat_Int, Int.natCast_zero, g1, b1, gc, cC, s43, ec, g2, es, s31, b2, b3, b5, b6, hwn, s65, ed, hlim, hlim0, hlim2, hmin, hq2, List.length_map, List.length_take, List.length_drop, List.length_append, List.length_singleton, List.length_cons, List.length_nil, Nat.le_refl])))
        refine kans_ask (by omega) ?_
        (simp only [go_sem, Nat.add_assoc, reduceIte, reduceCtorEq, Nat.reduceEqDiff, Nat.reduceAdd, Nat.reduceMul, Nat.reduceSub, Nat.reduceLeDiff, Nat.reduceLT, Nat.reduceBEq, Nat.reduceBNe, Int.reduceLE, Int.reduceLT, Int.reduceToNat, Int.reduceEq, Int.reduceNe, Int.reduceNeg, Nat.reduceEqDiff, Int.reduceAdd, Int.reduceSub, Int.reduceMul, Int.cast_ofNat_Int, Int.natCast_zero]; repeat' ((first | refine kont_next ?_ | refine kont_nextn ?_ | refine ikont_next ?_ | refine ikont_nextn ?_) <;> (try simp only [go_sem, Nat.add_assoc, reduceIte, reduceCtorEq, Nat.reduceEqDiff, Nat.reduceAdd, Nat.reduceMul, Nat.reduceSub, Nat.reduceLeDiff, Nat.reduceLT, Nat.reduceBEq, Nat.reduceBNe, Int.reduceLE, Int.reduceLT, Int.reduceToNat, Int.reduceEq, Int.reduceNe, Int.reduceNeg, Nat.reduceEqDiff, Int.reduceAdd, Int.reduceSub, Int.reduceMul, Int.cast_ofNat_Int, Int.natCast_zero])))
        refine ⟨l.take i ++ (.mk dk dn ds dkk dz dl, n + m) :: l.drop (i + 1), ?_, ?_, ?_⟩
        · rw [List.take_of_length_le (by simp; omega)]
          simp [cC, List.map_take, List.map_drop, List.drop_drop, Nat.add_comm, Int.add_comm]
        · rw [hput, List.set_eq_take_append_cons_drop, if_pos (by simp; omega)]
          simp [cP, hdp, List.map_take, List.map_drop, Int.add_comm]
        · intro x hx
          rcases List.mem_append.1 hx with hx | hx
          · exact h.ok x (List.mem_of_mem_take hx)
          · rcases List.mem_cons.1 hx with rfl | hx
            · exact hdo
            · exact h.ok x (List.mem_of_mem_drop hx)
      · rw [decide_eq_false he] at es
        have hi1 : isB p (cPs l) = false := by rw [hib]; exact decide_eq_false (fun e => he ((cmpV_zero _ _).1 e))
        have hput := hpP hi1
        obtain ⟨ck, cn, cs, ckk, cz, cl⟩ := c
        obtain ⟨dk, dn, ds, dkk, dz, dl⟩ := d
        simp only [Vl.c] at ec es ed
        (simp only [go_sem, Nat.add_assoc, reduceIte, reduceCtorEq, Nat.reduceEqDiff, Nat.reduceAdd, Nat.reduceMul, Nat.reduceSub, Nat.reduceLeDiff, Nat.reduceLT, Nat.reduceBEq, Nat.reduceBNe, Int.reduceLE, Int.reduceLT, Int.reduceToNat, Int.reduceEq, Int.reduceNe, Int.reduceNeg, Nat.reduceEqDiff, Int.reduceAdd, Int.reduceSub, Int.reduceMul, Int.cast_ofNat_Int, Int.natCast_zero, g1, b1, gc, cC, s43, ec, g2, es, s31, b2, b3, hwn, s65, ed, hlim, hlim0, hlim3, hmin, hq3, List.length_map, List.length_take, List.length_drop, List.length_append, List.length_singleton, List.length_cons, List.length_nil, Nat.le_refl]; repeat' ((first | refine kont_next ?_ | refine kont_nextn ?_ | refine ikont_next ?_ | refine ikont_nextn ?_) <;> (try simp only [go_sem, Nat.add_assoc, reduceIte, reduceCtorEq, Nat.reduceEqDiff, Nat.reduceAdd, Nat.reduceMul, Nat.reduceSub, Nat.reduceLeDiff, Nat.reduceLT, Nat.reduceBEq, Nat.reduceBNe, Int.reduceLE, Int.reduceLT, Int.reduceToNat, Int.reduceEq, Int.reduceNe, Int.reduceNeg, Nat.reduceEqDiff, Int.reduceAdd, Int.reduceSub, Int.reduceMul, Int.cast_ofNat_Int, Int.natCast_zero, g1, b1, gc, cC, s43, ec, g2, es, s31, b2, b3, hwn, s65, ed, hlim, hlim0, hlim3, hmin, hq3, List.length_map, List.length_take, List.length_drop, List.length_append, List.length_singleton, List.length_cons, List.length_nil, Nat.le_refl])))
        refine kans_ask (by omega) ?_
        (simp only [go_sem, Nat.add_assoc, reduceIte, reduceCtorEq, Nat.reduceEqDiff, Nat.reduceAdd, Nat.reduceMul, Nat.reduceSub, Nat.reduceLeDiff, Nat.reduceLT, Nat.reduceBEq, Nat.reduceBNe, Int.reduceLE, Int.reduceLT, Int.reduceToNat, Int.reduceEq, Int.reduceNe, Int.reduceNeg, Nat.reduceEqDiff, Int.reduceAdd, Int.reduceSub, Int.reduceMul, Int.cast_ofNat_Int, Int.natCast_zero]; repeat' ((first | refine kont_next ?_ | refine kont_nextn ?_ | refine ikont_next ?_ | refine ikont_nextn ?_) <;> (try simp only [go_sem, Nat.add_assoc, reduceIte, reduceCtorEq, Nat.reduceEqDiff, Nat.reduceAdd, Nat.reduceMul, Nat.reduceSub, Nat.reduceLeDiff, Nat.reduceLT, Nat.reduceBEq, Nat.reduceBNe, Int.reduceLE, Int.reduceLT, Int.reduceToNat, Int.reduceEq, Int.reduceNe, Int.reduceNeg, Nat.reduceEqDiff, Int.reduceAdd, Int.reduceSub, Int.reduceMul, Int.cast_ofNat_Int, Int.natCast_zero])))
        refine ⟨l.take i ++ (.mk dk dn ds dkk dz dl, n) :: l.drop i, ?_, ?_, ?_⟩
        · rw [List.take_of_length_le (by simp; omega)]
          simp [cC, List.map_take, List.map_drop]
        · rw [hput]
          simp [cP, hdp, List.map_take, List.map_drop]
        · intro x hx
          rcases List.mem_append.1 hx with hx | hx
          · exact h.ok x (List.mem_of_mem_take hx)
          · rcases List.mem_cons.1 hx with rfl | hx
            · exact hdo
            · exact h.ok x (List.mem_of_mem_drop hx)
    · obtain rfl : i = l.length := by omega
      have g1 : decide ((l.length : Int) < (l.length : Int)) = false := decide_eq_false (by omega)
      have hi1 : isB p (cPs l) = false := by
        rw [hib, List.getElem?_eq_none (by simp)]
      have hput := hpP hi1
      rw [List.take_of_length_le (by simp), List.drop_of_length_le (by simp)] at hput
      obtain ⟨dk, dn, ds, dkk, dz, dl⟩ := d
      simp only [Vl.c] at ed
      have hlim : l.length + 1 ≤ LIM := by omega
      have hlim0 : l.length ≤ LIM := by omega
      have hd : (l.map cC).drop l.length = [] := List.drop_of_length_le (by simp)
      have hto : (l.map cC).take l.length = l.map cC := List.take_of_length_le (by simp)
      have hsk := h.sk.1
      (simp only [go_sem, Nat.add_assoc, reduceIte, reduceCtorEq, Nat.reduceEqDiff, Nat.reduceAdd, Nat.reduceMul, Nat.reduceSub, Nat.reduceLeDiff, Nat.reduceLT, Nat.reduceBEq, Nat.reduceBNe, Int.reduceLE, Int.reduceLT, Int.reduceToNat, Int.reduceEq, Int.reduceNe, Int.reduceNeg, Nat.reduceEqDiff, Int.reduceAdd, Int.reduceSub, Int.reduceMul, Int.cast_ofNat_Int, Int.natCast_zero, g1, b1, cC, hsk, hd, hto, s65, ed, hlim, hlim0, List.length_map, List.length_take, List.length_drop, List.length_append, List.length_singleton, List.length_cons, List.length_nil, Nat.le_refl]; repeat' ((first | refine kont_next ?_ | refine kont_nextn ?_ | refine ikont_next ?_ | refine ikont_nextn ?_) <;> (try simp only [go_sem, Nat.add_assoc, reduceIte, reduceCtorEq, Nat.reduceEqDiff, Nat.reduceAdd, Nat.reduceMul, Nat.reduceSub, Nat.reduceLeDiff, Nat.reduceLT, Nat.reduceBEq, Nat.reduceBNe, Int.reduceLE, Int.reduceLT, Int.reduceToNat, Int.reduceEq, Int.reduceNe, Int.reduceNeg, Nat.reduceEqDiff, Int.reduceAdd, Int.reduceSub, Int.reduceMul, Int.cast_ofNat_Int, Int.natCast_zero, g1, b1, cC, hsk, hd, hto, s65, ed, hlim, hlim0, List.length_map, List.length_take, List.length_drop, List.length_append, List.length_singleton, List.length_cons, List.length_nil, Nat.le_refl])))
      refine ⟨l ++ [(.mk dk dn ds dkk dz dl, n)], ?_, ?_, ?_⟩
      · simp [cC]
      · rw [hput]
        simp [cP, hdp]
      · intro x hx
        rcases List.mem_append.1 hx with hx | hx
        · exact h.ok x hx
        · rw [List.mem_singleton.1 hx]
          exact hdo
end Go.Proofs.Ytabbjdclfmeipaa
