/-
  A value's place in a bag; a bag with a value some times more.
-/
import Derived.Test.YtabbjdclfmeipaaB3
set_option linter.unusedSimpArgs false
set_option linter.unusedVariables false
set_option maxHeartbeats 8000000
set_option maxRecDepth 100000
namespace Go.Proofs.Ytabbjdclfmeipaa
open Go.Abs

theorem e88 (c : Vl) (m : Int) (v : Vl) (hc : c.ok) (hv : v.ok) : acall S 88 [.agg (cC (c, m)), .agg v.c] = some (.i .i64 (cmpV c.p v.p), []) := by
  have e1 := e49 c v hc hv
  obtain ⟨ck, cn, cs, ckk, cz, cl⟩ := c
  obtain ⟨dk, dn, ds, dkk, dz, dl⟩ := v
  simp only [Vl.c] at e1
  refine W_eq (g88 rfl ?_)
  (simp only [go_sem, Nat.add_assoc, reduceIte, reduceCtorEq, Nat.reduceEqDiff, Nat.reduceAdd, Nat.reduceMul, Nat.reduceSub, Nat.reduceLeDiff, Nat.reduceLT, Nat.reduceBEq, Nat.reduceBNe, Int.reduceLE, Int.reduceLT, Int.reduceToNat, Int.reduceEq, Int.reduceNe, Int.reduceNeg, Nat.reduceEqDiff, Int.reduceAdd, Int.reduceSub, Int.reduceMul, Int.cast_ofNat_Int, Int.natCast_zero, a88, cC, Vl.c, s49, e1]; repeat' ((first | refine kont_next ?_ | refine kont_nextn ?_ | refine ikont_next ?_ | refine ikont_nextn ?_) <;> (try simp only [go_sem, Nat.add_assoc, reduceIte, reduceCtorEq, Nat.reduceEqDiff, Nat.reduceAdd, Nat.reduceMul, Nat.reduceSub, Nat.reduceLeDiff, Nat.reduceLT, Nat.reduceBEq, Nat.reduceBNe, Int.reduceLE, Int.reduceLT, Int.reduceToNat, Int.reduceEq, Int.reduceNe, Int.reduceNeg, Nat.reduceEqDiff, Int.reduceAdd, Int.reduceSub, Int.reduceMul, Int.cast_ofNat_Int, Int.natCast_zero, a88, cC, Vl.c, s49, e1])))
theorem half {i j : Nat} (hi : i < 4611686018427387904) (hj : j < 4611686018427387904) : IntKind.i64.wrap (shrI IntKind.u64 (IntKind.u64.wrap (IntKind.i64.wrap ((i : Int) + (j : Int)))) 1) = (((i + j) / 2 : Nat) : Int) := by
  have e : shrI IntKind.u64 (IntKind.u64.wrap (IntKind.i64.wrap ((i : Int) + (j : Int)))) 1 = IntKind.u64.wrap (IntKind.i64.wrap ((i : Int) + (j : Int))) / 2 := by
    unfold shrI
    rw [Int.fdiv_eq_ediv_of_nonneg _ (by decide)]
    rfl
  rw [e]
  simp [IntKind.wrap, IntKind.bits, IntKind.signed]
  omega
theorem e87 {k : SK} {z : Nat} {l : List (Vl × Int)} (h : OkL k z l) (hs : Srt (cPs l)) (v : Vl) (hv : v.ok) :
    acall S 87 [.sl k z (l.map cC), .agg v.c, .fn 88 []] = some (.tup [.i .i64 (posB v.p (cPs l)), .b (isB v.p (cPs l))], []) := by
  have hl := h.ln
  have hq := fun c m hc => e88 c m v hc hv
  have hple := pos_le v.p (cPs l)
  rw [List.length_map] at hple
  have hpl := pos_lt v.p (cPs l)
  have hpg := pos_ge v.p (cPs l) hs
  generalize hvp : v.p = p at *
  obtain ⟨dk, dn, ds, dkk, dz, dl⟩ := v
  simp only [Vl.c] at hq ⊢
  refine W_eq (g87 rfl ?_)
  (simp only [go_sem, Nat.add_assoc, reduceIte, reduceCtorEq, Nat.reduceEqDiff, Nat.reduceAdd, Nat.reduceMul, Nat.reduceSub, Nat.reduceLeDiff, Nat.reduceLT, Nat.reduceBEq, Nat.reduceBNe, Int.reduceLE, Int.reduceLT, Int.reduceToNat, Int.reduceEq, Int.reduceNe, Int.reduceNeg, Nat.reduceEqDiff, Int.reduceAdd, Int.reduceSub, Int.reduceMul, Int.cast_ofNat_Int, Int.natCast_zero, a87]; repeat' ((first | refine kont_next ?_ | refine kont_nextn ?_ | refine ikont_next ?_ | refine ikont_nextn ?_) <;> (try simp only [go_sem, Nat.add_assoc, reduceIte, reduceCtorEq, Nat.reduceEqDiff, Nat.reduceAdd, Nat.reduceMul, Nat.reduceSub, Nat.reduceLeDiff, Nat.reduceLT, Nat.reduceBEq, Nat.reduceBNe, Int.reduceLE, Int.reduceLT, Int.reduceToNat, Int.reduceEq, Int.reduceNe, Int.reduceNeg, Nat.reduceEqDiff, Int.reduceAdd, Int.reduceSub, Int.reduceMul, Int.cast_ofNat_Int, Int.natCast_zero, a87])))
  refine kloop_inv (ι := Nat × Nat) (fun x => [.sl k z (l.map cC), .fn 88 [], .bx [.i .i64 dk, .i .i64 dn, .str ds, .sl dkk dz (Vl.cs dl)], .i .i64 l.length, .i .i64 x.1, .i .i64 x.2])
    (fun x => x.1 ≤ x.2 ∧ x.2 ≤ l.length ∧ x.1 ≤ posB p (cPs l) ∧ posB p (cPs l) ≤ x.2) (fun x => x.2 - x.1) (0, l.length) rfl ⟨by simp, by simp, by simp, hple⟩ ?_
  rintro ⟨i, j⟩ ⟨h1, h2, h3, h4⟩
  simp only at h1 h2 h3 h4
  by_cases hlt : i < j
  · have g1 : decide ((i : Int) < (j : Int)) = true := decide_eq_true (by omega)
    obtain ⟨t, ht⟩ : ∃ t, t = (i + j) / 2 := ⟨_, rfl⟩
    have hh := half (i := i) (j := j) (by omega) (by omega)
    rw [← ht] at hh
    obtain ⟨⟨c, m⟩, gc⟩ := get_lt3 (show t < l.length by omega)
    have b1 : (0 : Int) ≤ (t : Int) := by omega
    have hw := wrap_succ (k := t) (by omega)
    have ec := hq c m (h.get gc)
    have gp := cPs_get gc
    simp only [cP] at gp
    obtain ⟨ck, cn, cs, ckk, cz, cl⟩ := c
    simp only [cC] at ec
    by_cases h5 : cmpV (Vl.p (.mk ck cn cs ckk cz cl)) p < 0
    · have g5 := decide_eq_true h5
      have h6 : t < posB p (cPs l) := by
        rcases Nat.lt_or_ge t (posB p (cPs l)) with h6 | h6
        · exact h6
        · exact absurd h5 (hpg t _ h6 gp)
      (simp only [go_sem, Nat.add_assoc, reduceIte, reduceCtorEq, Nat.reduceEqDiff, Nat.reduceAdd, Nat.reduceMul, Nat.reduceSub, Nat.reduceLeDiff, Nat.reduceLT, Nat.reduceBEq, Nat.reduceBNe, Int.reduceLE, Int.reduceLT, Int.reduceToNat, Int.reduceEq, Int.reduceNe, Int.reduceNeg, Nat.reduceEqDiff, Int.reduceAdd, Int.reduceSub, Int.reduceMul, Int.cast_ofNat_Int, Int.natCast_zero, g1, hh, b1, gc, h.sk.1, cC, s88, ec, g5, hw]; repeat' ((first | refine kont_next ?_ | refine kont_nextn ?_ | refine ikont_next ?_ | refine ikont_nextn ?_) <;> (try simp only [go_sem, Nat.add_assoc, reduceIte, reduceCtorEq, Nat.reduceEqDiff, Nat.reduceAdd, Nat.reduceMul, Nat.reduceSub, Nat.reduceLeDiff, Nat.reduceLT, Nat.reduceBEq, Nat.reduceBNe, Int.reduceLE, Int.reduceLT, Int.reduceToNat, Int.reduceEq, Int.reduceNe, Int.reduceNeg, Nat.reduceEqDiff, Int.reduceAdd, Int.reduceSub, Int.reduceMul, Int.cast_ofNat_Int, Int.natCast_zero, g1, hh, b1, gc, h.sk.1, cC, s88, ec, g5, hw])))
      exact ⟨(t + 1, j), rfl, ⟨by simp only; omega, by simp only; omega, by simp only; omega, by simp only; omega⟩, by simp only; omega⟩
    · have g5 := decide_eq_false h5
      have h6 : posB p (cPs l) ≤ t := by
        rcases Nat.lt_or_ge t (posB p (cPs l)) with h6 | h6
        · exact absurd (hpl t _ h6 gp) h5
        · exact h6
      (simp only [go_sem, Nat.add_assoc, reduceIte, reduceCtorEq, Nat.reduceEqDiff, Nat.reduceAdd, Nat.reduceMul, Nat.reduceSub, Nat.reduceLeDiff, Nat.reduceLT, Nat.reduceBEq, Nat.reduceBNe, Int.reduceLE, Int.reduceLT, Int.reduceToNat, Int.reduceEq, Int.reduceNe, Int.reduceNeg, Nat.reduceEqDiff, Int.reduceAdd, Int.reduceSub, Int.reduceMul, Int.cast_ofNat_Int, Int.natCast_zero, g1, hh, b1, gc, h.sk.1, cC, s88, ec, g5, hw]; repeat' ((first | refine kont_next ?_ | refine kont_nextn ?_ | refine ikont_next ?_ | refine ikont_nextn ?_) <;> (try simp only [go_sem, Nat.add_assoc, reduceIte, reduceCtorEq, Nat.reduceEqDiff, Nat.reduceAdd, Nat.reduceMul, Nat.reduceSub, Nat.reduceLeDiff, Nat.reduceLT, Nat.reduceBEq, Nat.reduceBNe, Int.reduceLE, Int.reduceLT, Int.reduceToNat, Int.reduceEq, Int.reduceNe, Int.reduceNeg, Nat.reduceEqDiff, Int.reduceAdd, Int.reduceSub, Int.reduceMul, Int.cast_ofNat_Int, Int.natCast_zero, g1, hh, b1, gc, h.sk.1, cC, s88, ec, g5, hw])))
      exact ⟨(i, t), rfl, ⟨by simp only; omega, by simp only; omega, by simp only; omega, by simp only; omega⟩, by simp only; omega⟩
  · have g1 : decide ((i : Int) < (j : Int)) = false := decide_eq_false (by omega)
    obtain rfl : i = posB p (cPs l) := by omega
    by_cases h5 : posB p (cPs l) < l.length
    · obtain ⟨⟨c, m⟩, gc⟩ := get_lt3 h5
      have g2 : decide (((posB p (cPs l) : Nat) : Int) < (l.length : Int)) = true := decide_eq_true (by omega)
      have b1 : (0 : Int) ≤ ((posB p (cPs l) : Nat) : Int) := by omega
      have ec := hq c m (h.get gc)
      have gp := cPs_get gc
      simp only [cP] at gp
      have hi : isB p (cPs l) = decide (cmpV c.p p = 0) := by
        unfold isB
        rw [gp]
      rw [hi]
      obtain ⟨ck, cn, cs, ckk, cz, cl⟩ := c
      simp only [cC] at ec
      generalize posB p (cPs l) = t at *
      (simp only [go_sem, Nat.add_assoc, reduceIte, reduceCtorEq, Nat.reduceEqDiff, Nat.reduceAdd, Nat.reduceMul, Nat.reduceSub, Nat.reduceLeDiff, Nat.reduceLT, Nat.reduceBEq, Nat.reduceBNe, Int.reduceLE, Int.reduceLT, Int.reduceToNat, Int.reduceEq, Int.reduceNe, Int.reduceNeg, Nat.reduceEqDiff, Int.reduceAdd, Int.reduceSub, Int.reduceMul, Int.cast_ofNat_Int, Int.natCast_zero, g1, g2, b1, gc, h.sk.1, cC, s88, ec]; repeat' ((first | refine kont_next ?_ | refine kont_nextn ?_ | refine ikont_next ?_ | refine ikont_nextn ?_) <;> (try simp only [go_sem, Nat.add_assoc, reduceIte, reduceCtorEq, Nat.reduceEqDiff, Nat.reduceAdd, Nat.reduceMul, Nat.reduceSub, Nat.reduceLeDiff, Nat.reduceLT, Nat.reduceBEq, Nat.reduceBNe, Int.reduceLE, Int.reduceLT, Int.reduceToNat, Int.reduceEq, Int.reduceNe, Int.reduceNeg, Nat.reduceEqDiff, Int.reduceAdd, Int.reduceSub, Int.reduceMul, Int.cast_ofNat_Int, Int.natCast_zero, g1, g2, b1, gc, h.sk.1, cC, s88, ec])))
    · have g2 : decide (((posB p (cPs l) : Nat) : Int) < (l.length : Int)) = false := decide_eq_false (by omega)
      have hi : isB p (cPs l) = false := by
        unfold isB
        rw [List.getElem?_eq_none (by simp; omega)]
      rw [hi]
      generalize posB p (cPs l) = t at *
      (simp only [go_sem, Nat.add_assoc, reduceIte, reduceCtorEq, Nat.reduceEqDiff, Nat.reduceAdd, Nat.reduceMul, Nat.reduceSub, Nat.reduceLeDiff, Nat.reduceLT, Nat.reduceBEq, Nat.reduceBNe, Int.reduceLE, Int.reduceLT, Int.reduceToNat, Int.reduceEq, Int.reduceNe, Int.reduceNeg, Nat.reduceEqDiff, Int.reduceAdd, Int.reduceSub, Int.reduceMul, Int.cast_ofNat_Int, Int.natCast_zero, g1, g2]; repeat' ((first | refine kont_next ?_ | refine kont_nextn ?_ | refine ikont_next ?_ | refine ikont_nextn ?_) <;> (try simp only [go_sem, Nat.add_assoc, reduceIte, reduceCtorEq, Nat.reduceEqDiff, Nat.reduceAdd, Nat.reduceMul, Nat.reduceSub, Nat.reduceLeDiff, Nat.reduceLT, Nat.reduceBEq, Nat.reduceBNe, Int.reduceLE, Int.reduceLT, Int.reduceToNat, Int.reduceEq, Int.reduceNe, Int.reduceNeg, Nat.reduceEqDiff, Int.reduceAdd, Int.reduceSub, Int.reduceMul, Int.cast_ofNat_Int, Int.natCast_zero, g1, g2])))
theorem e62 {k : SK} {z : Nat} {l : List (Vl × Int)} (h : OkL k z l) (hs : Srt (cPs l)) (v : Vl) (hv : v.ok) :
    acall S 62 [.sl k z (l.map cC), .agg v.c] = some (.tup [.i .i64 (posB v.p (cPs l)), .b (isB v.p (cPs l))], []) := by
  have e1 := e87 h hs v hv
  generalize v.p = p at *
  obtain ⟨dk, dn, ds, dkk, dz, dl⟩ := v
  simp only [Vl.c] at e1 ⊢
  refine W_eq (g62 rfl ?_)
  (simp only [go_sem, Nat.add_assoc, reduceIte, reduceCtorEq, Nat.reduceEqDiff, Nat.reduceAdd, Nat.reduceMul, Nat.reduceSub, Nat.reduceLeDiff, Nat.reduceLT, Nat.reduceBEq, Nat.reduceBNe, Int.reduceLE, Int.reduceLT, Int.reduceToNat, Int.reduceEq, Int.reduceNe, Int.reduceNeg, Nat.reduceEqDiff, Int.reduceAdd, Int.reduceSub, Int.reduceMul, Int.cast_ofNat_Int, Int.natCast_zero, a62, s87, e1]; repeat' ((first | refine kont_next ?_ | refine kont_nextn ?_ | refine ikont_next ?_ | refine ikont_nextn ?_) <;> (try simp only [go_sem, Nat.add_assoc, reduceIte, reduceCtorEq, Nat.reduceEqDiff, Nat.reduceAdd, Nat.reduceMul, Nat.reduceSub, Nat.reduceLeDiff, Nat.reduceLT, Nat.reduceBEq, Nat.reduceBNe, Int.reduceLE, Int.reduceLT, Int.reduceToNat, Int.reduceEq, Int.reduceNe, Int.reduceNeg, Nat.reduceEqDiff, Int.reduceAdd, Int.reduceSub, Int.reduceMul, Int.cast_ofNat_Int, Int.natCast_zero, a62, s87, e1])))
theorem mem_tot : ∀ {b : PB}, (∀ x ∈ b, 1 ≤ x.2) → ∀ x ∈ b, x.2 ≤ totB b
  | [], _, x, hx => by cases hx
  | y :: r, h, x, hx => by
    have h1 := tot_nonneg (b := r) fun z hz => h z (List.mem_cons_of_mem _ hz)
    have h2 := h y (List.mem_cons_self ..)
    simp only [totB]
    rcases List.mem_cons.1 hx with rfl | hx
    · omega
    · have := mem_tot (b := r) (fun z hz => h z (List.mem_cons_of_mem _ hz)) x hx
      omega
theorem e46 {u : List (Vl × Int)} (hu : OkU u) (hb : Ok (cPs u)) (v : Vl) (hv : v.ok) (n : Int) (hn : 1 ≤ n) (hn2 : n ≤ MC) :
    ∃ u', acall S 46 [rowU u, .agg v.c, .i .i64 n] = some (rowU u', []) ∧ cPs u' = putB v.p n (cPs u) ∧ (∀ x ∈ u', x.1.ok) ∧ u' ≠ [] := by
  have hl := hu.ln
  have hMC : MC = 9007199254740992 := rfl
  have e1 := e62 hu.l hb.srt v hv
  obtain ⟨d, ed, hdp, hdo⟩ := e64 v hv
  suffices hW : W (acall S 46 [rowU u, .agg v.c, .i .i64 n]) (fun r => ∃ u', r = (rowU u', []) ∧ cPs u' = putB v.p n (cPs u) ∧ (∀ x ∈ u', x.1.ok) ∧ u' ≠ []) by
    obtain ⟨r, h1, u', rfl, h2⟩ := hW
    exact ⟨u', h1, h2⟩
  have hle := pos_le v.p (cPs u)
  rw [List.length_map] at hle
  have hpA := put_at v.p n (cPs u)
  have hpP := put_pos v.p n (cPs u)
  generalize hvp : v.p = p at *
  obtain ⟨vk, vn, vs, vkk, vz, vl⟩ := v
  simp only [Vl.c] at e1 ed ⊢
  refine g46 rfl ?_
  generalize posB p (cPs u) = t at *
  cases hi : isB p (cPs u) with
  | true =>
    rw [hi] at e1
    obtain ⟨m, hm, hput⟩ := hpA hi
    rw [List.getElem?_map, Option.map_eq_some_iff] at hm
    obtain ⟨⟨c, m'⟩, gc, hcm⟩ := hm
    simp only [cP, Prod.mk.injEq] at hcm
    obtain ⟨hcp, rfl⟩ := hcm
    have hmem := List.mem_of_getElem? gc
    have hlt := (List.getElem?_eq_some_iff.1 gc).1
    have hpm := mem_tot hb.pos (cP (c, m')) (List.mem_map_of_mem hmem)
    have hpm2 := hb.pos (cP (c, m')) (List.mem_map_of_mem hmem)
    have hpt := hb.tot
    simp only [cP] at hpm hpm2
    have hw : IntKind.i64.wrap (m' + n) = m' + n := wrap_i64 (by omega) (by omega)
    have b1 : (0 : Int) ≤ (t : Int) := by omega
    have b4 : (t : Int) < (u.length : Int) := by omega
    have hne : u ≠ [] := by rintro rfl; simp at hlt
    have hnd : decide (u = []) = false := by simp [hne]
    have hco := hu.ok _ hmem
    obtain ⟨ck, cn, cs, ckk, cz, cl⟩ := c
    simp only [rowU, hnd] at e1 ⊢
    rw [show skOf false = .open_ from rfl] at e1
    (simp only [go_sem, Nat.add_assoc, reduceIte, reduceCtorEq, Nat.reduceEqDiff, Nat.reduceAdd, Nat.reduceMul, Nat.reduceSub, Nat.reduceLeDiff, Nat.reduceLT, Nat.reduceBEq, Nat.reduceBNe, Int.reduceLE, Int.reduceLT, Int.reduceToNat, Int.reduceEq, Int.reduceNe, Int.reduceNeg, Nat.reduceEqDiff, Int.reduceAdd, Int.reduceSub, Int.reduceMul, Int.cast_ofNat_Int, Int.natCast_zero, a46, s62, e1, b1, b4, hlt, gc, cC, hw, List.length_map, List.length_set, Nat.le_refl]; repeat' ((first | refine kont_next ?_ | refine kont_nextn ?_ | refine ikont_next ?_ | refine ikont_nextn ?_) <;> (try simp only [go_sem, Nat.add_assoc, reduceIte, reduceCtorEq, Nat.reduceEqDiff, Nat.reduceAdd, Nat.reduceMul, Nat.reduceSub, Nat.reduceLeDiff, Nat.reduceLT, Nat.reduceBEq, Nat.reduceBNe, Int.reduceLE, Int.reduceLT, Int.reduceToNat, Int.reduceEq, Int.reduceNe, Int.reduceNeg, Nat.reduceEqDiff, Int.reduceAdd, Int.reduceSub, Int.reduceMul, Int.cast_ofNat_Int, Int.natCast_zero, a46, s62, e1, b1, b4, hlt, gc, cC, hw, List.length_map, List.length_set, Nat.le_refl])))
    refine ⟨u.set t (.mk ck cn cs ckk cz cl, m' + n), ?_, ?_, ?_, by simp [hne]⟩
    · have : decide (u.set t (Vl.mk ck cn cs ckk cz cl, m' + n) = []) = false := by simp [hne]
      simp only [this, List.map_set]
      rfl
    · rw [hput, cPs, List.map_set]
      simp only [cP, hcp]
    · intro x hx
      rcases List.mem_or_eq_of_mem_set hx with hx | rfl
      · exact hu.ok x hx
      · exact hco
  | false =>
    rw [hi] at e1
    have hput := hpP hi
    have hlim : u.length + 1 ≤ 274877906944 := by omega
    have hI : acall S 72 [rowU u, .i .i64 (t : Int), .ow 67 5 false [cC (d, n)]] = some (.ow 67 5 false ((u.map cC).take t ++ [cC (d, n)] ++ (u.map cC).drop t), []) := by
      refine acall_prim (p := primInsert) rfl rfl ?_
      simp only [primInsert, and_self, Int.natCast_nonneg, Int.toNat_natCast, List.length_map, hle, List.length_singleton, hlim, Nat.lt_add_one, ask_true, Nat.zero_lt_one, true_and]
    obtain ⟨dk, dn, ds, dkk, dz, dl⟩ := d
    simp only [cC, Vl.c] at hI ed
    (simp only [go_sem, Nat.add_assoc, reduceIte, reduceCtorEq, Nat.reduceEqDiff, Nat.reduceAdd, Nat.reduceMul, Nat.reduceSub, Nat.reduceLeDiff, Nat.reduceLT, Nat.reduceBEq, Nat.reduceBNe, Int.reduceLE, Int.reduceLT, Int.reduceToNat, Int.reduceEq, Int.reduceNe, Int.reduceNeg, Nat.reduceEqDiff, Int.reduceAdd, Int.reduceSub, Int.reduceMul, Int.cast_ofNat_Int, Int.natCast_zero, a46, s62, e1, s64, ed, s72, hI]; repeat' ((first | refine kont_next ?_ | refine kont_nextn ?_ | refine ikont_next ?_ | refine ikont_nextn ?_) <;> (try simp only [go_sem, Nat.add_assoc, reduceIte, reduceCtorEq, Nat.reduceEqDiff, Nat.reduceAdd, Nat.reduceMul, Nat.reduceSub, Nat.reduceLeDiff, Nat.reduceLT, Nat.reduceBEq, Nat.reduceBNe, Int.reduceLE, Int.reduceLT, Int.reduceToNat, Int.reduceEq, Int.reduceNe, Int.reduceNeg, Nat.reduceEqDiff, Int.reduceAdd, Int.reduceSub, Int.reduceMul, Int.cast_ofNat_Int, Int.natCast_zero, a46, s62, e1, s64, ed, s72, hI])))
    refine ⟨u.take t ++ (.mk dk dn ds dkk dz dl, n) :: u.drop t, ?_, ?_, ?_, by simp⟩
    · have : decide (u.take t ++ (Vl.mk dk dn ds dkk dz dl, n) :: u.drop t = []) = false := by simp
      simp [cC]
    · rw [hput]
      simp [cP, hdp]
    · intro x hx
      rcases List.mem_append.1 hx with hx | hx
      · exact hu.ok x (List.mem_of_mem_take hx)
      · rcases List.mem_cons.1 hx with rfl | hx
        · exact hdo
        · exact hu.ok x (List.mem_of_mem_drop hx)
end Go.Proofs.Ytabbjdclfmeipaa
