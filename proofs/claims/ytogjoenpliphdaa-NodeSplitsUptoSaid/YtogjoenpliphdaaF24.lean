import Derived.Test.YtogjoenpliphdaaF23
import Derived.Test.YtogjoenpliphdaaF5
import Derived.Test.YtogjoenpliphdaaP4
set_option linter.unusedSimpArgs false
set_option linter.unusedVariables false
set_option maxHeartbeats 8000000
set_option maxRecDepth 100000
namespace Go.Proofs.Ytogjoenpliphdaa
open Go.Abs

/-! ### splits -/
def sizeP (p : PN) (k : Nat) : Nat := max (formP (partA p k)).length (formP (partB p k)).length
def bestG (p : PN) (first : Nat) : Nat → Nat → Nat → Nat → Nat
  | 0, _, best, _ => best
  | m + 1, k, best, least => if k = first ∨ sizeP p k < least then bestG p first m (k + 1) k (sizeP p k) else bestG p first m (k + 1) best least
def bestS (p : PN) (first en : Nat) : Nat := bestG p first (en - first) first first 0
def firstP (p : PN) : Nat := if p.leaf then 1 else 0
def endP (p : PN) : Nat := if p.leaf then p.cells.length else if p.kids.length ≤ p.keys.length then 0 else p.keys.length
def splitP (p : PN) : PN × List UInt8 × PN := if firstP p ≥ endP p then (p, [], emptyP) else (partA p (bestS p (firstP p) (endP p)), partK p (bestS p (firstP p) (endP p)), partB p (bestS p (firstP p) (endP p)))
structure CellsP (p : PN) : Prop where
  f1 : p.cells.length < 137438953472
  f2 : p.keys.length < 137438953472
  f3 : p.kids.length < 137438953472
  c : ∀ x ∈ p.cells, x.key.length ≤ LIM ∧ x.val.length ≤ LIM
  k : ∀ x ∈ p.keys, x.length ≤ LIM
theorem CellsP.cells {n : Nd} (h : CellsP n.p) : Cells n 0 := by
  obtain ⟨h1, h2, h3, h4, h5⟩ := h
  simp only [Nd.p, List.length_map] at h1 h2 h3 h4 h5
  exact ⟨⟨h1, h2, h3⟩, fun x hx => h4 x.p (List.mem_map.2 ⟨x, hx, rfl⟩), fun x hx => h5 x.l (List.mem_map.2 ⟨x, hx, rfl⟩)⟩
theorem CellsP.partA {p : PN} (h : CellsP p) (k : Nat) : CellsP (partA p k) := by
  obtain ⟨h1, h2, h3, h4, h5⟩ := h
  unfold Go.Proofs.Ytogjoenpliphdaa.partA
  split
  · exact ⟨by simp only [List.length_take]; omega, by simp, by simp, fun x hx => h4 x (List.mem_of_mem_take hx), by simp⟩
  · exact ⟨by simp, by simp only [List.length_take]; omega, by simp only [List.length_take]; omega, by simp, fun x hx => h5 x (List.mem_of_mem_take hx)⟩
theorem CellsP.partB {p : PN} (h : CellsP p) (k : Nat) : CellsP (partB p k) := by
  obtain ⟨h1, h2, h3, h4, h5⟩ := h
  unfold Go.Proofs.Ytogjoenpliphdaa.partB
  split
  · exact ⟨by simp only [List.length_drop]; omega, by simp, by simp, fun x hx => h4 x (List.mem_of_mem_drop hx), by simp⟩
  · exact ⟨by simp, by simp only [List.length_drop]; omega, by simp only [List.length_drop]; omega, by simp, fun x hx => h5 x (List.mem_of_mem_drop hx)⟩
theorem flat_drop {α : Type} (f : α → List UInt8) (l : List α) (k : Nat) : ((l.drop k).flatMap f).length ≤ (l.flatMap f).length := by
  have := congrArg (fun x : List α => (x.flatMap f).length) (List.take_append_drop k l)
  simp only [List.flatMap_append, List.length_append] at this
  omega
theorem partA_len {p : PN} (h : CellsP p) (k : Nat) : (formP (partA p k)).length ≤ (formP p).length + 10 := by
  obtain ⟨h1, h2, h3, _, _⟩ := h
  unfold partA formP
  cases hl : p.leaf with
  | true =>
    have l1 := leb_len10 (u := (p.cells.take k).length) (by rw [List.length_take]; omega)
    have l2 := flat_take cellBP p.cells k
    simp only [if_true, List.length_append, List.length_cons, List.length_nil]
    omega
  | false =>
    have l1 := leb_len10 (u := (p.keys.take k).length) (by rw [List.length_take]; omega)
    have l2 := flat_take fb p.keys k
    have l3 := flat_take (fun k => leb (u64 k)) p.kids (k + 1)
    simp only [Bool.false_eq_true, if_false, List.length_append, List.length_cons, List.length_nil]
    omega
theorem partB_len {p : PN} (h : CellsP p) (k : Nat) : (formP (partB p k)).length ≤ (formP p).length + 10 := by
  obtain ⟨h1, h2, h3, _, _⟩ := h
  unfold partB formP
  cases hl : p.leaf with
  | true =>
    have l1 := leb_len10 (u := (p.cells.drop k).length) (by rw [List.length_drop]; omega)
    have l2 := flat_drop cellBP p.cells k
    simp only [if_true, List.length_append, List.length_cons, List.length_nil]
    omega
  | false =>
    have l1 := leb_len10 (u := (p.keys.drop (k + 1)).length) (by rw [List.length_drop]; omega)
    have l2 := flat_drop fb p.keys (k + 1)
    have l3 := flat_drop (fun k => leb (u64 k)) p.kids (k + 1)
    simp only [Bool.false_eq_true, if_false, List.length_append, List.length_cons, List.length_nil]
    omega
theorem max_int (a b : Nat) : (if (a : Int) < (b : Int) then (b : Int) else (a : Int)) = ((max a b : Nat) : Int) := by
  split <;> omega
def emptyNd : Nd := ⟨false, .nil, 0, [], ⟨.inr rfl, fun _ => rfl⟩, .nil, 0, [], ⟨.inr rfl, fun _ => rfl⟩, .nil, 0, [], ⟨.inr rfl, fun _ => rfl⟩⟩

theorem partK_len {p : PN} (h : CellsP p) (k : Nat) : (partK p k).length ≤ LIM := by
  obtain ⟨_, _, _, h4, h5⟩ := h
  unfold partK
  split
  · cases hx : (p.cells.map PC.key)[k]? with
    | none => simp
    | some x =>
      obtain ⟨c, hc, rfl⟩ := List.mem_map.1 (List.mem_of_getElem? hx)
      exact (h4 c hc).1
  · cases hx : p.keys[k]? with
    | none => simp
    | some x => exact h5 x (List.mem_of_getElem? hx)
theorem e18 (n : Nd) (hC : CellsP n.p) (hl : (formB n).length + 200 ≤ LIM) : ∃ (a b : Nd) (y : By), acall S 18 [n.v] = some (.tup [a.v, y.v, b.v], []) ∧ a.p = (splitP n.p).1 ∧ y.l = (splitP n.p).2.1 ∧ b.p = (splitP n.p).2.2 := by
  suffices hW : W (acall S 18 [n.v]) (fun x => ∃ (a b : Nd) (y : By), x = (.tup [a.v, y.v, b.v], []) ∧ a.p = (splitP n.p).1 ∧ y.l = (splitP n.p).2.1 ∧ b.p = (splitP n.p).2.2) by
    obtain ⟨x, h1, a, b, y, rfl, h2⟩ := hW
    exact ⟨a, b, y, h1, h2⟩
  have hL : LIM = 274877906944 := rfl
  have hcl := hC.cells
  obtain ⟨f1, f2, f3⟩ := hcl.f
  have hfl : (formP n.p).length + 200 ≤ LIM := by rw [formP_eq]; exact hl
  have hK := partK_len hC
  have eP := e40 n hcl.f
  have eS := e14
  obtain ⟨n', ec, hn'⟩ := e28 n hcl
  simp only [Nd.v, Nd.cs] at ec
  refine g18 rfl ?_
  cases hleaf : n.leaf with
  | true =>
    have hfp : firstP n.p = 1 := by simp [firstP, Nd.p, hleaf]
    have hep : endP n.p = n.cells.length := by simp [endP, Nd.p, hleaf]
    by_cases hfe : n.cells.length ≤ 1
    · have g0 : decide ((n.cells.length : Int) ≤ 1) = true := decide_eq_true (by omega)
      have hsp : splitP n.p = (n.p, [], emptyP) := by unfold splitP; rw [hfp, hep, if_pos hfe]
      rw [hsp]
      rw [hleaf] at ec
      (simp only [go_sem, Nat.add_assoc, reduceIte, reduceCtorEq, Nat.reduceEqDiff, Nat.reduceAdd, Nat.reduceMul, Nat.reduceSub, Nat.reduceLeDiff, Nat.reduceLT, Nat.reduceBEq, Nat.reduceBNe, Int.reduceLE, Int.reduceLT, Int.reduceToNat, Int.reduceEq, Int.reduceNe, Int.reduceNeg, Nat.reduceEqDiff, Int.reduceAdd, Int.reduceSub, Int.reduceMul, Int.cast_ofNat_Int, Int.natCast_zero, a18, Nd.v, Nd.cs, hleaf, g0, s28, ec]; repeat' (refine kont_next ?_ <;> (try simp only [go_sem, Nat.add_assoc, reduceIte, reduceCtorEq, Nat.reduceEqDiff, Nat.reduceAdd, Nat.reduceMul, Nat.reduceSub, Nat.reduceLeDiff, Nat.reduceLT, Nat.reduceBEq, Nat.reduceBNe, Int.reduceLE, Int.reduceLT, Int.reduceToNat, Int.reduceEq, Int.reduceNe, Int.reduceNeg, Nat.reduceEqDiff, Int.reduceAdd, Int.reduceSub, Int.reduceMul, Int.cast_ofNat_Int, Int.natCast_zero, a18, Nd.v, Nd.cs, hleaf, g0, s28, ec])))
      exact ⟨n', emptyNd, nilBy, rfl, hn', rfl, rfl⟩
    · have g0 : decide ((n.cells.length : Int) ≤ 1) = false := decide_eq_false (by omega)
      have hsp : splitP n.p = (partA n.p (bestS n.p 1 n.cells.length), partK n.p (bestS n.p 1 n.cells.length), partB n.p (bestS n.p 1 n.cells.length)) := by unfold splitP; rw [hfp, hep, if_neg (by omega)]
      have PO : ∀ k, 1 ≤ k → k < n.cells.length → PartOk n k := fun k _ h => .inl ⟨hleaf, h⟩
      (simp only [go_sem, Nat.add_assoc, reduceIte, reduceCtorEq, Nat.reduceEqDiff, Nat.reduceAdd, Nat.reduceMul, Nat.reduceSub, Nat.reduceLeDiff, Nat.reduceLT, Nat.reduceBEq, Nat.reduceBNe, Int.reduceLE, Int.reduceLT, Int.reduceToNat, Int.reduceEq, Int.reduceNe, Int.reduceNeg, Nat.reduceEqDiff, Int.reduceAdd, Int.reduceSub, Int.reduceMul, Int.cast_ofNat_Int, Int.natCast_zero, a18, Nd.v, Nd.cs, hleaf, g0]; repeat' (refine kont_next ?_ <;> (try simp only [go_sem, Nat.add_assoc, reduceIte, reduceCtorEq, Nat.reduceEqDiff, Nat.reduceAdd, Nat.reduceMul, Nat.reduceSub, Nat.reduceLeDiff, Nat.reduceLT, Nat.reduceBEq, Nat.reduceBNe, Int.reduceLE, Int.reduceLT, Int.reduceToNat, Int.reduceEq, Int.reduceNe, Int.reduceNeg, Nat.reduceEqDiff, Int.reduceAdd, Int.reduceSub, Int.reduceMul, Int.cast_ofNat_Int, Int.natCast_zero, a18, Nd.v, Nd.cs, hleaf, g0])))
      refine kloop_inv (ι := Nat × Nat × Nat) (fun x => [.bx [.b true, .sl n.kc n.zc (n.cells.map Ce.c), .sl n.kk n.zk (n.keys.map byC), .sl n.ki n.zi (n.kids.map intC)], .bx [.b false, .sl .nil 0 [], .sl .nil 0 [], .sl .nil 0 []], .bx [.b false, .sl .nil 0 [], .sl .nil 0 [], .sl .nil 0 []], .i .i64 1, .i .i64 ((n.cells.length : Int)), .i .i64 x.2.1, .i .i64 x.2.2, .i .i64 x.1])
        (fun x => 1 ≤ x.1 ∧ x.1 ≤ n.cells.length ∧ 1 ≤ x.2.1 ∧ x.2.1 < n.cells.length ∧ bestG n.p 1 (n.cells.length - x.1) x.1 x.2.1 x.2.2 = bestS n.p 1 n.cells.length) (fun x => n.cells.length - x.1) (1, 1, 0) rfl ⟨by simp, by simp only; omega, by simp, by simp only; omega, rfl⟩ ?_
      rintro ⟨k, best, least⟩ ⟨k1, k2, k3, k4, hT⟩
      simp only at k1 k2 k3 k4 hT
      by_cases hke : k < n.cells.length
      · have hcond : decide ((k : Int) < (n.cells.length : Int)) = true := decide_eq_true (by omega)
        obtain ⟨a, b, y, e40, ha, hy, hb⟩ := eP  k (PO k k1 hke)
        have ea := eS a (by rw [← formP_eq, ha]; have := partA_len hC k; omega)
        have eb := eS b (by rw [← formP_eq, hb]; have := partB_len hC k; omega)
        rw [← formP_eq, ha] at ea
        rw [← formP_eq, hb] at eb
        have hw := wrap_succ (k := k) (by omega)
        obtain ⟨m, hm⟩ : ∃ m, n.cells.length - k = m + 1 := ⟨n.cells.length - k - 1, by omega⟩
        rw [hm] at hT
        simp only [bestG] at hT
        have hmx := max_int (formP (partA n.p k)).length (formP (partB n.p k)).length
        simp only [Nd.v, Nd.cs, By.v, hleaf] at e40 ea eb
        by_cases hf : k = 1
        · have g1 : decide ((k : Int) = 1) = true := decide_eq_true (by omega)
          rw [if_pos (.inl hf)] at hT
          (simp only [go_sem, Nat.add_assoc, reduceIte, reduceCtorEq, Nat.reduceEqDiff, Nat.reduceAdd, Nat.reduceMul, Nat.reduceSub, Nat.reduceLeDiff, Nat.reduceLT, Nat.reduceBEq, Nat.reduceBNe, Int.reduceLE, Int.reduceLT, Int.reduceToNat, Int.reduceEq, Int.reduceNe, Int.reduceNeg, Nat.reduceEqDiff, Int.reduceAdd, Int.reduceSub, Int.reduceMul, Int.cast_ofNat_Int, Int.natCast_zero, Nd.cs, hcond, s40, e40, s14, ea, eb, List.foldl_cons, List.foldl_nil, hmx, g1, hw]; repeat' (refine kont_next ?_ <;> (try simp only [go_sem, Nat.add_assoc, reduceIte, reduceCtorEq, Nat.reduceEqDiff, Nat.reduceAdd, Nat.reduceMul, Nat.reduceSub, Nat.reduceLeDiff, Nat.reduceLT, Nat.reduceBEq, Nat.reduceBNe, Int.reduceLE, Int.reduceLT, Int.reduceToNat, Int.reduceEq, Int.reduceNe, Int.reduceNeg, Nat.reduceEqDiff, Int.reduceAdd, Int.reduceSub, Int.reduceMul, Int.cast_ofNat_Int, Int.natCast_zero, Nd.cs, hcond, s40, e40, s14, ea, eb, List.foldl_cons, List.foldl_nil, hmx, g1, hw])))
          refine ⟨(k + 1, k, sizeP n.p k), rfl, ⟨by simp only; omega, by simp only; omega, by simp only; omega, by simp only; omega, ?_⟩, by simp only; omega⟩
          simp only; rw [show n.cells.length - (k + 1) = m by omega]; exact hT
        · have g1 : decide ((k : Int) = 1) = false := decide_eq_false (by omega)
          by_cases hs : sizeP n.p k < least
          · have g2 : decide (((max (formP (partA n.p k)).length (formP (partB n.p k)).length : Nat) : Int) < (least : Int)) = true := decide_eq_true (by unfold sizeP at hs; omega)
            rw [if_pos (.inr hs)] at hT
            (simp only [go_sem, Nat.add_assoc, reduceIte, reduceCtorEq, Nat.reduceEqDiff, Nat.reduceAdd, Nat.reduceMul, Nat.reduceSub, Nat.reduceLeDiff, Nat.reduceLT, Nat.reduceBEq, Nat.reduceBNe, Int.reduceLE, Int.reduceLT, Int.reduceToNat, Int.reduceEq, Int.reduceNe, Int.reduceNeg, Nat.reduceEqDiff, Int.reduceAdd, Int.reduceSub, Int.reduceMul, Int.cast_ofNat_Int, Int.natCast_zero, Nd.cs, hcond, s40, e40, s14, ea, eb, List.foldl_cons, List.foldl_nil, hmx, g1, g2, hw]; repeat' (refine kont_next ?_ <;> (try simp only [go_sem, Nat.add_assoc, reduceIte, reduceCtorEq, Nat.reduceEqDiff, Nat.reduceAdd, Nat.reduceMul, Nat.reduceSub, Nat.reduceLeDiff, Nat.reduceLT, Nat.reduceBEq, Nat.reduceBNe, Int.reduceLE, Int.reduceLT, Int.reduceToNat, Int.reduceEq, Int.reduceNe, Int.reduceNeg, Nat.reduceEqDiff, Int.reduceAdd, Int.reduceSub, Int.reduceMul, Int.cast_ofNat_Int, Int.natCast_zero, Nd.cs, hcond, s40, e40, s14, ea, eb, List.foldl_cons, List.foldl_nil, hmx, g1, g2, hw])))
            refine ⟨(k + 1, k, sizeP n.p k), rfl, ⟨by simp only; omega, by simp only; omega, by simp only; omega, by simp only; omega, ?_⟩, by simp only; omega⟩
            simp only; rw [show n.cells.length - (k + 1) = m by omega]; exact hT
          · have g2 : decide (((max (formP (partA n.p k)).length (formP (partB n.p k)).length : Nat) : Int) < (least : Int)) = false := decide_eq_false (by unfold sizeP at hs; omega)
            rw [if_neg (by rintro (h | h); exact hf h; exact hs h)] at hT
            (simp only [go_sem, Nat.add_assoc, reduceIte, reduceCtorEq, Nat.reduceEqDiff, Nat.reduceAdd, Nat.reduceMul, Nat.reduceSub, Nat.reduceLeDiff, Nat.reduceLT, Nat.reduceBEq, Nat.reduceBNe, Int.reduceLE, Int.reduceLT, Int.reduceToNat, Int.reduceEq, Int.reduceNe, Int.reduceNeg, Nat.reduceEqDiff, Int.reduceAdd, Int.reduceSub, Int.reduceMul, Int.cast_ofNat_Int, Int.natCast_zero, Nd.cs, hcond, s40, e40, s14, ea, eb, List.foldl_cons, List.foldl_nil, hmx, g1, g2, hw]; repeat' (refine kont_next ?_ <;> (try simp only [go_sem, Nat.add_assoc, reduceIte, reduceCtorEq, Nat.reduceEqDiff, Nat.reduceAdd, Nat.reduceMul, Nat.reduceSub, Nat.reduceLeDiff, Nat.reduceLT, Nat.reduceBEq, Nat.reduceBNe, Int.reduceLE, Int.reduceLT, Int.reduceToNat, Int.reduceEq, Int.reduceNe, Int.reduceNeg, Nat.reduceEqDiff, Int.reduceAdd, Int.reduceSub, Int.reduceMul, Int.cast_ofNat_Int, Int.natCast_zero, Nd.cs, hcond, s40, e40, s14, ea, eb, List.foldl_cons, List.foldl_nil, hmx, g1, g2, hw])))
            refine ⟨(k + 1, best, least), rfl, ⟨by simp only; omega, by simp only; omega, by simp only; omega, by simp only; omega, ?_⟩, by simp only; omega⟩
            simp only; rw [show n.cells.length - (k + 1) = m by omega]; exact hT
      · have hcond : decide ((k : Int) < (n.cells.length : Int)) = false := decide_eq_false (by omega)
        have hbest : best = bestS n.p 1 n.cells.length := by
          rw [show n.cells.length - k = 0 by omega] at hT; exact hT
        obtain ⟨a, b, y, e40, ha, hy, hb⟩ := eP  best (PO best k3 k4)
        have ca := hC.partA best
        have cb := hC.partB best
        rw [← ha] at ca
        rw [← hb] at cb
        obtain ⟨a', ea, ha'⟩ := e28 a ca.cells
        obtain ⟨b', eb, hb'⟩ := e28 b cb.cells
        have ey := e41 y (by rw [hy]; exact hK best)
        rw [hsp, ← hbest]
        simp only [Nd.v, Nd.cs, By.v, hleaf] at e40 ea eb ey
        (simp only [go_sem, Nat.add_assoc, reduceIte, reduceCtorEq, Nat.reduceEqDiff, Nat.reduceAdd, Nat.reduceMul, Nat.reduceSub, Nat.reduceLeDiff, Nat.reduceLT, Nat.reduceBEq, Nat.reduceBNe, Int.reduceLE, Int.reduceLT, Int.reduceToNat, Int.reduceEq, Int.reduceNe, Int.reduceNeg, Nat.reduceEqDiff, Int.reduceAdd, Int.reduceSub, Int.reduceMul, Int.cast_ofNat_Int, Int.natCast_zero, Nd.cs, hcond, s40, e40, s28, ea, eb, s41, ey]; repeat' (refine kont_next ?_ <;> (try simp only [go_sem, Nat.add_assoc, reduceIte, reduceCtorEq, Nat.reduceEqDiff, Nat.reduceAdd, Nat.reduceMul, Nat.reduceSub, Nat.reduceLeDiff, Nat.reduceLT, Nat.reduceBEq, Nat.reduceBNe, Int.reduceLE, Int.reduceLT, Int.reduceToNat, Int.reduceEq, Int.reduceNe, Int.reduceNeg, Nat.reduceEqDiff, Int.reduceAdd, Int.reduceSub, Int.reduceMul, Int.cast_ofNat_Int, Int.natCast_zero, Nd.cs, hcond, s40, e40, s28, ea, eb, s41, ey])))
        exact ⟨a', b', cloneB y, rfl, ha'.trans ha, (cloneB_l y).trans hy, hb'.trans hb⟩
  | false =>
    have hfp : firstP n.p = 0 := by simp [firstP, Nd.p, hleaf]
    rw [hleaf] at ec
    by_cases hkk : n.kids.length ≤ n.keys.length
    · have g0 : decide ((n.kids.length : Int) ≤ (n.keys.length : Int)) = true := decide_eq_true (by omega)
      have hep : endP n.p = 0 := by simp [endP, Nd.p, hleaf, hkk]
      have hsp : splitP n.p = (n.p, [], emptyP) := by unfold splitP; rw [hfp, hep, if_pos (by omega)]
      rw [hsp]
      (simp only [go_sem, Nat.add_assoc, reduceIte, reduceCtorEq, Nat.reduceEqDiff, Nat.reduceAdd, Nat.reduceMul, Nat.reduceSub, Nat.reduceLeDiff, Nat.reduceLT, Nat.reduceBEq, Nat.reduceBNe, Int.reduceLE, Int.reduceLT, Int.reduceToNat, Int.reduceEq, Int.reduceNe, Int.reduceNeg, Nat.reduceEqDiff, Int.reduceAdd, Int.reduceSub, Int.reduceMul, Int.cast_ofNat_Int, Int.natCast_zero, a18, Nd.v, Nd.cs, hleaf, g0, s28, ec]; repeat' (refine kont_next ?_ <;> (try simp only [go_sem, Nat.add_assoc, reduceIte, reduceCtorEq, Nat.reduceEqDiff, Nat.reduceAdd, Nat.reduceMul, Nat.reduceSub, Nat.reduceLeDiff, Nat.reduceLT, Nat.reduceBEq, Nat.reduceBNe, Int.reduceLE, Int.reduceLT, Int.reduceToNat, Int.reduceEq, Int.reduceNe, Int.reduceNeg, Nat.reduceEqDiff, Int.reduceAdd, Int.reduceSub, Int.reduceMul, Int.cast_ofNat_Int, Int.natCast_zero, a18, Nd.v, Nd.cs, hleaf, g0, s28, ec])))
      exact ⟨n', emptyNd, nilBy, rfl, hn', rfl, rfl⟩
    · have g0 : decide ((n.kids.length : Int) ≤ (n.keys.length : Int)) = false := decide_eq_false (by omega)
      have hep : endP n.p = n.keys.length := by simp [endP, Nd.p, hleaf, hkk]
      by_cases hfe : n.keys.length ≤ 0
      · have g1 : decide ((n.keys.length : Int) ≤ 0) = true := decide_eq_true (by omega)
        have hsp : splitP n.p = (n.p, [], emptyP) := by unfold splitP; rw [hfp, hep, if_pos hfe]
        rw [hsp]
        (simp only [go_sem, Nat.add_assoc, reduceIte, reduceCtorEq, Nat.reduceEqDiff, Nat.reduceAdd, Nat.reduceMul, Nat.reduceSub, Nat.reduceLeDiff, Nat.reduceLT, Nat.reduceBEq, Nat.reduceBNe, Int.reduceLE, Int.reduceLT, Int.reduceToNat, Int.reduceEq, Int.reduceNe, Int.reduceNeg, Nat.reduceEqDiff, Int.reduceAdd, Int.reduceSub, Int.reduceMul, Int.cast_ofNat_Int, Int.natCast_zero, a18, Nd.v, Nd.cs, hleaf, g0, g1, s28, ec]; repeat' (refine kont_next ?_ <;> (try simp only [go_sem, Nat.add_assoc, reduceIte, reduceCtorEq, Nat.reduceEqDiff, Nat.reduceAdd, Nat.reduceMul, Nat.reduceSub, Nat.reduceLeDiff, Nat.reduceLT, Nat.reduceBEq, Nat.reduceBNe, Int.reduceLE, Int.reduceLT, Int.reduceToNat, Int.reduceEq, Int.reduceNe, Int.reduceNeg, Nat.reduceEqDiff, Int.reduceAdd, Int.reduceSub, Int.reduceMul, Int.cast_ofNat_Int, Int.natCast_zero, a18, Nd.v, Nd.cs, hleaf, g0, g1, s28, ec])))
        exact ⟨n', emptyNd, nilBy, rfl, hn', rfl, rfl⟩
      · have g1 : decide ((n.keys.length : Int) ≤ 0) = false := decide_eq_false (by omega)
        have hsp : splitP n.p = (partA n.p (bestS n.p 0 n.keys.length), partK n.p (bestS n.p 0 n.keys.length), partB n.p (bestS n.p 0 n.keys.length)) := by unfold splitP; rw [hfp, hep, if_neg (by omega)]
        have PO : ∀ k, 0 ≤ k → k < n.keys.length → PartOk n k := fun k _ h => .inr ⟨hleaf, h, by omega⟩
        (simp only [go_sem, Nat.add_assoc, reduceIte, reduceCtorEq, Nat.reduceEqDiff, Nat.reduceAdd, Nat.reduceMul, Nat.reduceSub, Nat.reduceLeDiff, Nat.reduceLT, Nat.reduceBEq, Nat.reduceBNe, Int.reduceLE, Int.reduceLT, Int.reduceToNat, Int.reduceEq, Int.reduceNe, Int.reduceNeg, Nat.reduceEqDiff, Int.reduceAdd, Int.reduceSub, Int.reduceMul, Int.cast_ofNat_Int, Int.natCast_zero, a18, Nd.v, Nd.cs, hleaf, g0, g1]; repeat' (refine kont_next ?_ <;> (try simp only [go_sem, Nat.add_assoc, reduceIte, reduceCtorEq, Nat.reduceEqDiff, Nat.reduceAdd, Nat.reduceMul, Nat.reduceSub, Nat.reduceLeDiff, Nat.reduceLT, Nat.reduceBEq, Nat.reduceBNe, Int.reduceLE, Int.reduceLT, Int.reduceToNat, Int.reduceEq, Int.reduceNe, Int.reduceNeg, Nat.reduceEqDiff, Int.reduceAdd, Int.reduceSub, Int.reduceMul, Int.cast_ofNat_Int, Int.natCast_zero, a18, Nd.v, Nd.cs, hleaf, g0, g1])))
        refine kloop_inv (ι := Nat × Nat × Nat) (fun x => [.bx [.b false, .sl n.kc n.zc (n.cells.map Ce.c), .sl n.kk n.zk (n.keys.map byC), .sl n.ki n.zi (n.kids.map intC)], .bx [.b false, .sl .nil 0 [], .sl .nil 0 [], .sl .nil 0 []], .bx [.b false, .sl .nil 0 [], .sl .nil 0 [], .sl .nil 0 []], .i .i64 0, .i .i64 ((n.keys.length : Int)), .i .i64 x.2.1, .i .i64 x.2.2, .i .i64 x.1])
          (fun x => 0 ≤ x.1 ∧ x.1 ≤ n.keys.length ∧ 0 ≤ x.2.1 ∧ x.2.1 < n.keys.length ∧ bestG n.p 0 (n.keys.length - x.1) x.1 x.2.1 x.2.2 = bestS n.p 0 n.keys.length) (fun x => n.keys.length - x.1) (0, 0, 0) rfl ⟨by simp, by simp only; omega, by simp, by simp only; omega, rfl⟩ ?_
        rintro ⟨k, best, least⟩ ⟨k1, k2, k3, k4, hT⟩
        simp only at k1 k2 k3 k4 hT
        by_cases hke : k < n.keys.length
        · have hcond : decide ((k : Int) < (n.keys.length : Int)) = true := decide_eq_true (by omega)
          obtain ⟨a, b, y, e40, ha, hy, hb⟩ := eP  k (PO k k1 hke)
          have ea := eS a (by rw [← formP_eq, ha]; have := partA_len hC k; omega)
          have eb := eS b (by rw [← formP_eq, hb]; have := partB_len hC k; omega)
          rw [← formP_eq, ha] at ea
          rw [← formP_eq, hb] at eb
          have hw := wrap_succ (k := k) (by omega)
          obtain ⟨m, hm⟩ : ∃ m, n.keys.length - k = m + 1 := ⟨n.keys.length - k - 1, by omega⟩
          rw [hm] at hT
          simp only [bestG] at hT
          have hmx := max_int (formP (partA n.p k)).length (formP (partB n.p k)).length
          simp only [Nd.v, Nd.cs, By.v, hleaf] at e40 ea eb
          by_cases hf : k = 0
          · have g1 : decide ((k : Int) = 0) = true := decide_eq_true (by omega)
            rw [if_pos (.inl hf)] at hT
            (simp only [go_sem, Nat.add_assoc, reduceIte, reduceCtorEq, Nat.reduceEqDiff, Nat.reduceAdd, Nat.reduceMul, Nat.reduceSub, Nat.reduceLeDiff, Nat.reduceLT, Nat.reduceBEq, Nat.reduceBNe, Int.reduceLE, Int.reduceLT, Int.reduceToNat, Int.reduceEq, Int.reduceNe, Int.reduceNeg, Nat.reduceEqDiff, Int.reduceAdd, Int.reduceSub, Int.reduceMul, Int.cast_ofNat_Int, Int.natCast_zero, Nd.cs, hcond, s40, e40, s14, ea, eb, List.foldl_cons, List.foldl_nil, hmx, g1, hw]; repeat' (refine kont_next ?_ <;> (try simp only [go_sem, Nat.add_assoc, reduceIte, reduceCtorEq, Nat.reduceEqDiff, Nat.reduceAdd, Nat.reduceMul, Nat.reduceSub, Nat.reduceLeDiff, Nat.reduceLT, Nat.reduceBEq, Nat.reduceBNe, Int.reduceLE, Int.reduceLT, Int.reduceToNat, Int.reduceEq, Int.reduceNe, Int.reduceNeg, Nat.reduceEqDiff, Int.reduceAdd, Int.reduceSub, Int.reduceMul, Int.cast_ofNat_Int, Int.natCast_zero, Nd.cs, hcond, s40, e40, s14, ea, eb, List.foldl_cons, List.foldl_nil, hmx, g1, hw])))
            refine ⟨(k + 1, k, sizeP n.p k), rfl, ⟨by simp only; omega, by simp only; omega, ?_⟩, by simp only; omega⟩
            simp only; rw [show n.keys.length - (k + 1) = m by omega]; exact hT
          · have g1 : decide ((k : Int) = 0) = false := decide_eq_false (by omega)
            by_cases hs : sizeP n.p k < least
            · have g2 : decide (((max (formP (partA n.p k)).length (formP (partB n.p k)).length : Nat) : Int) < (least : Int)) = true := decide_eq_true (by unfold sizeP at hs; omega)
              rw [if_pos (.inr hs)] at hT
              (simp only [go_sem, Nat.add_assoc, reduceIte, reduceCtorEq, Nat.reduceEqDiff, Nat.reduceAdd, Nat.reduceMul, Nat.reduceSub, Nat.reduceLeDiff, Nat.reduceLT, Nat.reduceBEq, Nat.reduceBNe, Int.reduceLE, Int.reduceLT, Int.reduceToNat, Int.reduceEq, Int.reduceNe, Int.reduceNeg, Nat.reduceEqDiff, Int.reduceAdd, Int.reduceSub, Int.reduceMul, Int.cast_ofNat_Int, Int.natCast_zero, Nd.cs, hcond, s40, e40, s14, ea, eb, List.foldl_cons, List.foldl_nil, hmx, g1, g2, hw]; repeat' (refine kont_next ?_ <;> (try simp only [go_sem, Nat.add_assoc, reduceIte, reduceCtorEq, Nat.reduceEqDiff, Nat.reduceAdd, Nat.reduceMul, Nat.reduceSub, Nat.reduceLeDiff, Nat.reduceLT, Nat.reduceBEq, Nat.reduceBNe, Int.reduceLE, Int.reduceLT, Int.reduceToNat, Int.reduceEq, Int.reduceNe, Int.reduceNeg, Nat.reduceEqDiff, Int.reduceAdd, Int.reduceSub, Int.reduceMul, Int.cast_ofNat_Int, Int.natCast_zero, Nd.cs, hcond, s40, e40, s14, ea, eb, List.foldl_cons, List.foldl_nil, hmx, g1, g2, hw])))
              refine ⟨(k + 1, k, sizeP n.p k), rfl, ⟨by simp only; omega, by simp only; omega, ?_⟩, by simp only; omega⟩
              simp only; rw [show n.keys.length - (k + 1) = m by omega]; exact hT
            · have g2 : decide (((max (formP (partA n.p k)).length (formP (partB n.p k)).length : Nat) : Int) < (least : Int)) = false := decide_eq_false (by unfold sizeP at hs; omega)
              rw [if_neg (by rintro (h | h); exact hf h; exact hs h)] at hT
              (simp only [go_sem, Nat.add_assoc, reduceIte, reduceCtorEq, Nat.reduceEqDiff, Nat.reduceAdd, Nat.reduceMul, Nat.reduceSub, Nat.reduceLeDiff, Nat.reduceLT, Nat.reduceBEq, Nat.reduceBNe, Int.reduceLE, Int.reduceLT, Int.reduceToNat, Int.reduceEq, Int.reduceNe, Int.reduceNeg, Nat.reduceEqDiff, Int.reduceAdd, Int.reduceSub, Int.reduceMul, Int.cast_ofNat_Int, Int.natCast_zero, Nd.cs, hcond, s40, e40, s14, ea, eb, List.foldl_cons, List.foldl_nil, hmx, g1, g2, hw]; repeat' (refine kont_next ?_ <;> (try simp only [go_sem, Nat.add_assoc, reduceIte, reduceCtorEq, Nat.reduceEqDiff, Nat.reduceAdd, Nat.reduceMul, Nat.reduceSub, Nat.reduceLeDiff, Nat.reduceLT, Nat.reduceBEq, Nat.reduceBNe, Int.reduceLE, Int.reduceLT, Int.reduceToNat, Int.reduceEq, Int.reduceNe, Int.reduceNeg, Nat.reduceEqDiff, Int.reduceAdd, Int.reduceSub, Int.reduceMul, Int.cast_ofNat_Int, Int.natCast_zero, Nd.cs, hcond, s40, e40, s14, ea, eb, List.foldl_cons, List.foldl_nil, hmx, g1, g2, hw])))
              refine ⟨(k + 1, best, least), rfl, ⟨by simp only; omega, by simp only; omega, ?_⟩, by simp only; omega⟩
              simp only; rw [show n.keys.length - (k + 1) = m by omega]; exact hT
        · have hcond : decide ((k : Int) < (n.keys.length : Int)) = false := decide_eq_false (by omega)
          have hbest : best = bestS n.p 0 n.keys.length := by
            rw [show n.keys.length - k = 0 by omega] at hT; exact hT
          obtain ⟨a, b, y, e40, ha, hy, hb⟩ := eP  best (PO best k3 k4)
          have ca := hC.partA best
          have cb := hC.partB best
          rw [← ha] at ca
          rw [← hb] at cb
          obtain ⟨a', ea, ha'⟩ := e28 a ca.cells
          obtain ⟨b', eb, hb'⟩ := e28 b cb.cells
          have ey := e41 y (by rw [hy]; exact hK best)
          rw [hsp, ← hbest]
          simp only [Nd.v, Nd.cs, By.v, hleaf] at e40 ea eb ey
          (simp only [go_sem, Nat.add_assoc, reduceIte, reduceCtorEq, Nat.reduceEqDiff, Nat.reduceAdd, Nat.reduceMul, Nat.reduceSub, Nat.reduceLeDiff, Nat.reduceLT, Nat.reduceBEq, Nat.reduceBNe, Int.reduceLE, Int.reduceLT, Int.reduceToNat, Int.reduceEq, Int.reduceNe, Int.reduceNeg, Nat.reduceEqDiff, Int.reduceAdd, Int.reduceSub, Int.reduceMul, Int.cast_ofNat_Int, Int.natCast_zero, Nd.cs, hcond, s40, e40, s28, ea, eb, s41, ey]; repeat' (refine kont_next ?_ <;> (try simp only [go_sem, Nat.add_assoc, reduceIte, reduceCtorEq, Nat.reduceEqDiff, Nat.reduceAdd, Nat.reduceMul, Nat.reduceSub, Nat.reduceLeDiff, Nat.reduceLT, Nat.reduceBEq, Nat.reduceBNe, Int.reduceLE, Int.reduceLT, Int.reduceToNat, Int.reduceEq, Int.reduceNe, Int.reduceNeg, Nat.reduceEqDiff, Int.reduceAdd, Int.reduceSub, Int.reduceMul, Int.cast_ofNat_Int, Int.natCast_zero, Nd.cs, hcond, s40, e40, s28, ea, eb, s41, ey])))
          exact ⟨a', b', cloneB y, rfl, ha'.trans ha, (cloneB_l y).trans hy, hb'.trans hb⟩
end Go.Proofs.Ytogjoenpliphdaa
