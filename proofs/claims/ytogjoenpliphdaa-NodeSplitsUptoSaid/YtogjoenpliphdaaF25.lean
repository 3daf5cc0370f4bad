import Derived.Test.YtogjoenpliphdaaF24
import Derived.Test.YtogjoenpliphdaaF5
import Derived.Test.YtogjoenpliphdaaP4
set_option linter.unusedSimpArgs false
set_option linter.unusedVariables false
set_option maxHeartbeats 8000000
set_option maxRecDepth 100000
namespace Go.Proofs.Ytogjoenpliphdaa
open Go.Abs


theorem e19 (n : Nd) (hC : CellsP n.p) (hl : (formB n).length + 200 ≤ LIM) : ∃ (a b : Nd) (y : By), acall S 19 [n.v] = some (.tup [a.v, y.v, b.v], []) ∧ a.p = (splitP n.p).1 ∧ y.l = (splitP n.p).2.1 ∧ b.p = (splitP n.p).2.2 := by
  suffices hW : W (acall S 19 [n.v]) (fun x => ∃ (a b : Nd) (y : By), x = (.tup [a.v, y.v, b.v], []) ∧ a.p = (splitP n.p).1 ∧ y.l = (splitP n.p).2.1 ∧ b.p = (splitP n.p).2.2) by
    obtain ⟨x, h1, a, b, y, rfl, h2⟩ := hW
    exact ⟨a, b, y, h1, h2⟩
  have hL : LIM = 274877906944 := rfl
  have hcl := hC.cells
  obtain ⟨f1, f2, f3⟩ := hcl.f
  have hfl : (formP n.p).length + 200 ≤ LIM := by rw [formP_eq]; exact hl
  have hC' : CellsP (rowN n).p := by rw [rowN_p]; exact hC
  have eP : ∀ k, PartOk n k → ∃ (a b : Nd) (y : By), acall S 42 [(rowN n).v, .i .i64 k] = some (.tup [a.v, y.v, b.v], []) ∧ a.p = partA n.p k ∧ y.l = partK n.p k ∧ b.p = partB n.p k := by
    intro k hk
    have := e42 (rowN n) hC'.cells k (by simpa [PartOk, rowN] using hk)
    rw [rowN_p] at this
    exact this
  have eS := e15
  have ec := e26 n hcl
  have hlc : (rowN n).cells.length = n.cells.length := by simp [rowN]
  have hlk : (rowN n).keys.length = n.keys.length := by simp [rowN]
  have hli : (rowN n).kids.length = n.kids.length := rfl
  have hll : (rowN n).leaf = n.leaf := rfl
  simp only [Nd.v, Nd.cs] at ec
  refine g19 rfl ?_
  cases hleaf : n.leaf with
  | true =>
    rw [hleaf] at ec hll
    have hfp : firstP n.p = 1 := by simp [firstP, Nd.p, hleaf]
    have hep : endP n.p = n.cells.length := by simp [endP, Nd.p, hleaf]
    have gwe : IntKind.i64.wrap ((n.cells.length : Int) - 1) = (n.cells.length : Int) - 1 := wrap_i64 (by omega) (by omega)
    have gwk : IntKind.i64.wrap ((n.keys.length : Int) - 1) = (n.keys.length : Int) - 1 := wrap_i64 (by omega) (by omega)
    by_cases hfe : n.cells.length ≤ 1
    · have g0 : decide ((n.cells.length : Int) - 1 < 1) = true := decide_eq_true (by omega)
      have hsp : splitP n.p = (n.p, [], emptyP) := by unfold splitP; rw [hfp, hep, if_pos hfe]
      rw [hsp]
      (simp only [go_sem, Nat.add_assoc, reduceIte, reduceCtorEq, Nat.reduceEqDiff, Nat.reduceAdd, Nat.reduceMul, Nat.reduceSub, Nat.reduceLeDiff, Nat.reduceLT, Nat.reduceBEq, Nat.reduceBNe, Int.reduceLE, Int.reduceLT, Int.reduceToNat, Int.reduceEq, Int.reduceNe, Int.reduceNeg, Nat.reduceEqDiff, Int.reduceAdd, Int.reduceSub, Int.reduceMul, Int.cast_ofNat_Int, Int.natCast_zero, a19, Nd.v, Nd.cs, hleaf, s26, ec, hll, hlc, hlk, gwe, gwk, g0]; repeat' (refine kont_next ?_ <;> (try simp only [go_sem, Nat.add_assoc, reduceIte, reduceCtorEq, Nat.reduceEqDiff, Nat.reduceAdd, Nat.reduceMul, Nat.reduceSub, Nat.reduceLeDiff, Nat.reduceLT, Nat.reduceBEq, Nat.reduceBNe, Int.reduceLE, Int.reduceLT, Int.reduceToNat, Int.reduceEq, Int.reduceNe, Int.reduceNeg, Nat.reduceEqDiff, Int.reduceAdd, Int.reduceSub, Int.reduceMul, Int.cast_ofNat_Int, Int.natCast_zero, a19, Nd.v, Nd.cs, hleaf, s26, ec, hll, hlc, hlk, gwe, gwk, g0])))
      exact ⟨rowN n, emptyNd, nilBy, by simp only [Nd.v, Nd.cs, hll]; rfl, rowN_p n, rfl, rfl⟩
    · have g0 : decide ((n.cells.length : Int) - 1 < 1) = false := decide_eq_false (by omega)
      have hsp : splitP n.p = (partA n.p (bestS n.p 1 n.cells.length), partK n.p (bestS n.p 1 n.cells.length), partB n.p (bestS n.p 1 n.cells.length)) := by unfold splitP; rw [hfp, hep, if_neg (by omega)]
      have PO : ∀ k, 1 ≤ k → k < n.cells.length → PartOk n k := fun k _ h => .inl ⟨hleaf, h⟩
      (simp only [go_sem, Nat.add_assoc, reduceIte, reduceCtorEq, Nat.reduceEqDiff, Nat.reduceAdd, Nat.reduceMul, Nat.reduceSub, Nat.reduceLeDiff, Nat.reduceLT, Nat.reduceBEq, Nat.reduceBNe, Int.reduceLE, Int.reduceLT, Int.reduceToNat, Int.reduceEq, Int.reduceNe, Int.reduceNeg, Nat.reduceEqDiff, Int.reduceAdd, Int.reduceSub, Int.reduceMul, Int.cast_ofNat_Int, Int.natCast_zero, a19, Nd.v, Nd.cs, hleaf, s26, ec, hll, hlc, hlk, gwe, gwk, g0]; repeat' (refine kont_next ?_ <;> (try simp only [go_sem, Nat.add_assoc, reduceIte, reduceCtorEq, Nat.reduceEqDiff, Nat.reduceAdd, Nat.reduceMul, Nat.reduceSub, Nat.reduceLeDiff, Nat.reduceLT, Nat.reduceBEq, Nat.reduceBNe, Int.reduceLE, Int.reduceLT, Int.reduceToNat, Int.reduceEq, Int.reduceNe, Int.reduceNeg, Nat.reduceEqDiff, Int.reduceAdd, Int.reduceSub, Int.reduceMul, Int.cast_ofNat_Int, Int.natCast_zero, a19, Nd.v, Nd.cs, hleaf, s26, ec, hll, hlc, hlk, gwe, gwk, g0])))
      refine kloop_inv (ι := Nat × Nat × Nat) (fun x => [.bx [.b true, .sl (rowN n).kc (rowN n).zc ((rowN n).cells.map Ce.c), .sl (rowN n).kk (rowN n).zk ((rowN n).keys.map byC), .sl (rowN n).ki (rowN n).zi ((rowN n).kids.map intC)], .bx [.b false, .sl .nil 0 [], .sl .nil 0 [], .sl .nil 0 []], .bx [.b false, .sl .nil 0 [], .sl .nil 0 [], .sl .nil 0 []], .i .i64 1, .i .i64 ((n.cells.length : Int) - 1), .i .i64 x.2.1, .i .i64 x.2.2, .i .i64 x.1])
        (fun x => 1 ≤ x.1 ∧ x.1 ≤ n.cells.length ∧ 1 ≤ x.2.1 ∧ x.2.1 < n.cells.length ∧ bestG n.p 1 (n.cells.length - x.1) x.1 x.2.1 x.2.2 = bestS n.p 1 n.cells.length) (fun x => n.cells.length - x.1) (1, 1, 0) (by simp [Nd.cs, gwe]) ⟨by simp, by simp only; omega, by simp, by simp only; omega, rfl⟩ ?_
      rintro ⟨k, best, least⟩ ⟨k1, k2, k3, k4, hT⟩
      simp only at k1 k2 k3 k4 hT
      by_cases hke : k < n.cells.length
      · have hcond : decide ((k : Int) ≤ (n.cells.length : Int) - 1) = true := decide_eq_true (by omega)
        obtain ⟨a, b, y, e40, ha, hy, hb⟩ := eP  k (PO k k1 hke)
        have ea := eS a (by rw [← formP_eq, ha]; have := partA_len hC k; omega)
        have eb := eS b (by rw [← formP_eq, hb]; have := partB_len hC k; omega)
        rw [← formP_eq, ha] at ea
        rw [← formP_eq, hb] at eb
        have hw := wrap_succ (k := k) (by omega)
        obtain ⟨m, hm⟩ : ∃ m, n.cells.length - k = m + 1 := ⟨n.cells.length - k - 1, by omega⟩
        rw [hm] at hT
        simp only [bestG] at hT
        have hmx := max_int (formP (partA n.p k)).length (formP (partB n.p k)).length
        simp only [Nd.v, Nd.cs, By.v, hll] at e40 ea eb
        by_cases hf : k = 1
        · have g1 : decide ((k : Int) = 1) = true := decide_eq_true (by omega)
          rw [if_pos (.inl hf)] at hT
          (simp only [go_sem, Nat.add_assoc, reduceIte, reduceCtorEq, Nat.reduceEqDiff, Nat.reduceAdd, Nat.reduceMul, Nat.reduceSub, Nat.reduceLeDiff, Nat.reduceLT, Nat.reduceBEq, Nat.reduceBNe, Int.reduceLE, Int.reduceLT, Int.reduceToNat, Int.reduceEq, Int.reduceNe, Int.reduceNeg, Nat.reduceEqDiff, Int.reduceAdd, Int.reduceSub, Int.reduceMul, Int.cast_ofNat_Int, Int.natCast_zero, Nd.cs, hcond, s42, e40, s15, ea, eb, List.foldl_cons, List.foldl_nil, hmx, g1, hw]; repeat' (refine kont_next ?_ <;> (try simp only [go_sem, Nat.add_assoc, reduceIte, reduceCtorEq, Nat.reduceEqDiff, Nat.reduceAdd, Nat.reduceMul, Nat.reduceSub, Nat.reduceLeDiff, Nat.reduceLT, Nat.reduceBEq, Nat.reduceBNe, Int.reduceLE, Int.reduceLT, Int.reduceToNat, Int.reduceEq, Int.reduceNe, Int.reduceNeg, Nat.reduceEqDiff, Int.reduceAdd, Int.reduceSub, Int.reduceMul, Int.cast_ofNat_Int, Int.natCast_zero, Nd.cs, hcond, s42, e40, s15, ea, eb, List.foldl_cons, List.foldl_nil, hmx, g1, hw])))
          refine ⟨(k + 1, k, sizeP n.p k), rfl, ⟨by simp only; omega, by simp only; omega, by simp only; omega, by simp only; omega, ?_⟩, by simp only; omega⟩
          simp only; rw [show n.cells.length - (k + 1) = m by omega]; exact hT
        · have g1 : decide ((k : Int) = 1) = false := decide_eq_false (by omega)
          by_cases hs : sizeP n.p k < least
          · have g2 : decide (((max (formP (partA n.p k)).length (formP (partB n.p k)).length : Nat) : Int) < (least : Int)) = true := decide_eq_true (by unfold sizeP at hs; omega)
            rw [if_pos (.inr hs)] at hT
            (simp only [go_sem, Nat.add_assoc, reduceIte, reduceCtorEq, Nat.reduceEqDiff, Nat.reduceAdd, Nat.reduceMul, Nat.reduceSub, Nat.reduceLeDiff, Nat.reduceLT, Nat.reduceBEq, Nat.reduceBNe, Int.reduceLE, Int.reduceLT, Int.reduceToNat, Int.reduceEq, Int.reduceNe, Int.reduceNeg, Nat.reduceEqDiff, Int.reduceAdd, Int.reduceSub, Int.reduceMul, Int.cast_ofNat_Int, Int.natCast_zero, Nd.cs, hcond, s42, e40, s15, ea, eb, List.foldl_cons, List.foldl_nil, hmx, g1, g2, hw]; repeat' (refine kont_next ?_ <;> (try simp only [go_sem, Nat.add_assoc, reduceIte, reduceCtorEq, Nat.reduceEqDiff, Nat.reduceAdd, Nat.reduceMul, Nat.reduceSub, Nat.reduceLeDiff, Nat.reduceLT, Nat.reduceBEq, Nat.reduceBNe, Int.reduceLE, Int.reduceLT, Int.reduceToNat, Int.reduceEq, Int.reduceNe, Int.reduceNeg, Nat.reduceEqDiff, Int.reduceAdd, Int.reduceSub, Int.reduceMul, Int.cast_ofNat_Int, Int.natCast_zero, Nd.cs, hcond, s42, e40, s15, ea, eb, List.foldl_cons, List.foldl_nil, hmx, g1, g2, hw])))
            refine ⟨(k + 1, k, sizeP n.p k), rfl, ⟨by simp only; omega, by simp only; omega, by simp only; omega, by simp only; omega, ?_⟩, by simp only; omega⟩
            simp only; rw [show n.cells.length - (k + 1) = m by omega]; exact hT
          · have g2 : decide (((max (formP (partA n.p k)).length (formP (partB n.p k)).length : Nat) : Int) < (least : Int)) = false := decide_eq_false (by unfold sizeP at hs; omega)
            rw [if_neg (by rintro (h | h); exact hf h; exact hs h)] at hT
            (simp only [go_sem, Nat.add_assoc, reduceIte, reduceCtorEq, Nat.reduceEqDiff, Nat.reduceAdd, Nat.reduceMul, Nat.reduceSub, Nat.reduceLeDiff, Nat.reduceLT, Nat.reduceBEq, Nat.reduceBNe, Int.reduceLE, Int.reduceLT, Int.reduceToNat, Int.reduceEq, Int.reduceNe, Int.reduceNeg, Nat.reduceEqDiff, Int.reduceAdd, Int.reduceSub, Int.reduceMul, Int.cast_ofNat_Int, Int.natCast_zero, Nd.cs, hcond, s42, e40, s15, ea, eb, List.foldl_cons, List.foldl_nil, hmx, g1, g2, hw]; repeat' (refine kont_next ?_ <;> (try simp only [go_sem, Nat.add_assoc, reduceIte, reduceCtorEq, Nat.reduceEqDiff, Nat.reduceAdd, Nat.reduceMul, Nat.reduceSub, Nat.reduceLeDiff, Nat.reduceLT, Nat.reduceBEq, Nat.reduceBNe, Int.reduceLE, Int.reduceLT, Int.reduceToNat, Int.reduceEq, Int.reduceNe, Int.reduceNeg, Nat.reduceEqDiff, Int.reduceAdd, Int.reduceSub, Int.reduceMul, Int.cast_ofNat_Int, Int.natCast_zero, Nd.cs, hcond, s42, e40, s15, ea, eb, List.foldl_cons, List.foldl_nil, hmx, g1, g2, hw])))
            refine ⟨(k + 1, best, least), rfl, ⟨by simp only; omega, by simp only; omega, by simp only; omega, by simp only; omega, ?_⟩, by simp only; omega⟩
            simp only; rw [show n.cells.length - (k + 1) = m by omega]; exact hT
      · have hcond : decide ((k : Int) ≤ (n.cells.length : Int) - 1) = false := decide_eq_false (by omega)
        have hbest : best = bestS n.p 1 n.cells.length := by
          rw [show n.cells.length - k = 0 by omega] at hT; exact hT
        obtain ⟨a, b, y, e40, ha, hy, hb⟩ := eP  best (PO best k3 k4)
        rw [hsp, ← hbest]
        simp only [Nd.v, Nd.cs, By.v, hll] at e40
        (simp only [go_sem, Nat.add_assoc, reduceIte, reduceCtorEq, Nat.reduceEqDiff, Nat.reduceAdd, Nat.reduceMul, Nat.reduceSub, Nat.reduceLeDiff, Nat.reduceLT, Nat.reduceBEq, Nat.reduceBNe, Int.reduceLE, Int.reduceLT, Int.reduceToNat, Int.reduceEq, Int.reduceNe, Int.reduceNeg, Nat.reduceEqDiff, Int.reduceAdd, Int.reduceSub, Int.reduceMul, Int.cast_ofNat_Int, Int.natCast_zero, Nd.cs, hcond, s42, e40]; repeat' (refine kont_next ?_ <;> (try simp only [go_sem, Nat.add_assoc, reduceIte, reduceCtorEq, Nat.reduceEqDiff, Nat.reduceAdd, Nat.reduceMul, Nat.reduceSub, Nat.reduceLeDiff, Nat.reduceLT, Nat.reduceBEq, Nat.reduceBNe, Int.reduceLE, Int.reduceLT, Int.reduceToNat, Int.reduceEq, Int.reduceNe, Int.reduceNeg, Nat.reduceEqDiff, Int.reduceAdd, Int.reduceSub, Int.reduceMul, Int.cast_ofNat_Int, Int.natCast_zero, Nd.cs, hcond, s42, e40])))
        exact ⟨a, b, y, rfl, ha, hy, hb⟩
  | false =>
    rw [hleaf] at ec hll
    have hfp : firstP n.p = 0 := by simp [firstP, Nd.p, hleaf]
    have gwe : IntKind.i64.wrap ((n.keys.length : Int) - 1) = (n.keys.length : Int) - 1 := wrap_i64 (by omega) (by omega)
    by_cases hfe : n.keys.length ≤ 0
    · have g0 : decide ((n.keys.length : Int) - 1 < 0) = true := decide_eq_true (by omega)
      have hsp : splitP n.p = (n.p, [], emptyP) := by
        have : endP n.p = 0 := by
          have h0 : n.keys.length = 0 := by omega
          simp only [endP, Nd.p, hleaf, List.length_map, h0]; simp
        unfold splitP; rw [hfp, this, if_pos (by omega)]
      rw [hsp]
      (simp only [go_sem, Nat.add_assoc, reduceIte, reduceCtorEq, Nat.reduceEqDiff, Nat.reduceAdd, Nat.reduceMul, Nat.reduceSub, Nat.reduceLeDiff, Nat.reduceLT, Nat.reduceBEq, Nat.reduceBNe, Int.reduceLE, Int.reduceLT, Int.reduceToNat, Int.reduceEq, Int.reduceNe, Int.reduceNeg, Nat.reduceEqDiff, Int.reduceAdd, Int.reduceSub, Int.reduceMul, Int.cast_ofNat_Int, Int.natCast_zero, a19, Nd.v, Nd.cs, hleaf, s26, ec, hll, hlc, hlk, hli, gwe, g0]; repeat' (refine kont_next ?_ <;> (try simp only [go_sem, Nat.add_assoc, reduceIte, reduceCtorEq, Nat.reduceEqDiff, Nat.reduceAdd, Nat.reduceMul, Nat.reduceSub, Nat.reduceLeDiff, Nat.reduceLT, Nat.reduceBEq, Nat.reduceBNe, Int.reduceLE, Int.reduceLT, Int.reduceToNat, Int.reduceEq, Int.reduceNe, Int.reduceNeg, Nat.reduceEqDiff, Int.reduceAdd, Int.reduceSub, Int.reduceMul, Int.cast_ofNat_Int, Int.natCast_zero, a19, Nd.v, Nd.cs, hleaf, s26, ec, hll, hlc, hlk, hli, gwe, g0])))
      exact ⟨rowN n, emptyNd, nilBy, by simp only [Nd.v, Nd.cs, hll]; rfl, rowN_p n, rfl, rfl⟩
    · have g0 : decide ((n.keys.length : Int) - 1 < 0) = false := decide_eq_false (by omega)
      by_cases hkk : n.kids.length ≤ n.keys.length
      · have g1 : decide ((n.kids.length : Int) ≤ (n.keys.length : Int)) = true := decide_eq_true (by omega)
        have hep : endP n.p = 0 := by simp [endP, Nd.p, hleaf, hkk]
        have hsp : splitP n.p = (n.p, [], emptyP) := by unfold splitP; rw [hfp, hep, if_pos (by omega)]
        rw [hsp]
        (simp only [go_sem, Nat.add_assoc, reduceIte, reduceCtorEq, Nat.reduceEqDiff, Nat.reduceAdd, Nat.reduceMul, Nat.reduceSub, Nat.reduceLeDiff, Nat.reduceLT, Nat.reduceBEq, Nat.reduceBNe, Int.reduceLE, Int.reduceLT, Int.reduceToNat, Int.reduceEq, Int.reduceNe, Int.reduceNeg, Nat.reduceEqDiff, Int.reduceAdd, Int.reduceSub, Int.reduceMul, Int.cast_ofNat_Int, Int.natCast_zero, a19, Nd.v, Nd.cs, hleaf, s26, ec, hll, hlc, hlk, hli, gwe, g0, g1]; repeat' (refine kont_next ?_ <;> (try simp only [go_sem, Nat.add_assoc, reduceIte, reduceCtorEq, Nat.reduceEqDiff, Nat.reduceAdd, Nat.reduceMul, Nat.reduceSub, Nat.reduceLeDiff, Nat.reduceLT, Nat.reduceBEq, Nat.reduceBNe, Int.reduceLE, Int.reduceLT, Int.reduceToNat, Int.reduceEq, Int.reduceNe, Int.reduceNeg, Nat.reduceEqDiff, Int.reduceAdd, Int.reduceSub, Int.reduceMul, Int.cast_ofNat_Int, Int.natCast_zero, a19, Nd.v, Nd.cs, hleaf, s26, ec, hll, hlc, hlk, hli, gwe, g0, g1])))
        exact ⟨rowN n, emptyNd, nilBy, by simp only [Nd.v, Nd.cs, hll]; rfl, rowN_p n, rfl, rfl⟩
      · have g1 : decide ((n.kids.length : Int) ≤ (n.keys.length : Int)) = false := decide_eq_false (by omega)
        have hep : endP n.p = n.keys.length := by simp [endP, Nd.p, hleaf, hkk]
        have hsp : splitP n.p = (partA n.p (bestS n.p 0 n.keys.length), partK n.p (bestS n.p 0 n.keys.length), partB n.p (bestS n.p 0 n.keys.length)) := by unfold splitP; rw [hfp, hep, if_neg (by omega)]
        have PO : ∀ k, 0 ≤ k → k < n.keys.length → PartOk n k := fun k _ h => .inr ⟨hleaf, h, by omega⟩
        (simp only [go_sem, Nat.add_assoc, reduceIte, reduceCtorEq, Nat.reduceEqDiff, Nat.reduceAdd, Nat.reduceMul, Nat.reduceSub, Nat.reduceLeDiff, Nat.reduceLT, Nat.reduceBEq, Nat.reduceBNe, Int.reduceLE, Int.reduceLT, Int.reduceToNat, Int.reduceEq, Int.reduceNe, Int.reduceNeg, Nat.reduceEqDiff, Int.reduceAdd, Int.reduceSub, Int.reduceMul, Int.cast_ofNat_Int, Int.natCast_zero, a19, Nd.v, Nd.cs, hleaf, s26, ec, hll, hlc, hlk, hli, gwe, g0, g1]; repeat' (refine kont_next ?_ <;> (try simp only [go_sem, Nat.add_assoc, reduceIte, reduceCtorEq, Nat.reduceEqDiff, Nat.reduceAdd, Nat.reduceMul, Nat.reduceSub, Nat.reduceLeDiff, Nat.reduceLT, Nat.reduceBEq, Nat.reduceBNe, Int.reduceLE, Int.reduceLT, Int.reduceToNat, Int.reduceEq, Int.reduceNe, Int.reduceNeg, Nat.reduceEqDiff, Int.reduceAdd, Int.reduceSub, Int.reduceMul, Int.cast_ofNat_Int, Int.natCast_zero, a19, Nd.v, Nd.cs, hleaf, s26, ec, hll, hlc, hlk, hli, gwe, g0, g1])))
        refine kloop_inv (ι := Nat × Nat × Nat) (fun x => [.bx [.b false, .sl (rowN n).kc (rowN n).zc ((rowN n).cells.map Ce.c), .sl (rowN n).kk (rowN n).zk ((rowN n).keys.map byC), .sl (rowN n).ki (rowN n).zi ((rowN n).kids.map intC)], .bx [.b false, .sl .nil 0 [], .sl .nil 0 [], .sl .nil 0 []], .bx [.b false, .sl .nil 0 [], .sl .nil 0 [], .sl .nil 0 []], .i .i64 0, .i .i64 ((n.keys.length : Int) - 1), .i .i64 x.2.1, .i .i64 x.2.2, .i .i64 x.1])
          (fun x => 0 ≤ x.1 ∧ x.1 ≤ n.keys.length ∧ 0 ≤ x.2.1 ∧ x.2.1 < n.keys.length ∧ bestG n.p 0 (n.keys.length - x.1) x.1 x.2.1 x.2.2 = bestS n.p 0 n.keys.length) (fun x => n.keys.length - x.1) (0, 0, 0) (by simp [Nd.cs, gwe]) ⟨by simp, by simp only; omega, by simp, by simp only; omega, rfl⟩ ?_
        rintro ⟨k, best, least⟩ ⟨k1, k2, k3, k4, hT⟩
        simp only at k1 k2 k3 k4 hT
        by_cases hke : k < n.keys.length
        · have hcond : decide ((k : Int) ≤ (n.keys.length : Int) - 1) = true := decide_eq_true (by omega)
          obtain ⟨a, b, y, e40, ha, hy, hb⟩ := eP  k (PO k k1 hke)
          have ea := eS a (by rw [← formP_eq, ha]; have := partA_len hC k; omega)
          have eb := eS b (by rw [← formP_eq, hb]; have := partB_len hC k; omega)
          rw [← formP_eq, ha] at ea
          rw [← formP_eq, hb] at eb
          have hw := wrap_succ (k := k) (by omega)
          obtain ⟨m, hm⟩ : ∃ m, n.keys.length - k = m + 1 := ⟨n.keys.length - k - 1, by omega⟩
          rw [hm] at hT
          simp only [bestG] at hT
          have hmx := max_int (formP (partA n.p k)).length (formP (partB n.p k)).length
          simp only [Nd.v, Nd.cs, By.v, hll] at e40 ea eb
          by_cases hf : k = 0
          · have g1 : decide ((k : Int) = 0) = true := decide_eq_true (by omega)
            rw [if_pos (.inl hf)] at hT
            (simp only [go_sem, Nat.add_assoc, reduceIte, reduceCtorEq, Nat.reduceEqDiff, Nat.reduceAdd, Nat.reduceMul, Nat.reduceSub, Nat.reduceLeDiff, Nat.reduceLT, Nat.reduceBEq, Nat.reduceBNe, Int.reduceLE, Int.reduceLT, Int.reduceToNat, Int.reduceEq, Int.reduceNe, Int.reduceNeg, Nat.reduceEqDiff, Int.reduceAdd, Int.reduceSub, Int.reduceMul, Int.cast_ofNat_Int, Int.natCast_zero, Nd.cs, hcond, s42, e40, s15, ea, eb, List.foldl_cons, List.foldl_nil, hmx, g1, hw]; repeat' (refine kont_next ?_ <;> (try simp only [go_sem, Nat.add_assoc, reduceIte, reduceCtorEq, Nat.reduceEqDiff, Nat.reduceAdd, Nat.reduceMul, Nat.reduceSub, Nat.reduceLeDiff, Nat.reduceLT, Nat.reduceBEq, Nat.reduceBNe, Int.reduceLE, Int.reduceLT, Int.reduceToNat, Int.reduceEq, Int.reduceNe, Int.reduceNeg, Nat.reduceEqDiff, Int.reduceAdd, Int.reduceSub, Int.reduceMul, Int.cast_ofNat_Int, Int.natCast_zero, Nd.cs, hcond, s42, e40, s15, ea, eb, List.foldl_cons, List.foldl_nil, hmx, g1, hw])))
            refine ⟨(k + 1, k, sizeP n.p k), rfl, ⟨by simp only; omega, by simp only; omega, ?_⟩, by simp only; omega⟩
            simp only; rw [show n.keys.length - (k + 1) = m by omega]; exact hT
          · have g1 : decide ((k : Int) = 0) = false := decide_eq_false (by omega)
            by_cases hs : sizeP n.p k < least
            · have g2 : decide (((max (formP (partA n.p k)).length (formP (partB n.p k)).length : Nat) : Int) < (least : Int)) = true := decide_eq_true (by unfold sizeP at hs; omega)
              rw [if_pos (.inr hs)] at hT
              (simp only [go_sem, Nat.add_assoc, reduceIte, reduceCtorEq, Nat.reduceEqDiff, Nat.reduceAdd, Nat.reduceMul, Nat.reduceSub, Nat.reduceLeDiff, Nat.reduceLT, Nat.reduceBEq, Nat.reduceBNe, Int.reduceLE, Int.reduceLT, Int.reduceToNat, Int.reduceEq, Int.reduceNe, Int.reduceNeg, Nat.reduceEqDiff, Int.reduceAdd, Int.reduceSub, Int.reduceMul, Int.cast_ofNat_Int, Int.natCast_zero, Nd.cs, hcond, s42, e40, s15, ea, eb, List.foldl_cons, List.foldl_nil, hmx, g1, g2, hw]; repeat' (refine kont_next ?_ <;> (try simp only [go_sem, Nat.add_assoc, reduceIte, reduceCtorEq, Nat.reduceEqDiff, Nat.reduceAdd, Nat.reduceMul, Nat.reduceSub, Nat.reduceLeDiff, Nat.reduceLT, Nat.reduceBEq, Nat.reduceBNe, Int.reduceLE, Int.reduceLT, Int.reduceToNat, Int.reduceEq, Int.reduceNe, Int.reduceNeg, Nat.reduceEqDiff, Int.reduceAdd, Int.reduceSub, Int.reduceMul, Int.cast_ofNat_Int, Int.natCast_zero, Nd.cs, hcond, s42, e40, s15, ea, eb, List.foldl_cons, List.foldl_nil, hmx, g1, g2, hw])))
              refine ⟨(k + 1, k, sizeP n.p k), rfl, ⟨by simp only; omega, by simp only; omega, ?_⟩, by simp only; omega⟩
              simp only; rw [show n.keys.length - (k + 1) = m by omega]; exact hT
            · have g2 : decide (((max (formP (partA n.p k)).length (formP (partB n.p k)).length : Nat) : Int) < (least : Int)) = false := decide_eq_false (by unfold sizeP at hs; omega)
              rw [if_neg (by rintro (h | h); exact hf h; exact hs h)] at hT
              (simp only [go_sem, Nat.add_assoc, reduceIte, reduceCtorEq, Nat.reduceEqDiff, Nat.reduceAdd, Nat.reduceMul, Nat.reduceSub, Nat.reduceLeDiff, Nat.reduceLT, Nat.reduceBEq, Nat.reduceBNe, Int.reduceLE, Int.reduceLT, Int.reduceToNat, Int.reduceEq, Int.reduceNe, Int.reduceNeg, Nat.reduceEqDiff, Int.reduceAdd, Int.reduceSub, Int.reduceMul, Int.cast_ofNat_Int, Int.natCast_zero, Nd.cs, hcond, s42, e40, s15, ea, eb, List.foldl_cons, List.foldl_nil, hmx, g1, g2, hw]; repeat' (refine kont_next ?_ <;> (try simp only [go_sem, Nat.add_assoc, reduceIte, reduceCtorEq, Nat.reduceEqDiff, Nat.reduceAdd, Nat.reduceMul, Nat.reduceSub, Nat.reduceLeDiff, Nat.reduceLT, Nat.reduceBEq, Nat.reduceBNe, Int.reduceLE, Int.reduceLT, Int.reduceToNat, Int.reduceEq, Int.reduceNe, Int.reduceNeg, Nat.reduceEqDiff, Int.reduceAdd, Int.reduceSub, Int.reduceMul, Int.cast_ofNat_Int, Int.natCast_zero, Nd.cs, hcond, s42, e40, s15, ea, eb, List.foldl_cons, List.foldl_nil, hmx, g1, g2, hw])))
              refine ⟨(k + 1, best, least), rfl, ⟨by simp only; omega, by simp only; omega, ?_⟩, by simp only; omega⟩
              simp only; rw [show n.keys.length - (k + 1) = m by omega]; exact hT
        · have hcond : decide ((k : Int) ≤ (n.keys.length : Int) - 1) = false := decide_eq_false (by omega)
          have hbest : best = bestS n.p 0 n.keys.length := by
            rw [show n.keys.length - k = 0 by omega] at hT; exact hT
          obtain ⟨a, b, y, e40, ha, hy, hb⟩ := eP  best (PO best k3 k4)
          rw [hsp, ← hbest]
          simp only [Nd.v, Nd.cs, By.v, hll] at e40
          (simp only [go_sem, Nat.add_assoc, reduceIte, reduceCtorEq, Nat.reduceEqDiff, Nat.reduceAdd, Nat.reduceMul, Nat.reduceSub, Nat.reduceLeDiff, Nat.reduceLT, Nat.reduceBEq, Nat.reduceBNe, Int.reduceLE, Int.reduceLT, Int.reduceToNat, Int.reduceEq, Int.reduceNe, Int.reduceNeg, Nat.reduceEqDiff, Int.reduceAdd, Int.reduceSub, Int.reduceMul, Int.cast_ofNat_Int, Int.natCast_zero, Nd.cs, hcond, s42, e40]; repeat' (refine kont_next ?_ <;> (try simp only [go_sem, Nat.add_assoc, reduceIte, reduceCtorEq, Nat.reduceEqDiff, Nat.reduceAdd, Nat.reduceMul, Nat.reduceSub, Nat.reduceLeDiff, Nat.reduceLT, Nat.reduceBEq, Nat.reduceBNe, Int.reduceLE, Int.reduceLT, Int.reduceToNat, Int.reduceEq, Int.reduceNe, Int.reduceNeg, Nat.reduceEqDiff, Int.reduceAdd, Int.reduceSub, Int.reduceMul, Int.cast_ofNat_Int, Int.natCast_zero, Nd.cs, hcond, s42, e40])))
          exact ⟨a, b, y, rfl, ha, hy, hb⟩
end Go.Proofs.Ytogjoenpliphdaa
