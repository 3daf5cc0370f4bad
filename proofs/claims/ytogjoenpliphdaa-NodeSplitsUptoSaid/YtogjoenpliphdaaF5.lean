import Derived.Test.YtogjoenpliphdaaF4
set_option linter.unusedSimpArgs false
set_option linter.unusedVariables false
set_option maxHeartbeats 4000000
namespace Go.Proofs.Ytogjoenpliphdaa
open Go.Abs

theorem e31 (n : Nd) (hl : (formB n).length + 100 ≤ LIM) : acall S 31 [n.v] = some (.sl .open_ 1 (ofU8s (formB n)), []) := by
  have hL : LIM < 4611686018427387904 := by decide
  cases hleaf : n.leaf with
  | true =>
    have hf := leaf_form hleaf
    have hlen := congrArg List.length hf
    simp only [List.length_append, List.length_cons, List.length_nil] at hlen
    have hge := flat_ge cellB cellB_pos n.cells
    have e1 : acall S 64 [.sl .open_ 1 [[.i .u8 1]], .i .i64 (n.cells.length : Int)] = some (.ow 5 1 false (ofU8s ([1] ++ leb n.cells.length)), []) := by
      have := e64 (n.cells.length : Int) (OkS.open_ 1 [1]) (by simp [LIM])
      rw [u64_nat _ (by omega)] at this
      exact this
    refine W_eq (g31 rfl ?_)
    simp only [go_sem, Nat.add_assoc, reduceIte, reduceCtorEq, Nat.reduceEqDiff, Nat.reduceAdd, Nat.reduceMul, Nat.reduceSub, Nat.reduceLeDiff, Nat.reduceLT, Nat.reduceBEq, Nat.reduceBNe, Int.reduceLE, Int.reduceLT, Int.reduceToNat, Int.reduceEq, Int.reduceNe, Int.reduceNeg, Nat.reduceEqDiff, a31, Nd.v, Nd.cs, s64, e1, hleaf]; repeat' (first | (first | refine kway_sp (fun hh => ?_) (fun hh => ?_) | refine kgdn_sp (fun hh => ?_) (fun hh => ?_) | refine kgd_sp (fun hh => ?_) (fun hh => ?_) | refine kgddn_sp (fun hh => ?_) (fun hh => ?_) | refine kgdd_sp (fun hh => ?_) (fun hh => ?_) | refine kop_way (fun hh => ?_) (fun hh => ?_) | refine kop_bway (fun hh => ?_) (fun hh => ?_) | refine kopd_way (fun hh => ?_) (fun hh => ?_) | refine kopd_bway (fun hh => ?_) (fun hh => ?_)) <;> (try simp only [go_sem, Nat.add_assoc, reduceIte, reduceCtorEq, Nat.reduceEqDiff, Nat.reduceAdd, Nat.reduceMul, Nat.reduceSub, Nat.reduceLeDiff, Nat.reduceLT, Nat.reduceBEq, Nat.reduceBNe, Int.reduceLE, Int.reduceLT, Int.reduceToNat, Int.reduceEq, Int.reduceNe, Int.reduceNeg, Nat.reduceEqDiff, a31, Nd.v, Nd.cs, s64, e1, hleaf, hh]) | (first | refine kop_ask (by omega) ?_ | refine kopd_ask (by omega) ?_ | refine kans_ask (by omega) ?_ | refine kpack_ask (by omega) ?_ | refine kpk_ask (by omega) ?_ | refine kont_next ?_) <;> (try simp only [go_sem, Nat.add_assoc, reduceIte, reduceCtorEq, Nat.reduceEqDiff, Nat.reduceAdd, Nat.reduceMul, Nat.reduceSub, Nat.reduceLeDiff, Nat.reduceLT, Nat.reduceBEq, Nat.reduceBNe, Int.reduceLE, Int.reduceLT, Int.reduceToNat, Int.reduceEq, Int.reduceNe, Int.reduceNeg, Nat.reduceEqDiff, a31, Nd.v, Nd.cs, s64, e1, hleaf]) | (show @Eq Nat _ _; omega) | (show @LE.le Nat _ _ _; omega))
    refine kloop_inv (ι := Nat) (fun k => [.bx [.b true, .sl n.kc n.zc (n.cells.map Ce.c), .sl n.kk n.zk (n.keys.map byC), .sl n.ki n.zi (n.kids.map intC)], .ow 5 1 false (ofU8s ([1] ++ leb n.cells.length ++ (n.cells.take k).flatMap cellB)), .i .i64 k]) (fun k => k ≤ n.cells.length) (fun k => n.cells.length - k) 0 (by simp) (by simp) ?_
    intro k hk
    by_cases hlt : k < n.cells.length
    · obtain ⟨c, hc⟩ := get_lt hlt
      have hw := wrap_succ (k := k) (by omega)
      have hb : decide ((k : Int) < (n.cells.length : Int)) = true := by simp; omega
      have ht := flat_take cellB n.cells (k + 1)
      rw [take_get hc] at ht
      simp only [List.flatMap_append, List.flatMap_cons, List.flatMap_nil, List.append_nil, List.length_append] at ht
      obtain ⟨p, hp⟩ : ∃ p, p = [1] ++ leb n.cells.length ++ (n.cells.take k).flatMap cellB := ⟨_, rfl⟩
      have hpl := congrArg List.length hp
      simp only [List.length_append, List.length_cons, List.length_nil] at hpl
      rw [← hp]
      have hcl : (cellB c).length = (fb c.key.l).length + (if c.over = 0 then (fb c.val.l).length + 1 else (leb (u64 c.len)).length + (leb (u64 c.over)).length + 1) := by
        simp only [cellB, List.length_append]
        split <;> simp
      have hkf : (fb c.key.l).length = (leb c.key.l.length).length + c.key.l.length := by simp [fb]
      have e2 := e64 (c.key.l.length : Int) (OkS.open_ 1 p) (by omega)
      rw [u64_nat _ (by omega)] at e2
      cases h0 : decide (c.over = 0) with
      | true =>
        have h0' : c.over = 0 := by simpa using h0
        rw [if_pos h0'] at hcl
        have hvf : (fb c.val.l).length = (leb c.val.l.length).length + c.val.l.length := by simp [fb]
        have e3 := e64 (c.val.l.length : Int) (OkS.open_ 1 (p ++ (leb c.key.l.length ++ (c.key.l ++ [0])))) (by simp; omega)
        rw [u64_nat _ (by omega)] at e3
        simp only [List.append_assoc, List.cons_append, List.nil_append] at e3
        simp only [go_sem, Nat.add_assoc, reduceIte, reduceCtorEq, Nat.reduceEqDiff, Nat.reduceAdd, Nat.reduceMul, Nat.reduceSub, Nat.reduceLeDiff, Nat.reduceLT, Nat.reduceBEq, Nat.reduceBNe, Int.reduceLE, Int.reduceLT, Int.reduceToNat, Int.reduceEq, Int.reduceNe, Int.reduceNeg, Nat.reduceEqDiff, hb, n.okc.1, c.key.ok.1, c.val.ok.1, hc, Ce.c, By.v, s64, e2, h0, e3, hw]; repeat' (first | (first | refine kway_sp (fun hh => ?_) (fun hh => ?_) | refine kgdn_sp (fun hh => ?_) (fun hh => ?_) | refine kgd_sp (fun hh => ?_) (fun hh => ?_) | refine kgddn_sp (fun hh => ?_) (fun hh => ?_) | refine kgdd_sp (fun hh => ?_) (fun hh => ?_) | refine kop_way (fun hh => ?_) (fun hh => ?_) | refine kop_bway (fun hh => ?_) (fun hh => ?_) | refine kopd_way (fun hh => ?_) (fun hh => ?_) | refine kopd_bway (fun hh => ?_) (fun hh => ?_)) <;> (try simp only [go_sem, Nat.add_assoc, reduceIte, reduceCtorEq, Nat.reduceEqDiff, Nat.reduceAdd, Nat.reduceMul, Nat.reduceSub, Nat.reduceLeDiff, Nat.reduceLT, Nat.reduceBEq, Nat.reduceBNe, Int.reduceLE, Int.reduceLT, Int.reduceToNat, Int.reduceEq, Int.reduceNe, Int.reduceNeg, Nat.reduceEqDiff, hb, n.okc.1, c.key.ok.1, c.val.ok.1, hc, Ce.c, By.v, s64, e2, h0, e3, hw, hh]) | (first | refine kop_ask (by omega) ?_ | refine kopd_ask (by omega) ?_ | refine kans_ask (by omega) ?_ | refine kpack_ask (by omega) ?_ | refine kpk_ask (by omega) ?_ | refine kont_next ?_) <;> (try simp only [go_sem, Nat.add_assoc, reduceIte, reduceCtorEq, Nat.reduceEqDiff, Nat.reduceAdd, Nat.reduceMul, Nat.reduceSub, Nat.reduceLeDiff, Nat.reduceLT, Nat.reduceBEq, Nat.reduceBNe, Int.reduceLE, Int.reduceLT, Int.reduceToNat, Int.reduceEq, Int.reduceNe, Int.reduceNeg, Nat.reduceEqDiff, hb, n.okc.1, c.key.ok.1, c.val.ok.1, hc, Ce.c, By.v, s64, e2, h0, e3, hw]) | (show @Eq Nat _ _; omega) | (show @LE.le Nat _ _ _; omega))
        refine ⟨k + 1, ?_, by omega, by omega⟩
        rw [take_get hc, hp]
        simp [cellB, h0', fb] <;> omega
      | false =>
        have h0' : ¬ c.over = 0 := by simpa using h0
        rw [if_neg h0'] at hcl
        have e3 := e64 c.len (OkS.open_ 1 (p ++ (leb c.key.l.length ++ (c.key.l ++ [1])))) (by simp; omega)
        have e4 := e64 c.over (OkS.open_ 1 (p ++ (leb c.key.l.length ++ (c.key.l ++ [1])) ++ leb (u64 c.len))) (by simp; omega)
        simp only [List.append_assoc, List.cons_append, List.nil_append] at e3 e4
        simp only [go_sem, Nat.add_assoc, reduceIte, reduceCtorEq, Nat.reduceEqDiff, Nat.reduceAdd, Nat.reduceMul, Nat.reduceSub, Nat.reduceLeDiff, Nat.reduceLT, Nat.reduceBEq, Nat.reduceBNe, Int.reduceLE, Int.reduceLT, Int.reduceToNat, Int.reduceEq, Int.reduceNe, Int.reduceNeg, Nat.reduceEqDiff, hb, n.okc.1, c.key.ok.1, hc, Ce.c, By.v, s64, e2, h0, e3, e4, hw]; repeat' (first | (first | refine kway_sp (fun hh => ?_) (fun hh => ?_) | refine kgdn_sp (fun hh => ?_) (fun hh => ?_) | refine kgd_sp (fun hh => ?_) (fun hh => ?_) | refine kgddn_sp (fun hh => ?_) (fun hh => ?_) | refine kgdd_sp (fun hh => ?_) (fun hh => ?_) | refine kop_way (fun hh => ?_) (fun hh => ?_) | refine kop_bway (fun hh => ?_) (fun hh => ?_) | refine kopd_way (fun hh => ?_) (fun hh => ?_) | refine kopd_bway (fun hh => ?_) (fun hh => ?_)) <;> (try simp only [go_sem, Nat.add_assoc, reduceIte, reduceCtorEq, Nat.reduceEqDiff, Nat.reduceAdd, Nat.reduceMul, Nat.reduceSub, Nat.reduceLeDiff, Nat.reduceLT, Nat.reduceBEq, Nat.reduceBNe, Int.reduceLE, Int.reduceLT, Int.reduceToNat, Int.reduceEq, Int.reduceNe, Int.reduceNeg, Nat.reduceEqDiff, hb, n.okc.1, c.key.ok.1, hc, Ce.c, By.v, s64, e2, h0, e3, e4, hw, hh]) | (first | refine kop_ask (by omega) ?_ | refine kopd_ask (by omega) ?_ | refine kans_ask (by omega) ?_ | refine kpack_ask (by omega) ?_ | refine kpk_ask (by omega) ?_ | refine kont_next ?_) <;> (try simp only [go_sem, Nat.add_assoc, reduceIte, reduceCtorEq, Nat.reduceEqDiff, Nat.reduceAdd, Nat.reduceMul, Nat.reduceSub, Nat.reduceLeDiff, Nat.reduceLT, Nat.reduceBEq, Nat.reduceBNe, Int.reduceLE, Int.reduceLT, Int.reduceToNat, Int.reduceEq, Int.reduceNe, Int.reduceNeg, Nat.reduceEqDiff, hb, n.okc.1, c.key.ok.1, hc, Ce.c, By.v, s64, e2, h0, e3, e4, hw]) | (show @Eq Nat _ _; omega) | (show @LE.le Nat _ _ _; omega))
        refine ⟨k + 1, ?_, by omega, by omega⟩
        rw [take_get hc, hp]
        simp [cellB, h0', fb] <;> omega
    · have hb : decide ((k : Int) < (n.cells.length : Int)) = false := by simp; omega
      have hkk : k = n.cells.length := by omega
      simp only [go_sem, Nat.add_assoc, reduceIte, reduceCtorEq, Nat.reduceEqDiff, Nat.reduceAdd, Nat.reduceMul, Nat.reduceSub, Nat.reduceLeDiff, Nat.reduceLT, Nat.reduceBEq, Nat.reduceBNe, Int.reduceLE, Int.reduceLT, Int.reduceToNat, Int.reduceEq, Int.reduceNe, Int.reduceNeg, Nat.reduceEqDiff, hb]; repeat' (first | (first | refine kway_sp (fun hh => ?_) (fun hh => ?_) | refine kgdn_sp (fun hh => ?_) (fun hh => ?_) | refine kgd_sp (fun hh => ?_) (fun hh => ?_) | refine kgddn_sp (fun hh => ?_) (fun hh => ?_) | refine kgdd_sp (fun hh => ?_) (fun hh => ?_) | refine kop_way (fun hh => ?_) (fun hh => ?_) | refine kop_bway (fun hh => ?_) (fun hh => ?_) | refine kopd_way (fun hh => ?_) (fun hh => ?_) | refine kopd_bway (fun hh => ?_) (fun hh => ?_)) <;> (try simp only [go_sem, Nat.add_assoc, reduceIte, reduceCtorEq, Nat.reduceEqDiff, Nat.reduceAdd, Nat.reduceMul, Nat.reduceSub, Nat.reduceLeDiff, Nat.reduceLT, Nat.reduceBEq, Nat.reduceBNe, Int.reduceLE, Int.reduceLT, Int.reduceToNat, Int.reduceEq, Int.reduceNe, Int.reduceNeg, Nat.reduceEqDiff, hb, hh]) | (first | refine kop_ask (by omega) ?_ | refine kopd_ask (by omega) ?_ | refine kans_ask (by omega) ?_ | refine kpack_ask (by omega) ?_ | refine kpk_ask (by omega) ?_ | refine kont_next ?_) <;> (try simp only [go_sem, Nat.add_assoc, reduceIte, reduceCtorEq, Nat.reduceEqDiff, Nat.reduceAdd, Nat.reduceMul, Nat.reduceSub, Nat.reduceLeDiff, Nat.reduceLT, Nat.reduceBEq, Nat.reduceBNe, Int.reduceLE, Int.reduceLT, Int.reduceToNat, Int.reduceEq, Int.reduceNe, Int.reduceNeg, Nat.reduceEqDiff, hb]) | (show @Eq Nat _ _; omega) | (show @LE.le Nat _ _ _; omega))
      rw [hf, hkk, List.take_length]
      simp
  | false =>
    have hf := inner_form hleaf
    have hlen := congrArg List.length hf
    simp only [List.length_append, List.length_cons, List.length_nil] at hlen
    have hge := flat_ge (fun k : By => fb k.l) (fun k => fb_pos k.l) n.keys
    have hge2 := flat_ge (fun k : Int => leb (u64 k)) (fun k => leb_pos _) n.kids
    have e1 : acall S 64 [.sl .open_ 1 [[.i .u8 2]], .i .i64 (n.keys.length : Int)] = some (.ow 5 1 false (ofU8s ([2] ++ leb n.keys.length)), []) := by
      have := e64 (n.keys.length : Int) (OkS.open_ 1 [2]) (by simp [LIM])
      rw [u64_nat _ (by omega)] at this
      exact this
    refine W_eq (g31 rfl ?_)
    simp only [go_sem, Nat.add_assoc, reduceIte, reduceCtorEq, Nat.reduceEqDiff, Nat.reduceAdd, Nat.reduceMul, Nat.reduceSub, Nat.reduceLeDiff, Nat.reduceLT, Nat.reduceBEq, Nat.reduceBNe, Int.reduceLE, Int.reduceLT, Int.reduceToNat, Int.reduceEq, Int.reduceNe, Int.reduceNeg, Nat.reduceEqDiff, a31, Nd.v, Nd.cs, s64, e1, hleaf]; repeat' (first | (first | refine kway_sp (fun hh => ?_) (fun hh => ?_) | refine kgdn_sp (fun hh => ?_) (fun hh => ?_) | refine kgd_sp (fun hh => ?_) (fun hh => ?_) | refine kgddn_sp (fun hh => ?_) (fun hh => ?_) | refine kgdd_sp (fun hh => ?_) (fun hh => ?_) | refine kop_way (fun hh => ?_) (fun hh => ?_) | refine kop_bway (fun hh => ?_) (fun hh => ?_) | refine kopd_way (fun hh => ?_) (fun hh => ?_) | refine kopd_bway (fun hh => ?_) (fun hh => ?_)) <;> (try simp only [go_sem, Nat.add_assoc, reduceIte, reduceCtorEq, Nat.reduceEqDiff, Nat.reduceAdd, Nat.reduceMul, Nat.reduceSub, Nat.reduceLeDiff, Nat.reduceLT, Nat.reduceBEq, Nat.reduceBNe, Int.reduceLE, Int.reduceLT, Int.reduceToNat, Int.reduceEq, Int.reduceNe, Int.reduceNeg, Nat.reduceEqDiff, a31, Nd.v, Nd.cs, s64, e1, hleaf, hh]) | (first | refine kop_ask (by omega) ?_ | refine kopd_ask (by omega) ?_ | refine kans_ask (by omega) ?_ | refine kpack_ask (by omega) ?_ | refine kpk_ask (by omega) ?_ | refine kont_next ?_) <;> (try simp only [go_sem, Nat.add_assoc, reduceIte, reduceCtorEq, Nat.reduceEqDiff, Nat.reduceAdd, Nat.reduceMul, Nat.reduceSub, Nat.reduceLeDiff, Nat.reduceLT, Nat.reduceBEq, Nat.reduceBNe, Int.reduceLE, Int.reduceLT, Int.reduceToNat, Int.reduceEq, Int.reduceNe, Int.reduceNeg, Nat.reduceEqDiff, a31, Nd.v, Nd.cs, s64, e1, hleaf]) | (show @Eq Nat _ _; omega) | (show @LE.le Nat _ _ _; omega))
    refine kloop_inv (ι := Nat) (fun k => [.bx [.b false, .sl n.kc n.zc (n.cells.map Ce.c), .sl n.kk n.zk (n.keys.map byC), .sl n.ki n.zi (n.kids.map intC)], .ow 5 1 false (ofU8s ([2] ++ leb n.keys.length ++ (n.keys.take k).flatMap fun k => fb k.l)), .i .i64 k]) (fun k => k ≤ n.keys.length) (fun k => n.keys.length - k) 0 (by simp) (by simp) ?_
    intro k hk
    by_cases hlt : k < n.keys.length
    · obtain ⟨c, hc⟩ := get_lt hlt
      have hw := wrap_succ (k := k) (by omega)
      have hb : decide ((k : Int) < (n.keys.length : Int)) = true := by simp; omega
      have ht := flat_take (fun k : By => fb k.l) n.keys (k + 1)
      rw [take_get hc] at ht
      simp only [List.flatMap_append, List.flatMap_cons, List.flatMap_nil, List.append_nil, List.length_append] at ht
      obtain ⟨p, hp⟩ : ∃ p, p = [2] ++ leb n.keys.length ++ (n.keys.take k).flatMap fun k => fb k.l := ⟨_, rfl⟩
      have hpl := congrArg List.length hp
      simp only [List.length_append, List.length_cons, List.length_nil] at hpl
      rw [← hp]
      have hkf : (fb c.l).length = (leb c.l.length).length + c.l.length := by simp [fb]
      have e2 := e64 (c.l.length : Int) (OkS.open_ 1 p) (by omega)
      rw [u64_nat _ (by omega)] at e2
      simp only [go_sem, Nat.add_assoc, reduceIte, reduceCtorEq, Nat.reduceEqDiff, Nat.reduceAdd, Nat.reduceMul, Nat.reduceSub, Nat.reduceLeDiff, Nat.reduceLT, Nat.reduceBEq, Nat.reduceBNe, Int.reduceLE, Int.reduceLT, Int.reduceToNat, Int.reduceEq, Int.reduceNe, Int.reduceNeg, Nat.reduceEqDiff, hb, n.okk.1, hc, c.ok.1, byC, By.v, s64, e2, hw]; repeat' (first | (first | refine kway_sp (fun hh => ?_) (fun hh => ?_) | refine kgdn_sp (fun hh => ?_) (fun hh => ?_) | refine kgd_sp (fun hh => ?_) (fun hh => ?_) | refine kgddn_sp (fun hh => ?_) (fun hh => ?_) | refine kgdd_sp (fun hh => ?_) (fun hh => ?_) | refine kop_way (fun hh => ?_) (fun hh => ?_) | refine kop_bway (fun hh => ?_) (fun hh => ?_) | refine kopd_way (fun hh => ?_) (fun hh => ?_) | refine kopd_bway (fun hh => ?_) (fun hh => ?_)) <;> (try simp only [go_sem, Nat.add_assoc, reduceIte, reduceCtorEq, Nat.reduceEqDiff, Nat.reduceAdd, Nat.reduceMul, Nat.reduceSub, Nat.reduceLeDiff, Nat.reduceLT, Nat.reduceBEq, Nat.reduceBNe, Int.reduceLE, Int.reduceLT, Int.reduceToNat, Int.reduceEq, Int.reduceNe, Int.reduceNeg, Nat.reduceEqDiff, hb, n.okk.1, hc, c.ok.1, byC, By.v, s64, e2, hw, hh]) | (first | refine kop_ask (by omega) ?_ | refine kopd_ask (by omega) ?_ | refine kans_ask (by omega) ?_ | refine kpack_ask (by omega) ?_ | refine kpk_ask (by omega) ?_ | refine kont_next ?_) <;> (try simp only [go_sem, Nat.add_assoc, reduceIte, reduceCtorEq, Nat.reduceEqDiff, Nat.reduceAdd, Nat.reduceMul, Nat.reduceSub, Nat.reduceLeDiff, Nat.reduceLT, Nat.reduceBEq, Nat.reduceBNe, Int.reduceLE, Int.reduceLT, Int.reduceToNat, Int.reduceEq, Int.reduceNe, Int.reduceNeg, Nat.reduceEqDiff, hb, n.okk.1, hc, c.ok.1, byC, By.v, s64, e2, hw]) | (show @Eq Nat _ _; omega) | (show @LE.le Nat _ _ _; omega))
      refine ⟨k + 1, ?_, by omega, by omega⟩
      rw [take_get hc, hp]
      simp [fb]
    · have hb : decide ((k : Int) < (n.keys.length : Int)) = false := by simp; omega
      have hkk : k = n.keys.length := by omega
      obtain ⟨q, hq⟩ : ∃ q, q = [2] ++ leb n.keys.length ++ (n.keys.take k).flatMap fun k => fb k.l := ⟨_, rfl⟩
      rw [← hq]
      simp only [go_sem, Nat.add_assoc, reduceIte, reduceCtorEq, Nat.reduceEqDiff, Nat.reduceAdd, Nat.reduceMul, Nat.reduceSub, Nat.reduceLeDiff, Nat.reduceLT, Nat.reduceBEq, Nat.reduceBNe, Int.reduceLE, Int.reduceLT, Int.reduceToNat, Int.reduceEq, Int.reduceNe, Int.reduceNeg, Nat.reduceEqDiff, hb]; repeat' (first | (first | refine kway_sp (fun hh => ?_) (fun hh => ?_) | refine kgdn_sp (fun hh => ?_) (fun hh => ?_) | refine kgd_sp (fun hh => ?_) (fun hh => ?_) | refine kgddn_sp (fun hh => ?_) (fun hh => ?_) | refine kgdd_sp (fun hh => ?_) (fun hh => ?_) | refine kop_way (fun hh => ?_) (fun hh => ?_) | refine kop_bway (fun hh => ?_) (fun hh => ?_) | refine kopd_way (fun hh => ?_) (fun hh => ?_) | refine kopd_bway (fun hh => ?_) (fun hh => ?_)) <;> (try simp only [go_sem, Nat.add_assoc, reduceIte, reduceCtorEq, Nat.reduceEqDiff, Nat.reduceAdd, Nat.reduceMul, Nat.reduceSub, Nat.reduceLeDiff, Nat.reduceLT, Nat.reduceBEq, Nat.reduceBNe, Int.reduceLE, Int.reduceLT, Int.reduceToNat, Int.reduceEq, Int.reduceNe, Int.reduceNeg, Nat.reduceEqDiff, hb, hh]) | (first | refine kop_ask (by omega) ?_ | refine kopd_ask (by omega) ?_ | refine kans_ask (by omega) ?_ | refine kpack_ask (by omega) ?_ | refine kpk_ask (by omega) ?_ | refine kont_next ?_) <;> (try simp only [go_sem, Nat.add_assoc, reduceIte, reduceCtorEq, Nat.reduceEqDiff, Nat.reduceAdd, Nat.reduceMul, Nat.reduceSub, Nat.reduceLeDiff, Nat.reduceLT, Nat.reduceBEq, Nat.reduceBNe, Int.reduceLE, Int.reduceLT, Int.reduceToNat, Int.reduceEq, Int.reduceNe, Int.reduceNeg, Nat.reduceEqDiff, hb]) | (show @Eq Nat _ _; omega) | (show @LE.le Nat _ _ _; omega))
      rw [hkk, List.take_length] at hq
      have hql := congrArg List.length hq
      simp only [List.length_append, List.length_cons, List.length_nil] at hql
      refine kloop_inv (ι := Nat) (fun k => [.bx [.b false, .sl n.kc n.zc (n.cells.map Ce.c), .sl n.kk n.zk (n.keys.map byC), .sl n.ki n.zi (n.kids.map intC)], .ow 5 1 false (ofU8s (q ++ (n.kids.take k).flatMap fun k => leb (u64 k))), .i .i64 k]) (fun k => k ≤ n.kids.length) (fun k => n.kids.length - k) 0 (by simp) (by simp) ?_
      intro k hk
      by_cases hlt : k < n.kids.length
      · obtain ⟨c, hc⟩ := get_lt hlt
        have hw := wrap_succ (k := k) (by omega)
        have hb : decide ((k : Int) < (n.kids.length : Int)) = true := by simp; omega
        have ht := flat_take (fun k : Int => leb (u64 k)) n.kids (k + 1)
        rw [take_get hc] at ht
        simp only [List.flatMap_append, List.flatMap_cons, List.flatMap_nil, List.append_nil, List.length_append] at ht
        obtain ⟨p, hp⟩ : ∃ p, p = q ++ (n.kids.take k).flatMap fun k => leb (u64 k) := ⟨_, rfl⟩
        have hpl := congrArg List.length hp
        simp only [List.length_append, List.length_cons, List.length_nil] at hpl
        rw [← hp]
        have e2 := e64 c (OkS.open_ 1 p) (by omega)
        simp only [go_sem, Nat.add_assoc, reduceIte, reduceCtorEq, Nat.reduceEqDiff, Nat.reduceAdd, Nat.reduceMul, Nat.reduceSub, Nat.reduceLeDiff, Nat.reduceLT, Nat.reduceBEq, Nat.reduceBNe, Int.reduceLE, Int.reduceLT, Int.reduceToNat, Int.reduceEq, Int.reduceNe, Int.reduceNeg, Nat.reduceEqDiff, hb, n.oki.1, hc, intC, s64, e2, hw]; repeat' (first | (first | refine kway_sp (fun hh => ?_) (fun hh => ?_) | refine kgdn_sp (fun hh => ?_) (fun hh => ?_) | refine kgd_sp (fun hh => ?_) (fun hh => ?_) | refine kgddn_sp (fun hh => ?_) (fun hh => ?_) | refine kgdd_sp (fun hh => ?_) (fun hh => ?_) | refine kop_way (fun hh => ?_) (fun hh => ?_) | refine kop_bway (fun hh => ?_) (fun hh => ?_) | refine kopd_way (fun hh => ?_) (fun hh => ?_) | refine kopd_bway (fun hh => ?_) (fun hh => ?_)) <;> (try simp only [go_sem, Nat.add_assoc, reduceIte, reduceCtorEq, Nat.reduceEqDiff, Nat.reduceAdd, Nat.reduceMul, Nat.reduceSub, Nat.reduceLeDiff, Nat.reduceLT, Nat.reduceBEq, Nat.reduceBNe, Int.reduceLE, Int.reduceLT, Int.reduceToNat, Int.reduceEq, Int.reduceNe, Int.reduceNeg, Nat.reduceEqDiff, hb, n.oki.1, hc, intC, s64, e2, hw, hh]) | (first | refine kop_ask (by omega) ?_ | refine kopd_ask (by omega) ?_ | refine kans_ask (by omega) ?_ | refine kpack_ask (by omega) ?_ | refine kpk_ask (by omega) ?_ | refine kont_next ?_) <;> (try simp only [go_sem, Nat.add_assoc, reduceIte, reduceCtorEq, Nat.reduceEqDiff, Nat.reduceAdd, Nat.reduceMul, Nat.reduceSub, Nat.reduceLeDiff, Nat.reduceLT, Nat.reduceBEq, Nat.reduceBNe, Int.reduceLE, Int.reduceLT, Int.reduceToNat, Int.reduceEq, Int.reduceNe, Int.reduceNeg, Nat.reduceEqDiff, hb, n.oki.1, hc, intC, s64, e2, hw]) | (show @Eq Nat _ _; omega) | (show @LE.le Nat _ _ _; omega))
        refine ⟨k + 1, ?_, by omega, by omega⟩
        rw [take_get hc, hp]
        simp
      · have hb : decide ((k : Int) < (n.kids.length : Int)) = false := by simp; omega
        have hkk : k = n.kids.length := by omega
        simp only [go_sem, Nat.add_assoc, reduceIte, reduceCtorEq, Nat.reduceEqDiff, Nat.reduceAdd, Nat.reduceMul, Nat.reduceSub, Nat.reduceLeDiff, Nat.reduceLT, Nat.reduceBEq, Nat.reduceBNe, Int.reduceLE, Int.reduceLT, Int.reduceToNat, Int.reduceEq, Int.reduceNe, Int.reduceNeg, Nat.reduceEqDiff, hb]; repeat' (first | (first | refine kway_sp (fun hh => ?_) (fun hh => ?_) | refine kgdn_sp (fun hh => ?_) (fun hh => ?_) | refine kgd_sp (fun hh => ?_) (fun hh => ?_) | refine kgddn_sp (fun hh => ?_) (fun hh => ?_) | refine kgdd_sp (fun hh => ?_) (fun hh => ?_) | refine kop_way (fun hh => ?_) (fun hh => ?_) | refine kop_bway (fun hh => ?_) (fun hh => ?_) | refine kopd_way (fun hh => ?_) (fun hh => ?_) | refine kopd_bway (fun hh => ?_) (fun hh => ?_)) <;> (try simp only [go_sem, Nat.add_assoc, reduceIte, reduceCtorEq, Nat.reduceEqDiff, Nat.reduceAdd, Nat.reduceMul, Nat.reduceSub, Nat.reduceLeDiff, Nat.reduceLT, Nat.reduceBEq, Nat.reduceBNe, Int.reduceLE, Int.reduceLT, Int.reduceToNat, Int.reduceEq, Int.reduceNe, Int.reduceNeg, Nat.reduceEqDiff, hb, hh]) | (first | refine kop_ask (by omega) ?_ | refine kopd_ask (by omega) ?_ | refine kans_ask (by omega) ?_ | refine kpack_ask (by omega) ?_ | refine kpk_ask (by omega) ?_ | refine kont_next ?_) <;> (try simp only [go_sem, Nat.add_assoc, reduceIte, reduceCtorEq, Nat.reduceEqDiff, Nat.reduceAdd, Nat.reduceMul, Nat.reduceSub, Nat.reduceLeDiff, Nat.reduceLT, Nat.reduceBEq, Nat.reduceBNe, Int.reduceLE, Int.reduceLT, Int.reduceToNat, Int.reduceEq, Int.reduceNe, Int.reduceNeg, Nat.reduceEqDiff, hb]) | (show @Eq Nat _ _; omega) | (show @LE.le Nat _ _ _; omega))
        rw [hf, hkk, List.take_length, hq]
        simp
theorem e14 (n : Nd) (hl : (formB n).length + 100 ≤ LIM) : acall S 14 [n.v] = some (.i .i64 (formB n).length, []) := by
  have h := e30 n hl
  refine W_eq (g14 rfl ?_)
  simp only [Nd.v, Nd.cs] at h ⊢
  simp only [go_sem, Nat.add_assoc, reduceIte, reduceCtorEq, Nat.reduceEqDiff, Nat.reduceAdd, Nat.reduceMul, Nat.reduceSub, Nat.reduceLeDiff, Nat.reduceLT, Nat.reduceBEq, Nat.reduceBNe, Int.reduceLE, Int.reduceLT, Int.reduceToNat, Int.reduceEq, Int.reduceNe, Int.reduceNeg, Nat.reduceEqDiff, a14, s30, h]; repeat' (first | (first | refine kway_sp (fun hh => ?_) (fun hh => ?_) | refine kgdn_sp (fun hh => ?_) (fun hh => ?_) | refine kgd_sp (fun hh => ?_) (fun hh => ?_) | refine kgddn_sp (fun hh => ?_) (fun hh => ?_) | refine kgdd_sp (fun hh => ?_) (fun hh => ?_) | refine kop_way (fun hh => ?_) (fun hh => ?_) | refine kop_bway (fun hh => ?_) (fun hh => ?_) | refine kopd_way (fun hh => ?_) (fun hh => ?_) | refine kopd_bway (fun hh => ?_) (fun hh => ?_)) <;> (try simp only [go_sem, Nat.add_assoc, reduceIte, reduceCtorEq, Nat.reduceEqDiff, Nat.reduceAdd, Nat.reduceMul, Nat.reduceSub, Nat.reduceLeDiff, Nat.reduceLT, Nat.reduceBEq, Nat.reduceBNe, Int.reduceLE, Int.reduceLT, Int.reduceToNat, Int.reduceEq, Int.reduceNe, Int.reduceNeg, Nat.reduceEqDiff, a14, s30, h, hh]) | (first | refine kop_ask (by omega) ?_ | refine kopd_ask (by omega) ?_ | refine kans_ask (by omega) ?_ | refine kpack_ask (by omega) ?_ | refine kpk_ask (by omega) ?_ | refine kont_next ?_) <;> (try simp only [go_sem, Nat.add_assoc, reduceIte, reduceCtorEq, Nat.reduceEqDiff, Nat.reduceAdd, Nat.reduceMul, Nat.reduceSub, Nat.reduceLeDiff, Nat.reduceLT, Nat.reduceBEq, Nat.reduceBNe, Int.reduceLE, Int.reduceLT, Int.reduceToNat, Int.reduceEq, Int.reduceNe, Int.reduceNeg, Nat.reduceEqDiff, a14, s30, h]) | (show @Eq Nat _ _; omega) | (show @LE.le Nat _ _ _; omega))
theorem e15 (n : Nd) (hl : (formB n).length + 100 ≤ LIM) : acall S 15 [n.v] = some (.i .i64 (formB n).length, []) := by
  have h := e31 n hl
  refine W_eq (g15 rfl ?_)
  simp only [Nd.v, Nd.cs] at h ⊢
  simp only [go_sem, Nat.add_assoc, reduceIte, reduceCtorEq, Nat.reduceEqDiff, Nat.reduceAdd, Nat.reduceMul, Nat.reduceSub, Nat.reduceLeDiff, Nat.reduceLT, Nat.reduceBEq, Nat.reduceBNe, Int.reduceLE, Int.reduceLT, Int.reduceToNat, Int.reduceEq, Int.reduceNe, Int.reduceNeg, Nat.reduceEqDiff, a15, s31, h]; repeat' (first | (first | refine kway_sp (fun hh => ?_) (fun hh => ?_) | refine kgdn_sp (fun hh => ?_) (fun hh => ?_) | refine kgd_sp (fun hh => ?_) (fun hh => ?_) | refine kgddn_sp (fun hh => ?_) (fun hh => ?_) | refine kgdd_sp (fun hh => ?_) (fun hh => ?_) | refine kop_way (fun hh => ?_) (fun hh => ?_) | refine kop_bway (fun hh => ?_) (fun hh => ?_) | refine kopd_way (fun hh => ?_) (fun hh => ?_) | refine kopd_bway (fun hh => ?_) (fun hh => ?_)) <;> (try simp only [go_sem, Nat.add_assoc, reduceIte, reduceCtorEq, Nat.reduceEqDiff, Nat.reduceAdd, Nat.reduceMul, Nat.reduceSub, Nat.reduceLeDiff, Nat.reduceLT, Nat.reduceBEq, Nat.reduceBNe, Int.reduceLE, Int.reduceLT, Int.reduceToNat, Int.reduceEq, Int.reduceNe, Int.reduceNeg, Nat.reduceEqDiff, a15, s31, h, hh]) | (first | refine kop_ask (by omega) ?_ | refine kopd_ask (by omega) ?_ | refine kans_ask (by omega) ?_ | refine kpack_ask (by omega) ?_ | refine kpk_ask (by omega) ?_ | refine kont_next ?_) <;> (try simp only [go_sem, Nat.add_assoc, reduceIte, reduceCtorEq, Nat.reduceEqDiff, Nat.reduceAdd, Nat.reduceMul, Nat.reduceSub, Nat.reduceLeDiff, Nat.reduceLT, Nat.reduceBEq, Nat.reduceBNe, Int.reduceLE, Int.reduceLT, Int.reduceToNat, Int.reduceEq, Int.reduceNe, Int.reduceNeg, Nat.reduceEqDiff, a15, s31, h]) | (show @Eq Nat _ _; omega) | (show @LE.le Nat _ _ _; omega))
end Go.Proofs.Ytogjoenpliphdaa
