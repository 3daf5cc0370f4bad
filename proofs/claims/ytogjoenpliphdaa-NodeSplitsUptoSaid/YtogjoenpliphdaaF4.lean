import Derived.Test.YtogjoenpliphdaaF3
set_option linter.unusedSimpArgs false
set_option linter.unusedVariables false
set_option maxHeartbeats 4000000
namespace Go.Proofs.Ytogjoenpliphdaa
open Go.Abs

/-! ### nodes -/
structure By where
  k : SK
  z : Nat
  l : List UInt8
  ok : OkS k z 1 l
def By.v (b : By) : AV := .sl b.k b.z (ofU8s b.l)
structure Ce where
  key : By
  val : By
  over : Int
  len : Int
def Ce.c (c : Ce) : List AV := [c.key.v, c.val.v, .i .i64 c.over, .i .i64 c.len]
def intC (n : Int) : List AV := [.i .i64 n]
def byC (b : By) : List AV := [b.v]
structure Nd where
  leaf : Bool
  kc : SK
  zc : Nat
  cells : List Ce
  okc : OkS kc zc 4 cells
  kk : SK
  zk : Nat
  keys : List By
  okk : OkS kk zk 1 keys
  ki : SK
  zi : Nat
  kids : List Int
  oki : OkS ki zi 1 kids
def Nd.cs (n : Nd) : List AV := [.b n.leaf, .sl n.kc n.zc (n.cells.map Ce.c), .sl n.kk n.zk (n.keys.map byC), .sl n.ki n.zi (n.kids.map intC)]
def Nd.v (n : Nd) : AV := .agg n.cs

def cellB (c : Ce) : List UInt8 := fb c.key.l ++ (if c.over = 0 then 0 :: fb c.val.l else 1 :: (leb (u64 c.len) ++ leb (u64 c.over)))
def formB (n : Nd) : List UInt8 :=
  if n.leaf then [1] ++ leb n.cells.length ++ n.cells.flatMap cellB
  else [2] ++ leb n.keys.length ++ (n.keys.flatMap (fun k => fb k.l) ++ n.kids.flatMap fun k => leb (u64 k))

theorem leaf_form {n : Nd} (h : n.leaf = true) : formB n = [1] ++ leb n.cells.length ++ n.cells.flatMap cellB := by unfold formB; rw [if_pos h]
theorem inner_form {n : Nd} (h : n.leaf = false) : formB n = [2] ++ leb n.keys.length ++ (n.keys.flatMap (fun k => fb k.l) ++ n.kids.flatMap fun k => leb (u64 k)) := by unfold formB; rw [if_neg (by simp [h])]
theorem flat_take {α : Type} (f : α → List UInt8) (l : List α) (k : Nat) : ((l.take k).flatMap f).length ≤ (l.flatMap f).length := by
  have := congrArg (fun x : List α => (x.flatMap f).length) (List.take_append_drop k l)
  simp only [List.flatMap_append, List.length_append] at this
  omega
theorem flat_ge {α : Type} (f : α → List UInt8) (hf : ∀ a, 0 < (f a).length) : ∀ l : List α, l.length ≤ (l.flatMap f).length
  | [] => by simp
  | a :: r => by
    have := flat_ge f hf r
    have := hf a
    simp only [List.flatMap_cons, List.length_append, List.length_cons]; omega
theorem fb_pos (x : List UInt8) : 0 < (fb x).length := by
  have := leb_pos x.length
  simp only [fb, List.length_append]; omega
theorem cellB_pos (c : Ce) : 0 < (cellB c).length := by
  have := fb_pos c.key.l
  simp only [cellB, List.length_append]; omega

theorem e30 (n : Nd) (hl : (formB n).length + 100 ≤ LIM) : acall S 30 [n.v] = some (.sl .open_ 1 (ofU8s (formB n)), []) := by
  have hL : LIM < 4611686018427387904 := by decide
  cases hleaf : n.leaf with
  | true =>
    have hf := leaf_form hleaf
    have hlen := congrArg List.length hf
    simp only [List.length_append, List.length_cons, List.length_nil] at hlen
    have hge := flat_ge cellB cellB_pos n.cells
    have e1 : acall S 62 [.sl .open_ 1 [[.i .u8 1]], .i .i64 (n.cells.length : Int)] = some (.ow 5 1 false (ofU8s ([1] ++ leb n.cells.length)), []) := by
      have := e62 (n.cells.length : Int) (OkS.open_ 1 [1]) (by simp [LIM])
      rw [u64_nat _ (by omega)] at this
      exact this
    refine W_eq (g30 rfl ?_)
    simp only [go_sem, Nat.add_assoc, reduceIte, reduceCtorEq, Nat.reduceEqDiff, Nat.reduceAdd, Nat.reduceMul, Nat.reduceSub, Nat.reduceLeDiff, Nat.reduceLT, Nat.reduceBEq, Nat.reduceBNe, Int.reduceLE, Int.reduceLT, Int.reduceToNat, Int.reduceEq, Int.reduceNe, Int.reduceNeg, Nat.reduceEqDiff, a30, Nd.v, Nd.cs, s62, e1, hleaf]; repeat' (first | (first | refine kway_sp (fun hh => ?_) (fun hh => ?_) | refine kgdn_sp (fun hh => ?_) (fun hh => ?_) | refine kgd_sp (fun hh => ?_) (fun hh => ?_) | refine kgddn_sp (fun hh => ?_) (fun hh => ?_) | refine kgdd_sp (fun hh => ?_) (fun hh => ?_) | refine kop_way (fun hh => ?_) (fun hh => ?_) | refine kop_bway (fun hh => ?_) (fun hh => ?_) | refine kopd_way (fun hh => ?_) (fun hh => ?_) | refine kopd_bway (fun hh => ?_) (fun hh => ?_)) <;> (try simp only [go_sem, Nat.add_assoc, reduceIte, reduceCtorEq, Nat.reduceEqDiff, Nat.reduceAdd, Nat.reduceMul, Nat.reduceSub, Nat.reduceLeDiff, Nat.reduceLT, Nat.reduceBEq, Nat.reduceBNe, Int.reduceLE, Int.reduceLT, Int.reduceToNat, Int.reduceEq, Int.reduceNe, Int.reduceNeg, Nat.reduceEqDiff, a30, Nd.v, Nd.cs, s62, e1, hleaf, hh]) | (first | refine kop_ask (by omega) ?_ | refine kopd_ask (by omega) ?_ | refine kans_ask (by omega) ?_ | refine kpack_ask (by omega) ?_ | refine kpk_ask (by omega) ?_ | refine kont_next ?_) <;> (try simp only [go_sem, Nat.add_assoc, reduceIte, reduceCtorEq, Nat.reduceEqDiff, Nat.reduceAdd, Nat.reduceMul, Nat.reduceSub, Nat.reduceLeDiff, Nat.reduceLT, Nat.reduceBEq, Nat.reduceBNe, Int.reduceLE, Int.reduceLT, Int.reduceToNat, Int.reduceEq, Int.reduceNe, Int.reduceNeg, Nat.reduceEqDiff, a30, Nd.v, Nd.cs, s62, e1, hleaf]) | (show @Eq Nat _ _; omega) | (show @LE.le Nat _ _ _; omega))
    refine kloop_inv (ι := Nat) (fun k => [.ow 5 1 false (ofU8s ([1] ++ leb n.cells.length ++ (n.cells.take k).flatMap cellB)), .sl n.kc n.zc (n.cells.map Ce.c), .i .i64 n.cells.length, .i .i64 k]) (fun k => k ≤ n.cells.length) (fun k => n.cells.length - k) 0 (by simp) (by simp) ?_
    intro k hk
    by_cases hlt : k < n.cells.length
    · obtain ⟨c, hc⟩ := get_lt hlt
      have hw := wrap_succ (k := k) (by omega)
      have hb : decide ((k : Int) < (n.cells.length : Int)) = true := by simp; omega
      have ht := flat_take cellB n.cells (k + 1)
      rw [take_get hc] at ht
      simp only [List.flatMap_append, List.flatMap_cons, List.flatMap_nil, List.append_nil, List.length_append] at ht
      obtain ⟨p, hp⟩ : ∃ p, p = [1] ++ leb n.cells.length ++ (n.cells.take k).flatMap cellB := ⟨_, rfl⟩
      have hpl := congrArg List.length hp
      simp only [List.length_append, List.length_cons, List.length_nil] at hpl
      rw [← hp]
      have hcl : (cellB c).length = (fb c.key.l).length + (if c.over = 0 then (fb c.val.l).length + 1 else (leb (u64 c.len)).length + (leb (u64 c.over)).length + 1) := by
        simp only [cellB, List.length_append]
        split <;> simp
      have hkf : (fb c.key.l).length = (leb c.key.l.length).length + c.key.l.length := by simp [fb]
      have e2 := e63 (OkS.open_ 1 p) c.key.ok (by omega)
      cases h0 : decide (c.over = 0) with
      | true =>
        have h0' : c.over = 0 := by simpa using h0
        rw [if_pos h0'] at hcl
        have hvf : (fb c.val.l).length = (leb c.val.l.length).length + c.val.l.length := by simp [fb]
        have e3 := e63 (OkS.open_ 1 (p ++ (fb c.key.l ++ [0]))) c.val.ok (by simp; omega)
        simp only [go_sem, Nat.add_assoc, reduceIte, reduceCtorEq, Nat.reduceEqDiff, Nat.reduceAdd, Nat.reduceMul, Nat.reduceSub, Nat.reduceLeDiff, Nat.reduceLT, Nat.reduceBEq, Nat.reduceBNe, Int.reduceLE, Int.reduceLT, Int.reduceToNat, Int.reduceEq, Int.reduceNe, Int.reduceNeg, Nat.reduceEqDiff, hb, n.okc.1, hc, Ce.c, By.v, s63, e2, h0, e3, hw]; repeat' (first | (first | refine kway_sp (fun hh => ?_) (fun hh => ?_) | refine kgdn_sp (fun hh => ?_) (fun hh => ?_) | refine kgd_sp (fun hh => ?_) (fun hh => ?_) | refine kgddn_sp (fun hh => ?_) (fun hh => ?_) | refine kgdd_sp (fun hh => ?_) (fun hh => ?_) | refine kop_way (fun hh => ?_) (fun hh => ?_) | refine kop_bway (fun hh => ?_) (fun hh => ?_) | refine kopd_way (fun hh => ?_) (fun hh => ?_) | refine kopd_bway (fun hh => ?_) (fun hh => ?_)) <;> (try simp only [go_sem, Nat.add_assoc, reduceIte, reduceCtorEq, Nat.reduceEqDiff, Nat.reduceAdd, Nat.reduceMul, Nat.reduceSub, Nat.reduceLeDiff, Nat.reduceLT, Nat.reduceBEq, Nat.reduceBNe, Int.reduceLE, Int.reduceLT, Int.reduceToNat, Int.reduceEq, Int.reduceNe, Int.reduceNeg, Nat.reduceEqDiff, hb, n.okc.1, hc, Ce.c, By.v, s63, e2, h0, e3, hw, hh]) | (first | refine kop_ask (by omega) ?_ | refine kopd_ask (by omega) ?_ | refine kans_ask (by omega) ?_ | refine kpack_ask (by omega) ?_ | refine kpk_ask (by omega) ?_ | refine kont_next ?_) <;> (try simp only [go_sem, Nat.add_assoc, reduceIte, reduceCtorEq, Nat.reduceEqDiff, Nat.reduceAdd, Nat.reduceMul, Nat.reduceSub, Nat.reduceLeDiff, Nat.reduceLT, Nat.reduceBEq, Nat.reduceBNe, Int.reduceLE, Int.reduceLT, Int.reduceToNat, Int.reduceEq, Int.reduceNe, Int.reduceNeg, Nat.reduceEqDiff, hb, n.okc.1, hc, Ce.c, By.v, s63, e2, h0, e3, hw]) | (show @Eq Nat _ _; omega) | (show @LE.le Nat _ _ _; omega))
        refine ⟨k + 1, ?_, by omega, by omega⟩
        rw [take_get hc, hp]
        simp [cellB, h0']
      | false =>
        have h0' : ¬ c.over = 0 := by simpa using h0
        rw [if_neg h0'] at hcl
        have e3 := e62 c.len (OkS.open_ 1 (p ++ (fb c.key.l ++ [1]))) (by simp; omega)
        have e4 := e62 c.over (OkS.open_ 1 (p ++ (fb c.key.l ++ [1]) ++ leb (u64 c.len))) (by simp; omega)
        simp only [List.append_assoc, List.cons_append, List.nil_append] at e3 e4
        simp only [go_sem, Nat.add_assoc, reduceIte, reduceCtorEq, Nat.reduceEqDiff, Nat.reduceAdd, Nat.reduceMul, Nat.reduceSub, Nat.reduceLeDiff, Nat.reduceLT, Nat.reduceBEq, Nat.reduceBNe, Int.reduceLE, Int.reduceLT, Int.reduceToNat, Int.reduceEq, Int.reduceNe, Int.reduceNeg, Nat.reduceEqDiff, hb, n.okc.1, hc, Ce.c, By.v, s63, s62, e2, h0, e3, e4, hw]; repeat' (first | (first | refine kway_sp (fun hh => ?_) (fun hh => ?_) | refine kgdn_sp (fun hh => ?_) (fun hh => ?_) | refine kgd_sp (fun hh => ?_) (fun hh => ?_) | refine kgddn_sp (fun hh => ?_) (fun hh => ?_) | refine kgdd_sp (fun hh => ?_) (fun hh => ?_) | refine kop_way (fun hh => ?_) (fun hh => ?_) | refine kop_bway (fun hh => ?_) (fun hh => ?_) | refine kopd_way (fun hh => ?_) (fun hh => ?_) | refine kopd_bway (fun hh => ?_) (fun hh => ?_)) <;> (try simp only [go_sem, Nat.add_assoc, reduceIte, reduceCtorEq, Nat.reduceEqDiff, Nat.reduceAdd, Nat.reduceMul, Nat.reduceSub, Nat.reduceLeDiff, Nat.reduceLT, Nat.reduceBEq, Nat.reduceBNe, Int.reduceLE, Int.reduceLT, Int.reduceToNat, Int.reduceEq, Int.reduceNe, Int.reduceNeg, Nat.reduceEqDiff, hb, n.okc.1, hc, Ce.c, By.v, s63, s62, e2, h0, e3, e4, hw, hh]) | (first | refine kop_ask (by omega) ?_ | refine kopd_ask (by omega) ?_ | refine kans_ask (by omega) ?_ | refine kpack_ask (by omega) ?_ | refine kpk_ask (by omega) ?_ | refine kont_next ?_) <;> (try simp only [go_sem, Nat.add_assoc, reduceIte, reduceCtorEq, Nat.reduceEqDiff, Nat.reduceAdd, Nat.reduceMul, Nat.reduceSub, Nat.reduceLeDiff, Nat.reduceLT, Nat.reduceBEq, Nat.reduceBNe, Int.reduceLE, Int.reduceLT, Int.reduceToNat, Int.reduceEq, Int.reduceNe, Int.reduceNeg, Nat.reduceEqDiff, hb, n.okc.1, hc, Ce.c, By.v, s63, s62, e2, h0, e3, e4, hw]) | (show @Eq Nat _ _; omega) | (show @LE.le Nat _ _ _; omega))
        refine ⟨k + 1, ?_, by omega, by omega⟩
        rw [take_get hc, hp]
        simp [cellB, h0']
    · have hb : decide ((k : Int) < (n.cells.length : Int)) = false := by simp; omega
      have hkk : k = n.cells.length := by omega
      simp only [go_sem, Nat.add_assoc, reduceIte, reduceCtorEq, Nat.reduceEqDiff, Nat.reduceAdd, Nat.reduceMul, Nat.reduceSub, Nat.reduceLeDiff, Nat.reduceLT, Nat.reduceBEq, Nat.reduceBNe, Int.reduceLE, Int.reduceLT, Int.reduceToNat, Int.reduceEq, Int.reduceNe, Int.reduceNeg, Nat.reduceEqDiff, hb]; repeat' (first | (first | refine kway_sp (fun hh => ?_) (fun hh => ?_) | refine kgdn_sp (fun hh => ?_) (fun hh => ?_) | refine kgd_sp (fun hh => ?_) (fun hh => ?_) | refine kgddn_sp (fun hh => ?_) (fun hh => ?_) | refine kgdd_sp (fun hh => ?_) (fun hh => ?_) | refine kop_way (fun hh => ?_) (fun hh => ?_) | refine kop_bway (fun hh => ?_) (fun hh => ?_) | refine kopd_way (fun hh => ?_) (fun hh => ?_) | refine kopd_bway (fun hh => ?_) (fun hh => ?_)) <;> (try simp only [go_sem, Nat.add_assoc, reduceIte, reduceCtorEq, Nat.reduceEqDiff, Nat.reduceAdd, Nat.reduceMul, Nat.reduceSub, Nat.reduceLeDiff, Nat.reduceLT, Nat.reduceBEq, Nat.reduceBNe, Int.reduceLE, Int.reduceLT, Int.reduceToNat, Int.reduceEq, Int.reduceNe, Int.reduceNeg, Nat.reduceEqDiff, hb, hh]) | (first | refine kop_ask (by omega) ?_ | refine kopd_ask (by omega) ?_ | refine kans_ask (by omega) ?_ | refine kpack_ask (by omega) ?_ | refine kpk_ask (by omega) ?_ | refine kont_next ?_) <;> (try simp only [go_sem, Nat.add_assoc, reduceIte, reduceCtorEq, Nat.reduceEqDiff, Nat.reduceAdd, Nat.reduceMul, Nat.reduceSub, Nat.reduceLeDiff, Nat.reduceLT, Nat.reduceBEq, Nat.reduceBNe, Int.reduceLE, Int.reduceLT, Int.reduceToNat, Int.reduceEq, Int.reduceNe, Int.reduceNeg, Nat.reduceEqDiff, hb]) | (show @Eq Nat _ _; omega) | (show @LE.le Nat _ _ _; omega))
      rw [hf, hkk, List.take_length]
      simp
  | false =>
    have hf := inner_form hleaf
    have hlen := congrArg List.length hf
    simp only [List.length_append, List.length_cons, List.length_nil] at hlen
    have hge := flat_ge (fun k : By => fb k.l) (fun k => fb_pos k.l) n.keys
    have hge2 := flat_ge (fun k : Int => leb (u64 k)) (fun k => leb_pos _) n.kids
    have e1 : acall S 62 [.sl .open_ 1 [[.i .u8 2]], .i .i64 (n.keys.length : Int)] = some (.ow 5 1 false (ofU8s ([2] ++ leb n.keys.length)), []) := by
      have := e62 (n.keys.length : Int) (OkS.open_ 1 [2]) (by simp [LIM])
      rw [u64_nat _ (by omega)] at this
      exact this
    refine W_eq (g30 rfl ?_)
    simp only [go_sem, Nat.add_assoc, reduceIte, reduceCtorEq, Nat.reduceEqDiff, Nat.reduceAdd, Nat.reduceMul, Nat.reduceSub, Nat.reduceLeDiff, Nat.reduceLT, Nat.reduceBEq, Nat.reduceBNe, Int.reduceLE, Int.reduceLT, Int.reduceToNat, Int.reduceEq, Int.reduceNe, Int.reduceNeg, Nat.reduceEqDiff, a30, Nd.v, Nd.cs, s62, e1, hleaf]; repeat' (first | (first | refine kway_sp (fun hh => ?_) (fun hh => ?_) | refine kgdn_sp (fun hh => ?_) (fun hh => ?_) | refine kgd_sp (fun hh => ?_) (fun hh => ?_) | refine kgddn_sp (fun hh => ?_) (fun hh => ?_) | refine kgdd_sp (fun hh => ?_) (fun hh => ?_) | refine kop_way (fun hh => ?_) (fun hh => ?_) | refine kop_bway (fun hh => ?_) (fun hh => ?_) | refine kopd_way (fun hh => ?_) (fun hh => ?_) | refine kopd_bway (fun hh => ?_) (fun hh => ?_)) <;> (try simp only [go_sem, Nat.add_assoc, reduceIte, reduceCtorEq, Nat.reduceEqDiff, Nat.reduceAdd, Nat.reduceMul, Nat.reduceSub, Nat.reduceLeDiff, Nat.reduceLT, Nat.reduceBEq, Nat.reduceBNe, Int.reduceLE, Int.reduceLT, Int.reduceToNat, Int.reduceEq, Int.reduceNe, Int.reduceNeg, Nat.reduceEqDiff, a30, Nd.v, Nd.cs, s62, e1, hleaf, hh]) | (first | refine kop_ask (by omega) ?_ | refine kopd_ask (by omega) ?_ | refine kans_ask (by omega) ?_ | refine kpack_ask (by omega) ?_ | refine kpk_ask (by omega) ?_ | refine kont_next ?_) <;> (try simp only [go_sem, Nat.add_assoc, reduceIte, reduceCtorEq, Nat.reduceEqDiff, Nat.reduceAdd, Nat.reduceMul, Nat.reduceSub, Nat.reduceLeDiff, Nat.reduceLT, Nat.reduceBEq, Nat.reduceBNe, Int.reduceLE, Int.reduceLT, Int.reduceToNat, Int.reduceEq, Int.reduceNe, Int.reduceNeg, Nat.reduceEqDiff, a30, Nd.v, Nd.cs, s62, e1, hleaf]) | (show @Eq Nat _ _; omega) | (show @LE.le Nat _ _ _; omega))
    refine kloop_inv (ι := Nat) (fun k => [.bx [.b false, .sl n.kc n.zc (n.cells.map Ce.c), .sl n.kk n.zk (n.keys.map byC), .sl n.ki n.zi (n.kids.map intC)], .ow 5 1 false (ofU8s ([2] ++ leb n.keys.length ++ (n.keys.take k).flatMap fun k => fb k.l)), .sl n.kk n.zk (n.keys.map byC), .i .i64 n.keys.length, .i .i64 k]) (fun k => k ≤ n.keys.length) (fun k => n.keys.length - k) 0 (by simp) (by simp) ?_
    intro k hk
    by_cases hlt : k < n.keys.length
    · obtain ⟨c, hc⟩ := get_lt hlt
      have hw := wrap_succ (k := k) (by omega)
      have hb : decide ((k : Int) < (n.keys.length : Int)) = true := by simp; omega
      have ht := flat_take (fun k : By => fb k.l) n.keys (k + 1)
      rw [take_get hc] at ht
      simp only [List.flatMap_append, List.flatMap_cons, List.flatMap_nil, List.append_nil, List.length_append] at ht
      obtain ⟨p, hp⟩ : ∃ p, p = [2] ++ leb n.keys.length ++ (n.keys.take k).flatMap fun k => fb k.l := ⟨_, rfl⟩
      have hpl := congrArg List.length hp
      simp only [List.length_append, List.length_cons, List.length_nil] at hpl
      rw [← hp]
      have hkf : (fb c.l).length = (leb c.l.length).length + c.l.length := by simp [fb]
      have e2 := e63 (OkS.open_ 1 p) c.ok (by omega)
      simp only [go_sem, Nat.add_assoc, reduceIte, reduceCtorEq, Nat.reduceEqDiff, Nat.reduceAdd, Nat.reduceMul, Nat.reduceSub, Nat.reduceLeDiff, Nat.reduceLT, Nat.reduceBEq, Nat.reduceBNe, Int.reduceLE, Int.reduceLT, Int.reduceToNat, Int.reduceEq, Int.reduceNe, Int.reduceNeg, Nat.reduceEqDiff, hb, n.okk.1, hc, byC, By.v, s63, e2, hw]; repeat' (first | (first | refine kway_sp (fun hh => ?_) (fun hh => ?_) | refine kgdn_sp (fun hh => ?_) (fun hh => ?_) | refine kgd_sp (fun hh => ?_) (fun hh => ?_) | refine kgddn_sp (fun hh => ?_) (fun hh => ?_) | refine kgdd_sp (fun hh => ?_) (fun hh => ?_) | refine kop_way (fun hh => ?_) (fun hh => ?_) | refine kop_bway (fun hh => ?_) (fun hh => ?_) | refine kopd_way (fun hh => ?_) (fun hh => ?_) | refine kopd_bway (fun hh => ?_) (fun hh => ?_)) <;> (try simp only [go_sem, Nat.add_assoc, reduceIte, reduceCtorEq, Nat.reduceEqDiff, Nat.reduceAdd, Nat.reduceMul, Nat.reduceSub, Nat.reduceLeDiff, Nat.reduceLT, Nat.reduceBEq, Nat.reduceBNe, Int.reduceLE, Int.reduceLT, Int.reduceToNat, Int.reduceEq, Int.reduceNe, Int.reduceNeg, Nat.reduceEqDiff, hb, n.okk.1, hc, byC, By.v, s63, e2, hw, hh]) | (first | refine kop_ask (by omega) ?_ | refine kopd_ask (by omega) ?_ | refine kans_ask (by omega) ?_ | refine kpack_ask (by omega) ?_ | refine kpk_ask (by omega) ?_ | refine kont_next ?_) <;> (try simp only [go_sem, Nat.add_assoc, reduceIte, reduceCtorEq, Nat.reduceEqDiff, Nat.reduceAdd, Nat.reduceMul, Nat.reduceSub, Nat.reduceLeDiff, Nat.reduceLT, Nat.reduceBEq, Nat.reduceBNe, Int.reduceLE, Int.reduceLT, Int.reduceToNat, Int.reduceEq, Int.reduceNe, Int.reduceNeg, Nat.reduceEqDiff, hb, n.okk.1, hc, byC, By.v, s63, e2, hw]) | (show @Eq Nat _ _; omega) | (show @LE.le Nat _ _ _; omega))
      refine ⟨k + 1, ?_, by omega, by omega⟩
      rw [take_get hc, hp]
      simp
    · have hb : decide ((k : Int) < (n.keys.length : Int)) = false := by simp; omega
      have hkk : k = n.keys.length := by omega
      obtain ⟨q, hq⟩ : ∃ q, q = [2] ++ leb n.keys.length ++ (n.keys.take k).flatMap fun k => fb k.l := ⟨_, rfl⟩
      rw [← hq]
      simp only [go_sem, Nat.add_assoc, reduceIte, reduceCtorEq, Nat.reduceEqDiff, Nat.reduceAdd, Nat.reduceMul, Nat.reduceSub, Nat.reduceLeDiff, Nat.reduceLT, Nat.reduceBEq, Nat.reduceBNe, Int.reduceLE, Int.reduceLT, Int.reduceToNat, Int.reduceEq, Int.reduceNe, Int.reduceNeg, Nat.reduceEqDiff, hb]; repeat' (first | (first | refine kway_sp (fun hh => ?_) (fun hh => ?_) | refine kgdn_sp (fun hh => ?_) (fun hh => ?_) | refine kgd_sp (fun hh => ?_) (fun hh => ?_) | refine kgddn_sp (fun hh => ?_) (fun hh => ?_) | refine kgdd_sp (fun hh => ?_) (fun hh => ?_) | refine kop_way (fun hh => ?_) (fun hh => ?_) | refine kop_bway (fun hh => ?_) (fun hh => ?_) | refine kopd_way (fun hh => ?_) (fun hh => ?_) | refine kopd_bway (fun hh => ?_) (fun hh => ?_)) <;> (try simp only [go_sem, Nat.add_assoc, reduceIte, reduceCtorEq, Nat.reduceEqDiff, Nat.reduceAdd, Nat.reduceMul, Nat.reduceSub, Nat.reduceLeDiff, Nat.reduceLT, Nat.reduceBEq, Nat.reduceBNe, Int.reduceLE, Int.reduceLT, Int.reduceToNat, Int.reduceEq, Int.reduceNe, Int.reduceNeg, Nat.reduceEqDiff, hb, hh]) | (first | refine kop_ask (by omega) ?_ | refine kopd_ask (by omega) ?_ | refine kans_ask (by omega) ?_ | refine kpack_ask (by omega) ?_ | refine kpk_ask (by omega) ?_ | refine kont_next ?_) <;> (try simp only [go_sem, Nat.add_assoc, reduceIte, reduceCtorEq, Nat.reduceEqDiff, Nat.reduceAdd, Nat.reduceMul, Nat.reduceSub, Nat.reduceLeDiff, Nat.reduceLT, Nat.reduceBEq, Nat.reduceBNe, Int.reduceLE, Int.reduceLT, Int.reduceToNat, Int.reduceEq, Int.reduceNe, Int.reduceNeg, Nat.reduceEqDiff, hb]) | (show @Eq Nat _ _; omega) | (show @LE.le Nat _ _ _; omega))
      rw [hkk, List.take_length] at hq
      have hql := congrArg List.length hq
      simp only [List.length_append, List.length_cons, List.length_nil] at hql
      refine kloop_inv (ι := Nat) (fun k => [.ow 5 1 false (ofU8s (q ++ (n.kids.take k).flatMap fun k => leb (u64 k))), .sl n.ki n.zi (n.kids.map intC), .i .i64 n.kids.length, .i .i64 k]) (fun k => k ≤ n.kids.length) (fun k => n.kids.length - k) 0 (by simp) (by simp) ?_
      intro k hk
      by_cases hlt : k < n.kids.length
      · obtain ⟨c, hc⟩ := get_lt hlt
        have hw := wrap_succ (k := k) (by omega)
        have hb : decide ((k : Int) < (n.kids.length : Int)) = true := by simp; omega
        have ht := flat_take (fun k : Int => leb (u64 k)) n.kids (k + 1)
        rw [take_get hc] at ht
        simp only [List.flatMap_append, List.flatMap_cons, List.flatMap_nil, List.append_nil, List.length_append] at ht
        obtain ⟨p, hp⟩ : ∃ p, p = q ++ (n.kids.take k).flatMap fun k => leb (u64 k) := ⟨_, rfl⟩
        have hpl := congrArg List.length hp
        simp only [List.length_append, List.length_cons, List.length_nil] at hpl
        rw [← hp]
        have e2 := e62 c (OkS.open_ 1 p) (by omega)
        simp only [go_sem, Nat.add_assoc, reduceIte, reduceCtorEq, Nat.reduceEqDiff, Nat.reduceAdd, Nat.reduceMul, Nat.reduceSub, Nat.reduceLeDiff, Nat.reduceLT, Nat.reduceBEq, Nat.reduceBNe, Int.reduceLE, Int.reduceLT, Int.reduceToNat, Int.reduceEq, Int.reduceNe, Int.reduceNeg, Nat.reduceEqDiff, hb, n.oki.1, hc, intC, s62, e2, hw]; repeat' (first | (first | refine kway_sp (fun hh => ?_) (fun hh => ?_) | refine kgdn_sp (fun hh => ?_) (fun hh => ?_) | refine kgd_sp (fun hh => ?_) (fun hh => ?_) | refine kgddn_sp (fun hh => ?_) (fun hh => ?_) | refine kgdd_sp (fun hh => ?_) (fun hh => ?_) | refine kop_way (fun hh => ?_) (fun hh => ?_) | refine kop_bway (fun hh => ?_) (fun hh => ?_) | refine kopd_way (fun hh => ?_) (fun hh => ?_) | refine kopd_bway (fun hh => ?_) (fun hh => ?_)) <;> (try simp only [go_sem, Nat.add_assoc, reduceIte, reduceCtorEq, Nat.reduceEqDiff, Nat.reduceAdd, Nat.reduceMul, Nat.reduceSub, Nat.reduceLeDiff, Nat.reduceLT, Nat.reduceBEq, Nat.reduceBNe, Int.reduceLE, Int.reduceLT, Int.reduceToNat, Int.reduceEq, Int.reduceNe, Int.reduceNeg, Nat.reduceEqDiff, hb, n.oki.1, hc, intC, s62, e2, hw, hh]) | (first | refine kop_ask (by omega) ?_ | refine kopd_ask (by omega) ?_ | refine kans_ask (by omega) ?_ | refine kpack_ask (by omega) ?_ | refine kpk_ask (by omega) ?_ | refine kont_next ?_) <;> (try simp only [go_sem, Nat.add_assoc, reduceIte, reduceCtorEq, Nat.reduceEqDiff, Nat.reduceAdd, Nat.reduceMul, Nat.reduceSub, Nat.reduceLeDiff, Nat.reduceLT, Nat.reduceBEq, Nat.reduceBNe, Int.reduceLE, Int.reduceLT, Int.reduceToNat, Int.reduceEq, Int.reduceNe, Int.reduceNeg, Nat.reduceEqDiff, hb, n.oki.1, hc, intC, s62, e2, hw]) | (show @Eq Nat _ _; omega) | (show @LE.le Nat _ _ _; omega))
        refine ⟨k + 1, ?_, by omega, by omega⟩
        rw [take_get hc, hp]
        simp
      · have hb : decide ((k : Int) < (n.kids.length : Int)) = false := by simp; omega
        have hkk : k = n.kids.length := by omega
        simp only [go_sem, Nat.add_assoc, reduceIte, reduceCtorEq, Nat.reduceEqDiff, Nat.reduceAdd, Nat.reduceMul, Nat.reduceSub, Nat.reduceLeDiff, Nat.reduceLT, Nat.reduceBEq, Nat.reduceBNe, Int.reduceLE, Int.reduceLT, Int.reduceToNat, Int.reduceEq, Int.reduceNe, Int.reduceNeg, Nat.reduceEqDiff, hb]; repeat' (first | (first | refine kway_sp (fun hh => ?_) (fun hh => ?_) | refine kgdn_sp (fun hh => ?_) (fun hh => ?_) | refine kgd_sp (fun hh => ?_) (fun hh => ?_) | refine kgddn_sp (fun hh => ?_) (fun hh => ?_) | refine kgdd_sp (fun hh => ?_) (fun hh => ?_) | refine kop_way (fun hh => ?_) (fun hh => ?_) | refine kop_bway (fun hh => ?_) (fun hh => ?_) | refine kopd_way (fun hh => ?_) (fun hh => ?_) | refine kopd_bway (fun hh => ?_) (fun hh => ?_)) <;> (try simp only [go_sem, Nat.add_assoc, reduceIte, reduceCtorEq, Nat.reduceEqDiff, Nat.reduceAdd, Nat.reduceMul, Nat.reduceSub, Nat.reduceLeDiff, Nat.reduceLT, Nat.reduceBEq, Nat.reduceBNe, Int.reduceLE, Int.reduceLT, Int.reduceToNat, Int.reduceEq, Int.reduceNe, Int.reduceNeg, Nat.reduceEqDiff, hb, hh]) | (first | refine kop_ask (by omega) ?_ | refine kopd_ask (by omega) ?_ | refine kans_ask (by omega) ?_ | refine kpack_ask (by omega) ?_ | refine kpk_ask (by omega) ?_ | refine kont_next ?_) <;> (try simp only [go_sem, Nat.add_assoc, reduceIte, reduceCtorEq, Nat.reduceEqDiff, Nat.reduceAdd, Nat.reduceMul, Nat.reduceSub, Nat.reduceLeDiff, Nat.reduceLT, Nat.reduceBEq, Nat.reduceBNe, Int.reduceLE, Int.reduceLT, Int.reduceToNat, Int.reduceEq, Int.reduceNe, Int.reduceNeg, Nat.reduceEqDiff, hb]) | (show @Eq Nat _ _; omega) | (show @LE.le Nat _ _ _; omega))
        rw [hf, hkk, List.take_length, hq]
        simp
end Go.Proofs.Ytogjoenpliphdaa
