import Derived.Test.YtogjoenpliphdaaP3
set_option linter.unusedSimpArgs false
set_option linter.unusedVariables false
set_option maxHeartbeats 8000000
set_option maxRecDepth 100000
namespace Go.Proofs.Ytogjoenpliphdaa
open Go.Abs

/-! ### clones -/
theorem skOf_nil {α : Type} {l : List α} (h : skOf l.isEmpty = SK.nil) : l = [] := by cases l with | nil => rfl | cons a r => cases h
def nilBy : By := ⟨.nil, 0, [], .inr rfl, fun _ => rfl⟩
def openBy (l : List UInt8) : By := ⟨.open_, 1, l, OkS.open_ 1 l⟩
def cloneB (b : By) : By := if b.k = .nil then nilBy else openBy b.l
theorem cloneB_l (b : By) : (cloneB b).l = b.l := by
  unfold cloneB
  split
  · rename_i h; rw [b.ok.2 h]; rfl
  · rfl
def rowB (b : By) : By := ⟨skOf b.l.isEmpty, 1, b.l, .inl rfl, skOf_nil⟩
theorem e41 (b : By) (hl : b.l.length ≤ LIM) : acall S 41 [b.v] = some ((cloneB b).v, []) := by
  have h1 := b.ok.1
  refine W_eq (g41 rfl ?_)
  unfold cloneB
  by_cases hk : b.k = .nil
  · rw [if_pos hk]
    (simp only [go_sem, Nat.add_assoc, reduceIte, reduceCtorEq, Nat.reduceEqDiff, Nat.reduceAdd, Nat.reduceMul, Nat.reduceSub, Nat.reduceLeDiff, Nat.reduceLT, Nat.reduceBEq, Nat.reduceBNe, Int.reduceLE, Int.reduceLT, Int.reduceToNat, Int.reduceEq, Int.reduceNe, Int.reduceNeg, Nat.reduceEqDiff, Int.reduceAdd, Int.reduceSub, Int.reduceMul, Int.cast_ofNat_Int, Int.natCast_zero, a41, By.v, hk, nilBy, ofU8s_nil]; repeat' (refine kont_next ?_ <;> (try simp only [go_sem, Nat.add_assoc, reduceIte, reduceCtorEq, Nat.reduceEqDiff, Nat.reduceAdd, Nat.reduceMul, Nat.reduceSub, Nat.reduceLeDiff, Nat.reduceLT, Nat.reduceBEq, Nat.reduceBNe, Int.reduceLE, Int.reduceLT, Int.reduceToNat, Int.reduceEq, Int.reduceNe, Int.reduceNeg, Nat.reduceEqDiff, Int.reduceAdd, Int.reduceSub, Int.reduceMul, Int.cast_ofNat_Int, Int.natCast_zero, a41, By.v, hk, nilBy, ofU8s_nil])))
  · rw [if_neg hk]
    have g1 : decide (b.k = SK.nil) = false := decide_eq_false hk
    (simp only [go_sem, Nat.add_assoc, reduceIte, reduceCtorEq, Nat.reduceEqDiff, Nat.reduceAdd, Nat.reduceMul, Nat.reduceSub, Nat.reduceLeDiff, Nat.reduceLT, Nat.reduceBEq, Nat.reduceBNe, Int.reduceLE, Int.reduceLT, Int.reduceToNat, Int.reduceEq, Int.reduceNe, Int.reduceNeg, Nat.reduceEqDiff, Int.reduceAdd, Int.reduceSub, Int.reduceMul, Int.cast_ofNat_Int, Int.natCast_zero, a41, By.v, g1, openBy, h1, hl]; repeat' (refine kont_next ?_ <;> (try simp only [go_sem, Nat.add_assoc, reduceIte, reduceCtorEq, Nat.reduceEqDiff, Nat.reduceAdd, Nat.reduceMul, Nat.reduceSub, Nat.reduceLeDiff, Nat.reduceLT, Nat.reduceBEq, Nat.reduceBNe, Int.reduceLE, Int.reduceLT, Int.reduceToNat, Int.reduceEq, Int.reduceNe, Int.reduceNeg, Nat.reduceEqDiff, Int.reduceAdd, Int.reduceSub, Int.reduceMul, Int.cast_ofNat_Int, Int.natCast_zero, a41, By.v, g1, openBy, h1, hl])))
def cloneC (c : Ce) : Ce := ⟨cloneB c.key, cloneB c.val, c.over, c.len⟩
theorem cloneC_p (c : Ce) : (cloneC c).p = c.p := by simp only [cloneC, Ce.p, cloneB_l]
def rowC (c : Ce) : Ce := ⟨rowB c.key, rowB c.val, c.over, c.len⟩
theorem rowC_p (c : Ce) : (rowC c).p = c.p := rfl
def kidsV (n : Nd) : AV := if n.ki = .nil then .sl .nil 0 [] else .sl .open_ 1 (n.kids.map intC)
theorem e59 (n : Nd) (hl : n.kids.length ≤ LIM) : acall S 59 [.sl n.ki n.zi (n.kids.map intC)] = some (kidsV n, []) := by
  have h1 := n.oki.1
  refine W_eq (g59 rfl ?_)
  unfold kidsV
  by_cases hk : n.ki = .nil
  · rw [if_pos hk]
    (simp only [go_sem, Nat.add_assoc, reduceIte, reduceCtorEq, Nat.reduceEqDiff, Nat.reduceAdd, Nat.reduceMul, Nat.reduceSub, Nat.reduceLeDiff, Nat.reduceLT, Nat.reduceBEq, Nat.reduceBNe, Int.reduceLE, Int.reduceLT, Int.reduceToNat, Int.reduceEq, Int.reduceNe, Int.reduceNeg, Nat.reduceEqDiff, Int.reduceAdd, Int.reduceSub, Int.reduceMul, Int.cast_ofNat_Int, Int.natCast_zero, a59, hk]; repeat' (refine kont_next ?_ <;> (try simp only [go_sem, Nat.add_assoc, reduceIte, reduceCtorEq, Nat.reduceEqDiff, Nat.reduceAdd, Nat.reduceMul, Nat.reduceSub, Nat.reduceLeDiff, Nat.reduceLT, Nat.reduceBEq, Nat.reduceBNe, Int.reduceLE, Int.reduceLT, Int.reduceToNat, Int.reduceEq, Int.reduceNe, Int.reduceNeg, Nat.reduceEqDiff, Int.reduceAdd, Int.reduceSub, Int.reduceMul, Int.cast_ofNat_Int, Int.natCast_zero, a59, hk])))
  · rw [if_neg hk]
    have g1 : decide (n.ki = SK.nil) = false := decide_eq_false hk
    (simp only [go_sem, Nat.add_assoc, reduceIte, reduceCtorEq, Nat.reduceEqDiff, Nat.reduceAdd, Nat.reduceMul, Nat.reduceSub, Nat.reduceLeDiff, Nat.reduceLT, Nat.reduceBEq, Nat.reduceBNe, Int.reduceLE, Int.reduceLT, Int.reduceToNat, Int.reduceEq, Int.reduceNe, Int.reduceNeg, Nat.reduceEqDiff, Int.reduceAdd, Int.reduceSub, Int.reduceMul, Int.cast_ofNat_Int, Int.natCast_zero, a59, g1, h1, hl]; repeat' (refine kont_next ?_ <;> (try simp only [go_sem, Nat.add_assoc, reduceIte, reduceCtorEq, Nat.reduceEqDiff, Nat.reduceAdd, Nat.reduceMul, Nat.reduceSub, Nat.reduceLeDiff, Nat.reduceLT, Nat.reduceBEq, Nat.reduceBNe, Int.reduceLE, Int.reduceLT, Int.reduceToNat, Int.reduceEq, Int.reduceNe, Int.reduceNeg, Nat.reduceEqDiff, Int.reduceAdd, Int.reduceSub, Int.reduceMul, Int.cast_ofNat_Int, Int.natCast_zero, a59, g1, h1, hl])))
structure Cells (n : Nd) (B : Nat) : Prop where
  f : Few n
  c : ∀ x ∈ n.cells, x.key.l.length ≤ LIM ∧ x.val.l.length ≤ LIM
  k : ∀ x ∈ n.keys, x.l.length ≤ LIM

theorem e28 (n : Nd) (hn : Cells n 0) : ∃ m : Nd, acall S 28 [n.v] = some (m.v, []) ∧ m.p = n.p := by
  obtain ⟨⟨f1, f2, f3⟩, hc, hk⟩ := hn
  have hL : LIM = 274877906944 := rfl
  suffices hW : W (acall S 28 [n.v]) (fun x => ∃ m : Nd, x = (m.v, []) ∧ m.p = n.p) by
    obtain ⟨x, h1, m, rfl, h2⟩ := hW
    exact ⟨m, h1, h2⟩
  refine g28 rfl ?_
  have e5 := e59 n (by omega)
  obtain ⟨kd, hkd, kdl⟩ : ∃ kd : SK × Nat, kidsV n = .sl kd.1 kd.2 (n.kids.map intC) ∧ OkS kd.1 kd.2 1 n.kids := by
    unfold kidsV
    split
    · rename_i h
      have := n.oki.2 h
      rw [this]
      exact ⟨(.nil, 0), rfl, .inr rfl, fun _ => rfl⟩
    · exact ⟨(.open_, 1), rfl, .inl rfl, fun h => by cases h⟩
  rw [hkd] at e5
  obtain ⟨kk, kz⟩ := kd
  simp only at e5 kdl
  by_cases hnil : n.kc = .nil
  · have hcells := n.okc.2 hnil
    (simp only [go_sem, Nat.add_assoc, reduceIte, reduceCtorEq, Nat.reduceEqDiff, Nat.reduceAdd, Nat.reduceMul, Nat.reduceSub, Nat.reduceLeDiff, Nat.reduceLT, Nat.reduceBEq, Nat.reduceBNe, Int.reduceLE, Int.reduceLT, Int.reduceToNat, Int.reduceEq, Int.reduceNe, Int.reduceNeg, Nat.reduceEqDiff, Int.reduceAdd, Int.reduceSub, Int.reduceMul, Int.cast_ofNat_Int, Int.natCast_zero, a28, Nd.v, Nd.cs, s59, e5, hnil, hcells]; repeat' (refine kont_next ?_ <;> (try simp only [go_sem, Nat.add_assoc, reduceIte, reduceCtorEq, Nat.reduceEqDiff, Nat.reduceAdd, Nat.reduceMul, Nat.reduceSub, Nat.reduceLeDiff, Nat.reduceLT, Nat.reduceBEq, Nat.reduceBNe, Int.reduceLE, Int.reduceLT, Int.reduceToNat, Int.reduceEq, Int.reduceNe, Int.reduceNeg, Nat.reduceEqDiff, Int.reduceAdd, Int.reduceSub, Int.reduceMul, Int.cast_ofNat_Int, Int.natCast_zero, a28, Nd.v, Nd.cs, s59, e5, hnil, hcells])))
    refine kloop_inv (ι := Unit) (fun _ => [.bx [.b n.leaf, .sl .nil n.zc [], .sl n.kk n.zk (n.keys.map byC), .sl n.ki n.zi (n.kids.map intC)], .bx [.b false, .sl .nil 0 [], .sl .nil 0 [], .sl .nil 0 []], .bx [.b n.leaf, .sl .nil 0 [], .sl .nil 0 [], .sl kk kz (n.kids.map intC)], .i .i64 0, .i .i64 0]) (fun _ => True) (fun _ => 0) () rfl trivial ?_
    intro _ _
    (simp only [go_sem, Nat.add_assoc, reduceIte, reduceCtorEq, Nat.reduceEqDiff, Nat.reduceAdd, Nat.reduceMul, Nat.reduceSub, Nat.reduceLeDiff, Nat.reduceLT, Nat.reduceBEq, Nat.reduceBNe, Int.reduceLE, Int.reduceLT, Int.reduceToNat, Int.reduceEq, Int.reduceNe, Int.reduceNeg, Nat.reduceEqDiff, Int.reduceAdd, Int.reduceSub, Int.reduceMul, Int.cast_ofNat_Int, Int.natCast_zero]; repeat' (refine kont_next ?_ <;> (try simp only [go_sem, Nat.add_assoc, reduceIte, reduceCtorEq, Nat.reduceEqDiff, Nat.reduceAdd, Nat.reduceMul, Nat.reduceSub, Nat.reduceLeDiff, Nat.reduceLT, Nat.reduceBEq, Nat.reduceBNe, Int.reduceLE, Int.reduceLT, Int.reduceToNat, Int.reduceEq, Int.reduceNe, Int.reduceNeg, Nat.reduceEqDiff, Int.reduceAdd, Int.reduceSub, Int.reduceMul, Int.cast_ofNat_Int, Int.natCast_zero])))
    refine kloop_inv (ι := Nat) (fun k => [.bx [.b false, .sl .nil 0 [], .sl .nil 0 [], .sl .nil 0 []], .bx [.b n.leaf, .sl .nil 0 [], .ow 27 1 ((n.keys.take k).map cloneB).isEmpty (((n.keys.take k).map cloneB).map byC), .sl kk kz (n.kids.map intC)], .sl n.kk n.zk (n.keys.map byC), .i .i64 n.keys.length, .i .i64 k]) (fun k => k ≤ n.keys.length) (fun k => n.keys.length - k) 0 rfl (by omega) ?_
    intro k hkl
    by_cases hlt : k < n.keys.length
    · obtain ⟨c, gc⟩ := get_lt hlt
      have hw := wrap_succ (k := k) (by omega)
      have hbt : decide ((k : Int) < (n.keys.length : Int)) = true := decide_eq_true (by omega)
      have ec := e41 c (hk c (List.mem_of_getElem? gc))
      obtain ⟨ks, hks⟩ : ∃ ks, ks = (n.keys.take k).map cloneB := ⟨_, rfl⟩
      have hkl2 : ks.length = k := by rw [hks]; simp; omega
      have hlim : ks.length + 1 ≤ LIM := by omega
      rw [← hks]
      simp only [By.v] at ec
      (simp only [go_sem, Nat.add_assoc, reduceIte, reduceCtorEq, Nat.reduceEqDiff, Nat.reduceAdd, Nat.reduceMul, Nat.reduceSub, Nat.reduceLeDiff, Nat.reduceLT, Nat.reduceBEq, Nat.reduceBNe, Int.reduceLE, Int.reduceLT, Int.reduceToNat, Int.reduceEq, Int.reduceNe, Int.reduceNeg, Nat.reduceEqDiff, Int.reduceAdd, Int.reduceSub, Int.reduceMul, Int.cast_ofNat_Int, Int.natCast_zero, hbt, n.okk.1, gc, byC, By.v, s41, ec, hlim, hw]; repeat' (refine kont_next ?_ <;> (try simp only [go_sem, Nat.add_assoc, reduceIte, reduceCtorEq, Nat.reduceEqDiff, Nat.reduceAdd, Nat.reduceMul, Nat.reduceSub, Nat.reduceLeDiff, Nat.reduceLT, Nat.reduceBEq, Nat.reduceBNe, Int.reduceLE, Int.reduceLT, Int.reduceToNat, Int.reduceEq, Int.reduceNe, Int.reduceNeg, Nat.reduceEqDiff, Int.reduceAdd, Int.reduceSub, Int.reduceMul, Int.cast_ofNat_Int, Int.natCast_zero, hbt, n.okk.1, gc, byC, By.v, s41, ec, hlim, hw])))
      refine ⟨k + 1, ?_, by omega, by omega⟩
      rw [take_get gc, List.map_append, ← hks]
      simp [byC, By.v]
    · have hbf : decide ((k : Int) < (n.keys.length : Int)) = false := decide_eq_false (by omega)
      obtain rfl : k = n.keys.length := by omega
      rw [List.take_length]
      obtain ⟨ks, hks⟩ : ∃ ks, ks = n.keys.map cloneB := ⟨_, rfl⟩
      have hkp : ks.map By.l = n.keys.map By.l := by rw [hks, List.map_map]; exact List.map_congr_left fun b _ => cloneB_l b
      rw [← hks]
      (simp only [go_sem, Nat.add_assoc, reduceIte, reduceCtorEq, Nat.reduceEqDiff, Nat.reduceAdd, Nat.reduceMul, Nat.reduceSub, Nat.reduceLeDiff, Nat.reduceLT, Nat.reduceBEq, Nat.reduceBNe, Int.reduceLE, Int.reduceLT, Int.reduceToNat, Int.reduceEq, Int.reduceNe, Int.reduceNeg, Nat.reduceEqDiff, Int.reduceAdd, Int.reduceSub, Int.reduceMul, Int.cast_ofNat_Int, Int.natCast_zero, hbf]; repeat' (refine kont_next ?_ <;> (try simp only [go_sem, Nat.add_assoc, reduceIte, reduceCtorEq, Nat.reduceEqDiff, Nat.reduceAdd, Nat.reduceMul, Nat.reduceSub, Nat.reduceLeDiff, Nat.reduceLT, Nat.reduceBEq, Nat.reduceBNe, Int.reduceLE, Int.reduceLT, Int.reduceToNat, Int.reduceEq, Int.reduceNe, Int.reduceNeg, Nat.reduceEqDiff, Int.reduceAdd, Int.reduceSub, Int.reduceMul, Int.cast_ofNat_Int, Int.natCast_zero, hbf])))
      exact ⟨⟨n.leaf, .nil, 0, [], ⟨.inr rfl, fun _ => rfl⟩, skOf ks.isEmpty, 1, ks, ⟨.inl rfl, skOf_nil⟩, kk, kz, n.kids, kdl⟩, rfl, by simp only [Nd.p, hkp, hcells]⟩
  · have g1 : decide (n.kc = SK.nil) = false := decide_eq_false hnil
    have g2 : n.cells.length ≤ LIM := by omega
    have g3 : (0 : Int) ≤ (n.cells.length : Int) := by omega
    have h1 := n.okc.1
    have t1 : (n.cells.map Ce.c).take n.cells.length = n.cells.map Ce.c := List.take_of_length_le (by simp)
    have t2 : (List.replicate n.cells.length [AV.sl SK.nil 0 [], AV.sl SK.nil 0 [], AV.i IntKind.i64 0, AV.i IntKind.i64 0]).drop n.cells.length = [] := List.drop_of_length_le (by simp)
    (simp only [go_sem, Nat.add_assoc, reduceIte, reduceCtorEq, Nat.reduceEqDiff, Nat.reduceAdd, Nat.reduceMul, Nat.reduceSub, Nat.reduceLeDiff, Nat.reduceLT, Nat.reduceBEq, Nat.reduceBNe, Int.reduceLE, Int.reduceLT, Int.reduceToNat, Int.reduceEq, Int.reduceNe, Int.reduceNeg, Nat.reduceEqDiff, Int.reduceAdd, Int.reduceSub, Int.reduceMul, Int.cast_ofNat_Int, Int.natCast_zero, a28, Nd.v, Nd.cs, s59, e5, g1, g2, g3, h1, List.length_replicate, Nat.min_self, t1, t2]; repeat' (refine kont_next ?_ <;> (try simp only [go_sem, Nat.add_assoc, reduceIte, reduceCtorEq, Nat.reduceEqDiff, Nat.reduceAdd, Nat.reduceMul, Nat.reduceSub, Nat.reduceLeDiff, Nat.reduceLT, Nat.reduceBEq, Nat.reduceBNe, Int.reduceLE, Int.reduceLT, Int.reduceToNat, Int.reduceEq, Int.reduceNe, Int.reduceNeg, Nat.reduceEqDiff, Int.reduceAdd, Int.reduceSub, Int.reduceMul, Int.cast_ofNat_Int, Int.natCast_zero, a28, Nd.v, Nd.cs, s59, e5, g1, g2, g3, h1, List.length_replicate, Nat.min_self, t1, t2])))
    refine kloop_inv (ι := Nat) (fun k => [.bx n.cs, .bx [.b false, .sl .nil 0 [], .sl .nil 0 [], .sl .nil 0 []], .bx [.b n.leaf, .ow 44 4 false (((n.cells.take k).map cloneC ++ n.cells.drop k).map Ce.c), .sl .nil 0 [], .sl kk kz (n.kids.map intC)], .i .i64 n.cells.length, .i .i64 k]) (fun k => k ≤ n.cells.length) (fun k => n.cells.length - k) 0 rfl (by omega) ?_
    intro k hkl
    by_cases hlt : k < n.cells.length
    · obtain ⟨c, gc⟩ := get_lt hlt
      have hw := wrap_succ (k := k) (by omega)
      have hbt : decide ((k : Int) < (n.cells.length : Int)) = true := decide_eq_true (by omega)
      obtain ⟨hk1, hk2⟩ := hc c (List.mem_of_getElem? gc)
      have ec1 := e41 c.key hk1
      have ec2 := e41 c.val hk2
      obtain ⟨es, hes⟩ : ∃ es, es = (n.cells.take k).map cloneC ++ n.cells.drop k := ⟨_, rfl⟩
      have hel : es.length = n.cells.length := by rw [hes]; simp; omega
      have hek : es[k]? = some c := by
        rw [hes, List.getElem?_append_right (by simp; omega)]
        simp [Nat.min_eq_left hkl, gc]
      have hset : es.set k (cloneC c) = (n.cells.take (k + 1)).map cloneC ++ n.cells.drop (k + 1) := by
        rw [hes, List.set_append_right _ _ (by simp; omega), take_get gc, drop_get gc]
        simp [Nat.min_eq_left hkl]
      have b1 : k < es.length := by omega
      have b2 : (0 : Int) ≤ (k : Int) := by omega
      have b4 : (k : Int) < (n.cells.length : Int) := by omega
      have b3 : ∀ X : List AV, ((es.map Ce.c).set k X)[k]? = some X := fun X => List.getElem?_set_self (by simp; omega)
      rw [← hes]
      simp only [By.v] at ec1 ec2
      (simp only [go_sem, Nat.add_assoc, reduceIte, reduceCtorEq, Nat.reduceEqDiff, Nat.reduceAdd, Nat.reduceMul, Nat.reduceSub, Nat.reduceLeDiff, Nat.reduceLT, Nat.reduceBEq, Nat.reduceBNe, Int.reduceLE, Int.reduceLT, Int.reduceToNat, Int.reduceEq, Int.reduceNe, Int.reduceNeg, Nat.reduceEqDiff, Int.reduceAdd, Int.reduceSub, Int.reduceMul, Int.cast_ofNat_Int, Int.natCast_zero, Nd.cs, hbt, hek, Ce.c, By.v, s41, ec1, ec2, hw, b1, b2, b3, b4, hel, hlt, List.length_set, List.length_map]; repeat' (refine kont_next ?_ <;> (try simp only [go_sem, Nat.add_assoc, reduceIte, reduceCtorEq, Nat.reduceEqDiff, Nat.reduceAdd, Nat.reduceMul, Nat.reduceSub, Nat.reduceLeDiff, Nat.reduceLT, Nat.reduceBEq, Nat.reduceBNe, Int.reduceLE, Int.reduceLT, Int.reduceToNat, Int.reduceEq, Int.reduceNe, Int.reduceNeg, Nat.reduceEqDiff, Int.reduceAdd, Int.reduceSub, Int.reduceMul, Int.cast_ofNat_Int, Int.natCast_zero, Nd.cs, hbt, hek, Ce.c, By.v, s41, ec1, ec2, hw, b1, b2, b3, b4, hel, hlt, List.length_set, List.length_map])))
      refine ⟨k + 1, ?_, by omega, by omega⟩
      have hset2 := congrArg (List.map Ce.c) hset
      simp only [List.map_append] at hset2
      rw [← hset2, List.map_set, List.set_set]
      simp [cloneC, Ce.c, By.v]
    · have hbf : decide ((k : Int) < (n.cells.length : Int)) = false := decide_eq_false (by omega)
      obtain rfl : k = n.cells.length := by omega
      rw [List.take_length, List.drop_length, List.append_nil]
      obtain ⟨cs, hcs⟩ : ∃ cs, cs = n.cells.map cloneC := ⟨_, rfl⟩
      have hcp : cs.map Ce.p = n.cells.map Ce.p := by rw [hcs, List.map_map]; exact List.map_congr_left fun b _ => cloneC_p b
      rw [← hcs]
      (simp only [go_sem, Nat.add_assoc, reduceIte, reduceCtorEq, Nat.reduceEqDiff, Nat.reduceAdd, Nat.reduceMul, Nat.reduceSub, Nat.reduceLeDiff, Nat.reduceLT, Nat.reduceBEq, Nat.reduceBNe, Int.reduceLE, Int.reduceLT, Int.reduceToNat, Int.reduceEq, Int.reduceNe, Int.reduceNeg, Nat.reduceEqDiff, Int.reduceAdd, Int.reduceSub, Int.reduceMul, Int.cast_ofNat_Int, Int.natCast_zero, Nd.cs, hbf]; repeat' (refine kont_next ?_ <;> (try simp only [go_sem, Nat.add_assoc, reduceIte, reduceCtorEq, Nat.reduceEqDiff, Nat.reduceAdd, Nat.reduceMul, Nat.reduceSub, Nat.reduceLeDiff, Nat.reduceLT, Nat.reduceBEq, Nat.reduceBNe, Int.reduceLE, Int.reduceLT, Int.reduceToNat, Int.reduceEq, Int.reduceNe, Int.reduceNeg, Nat.reduceEqDiff, Int.reduceAdd, Int.reduceSub, Int.reduceMul, Int.cast_ofNat_Int, Int.natCast_zero, Nd.cs, hbf])))
      refine kloop_inv (ι := Nat) (fun k => [.bx [.b false, .sl .nil 0 [], .sl .nil 0 [], .sl .nil 0 []], .bx [.b n.leaf, .ow 44 4 false (cs.map Ce.c), .ow 27 1 ((n.keys.take k).map cloneB).isEmpty (((n.keys.take k).map cloneB).map byC), .sl kk kz (n.kids.map intC)], .sl n.kk n.zk (n.keys.map byC), .i .i64 n.keys.length, .i .i64 k]) (fun k => k ≤ n.keys.length) (fun k => n.keys.length - k) 0 rfl (by omega) ?_
      intro k hkl
      by_cases hlt : k < n.keys.length
      · obtain ⟨c, gc⟩ := get_lt hlt
        have hw := wrap_succ (k := k) (by omega)
        have hbt : decide ((k : Int) < (n.keys.length : Int)) = true := decide_eq_true (by omega)
        have ec := e41 c (hk c (List.mem_of_getElem? gc))
        obtain ⟨ks, hks⟩ : ∃ ks, ks = (n.keys.take k).map cloneB := ⟨_, rfl⟩
        have hkl2 : ks.length = k := by rw [hks]; simp; omega
        have hlim : ks.length + 1 ≤ LIM := by omega
        rw [← hks]
        simp only [By.v] at ec
        (simp only [go_sem, Nat.add_assoc, reduceIte, reduceCtorEq, Nat.reduceEqDiff, Nat.reduceAdd, Nat.reduceMul, Nat.reduceSub, Nat.reduceLeDiff, Nat.reduceLT, Nat.reduceBEq, Nat.reduceBNe, Int.reduceLE, Int.reduceLT, Int.reduceToNat, Int.reduceEq, Int.reduceNe, Int.reduceNeg, Nat.reduceEqDiff, Int.reduceAdd, Int.reduceSub, Int.reduceMul, Int.cast_ofNat_Int, Int.natCast_zero, hbt, n.okk.1, gc, byC, By.v, s41, ec, hlim, hw]; repeat' (refine kont_next ?_ <;> (try simp only [go_sem, Nat.add_assoc, reduceIte, reduceCtorEq, Nat.reduceEqDiff, Nat.reduceAdd, Nat.reduceMul, Nat.reduceSub, Nat.reduceLeDiff, Nat.reduceLT, Nat.reduceBEq, Nat.reduceBNe, Int.reduceLE, Int.reduceLT, Int.reduceToNat, Int.reduceEq, Int.reduceNe, Int.reduceNeg, Nat.reduceEqDiff, Int.reduceAdd, Int.reduceSub, Int.reduceMul, Int.cast_ofNat_Int, Int.natCast_zero, hbt, n.okk.1, gc, byC, By.v, s41, ec, hlim, hw])))
        refine ⟨k + 1, ?_, by omega, by omega⟩
        rw [take_get gc, List.map_append, ← hks]
        simp [byC, By.v]
      · have hbf : decide ((k : Int) < (n.keys.length : Int)) = false := decide_eq_false (by omega)
        obtain rfl : k = n.keys.length := by omega
        rw [List.take_length]
        obtain ⟨ks, hks⟩ : ∃ ks, ks = n.keys.map cloneB := ⟨_, rfl⟩
        have hkp : ks.map By.l = n.keys.map By.l := by rw [hks, List.map_map]; exact List.map_congr_left fun b _ => cloneB_l b
        rw [← hks]
        (simp only [go_sem, Nat.add_assoc, reduceIte, reduceCtorEq, Nat.reduceEqDiff, Nat.reduceAdd, Nat.reduceMul, Nat.reduceSub, Nat.reduceLeDiff, Nat.reduceLT, Nat.reduceBEq, Nat.reduceBNe, Int.reduceLE, Int.reduceLT, Int.reduceToNat, Int.reduceEq, Int.reduceNe, Int.reduceNeg, Nat.reduceEqDiff, Int.reduceAdd, Int.reduceSub, Int.reduceMul, Int.cast_ofNat_Int, Int.natCast_zero, hbf]; repeat' (refine kont_next ?_ <;> (try simp only [go_sem, Nat.add_assoc, reduceIte, reduceCtorEq, Nat.reduceEqDiff, Nat.reduceAdd, Nat.reduceMul, Nat.reduceSub, Nat.reduceLeDiff, Nat.reduceLT, Nat.reduceBEq, Nat.reduceBNe, Int.reduceLE, Int.reduceLT, Int.reduceToNat, Int.reduceEq, Int.reduceNe, Int.reduceNeg, Nat.reduceEqDiff, Int.reduceAdd, Int.reduceSub, Int.reduceMul, Int.cast_ofNat_Int, Int.natCast_zero, hbf])))
        exact ⟨⟨n.leaf, .open_, 4, cs, OkS.open_ 4 _, skOf ks.isEmpty, 1, ks, ⟨.inl rfl, skOf_nil⟩, kk, kz, n.kids, kdl⟩, rfl, by simp only [Nd.p, hkp, hcp]⟩
end Go.Proofs.Ytogjoenpliphdaa
