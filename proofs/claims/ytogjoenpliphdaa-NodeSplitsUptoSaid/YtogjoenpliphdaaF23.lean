import Derived.Test.YtogjoenpliphdaaF22
import Derived.Test.YtogjoenpliphdaaF14
set_option linter.unusedSimpArgs false
set_option linter.unusedVariables false
set_option maxHeartbeats 8000000
set_option maxRecDepth 100000
namespace Go.Proofs.Ytogjoenpliphdaa
open Go.Abs

def rowN (n : Nd) : Nd := ⟨n.leaf, skOf (n.cells.map rowC).isEmpty, 4, n.cells.map rowC, ⟨.inl rfl, skOf_nil⟩, skOf (n.keys.map rowB).isEmpty, 1, n.keys.map rowB, ⟨.inl rfl, skOf_nil⟩, skOf n.kids.isEmpty, 1, n.kids, ⟨.inl rfl, skOf_nil⟩⟩
theorem rowN_p (n : Nd) : (rowN n).p = n.p := by
  simp only [rowN, Nd.p, List.map_map]
  rfl
theorem e26 (n : Nd) (hn : Cells n 0) : acall S 26 [n.v] = some ((rowN n).v, []) := by
  obtain ⟨⟨f1, f2, f3⟩, hc, hk⟩ := hn
  have hL : LIM = 274877906944 := rfl
  refine W_eq (g26 rfl ?_)
  have h1 := n.oki.1
  have h2 : n.kids.length ≤ LIM := by omega
  (simp only [go_sem, Nat.add_assoc, reduceIte, reduceCtorEq, Nat.reduceEqDiff, Nat.reduceAdd, Nat.reduceMul, Nat.reduceSub, Nat.reduceLeDiff, Nat.reduceLT, Nat.reduceBEq, Nat.reduceBNe, Int.reduceLE, Int.reduceLT, Int.reduceToNat, Int.reduceEq, Int.reduceNe, Int.reduceNeg, Nat.reduceEqDiff, Int.reduceAdd, Int.reduceSub, Int.reduceMul, Int.cast_ofNat_Int, Int.natCast_zero, a26, Nd.v, Nd.cs, h1, h2]; repeat' (refine kont_next ?_ <;> (try simp only [go_sem, Nat.add_assoc, reduceIte, reduceCtorEq, Nat.reduceEqDiff, Nat.reduceAdd, Nat.reduceMul, Nat.reduceSub, Nat.reduceLeDiff, Nat.reduceLT, Nat.reduceBEq, Nat.reduceBNe, Int.reduceLE, Int.reduceLT, Int.reduceToNat, Int.reduceEq, Int.reduceNe, Int.reduceNeg, Nat.reduceEqDiff, Int.reduceAdd, Int.reduceSub, Int.reduceMul, Int.cast_ofNat_Int, Int.natCast_zero, a26, Nd.v, Nd.cs, h1, h2])))
  refine kloop_inv (ι := Nat) (fun k => [.bx n.cs, .bx [.b false, .sl .nil 0 [], .sl .nil 0 [], .sl .nil 0 []], .bx [.b n.leaf, .ow 44 4 ((n.cells.take k).map rowC).isEmpty (((n.cells.take k).map rowC).map Ce.c), .sl .nil 0 [], .ow 3 1 n.kids.isEmpty (n.kids.map intC)], .i .i64 k]) (fun k => k ≤ n.cells.length) (fun k => n.cells.length - k) 0 (by simp [Nd.cs]) (by omega) ?_
  intro k hkl
  by_cases hlt : k < n.cells.length
  · obtain ⟨c, gc⟩ := get_lt hlt
    have hw := wrap_succ (k := k) (by omega)
    have hbt : decide ((k : Int) < (n.cells.length : Int)) = true := decide_eq_true (by omega)
    obtain ⟨hk1, hk2⟩ := hc c (List.mem_of_getElem? gc)
    obtain ⟨es, hes⟩ : ∃ es, es = (n.cells.take k).map rowC := ⟨_, rfl⟩
    have hel : es.length = k := by rw [hes]; simp; omega
    have hlim : es.length + 1 ≤ LIM := by omega
    rw [← hes]
    (simp only [go_sem, Nat.add_assoc, reduceIte, reduceCtorEq, Nat.reduceEqDiff, Nat.reduceAdd, Nat.reduceMul, Nat.reduceSub, Nat.reduceLeDiff, Nat.reduceLT, Nat.reduceBEq, Nat.reduceBNe, Int.reduceLE, Int.reduceLT, Int.reduceToNat, Int.reduceEq, Int.reduceNe, Int.reduceNeg, Nat.reduceEqDiff, Int.reduceAdd, Int.reduceSub, Int.reduceMul, Int.cast_ofNat_Int, Int.natCast_zero, Nd.cs, hbt, n.okc.1, gc, Ce.c, By.v, c.key.ok.1, c.val.ok.1, hk1, hk2, hw, hlim]; repeat' (refine kont_next ?_ <;> (try simp only [go_sem, Nat.add_assoc, reduceIte, reduceCtorEq, Nat.reduceEqDiff, Nat.reduceAdd, Nat.reduceMul, Nat.reduceSub, Nat.reduceLeDiff, Nat.reduceLT, Nat.reduceBEq, Nat.reduceBNe, Int.reduceLE, Int.reduceLT, Int.reduceToNat, Int.reduceEq, Int.reduceNe, Int.reduceNeg, Nat.reduceEqDiff, Int.reduceAdd, Int.reduceSub, Int.reduceMul, Int.cast_ofNat_Int, Int.natCast_zero, Nd.cs, hbt, n.okc.1, gc, Ce.c, By.v, c.key.ok.1, c.val.ok.1, hk1, hk2, hw, hlim])))
    refine ⟨k + 1, ?_, by omega, by omega⟩
    rw [take_get gc, List.map_append, ← hes]
    simp [rowC, rowB, Ce.c, By.v]
  have hbf : decide ((k : Int) < (n.cells.length : Int)) = false := decide_eq_false (by omega)
  obtain rfl : k = n.cells.length := by omega
  rw [List.take_length]
  obtain ⟨cs, hcs⟩ : ∃ cs, cs = n.cells.map rowC := ⟨_, rfl⟩
  rw [← hcs]
  (simp only [go_sem, Nat.add_assoc, reduceIte, reduceCtorEq, Nat.reduceEqDiff, Nat.reduceAdd, Nat.reduceMul, Nat.reduceSub, Nat.reduceLeDiff, Nat.reduceLT, Nat.reduceBEq, Nat.reduceBNe, Int.reduceLE, Int.reduceLT, Int.reduceToNat, Int.reduceEq, Int.reduceNe, Int.reduceNeg, Nat.reduceEqDiff, Int.reduceAdd, Int.reduceSub, Int.reduceMul, Int.cast_ofNat_Int, Int.natCast_zero, Nd.cs, hbf]; repeat' (refine kont_next ?_ <;> (try simp only [go_sem, Nat.add_assoc, reduceIte, reduceCtorEq, Nat.reduceEqDiff, Nat.reduceAdd, Nat.reduceMul, Nat.reduceSub, Nat.reduceLeDiff, Nat.reduceLT, Nat.reduceBEq, Nat.reduceBNe, Int.reduceLE, Int.reduceLT, Int.reduceToNat, Int.reduceEq, Int.reduceNe, Int.reduceNeg, Nat.reduceEqDiff, Int.reduceAdd, Int.reduceSub, Int.reduceMul, Int.cast_ofNat_Int, Int.natCast_zero, Nd.cs, hbf])))
  refine kloop_inv (ι := Nat) (fun k => [.bx n.cs, .bx [.b false, .sl .nil 0 [], .sl .nil 0 [], .sl .nil 0 []], .bx [.b n.leaf, .ow 44 4 cs.isEmpty (cs.map Ce.c), .ow 27 1 ((n.keys.take k).map rowB).isEmpty (((n.keys.take k).map rowB).map byC), .ow 3 1 n.kids.isEmpty (n.kids.map intC)], .i .i64 k]) (fun k => k ≤ n.keys.length) (fun k => n.keys.length - k) 0 (by simp [Nd.cs]) (by omega) ?_
  clear hbf hkl hlt
  intro k hkl
  by_cases hlt : k < n.keys.length
  · obtain ⟨c, gc⟩ := get_lt hlt
    have hw := wrap_succ (k := k) (by omega)
    have hbt : decide ((k : Int) < (n.keys.length : Int)) = true := decide_eq_true (by omega)
    have hk1 := hk c (List.mem_of_getElem? gc)
    obtain ⟨es, hes⟩ : ∃ es, es = (n.keys.take k).map rowB := ⟨_, rfl⟩
    have hel : es.length = k := by rw [hes]; simp; omega
    have hlim : es.length + 1 ≤ LIM := by omega
    rw [← hes]
    (simp only [go_sem, Nat.add_assoc, reduceIte, reduceCtorEq, Nat.reduceEqDiff, Nat.reduceAdd, Nat.reduceMul, Nat.reduceSub, Nat.reduceLeDiff, Nat.reduceLT, Nat.reduceBEq, Nat.reduceBNe, Int.reduceLE, Int.reduceLT, Int.reduceToNat, Int.reduceEq, Int.reduceNe, Int.reduceNeg, Nat.reduceEqDiff, Int.reduceAdd, Int.reduceSub, Int.reduceMul, Int.cast_ofNat_Int, Int.natCast_zero, Nd.cs, hbt, n.okk.1, gc, byC, By.v, c.ok.1, hk1, hw, hlim]; repeat' (refine kont_next ?_ <;> (try simp only [go_sem, Nat.add_assoc, reduceIte, reduceCtorEq, Nat.reduceEqDiff, Nat.reduceAdd, Nat.reduceMul, Nat.reduceSub, Nat.reduceLeDiff, Nat.reduceLT, Nat.reduceBEq, Nat.reduceBNe, Int.reduceLE, Int.reduceLT, Int.reduceToNat, Int.reduceEq, Int.reduceNe, Int.reduceNeg, Nat.reduceEqDiff, Int.reduceAdd, Int.reduceSub, Int.reduceMul, Int.cast_ofNat_Int, Int.natCast_zero, Nd.cs, hbt, n.okk.1, gc, byC, By.v, c.ok.1, hk1, hw, hlim])))
    refine ⟨k + 1, ?_, by omega, by omega⟩
    rw [take_get gc, List.map_append, ← hes]
    simp [rowB, byC, By.v]
  have hbf : decide ((k : Int) < (n.keys.length : Int)) = false := decide_eq_false (by omega)
  obtain rfl : k = n.keys.length := by omega
  rw [List.take_length]
  obtain ⟨ks, hks⟩ : ∃ ks, ks = n.keys.map rowB := ⟨_, rfl⟩
  rw [← hks]
  (simp only [go_sem, Nat.add_assoc, reduceIte, reduceCtorEq, Nat.reduceEqDiff, Nat.reduceAdd, Nat.reduceMul, Nat.reduceSub, Nat.reduceLeDiff, Nat.reduceLT, Nat.reduceBEq, Nat.reduceBNe, Int.reduceLE, Int.reduceLT, Int.reduceToNat, Int.reduceEq, Int.reduceNe, Int.reduceNeg, Nat.reduceEqDiff, Int.reduceAdd, Int.reduceSub, Int.reduceMul, Int.cast_ofNat_Int, Int.natCast_zero, Nd.cs, hbf]; repeat' (refine kont_next ?_ <;> (try simp only [go_sem, Nat.add_assoc, reduceIte, reduceCtorEq, Nat.reduceEqDiff, Nat.reduceAdd, Nat.reduceMul, Nat.reduceSub, Nat.reduceLeDiff, Nat.reduceLT, Nat.reduceBEq, Nat.reduceBNe, Int.reduceLE, Int.reduceLT, Int.reduceToNat, Int.reduceEq, Int.reduceNe, Int.reduceNeg, Nat.reduceEqDiff, Int.reduceAdd, Int.reduceSub, Int.reduceMul, Int.cast_ofNat_Int, Int.natCast_zero, Nd.cs, hbf])))
  rw [hks, hcs]; rfl

/-! ### parts -/
def partA (p : PN) (k : Nat) : PN := if p.leaf then ⟨true, p.cells.take k, [], []⟩ else ⟨false, [], p.keys.take k, p.kids.take (k + 1)⟩
def partK (p : PN) (k : Nat) : List UInt8 := if p.leaf then ((p.cells.map PC.key)[k]?).getD [] else (p.keys[k]?).getD []
def partB (p : PN) (k : Nat) : PN := if p.leaf then ⟨true, p.cells.drop k, [], []⟩ else ⟨false, [], p.keys.drop (k + 1), p.kids.drop (k + 1)⟩
def cutSK (k : SK) : SK := if k = .nil then .nil else .full
theorem cut_full (k : SK) : (if k = .nil then SK.nil else .full) = cutSK k := rfl
theorem okS_cut {α : Type} {k : SK} {z n : Nat} {l : List α} (h : OkS k z n l) (i : Nat) : OkS (cutSK k) z n (l.take i) := by
  have h4 := OkS.take h i
  refine ⟨h4.1, fun hk => h4.2 ?_⟩
  unfold cutSK at hk
  cases k <;> simp at hk ⊢
def PartOk (n : Nd) (k : Nat) : Prop := (n.leaf = true ∧ k < n.cells.length) ∨ (n.leaf = false ∧ k < n.keys.length ∧ k + 1 ≤ n.kids.length)
theorem nilCe : OkS SK.nil 0 4 ([] : List Ce) := ⟨.inr rfl, fun _ => rfl⟩
theorem nilKe : OkS SK.nil 0 1 ([] : List By) := ⟨.inr rfl, fun _ => rfl⟩
theorem nilKi : OkS SK.nil 0 1 ([] : List Int) := ⟨.inr rfl, fun _ => rfl⟩
theorem e40 (n : Nd) (f : Few n) (k : Nat) (hk : PartOk n k) : ∃ (a b : Nd) (y : By), acall S 40 [n.v, .i .i64 k] = some (.tup [a.v, y.v, b.v], []) ∧ a.p = partA n.p k ∧ y.l = partK n.p k ∧ b.p = partB n.p k := by
  obtain ⟨f1, f2, f3⟩ := f
  have k0 : (0 : Int) ≤ (k : Int) := by omega
  rcases hk with ⟨hleaf, hk⟩ | ⟨hleaf, hk, hk2⟩
  · obtain ⟨c, gc⟩ := get_lt hk
    have hle : k ≤ n.cells.length := by omega
    refine ⟨⟨true, cutSK n.kc, n.zc, n.cells.take k, okS_cut n.okc k, .nil, 0, [], nilKe, .nil, 0, [], nilKi⟩, ⟨true, n.kc, n.zc, n.cells.drop k, OkS.drop n.okc k, .nil, 0, [], nilKe, .nil, 0, [], nilKi⟩, c.key, W_eq (g40 rfl ?_), ?_, ?_, ?_⟩
    · have t1 : (n.cells.map Ce.c).take k = (n.cells.take k).map Ce.c := (List.map_take ..).symm
      have t2 : ((n.cells.map Ce.c).drop k) = (n.cells.drop k).map Ce.c := (List.map_drop ..).symm
      have t3 : ((n.cells.drop k).map Ce.c).take (n.cells.length - k) = (n.cells.drop k).map Ce.c := List.take_of_length_le (by simp)
      (simp only [go_sem, Nat.add_assoc, reduceIte, reduceCtorEq, Nat.reduceEqDiff, Nat.reduceAdd, Nat.reduceMul, Nat.reduceSub, Nat.reduceLeDiff, Nat.reduceLT, Nat.reduceBEq, Nat.reduceBNe, Int.reduceLE, Int.reduceLT, Int.reduceToNat, Int.reduceEq, Int.reduceNe, Int.reduceNeg, Nat.reduceEqDiff, Int.reduceAdd, Int.reduceSub, Int.reduceMul, Int.cast_ofNat_Int, Int.natCast_zero, a40, Nd.v, Nd.cs, hleaf, n.okc.1, k0, hle, gc, Ce.c, By.v, t1, t2, t3, sk_keep, cut_full]; repeat' (refine kont_next ?_ <;> (try simp only [go_sem, Nat.add_assoc, reduceIte, reduceCtorEq, Nat.reduceEqDiff, Nat.reduceAdd, Nat.reduceMul, Nat.reduceSub, Nat.reduceLeDiff, Nat.reduceLT, Nat.reduceBEq, Nat.reduceBNe, Int.reduceLE, Int.reduceLT, Int.reduceToNat, Int.reduceEq, Int.reduceNe, Int.reduceNeg, Nat.reduceEqDiff, Int.reduceAdd, Int.reduceSub, Int.reduceMul, Int.cast_ofNat_Int, Int.natCast_zero, a40, Nd.v, Nd.cs, hleaf, n.okc.1, k0, hle, gc, Ce.c, By.v, t1, t2, t3, sk_keep, cut_full])))
    · simp [partA, Nd.p, hleaf, List.map_take]
    · simp [partK, Nd.p, hleaf, gc, Ce.p]
    · simp [partB, Nd.p, hleaf, List.map_drop]
  · obtain ⟨c, gc⟩ := get_lt hk
    have hle : k ≤ n.keys.length := by omega
    have hle2 : k + 1 ≤ n.keys.length := by omega
    have hw := wrap_succ (k := k) (by omega)
    have k1 : (0 : Int) ≤ ((k + 1 : Nat) : Int) := by omega
    refine ⟨⟨false, .nil, 0, [], nilCe, cutSK n.kk, n.zk, n.keys.take k, okS_cut n.okk k, cutSK n.ki, n.zi, n.kids.take (k + 1), okS_cut n.oki _⟩, ⟨false, .nil, 0, [], nilCe, n.kk, n.zk, n.keys.drop (k + 1), OkS.drop n.okk _, n.ki, n.zi, n.kids.drop (k + 1), OkS.drop n.oki _⟩, c, W_eq (g40 rfl ?_), ?_, ?_, ?_⟩
    · have t1 : (n.keys.map byC).take k = (n.keys.take k).map byC := (List.map_take ..).symm
      have t2 : ((n.keys.map byC).drop (k + 1)) = (n.keys.drop (k + 1)).map byC := (List.map_drop ..).symm
      have t3 : ((n.keys.drop (k + 1)).map byC).take (n.keys.length - (k + 1)) = (n.keys.drop (k + 1)).map byC := List.take_of_length_le (by simp)
      have u1 : (n.kids.map intC).take (k + 1) = (n.kids.take (k + 1)).map intC := (List.map_take ..).symm
      have u2 : ((n.kids.map intC).drop (k + 1)) = (n.kids.drop (k + 1)).map intC := (List.map_drop ..).symm
      have u3 : ((n.kids.drop (k + 1)).map intC).take (n.kids.length - (k + 1)) = (n.kids.drop (k + 1)).map intC := List.take_of_length_le (by simp)
      (simp only [go_sem, Nat.add_assoc, reduceIte, reduceCtorEq, Nat.reduceEqDiff, Nat.reduceAdd, Nat.reduceMul, Nat.reduceSub, Nat.reduceLeDiff, Nat.reduceLT, Nat.reduceBEq, Nat.reduceBNe, Int.reduceLE, Int.reduceLT, Int.reduceToNat, Int.reduceEq, Int.reduceNe, Int.reduceNeg, Nat.reduceEqDiff, Int.reduceAdd, Int.reduceSub, Int.reduceMul, Int.cast_ofNat_Int, Int.natCast_zero, a40, Nd.v, Nd.cs, hleaf, n.okk.1, n.oki.1, k0, k1, hle, hle2, hk2, hw, gc, byC, By.v, t1, t2, t3, u1, u2, u3, sk_keep, cut_full]; repeat' (refine kont_next ?_ <;> (try simp only [go_sem, Nat.add_assoc, reduceIte, reduceCtorEq, Nat.reduceEqDiff, Nat.reduceAdd, Nat.reduceMul, Nat.reduceSub, Nat.reduceLeDiff, Nat.reduceLT, Nat.reduceBEq, Nat.reduceBNe, Int.reduceLE, Int.reduceLT, Int.reduceToNat, Int.reduceEq, Int.reduceNe, Int.reduceNeg, Nat.reduceEqDiff, Int.reduceAdd, Int.reduceSub, Int.reduceMul, Int.cast_ofNat_Int, Int.natCast_zero, a40, Nd.v, Nd.cs, hleaf, n.okk.1, n.oki.1, k0, k1, hle, hle2, hk2, hw, gc, byC, By.v, t1, t2, t3, u1, u2, u3, sk_keep, cut_full])))
    · simp [partA, Nd.p, hleaf, List.map_take]
    · simp [partK, Nd.p, hleaf, gc]
    · simp [partB, Nd.p, hleaf, List.map_drop]
theorem e42 (n : Nd) (f : Cells n 0) (k : Nat) (hk : PartOk n k) : ∃ (a b : Nd) (y : By), acall S 42 [n.v, .i .i64 k] = some (.tup [a.v, y.v, b.v], []) ∧ a.p = partA n.p k ∧ y.l = partK n.p k ∧ b.p = partB n.p k := by
  obtain ⟨⟨f1, f2, f3⟩, hc, _⟩ := f
  have k0 : (0 : Int) ≤ (k : Int) := by omega
  rcases hk with ⟨hleaf, hk⟩ | ⟨hleaf, hk, hk2⟩
  · obtain ⟨c, gc⟩ := get_lt hk
    have hle : k ≤ n.cells.length := by omega
    obtain ⟨hk1, hk2⟩ := hc c (List.mem_of_getElem? gc)
    refine ⟨⟨true, cutSK n.kc, n.zc, n.cells.take k, okS_cut n.okc k, .nil, 0, [], nilKe, .nil, 0, [], nilKi⟩, ⟨true, n.kc, n.zc, n.cells.drop k, OkS.drop n.okc k, .nil, 0, [], nilKe, .nil, 0, [], nilKi⟩, rowB c.key, W_eq (g42 rfl ?_), ?_, ?_, ?_⟩
    · have t1 : (n.cells.map Ce.c).take k = (n.cells.take k).map Ce.c := (List.map_take ..).symm
      have t2 : ((n.cells.map Ce.c).drop k) = (n.cells.drop k).map Ce.c := (List.map_drop ..).symm
      have t3 : ((n.cells.drop k).map Ce.c).take (n.cells.length - k) = (n.cells.drop k).map Ce.c := List.take_of_length_le (by simp)
      (simp only [go_sem, Nat.add_assoc, reduceIte, reduceCtorEq, Nat.reduceEqDiff, Nat.reduceAdd, Nat.reduceMul, Nat.reduceSub, Nat.reduceLeDiff, Nat.reduceLT, Nat.reduceBEq, Nat.reduceBNe, Int.reduceLE, Int.reduceLT, Int.reduceToNat, Int.reduceEq, Int.reduceNe, Int.reduceNeg, Nat.reduceEqDiff, Int.reduceAdd, Int.reduceSub, Int.reduceMul, Int.cast_ofNat_Int, Int.natCast_zero, a42, Nd.v, Nd.cs, hleaf, n.okc.1, k0, hle, gc, Ce.c, By.v, t1, t2, t3, sk_keep, cut_full, c.key.ok.1, hk1, rowB]; repeat' (refine kont_next ?_ <;> (try simp only [go_sem, Nat.add_assoc, reduceIte, reduceCtorEq, Nat.reduceEqDiff, Nat.reduceAdd, Nat.reduceMul, Nat.reduceSub, Nat.reduceLeDiff, Nat.reduceLT, Nat.reduceBEq, Nat.reduceBNe, Int.reduceLE, Int.reduceLT, Int.reduceToNat, Int.reduceEq, Int.reduceNe, Int.reduceNeg, Nat.reduceEqDiff, Int.reduceAdd, Int.reduceSub, Int.reduceMul, Int.cast_ofNat_Int, Int.natCast_zero, a42, Nd.v, Nd.cs, hleaf, n.okc.1, k0, hle, gc, Ce.c, By.v, t1, t2, t3, sk_keep, cut_full, c.key.ok.1, hk1, rowB])))
    · simp [partA, Nd.p, hleaf, List.map_take]
    · simp [partK, Nd.p, hleaf, gc, Ce.p, rowB]
    · simp [partB, Nd.p, hleaf, List.map_drop]
  · obtain ⟨c, gc⟩ := get_lt hk
    have hle : k ≤ n.keys.length := by omega
    have hle2 : k + 1 ≤ n.keys.length := by omega
    have hw := wrap_succ (k := k) (by omega)
    have k1 : (0 : Int) ≤ ((k + 1 : Nat) : Int) := by omega
    refine ⟨⟨false, .nil, 0, [], nilCe, cutSK n.kk, n.zk, n.keys.take k, okS_cut n.okk k, cutSK n.ki, n.zi, n.kids.take (k + 1), okS_cut n.oki _⟩, ⟨false, .nil, 0, [], nilCe, n.kk, n.zk, n.keys.drop (k + 1), OkS.drop n.okk _, n.ki, n.zi, n.kids.drop (k + 1), OkS.drop n.oki _⟩, c, W_eq (g42 rfl ?_), ?_, ?_, ?_⟩
    · have t1 : (n.keys.map byC).take k = (n.keys.take k).map byC := (List.map_take ..).symm
      have t2 : ((n.keys.map byC).drop (k + 1)) = (n.keys.drop (k + 1)).map byC := (List.map_drop ..).symm
      have t3 : ((n.keys.drop (k + 1)).map byC).take (n.keys.length - (k + 1)) = (n.keys.drop (k + 1)).map byC := List.take_of_length_le (by simp)
      have u1 : (n.kids.map intC).take (k + 1) = (n.kids.take (k + 1)).map intC := (List.map_take ..).symm
      have u2 : ((n.kids.map intC).drop (k + 1)) = (n.kids.drop (k + 1)).map intC := (List.map_drop ..).symm
      have u3 : ((n.kids.drop (k + 1)).map intC).take (n.kids.length - (k + 1)) = (n.kids.drop (k + 1)).map intC := List.take_of_length_le (by simp)
      (simp only [go_sem, Nat.add_assoc, reduceIte, reduceCtorEq, Nat.reduceEqDiff, Nat.reduceAdd, Nat.reduceMul, Nat.reduceSub, Nat.reduceLeDiff, Nat.reduceLT, Nat.reduceBEq, Nat.reduceBNe, Int.reduceLE, Int.reduceLT, Int.reduceToNat, Int.reduceEq, Int.reduceNe, Int.reduceNeg, Nat.reduceEqDiff, Int.reduceAdd, Int.reduceSub, Int.reduceMul, Int.cast_ofNat_Int, Int.natCast_zero, a42, Nd.v, Nd.cs, hleaf, n.okk.1, n.oki.1, k0, k1, hle, hle2, hk2, hw, gc, byC, By.v, t1, t2, t3, u1, u2, u3, sk_keep, cut_full]; repeat' (refine kont_next ?_ <;> (try simp only [go_sem, Nat.add_assoc, reduceIte, reduceCtorEq, Nat.reduceEqDiff, Nat.reduceAdd, Nat.reduceMul, Nat.reduceSub, Nat.reduceLeDiff, Nat.reduceLT, Nat.reduceBEq, Nat.reduceBNe, Int.reduceLE, Int.reduceLT, Int.reduceToNat, Int.reduceEq, Int.reduceNe, Int.reduceNeg, Nat.reduceEqDiff, Int.reduceAdd, Int.reduceSub, Int.reduceMul, Int.cast_ofNat_Int, Int.natCast_zero, a42, Nd.v, Nd.cs, hleaf, n.okk.1, n.oki.1, k0, k1, hle, hle2, hk2, hw, gc, byC, By.v, t1, t2, t3, u1, u2, u3, sk_keep, cut_full])))
    · simp [partA, Nd.p, hleaf, List.map_take]
    · simp [partK, Nd.p, hleaf, gc]
    · simp [partB, Nd.p, hleaf, List.map_drop]
end Go.Proofs.Ytogjoenpliphdaa
