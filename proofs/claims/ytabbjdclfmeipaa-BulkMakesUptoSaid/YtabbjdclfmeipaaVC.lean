/-
  The reference's clones.
-/
import Derived.Test.YtabbjdclfmeipaaV3
set_option linter.unusedSimpArgs false
set_option linter.unusedVariables false
set_option maxHeartbeats 8000000
set_option maxRecDepth 100000
namespace Go.Proofs.Ytabbjdclfmeipaa
open Go.Abs

theorem skOf_nilC {α : Type} {l : List α} (h : skOf l.isEmpty = SK.nil) : l = [] := by cases l with | nil => rfl | cons a r => cases h
theorem e65' : ∀ (m : Nat) (v : Vl), v.size ≤ m → v.ok → ∃ u : Vl, acall S 65 [.agg v.c] = some (.agg u.c, []) ∧ u.p = v.p ∧ u.ok
  | 0, .mk kd n s k z l, hm, _ => by simp [Vl.size] at hm
  | m + 1, .mk kd n s k z l, hm, hv => by
    obtain ⟨hs, hl, hok, hall⟩ := hv
    have hL : LIM = 274877906944 := rfl
    simp only [Vl.size] at hm
    suffices hW : W (acall S 65 [.agg (Vl.mk kd n s k z l).c]) (fun x => ∃ u : Vl, x = (.agg u.c, []) ∧ u.p = (Vl.mk kd n s k z l).p ∧ u.ok) by
      obtain ⟨x, h1, u, rfl, h2⟩ := hW
      exact ⟨u, h1, h2⟩
    refine g65 rfl ?_
    (simp only [go_sem, Nat.add_assoc, reduceIte, reduceCtorEq, Nat.reduceEqDiff, Nat.reduceAdd, Nat.reduceMul, Nat.reduceSub, Nat.reduceLeDiff, Nat.reduceLT, Nat.reduceBEq, Nat.reduceBNe, Int.reduceLE, Int.reduceLT, Int.reduceToNat, Int.reduceEq, Int.reduceNe, Int.reduceNeg, Nat.reduceEqDiff, Int.reduceAdd, Int.reduceSub, Int.reduceMul, Int.cast_ofNat_Int, Int.natCast_zero, a65, Vl.c, Vl.cs_map]; repeat' ((first | refine kont_next ?_ | refine kont_nextn ?_ | refine ikont_next ?_ | refine ikont_nextn ?_) <;> (try simp only [go_sem, Nat.add_assoc, reduceIte, reduceCtorEq, Nat.reduceEqDiff, Nat.reduceAdd, Nat.reduceMul, Nat.reduceSub, Nat.reduceLeDiff, Nat.reduceLT, Nat.reduceBEq, Nat.reduceBNe, Int.reduceLE, Int.reduceLT, Int.reduceToNat, Int.reduceEq, Int.reduceNe, Int.reduceNeg, Nat.reduceEqDiff, Int.reduceAdd, Int.reduceSub, Int.reduceMul, Int.cast_ofNat_Int, Int.natCast_zero, a65, Vl.c, Vl.cs_map])))
    refine kloop_inv (ι := List Vl) (fun es => [.bx [.i .i64 kd, .i .i64 n, .str s, .sl k z (l.map Vl.c)], .bx [.i .i64 0, .i .i64 0, .str [], .sl .nil 0 []], .ow 34 4 es.isEmpty (es.map Vl.c), .i .i64 es.length])
      (fun es => es.length ≤ l.length ∧ es.map Vl.p = (l.take es.length).map Vl.p ∧ ∀ x ∈ es, x.ok) (fun es => l.length - es.length) [] rfl ⟨by simp, rfl, by simp⟩ ?_
    rintro es ⟨k1, k2, k3⟩
    by_cases hlt : es.length < l.length
    · obtain ⟨c, gc⟩ := get_lt hlt
      have hw := wrap_succ (k := es.length) (by omega)
      have hbt : decide ((es.length : Int) < (l.length : Int)) = true := decide_eq_true (by omega)
      have glim : es.length + 1 ≤ LIM := by omega
      have b1 : (0 : Int) ≤ (es.length : Int) := by omega
      have hcs := Vl.size_get gc
      obtain ⟨d, ed, hdp, hdo⟩ := e65' m c (by omega) (Vl.oks_get hall gc)
      have hnext : (es ++ [d]).map Vl.p = (l.take (es.length + 1)).map Vl.p := by
        rw [take_get gc, List.map_append, List.map_append, k2]; simp [hdp]
      obtain ⟨ck, cn, cs, ckk, cz, cl⟩ := c
      obtain ⟨dk, dn, ds, dkk, dz, dl⟩ := d
      simp only [Vl.c, Vl.cs_map] at ed
      (simp only [go_sem, Nat.add_assoc, reduceIte, reduceCtorEq, Nat.reduceEqDiff, Nat.reduceAdd, Nat.reduceMul, Nat.reduceSub, Nat.reduceLeDiff, Nat.reduceLT, Nat.reduceBEq, Nat.reduceBNe, Int.reduceLE, Int.reduceLT, Int.reduceToNat, Int.reduceEq, Int.reduceNe, Int.reduceNeg, Nat.reduceEqDiff, Int.reduceAdd, Int.reduceSub, Int.reduceMul, Int.cast_ofNat_Int, Int.natCast_zero, hbt, hok.1, b1, gc, Vl.c, Vl.cs_map, s65, ed, hw, glim]; repeat' ((first | refine kont_next ?_ | refine kont_nextn ?_ | refine ikont_next ?_ | refine ikont_nextn ?_) <;> (try simp only [go_sem, Nat.add_assoc, reduceIte, reduceCtorEq, Nat.reduceEqDiff, Nat.reduceAdd, Nat.reduceMul, Nat.reduceSub, Nat.reduceLeDiff, Nat.reduceLT, Nat.reduceBEq, Nat.reduceBNe, Int.reduceLE, Int.reduceLT, Int.reduceToNat, Int.reduceEq, Int.reduceNe, Int.reduceNeg, Nat.reduceEqDiff, Int.reduceAdd, Int.reduceSub, Int.reduceMul, Int.cast_ofNat_Int, Int.natCast_zero, hbt, hok.1, b1, gc, Vl.c, Vl.cs_map, s65, ed, hw, glim])))
      refine ⟨es ++ [.mk dk dn ds dkk dz dl], ?_, ⟨by simp; omega, by simpa using hnext, ?_⟩, by simp; omega⟩
      · simp [Vl.c, Vl.cs_map]
      · intro x hx
        rcases List.mem_append.1 hx with h | h
        · exact k3 x h
        · simp only [List.mem_singleton] at h; rw [h]; exact hdo
    have hbf : decide ((es.length : Int) < (l.length : Int)) = false := decide_eq_false (by omega)
    have hpp : es.map Vl.p = l.map Vl.p := by rw [k2, List.take_of_length_le (by omega)]
    (simp only [go_sem, Nat.add_assoc, reduceIte, reduceCtorEq, Nat.reduceEqDiff, Nat.reduceAdd, Nat.reduceMul, Nat.reduceSub, Nat.reduceLeDiff, Nat.reduceLT, Nat.reduceBEq, Nat.reduceBNe, Int.reduceLE, Int.reduceLT, Int.reduceToNat, Int.reduceEq, Int.reduceNe, Int.reduceNeg, Nat.reduceEqDiff, Int.reduceAdd, Int.reduceSub, Int.reduceMul, Int.cast_ofNat_Int, Int.natCast_zero, hbf]; repeat' ((first | refine kont_next ?_ | refine kont_nextn ?_ | refine ikont_next ?_ | refine ikont_nextn ?_) <;> (try simp only [go_sem, Nat.add_assoc, reduceIte, reduceCtorEq, Nat.reduceEqDiff, Nat.reduceAdd, Nat.reduceMul, Nat.reduceSub, Nat.reduceLeDiff, Nat.reduceLT, Nat.reduceBEq, Nat.reduceBNe, Int.reduceLE, Int.reduceLT, Int.reduceToNat, Int.reduceEq, Int.reduceNe, Int.reduceNeg, Nat.reduceEqDiff, Int.reduceAdd, Int.reduceSub, Int.reduceMul, Int.cast_ofNat_Int, Int.natCast_zero, hbf])))
    refine ⟨.mk kd n s (skOf es.isEmpty) 4 es, ?_, ?_, ⟨hs, by omega, ⟨.inl rfl, skOf_nilC⟩, (Vl.oks_iff es).2 k3⟩⟩
    · simp [Vl.c, Vl.cs_map]
    · simp only [Vl.p, Vl.ps_map, hpp]
theorem e65 (v : Vl) (h : v.ok) : ∃ u : Vl, acall S 65 [.agg v.c] = some (.agg u.c, []) ∧ u.p = v.p ∧ u.ok := e65' v.size v (Nat.le_refl _) h
end Go.Proofs.Ytabbjdclfmeipaa
