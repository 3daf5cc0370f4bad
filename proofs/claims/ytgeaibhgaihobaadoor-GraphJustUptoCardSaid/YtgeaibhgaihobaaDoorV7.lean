import Derived.Test.YtgeaibhgaihobaaDoorV3
set_option linter.unusedSimpArgs false
set_option linter.unusedVariables false
set_option maxHeartbeats 8000000
set_option maxRecDepth 100000
namespace Go.Proofs.YtgeaibhgaihobaaDoor
open Go.Abs
open Nat renaming add_assoc → J0, reduceEqDiff → Ja, reduceAdd → Jb, reduceMul → Jc, reduceSub → Jd, reduceLeDiff → Je, reduceLT → Jf, reduceBEq → Jg, reduceBNe → Jh
open Int renaming reduceLE → Ji, reduceLT → Jj, reduceToNat → Jk, reduceEq → Jl, reduceNe → Jm, reduceNeg → Jn, reduceAdd → Jo, reduceSub → Jp, reduceMul → Jq, cast_ofNat_Int → Jr, natCast_zero → Js
theorem e92 (a : Int) : acall S 92 [.i .i64 a] = some (.b false, []) := by
  refine W_eq (g92 rfl ?_)
  (repeat' (first | (with_reducible first | refine kont_next ?_ | refine lkont_next ?_ | refine kont_nextn ?_ | refine ikont_next ?_ | refine ikont_nextn ?_) | simp only [go_sem, J0, reduceIte, reduceCtorEq, Ja, Jb, Jc, Jd, Je, Jf, Jg, Jh, Ji, Jj, Jk, Jl, Jm, Jn, Jo, Jp, Jq, Jr, Js, a92]))
theorem e93 (a : Int) : acall S 93 [.i .i64 a] = some (.b false, []) := by
  refine W_eq (g93 rfl ?_)
  (repeat' (first | (with_reducible first | refine kont_next ?_ | refine lkont_next ?_ | refine kont_nextn ?_ | refine ikont_next ?_ | refine ikont_nextn ?_) | simp only [go_sem, J0, reduceIte, reduceCtorEq, Ja, Jb, Jc, Jd, Je, Jf, Jg, Jh, Ji, Jj, Jk, Jl, Jm, Jn, Jo, Jp, Jq, Jr, Js, a93]))
theorem e83 (a b : Int) : acall S 83 [.i .i64 a, .i .i64 b] = some (.i .i64 (cmpI a b), []) := by
  have e1 := e92 a
  have e2 := e92 b
  refine W_eq (g83 rfl ?_)
  unfold cmpI
  by_cases h1 : a < b
  · have g1 := decide_eq_true h1
    rw [if_pos h1]
    (repeat' (first | (with_reducible first | refine kont_next ?_ | refine lkont_next ?_ | refine kont_nextn ?_ | refine ikont_next ?_ | refine ikont_nextn ?_) | simp only [go_sem, J0, reduceIte, reduceCtorEq, Ja, Jb, Jc, Jd, Je, Jf, Jg, Jh, Ji, Jj, Jk, Jl, Jm, Jn, Jo, Jp, Jq, Jr, Js, a83, s92, e1, e2, g1]))
  · have g1 := decide_eq_false h1
    rw [if_neg h1]
    by_cases h2 : b < a
    · have g2 := decide_eq_true h2
      rw [if_pos h2]
      (repeat' (first | (with_reducible first | refine kont_next ?_ | refine lkont_next ?_ | refine kont_nextn ?_ | refine ikont_next ?_ | refine ikont_nextn ?_) | simp only [go_sem, J0, reduceIte, reduceCtorEq, Ja, Jb, Jc, Jd, Je, Jf, Jg, Jh, Ji, Jj, Jk, Jl, Jm, Jn, Jo, Jp, Jq, Jr, Js, a83, s92, e1, e2, g1, g2]))
    · have g2 := decide_eq_false h2
      rw [if_neg h2]
      (repeat' (first | (with_reducible first | refine kont_next ?_ | refine lkont_next ?_ | refine kont_nextn ?_ | refine ikont_next ?_ | refine ikont_nextn ?_) | simp only [go_sem, J0, reduceIte, reduceCtorEq, Ja, Jb, Jc, Jd, Je, Jf, Jg, Jh, Ji, Jj, Jk, Jl, Jm, Jn, Jo, Jp, Jq, Jr, Js, a83, s92, e1, e2, g1, g2]))
theorem e84 (a b : Int) : acall S 84 [.i .i64 a, .i .i64 b] = some (.i .i64 (cmpI a b), []) := by
  have e1 := e93 a
  have e2 := e93 b
  refine W_eq (g84 rfl ?_)
  unfold cmpI
  by_cases h1 : a < b
  · have g1 := decide_eq_true h1
    rw [if_pos h1]
    (repeat' (first | (with_reducible first | refine kont_next ?_ | refine lkont_next ?_ | refine kont_nextn ?_ | refine ikont_next ?_ | refine ikont_nextn ?_) | simp only [go_sem, J0, reduceIte, reduceCtorEq, Ja, Jb, Jc, Jd, Je, Jf, Jg, Jh, Ji, Jj, Jk, Jl, Jm, Jn, Jo, Jp, Jq, Jr, Js, a84, s93, e1, e2, g1]))
  · have g1 := decide_eq_false h1
    rw [if_neg h1]
    by_cases h2 : b < a
    · have g2 := decide_eq_true h2
      rw [if_pos h2]
      (repeat' (first | (with_reducible first | refine kont_next ?_ | refine lkont_next ?_ | refine kont_nextn ?_ | refine ikont_next ?_ | refine ikont_nextn ?_) | simp only [go_sem, J0, reduceIte, reduceCtorEq, Ja, Jb, Jc, Jd, Je, Jf, Jg, Jh, Ji, Jj, Jk, Jl, Jm, Jn, Jo, Jp, Jq, Jr, Js, a84, s93, e1, e2, g1, g2]))
    · have g2 := decide_eq_false h2
      rw [if_neg h2]
      (repeat' (first | (with_reducible first | refine kont_next ?_ | refine lkont_next ?_ | refine kont_nextn ?_ | refine ikont_next ?_ | refine ikont_nextn ?_) | simp only [go_sem, J0, reduceIte, reduceCtorEq, Ja, Jb, Jc, Jd, Je, Jf, Jg, Jh, Ji, Jj, Jk, Jl, Jm, Jn, Jo, Jp, Jq, Jr, Js, a84, s93, e1, e2, g1, g2]))
theorem e94 (a b : List UInt8) : acall S 94 [.str a, .str b] = some (.i .i64 (Go.Lib.compareBytes a b), []) := by
  have e1 : acall S 99 [.str a, .str b] = some (.i .i64 (Go.Lib.compareBytes a b), []) := acall_prim (p := primCmp) rfl rfl rfl
  refine W_eq (g94 rfl ?_)
  (repeat' (first | (with_reducible first | refine kont_next ?_ | refine lkont_next ?_ | refine kont_nextn ?_ | refine ikont_next ?_ | refine ikont_nextn ?_) | simp only [go_sem, J0, reduceIte, reduceCtorEq, Ja, Jb, Jc, Jd, Je, Jf, Jg, Jh, Ji, Jj, Jk, Jl, Jm, Jn, Jo, Jp, Jq, Jr, Js, a94, s99, e1]))
theorem e85 (a b : List UInt8) : acall S 85 [.str a, .str b] = some (.i .i64 (Go.Lib.compareBytes a b), []) := by
  have e1 := e94 a b
  refine W_eq (g85 rfl ?_)
  (repeat' (first | (with_reducible first | refine kont_next ?_ | refine lkont_next ?_ | refine kont_nextn ?_ | refine ikont_next ?_ | refine ikont_nextn ?_) | simp only [go_sem, J0, reduceIte, reduceCtorEq, Ja, Jb, Jc, Jd, Je, Jf, Jg, Jh, Ji, Jj, Jk, Jl, Jm, Jn, Jo, Jp, Jq, Jr, Js, a85, s94, e1]))
def orL : List Int → Int
  | [] => 0
  | a :: r => first0 a (orL r)
theorem e82 (k : SK) (l : List Int) (hl : l.length < 1000) : acall S 82 [.sl k 1 (l.map fun a => [.i .i64 a])] = some (.i .i64 (orL l), []) := by
  refine W_eq (g82 rfl ?_)
  (repeat' (first | (with_reducible first | refine kont_next ?_ | refine lkont_next ?_ | refine kont_nextn ?_ | refine ikont_next ?_ | refine ikont_nextn ?_) | simp only [go_sem, J0, reduceIte, reduceCtorEq, Ja, Jb, Jc, Jd, Je, Jf, Jg, Jh, Ji, Jj, Jk, Jl, Jm, Jn, Jo, Jp, Jq, Jr, Js, a82]))
  refine kloop_inv (ι := Nat) (fun i => [.i .i64 0, .sl k 1 (l.map fun a => [.i .i64 a]), .i .i64 l.length, .i .i64 i]) (fun i => i ≤ l.length ∧ orL (l.drop i) = orL l) (fun i => l.length - i) 0 rfl ⟨by omega, rfl⟩ ?_
  rintro i ⟨hi, hT⟩
  by_cases hlt : i < l.length
  · obtain ⟨a, ga⟩ := get_lt3 hlt
    have hT' := hT
    rw [drop_get3 ga] at hT'
    simp only [orL] at hT'
    have g1 : decide ((i : Int) < (l.length : Int)) = true := decide_eq_true (by omega)
    have b1 : (0 : Int) ≤ (i : Int) := by omega
    have hw := wrap_succ (k := i) (by omega)
    by_cases hz : a = 0
    · subst hz
      rw [show first0 0 (orL (l.drop (i + 1))) = orL (l.drop (i + 1)) from if_neg (by simp)] at hT'
      (repeat' (first | (with_reducible first | refine kont_next ?_ | refine lkont_next ?_ | refine kont_nextn ?_ | refine ikont_next ?_ | refine ikont_nextn ?_) | simp only [go_sem, J0, reduceIte, reduceCtorEq, Ja, Jb, Jc, Jd, Je, Jf, Jg, Jh, Ji, Jj, Jk, Jl, Jm, Jn, Jo, Jp, Jq, Jr, Js, g1, b1, ga, hw]))
      exact ⟨i + 1, rfl, ⟨by omega, hT'⟩, by omega⟩
    · have g2 : decide (¬ a = 0) = true := decide_eq_true hz
      rw [show first0 a (orL (l.drop (i + 1))) = a from if_pos hz] at hT'
      (repeat' (first | (with_reducible first | refine kont_next ?_ | refine lkont_next ?_ | refine kont_nextn ?_ | refine ikont_next ?_ | refine ikont_nextn ?_) | simp only [go_sem, J0, reduceIte, reduceCtorEq, Ja, Jb, Jc, Jd, Je, Jf, Jg, Jh, Ji, Jj, Jk, Jl, Jm, Jn, Jo, Jp, Jq, Jr, Js, g1, b1, ga, g2]))
      rw [← hT']
  · have g1 : decide ((i : Int) < (l.length : Int)) = false := decide_eq_false (by omega)
    rw [List.drop_of_length_le (by omega)] at hT
    (repeat' (first | (with_reducible first | refine kont_next ?_ | refine lkont_next ?_ | refine kont_nextn ?_ | refine ikont_next ?_ | refine ikont_nextn ?_) | simp only [go_sem, J0, reduceIte, reduceCtorEq, Ja, Jb, Jc, Jd, Je, Jf, Jg, Jh, Ji, Jj, Jk, Jl, Jm, Jn, Jo, Jp, Jq, Jr, Js, g1]))
    rw [← hT]; rfl
def CmpOk (m : Nat) : Prop := ∀ (a b : Vl), a.size ≤ m → a.ok → b.ok → acall S 74 [.agg a.c, .agg b.c] = some (.i .i64 (cmpV a.p b.p), [])
theorem e86 {m : Nat} (ih : CmpOk m) {k k' : SK} {z z' : Nat} {l l' : List Vl} (h : OkS k z 4 l) (h' : OkS k' z' 4 l') (hl : l.length ≤ 137438953472) (hl' : l'.length ≤ 137438953472)
    (hs : Vl.sizes l ≤ m) (ho : Vl.oks l) (ho' : Vl.oks l') :
    acall S 86 [.sl k z (l.map Vl.c), .sl k' z' (l'.map Vl.c), .fn 74 []] = some (.i .i64 (cmpL (Vl.ps l) (Vl.ps l')), []) := by
  refine W_eq (g86 rfl ?_)
  (repeat' (first | (with_reducible first | refine kont_next ?_ | refine lkont_next ?_ | refine kont_nextn ?_ | refine ikont_next ?_ | refine ikont_nextn ?_) | simp only [go_sem, J0, reduceIte, reduceCtorEq, Ja, Jb, Jc, Jd, Je, Jf, Jg, Jh, Ji, Jj, Jk, Jl, Jm, Jn, Jo, Jp, Jq, Jr, Js, a86]))
  refine kloop_inv (ι := Nat) (fun i => [.sl k z (l.map Vl.c), .sl k' z' (l'.map Vl.c), .fn 74 [], .sl k z (l.map Vl.c), .i .i64 l.length, .i .i64 i])
    (fun i => i ≤ l.length ∧ i ≤ l'.length ∧ cmpL (Vl.ps (l.drop i)) (Vl.ps (l'.drop i)) = cmpL (Vl.ps l) (Vl.ps l')) (fun i => l.length - i) 0 rfl ⟨by omega, by omega, rfl⟩ ?_
  rintro i ⟨i1, i2, hT⟩
  by_cases hla : i < l.length
  · obtain ⟨c, gc⟩ := get_lt3 hla
    have g1 : decide ((i : Int) < (l.length : Int)) = true := decide_eq_true (by omega)
    have b1 : (0 : Int) ≤ (i : Int) := by omega
    have hw := wrap_succ (k := i) (by omega)
    by_cases hlb : i < l'.length
    · obtain ⟨d, gd⟩ := get_lt3 hlb
      have g2 : decide ((l'.length : Int) ≤ (i : Int)) = false := decide_eq_false (by omega)
      rw [drop_get3 gc, drop_get3 gd] at hT
      simp only [Vl.ps, cmpL] at hT
      have hcs := Vl.size_get gc
      have er := ih c d (by omega) (Vl.oks_get ho gc) (Vl.oks_get ho' gd)
      obtain ⟨ck, cn, cs, ckk, cz, cl⟩ := c
      obtain ⟨dk, dn, ds, dkk, dz, dl⟩ := d
      simp only [Vl.c, Vl.cs_map] at er
      by_cases hz : cmpV (Vl.p (.mk ck cn cs ckk cz cl)) (Vl.p (.mk dk dn ds dkk dz dl)) = 0
      · have q3 : decide (¬ cmpV (Vl.p (.mk ck cn cs ckk cz cl)) (Vl.p (.mk dk dn ds dkk dz dl)) = 0) = false := decide_eq_false (by simpa using hz)
        rw [show ∀ q, first0 (cmpV (Vl.p (.mk ck cn cs ckk cz cl)) (Vl.p (.mk dk dn ds dkk dz dl))) q = q from fun q => if_neg (by simpa using hz)] at hT
        (repeat' (first | (with_reducible first | refine kont_next ?_ | refine lkont_next ?_ | refine kont_nextn ?_ | refine ikont_next ?_ | refine ikont_nextn ?_) | simp only [go_sem, J0, reduceIte, reduceCtorEq, Ja, Jb, Jc, Jd, Je, Jf, Jg, Jh, Ji, Jj, Jk, Jl, Jm, Jn, Jo, Jp, Jq, Jr, Js, g1, b1, g2, gc, gd, h.1, h'.1, Vl.c, Vl.cs_map, s74, er, q3, hw]))
        exact ⟨i + 1, rfl, ⟨by omega, by omega, hT⟩, by omega⟩
      · have q3 : decide (¬ cmpV (Vl.p (.mk ck cn cs ckk cz cl)) (Vl.p (.mk dk dn ds dkk dz dl)) = 0) = true := decide_eq_true hz
        rw [show ∀ q, first0 (cmpV (Vl.p (.mk ck cn cs ckk cz cl)) (Vl.p (.mk dk dn ds dkk dz dl))) q = cmpV (Vl.p (.mk ck cn cs ckk cz cl)) (Vl.p (.mk dk dn ds dkk dz dl)) from fun q => if_pos hz] at hT
        (repeat' (first | (with_reducible first | refine kont_next ?_ | refine lkont_next ?_ | refine kont_nextn ?_ | refine ikont_next ?_ | refine ikont_nextn ?_) | simp only [go_sem, J0, reduceIte, reduceCtorEq, Ja, Jb, Jc, Jd, Je, Jf, Jg, Jh, Ji, Jj, Jk, Jl, Jm, Jn, Jo, Jp, Jq, Jr, Js, g1, b1, g2, gc, gd, h.1, h'.1, Vl.c, Vl.cs_map, s74, er, q3]))
        rw [hT]
    · have g2 : decide ((l'.length : Int) ≤ (i : Int)) = true := decide_eq_true (by omega)
      have hend := cmpL_end (x := l) (y := l') (i := i) (by omega) i1 i2
      rw [hT, show cmpI (l.length : Int) (l'.length : Int) = 1 by unfold cmpI; rw [if_neg (by omega), if_pos (by omega)]] at hend
      obtain ⟨ck, cn, cs, ckk, cz, cl⟩ := c
      (repeat' (first | (with_reducible first | refine kont_next ?_ | refine lkont_next ?_ | refine kont_nextn ?_ | refine ikont_next ?_ | refine ikont_nextn ?_) | simp only [go_sem, J0, reduceIte, reduceCtorEq, Ja, Jb, Jc, Jd, Je, Jf, Jg, Jh, Ji, Jj, Jk, Jl, Jm, Jn, Jo, Jp, Jq, Jr, Js, g1, b1, g2, gc, h.1, Vl.c, Vl.cs_map]))
      rw [← hend]
  · have g1 : decide ((i : Int) < (l.length : Int)) = false := decide_eq_false (by omega)
    have hend := cmpL_end (x := l) (y := l') (i := i) (by omega) i1 i2
    rw [hT] at hend
    by_cases hx : l.length < l'.length
    · have g2 : decide ((l.length : Int) < (l'.length : Int)) = true := decide_eq_true (by omega)
      rw [show cmpI (l.length : Int) (l'.length : Int) = -1 by unfold cmpI; rw [if_pos (by omega)]] at hend
      (repeat' (first | (with_reducible first | refine kont_next ?_ | refine lkont_next ?_ | refine kont_nextn ?_ | refine ikont_next ?_ | refine ikont_nextn ?_) | simp only [go_sem, J0, reduceIte, reduceCtorEq, Ja, Jb, Jc, Jd, Je, Jf, Jg, Jh, Ji, Jj, Jk, Jl, Jm, Jn, Jo, Jp, Jq, Jr, Js, g1, g2]))
      rw [← hend]
    · have g2 : decide ((l.length : Int) < (l'.length : Int)) = false := decide_eq_false (by omega)
      rw [show cmpI (l.length : Int) (l'.length : Int) = 0 by unfold cmpI; rw [if_neg (by omega), if_neg (by omega)]] at hend
      (repeat' (first | (with_reducible first | refine kont_next ?_ | refine lkont_next ?_ | refine kont_nextn ?_ | refine ikont_next ?_ | refine ikont_nextn ?_) | simp only [go_sem, J0, reduceIte, reduceCtorEq, Ja, Jb, Jc, Jd, Je, Jf, Jg, Jh, Ji, Jj, Jk, Jl, Jm, Jn, Jo, Jp, Jq, Jr, Js, g1, g2]))
      rw [← hend]
theorem cmp_step {m : Nat} (ih : CmpOk m) (k n : Int) (s : List UInt8) (sk : SK) (z : Nat) (l : List Vl) (k' n' : Int) (s' : List UInt8) (sk' : SK) (z' : Nat) (l' : List Vl) (hm : Vl.sizes l ≤ m) (ha : (Vl.mk k n s sk z l).ok) (hb : (Vl.mk k' n' s' sk' z' l').ok) :
    acall S 74 [.agg (Vl.mk k n s sk z l).c, .agg (Vl.mk k' n' s' sk' z' l').c] = some (.i .i64 (cmpV (Vl.mk k n s sk z l).p (Vl.mk k' n' s' sk' z' l').p), []) := by
  obtain ⟨hs, hl, hok, hall⟩ := ha
  obtain ⟨hs', hl', hok', hall'⟩ := hb
  have e1 := e83 k k'
  have e2 := e84 n n'
  have e3 := e85 s s'
  have e4 := e86 ih hok hok' hl hl' hm hall hall'
  have e5 := e82 .open_ [cmpI k k', cmpI n n', Go.Lib.compareBytes s s', cmpL (Vl.ps l) (Vl.ps l')] (by simp)
  simp only [List.map_cons, List.map_nil] at e5
  have hor : orL [cmpI k k', cmpI n n', Go.Lib.compareBytes s s', cmpL (Vl.ps l) (Vl.ps l')] = cmpV (Vl.mk k n s sk z l).p (Vl.mk k' n' s' sk' z' l').p := by
    simp only [Vl.p, cmpV, orL]
    congr 3
    unfold first0
    split <;> simp_all
  rw [hor] at e5
  refine W_eq (g74 rfl ?_)
  (repeat' (first | (with_reducible first | refine kont_next ?_ | refine lkont_next ?_ | refine kont_nextn ?_ | refine ikont_next ?_ | refine ikont_nextn ?_) | simp only [go_sem, J0, reduceIte, reduceCtorEq, Ja, Jb, Jc, Jd, Je, Jf, Jg, Jh, Ji, Jj, Jk, Jl, Jm, Jn, Jo, Jp, Jq, Jr, Js, a74, Vl.c, Vl.cs_map, s83, s84, s85, s86, s82, e1, e2, e3, e4, e5]))
theorem cmpOk : ∀ m, CmpOk m
  | 0 => fun v _ hm _ _ => by cases v; simp [Vl.size] at hm
  | m + 1 => fun v u hm ho hu => by
    obtain ⟨k, n, s, sk, z, l⟩ := v
    obtain ⟨k', n', s', sk', z', l'⟩ := u
    simp only [Vl.size] at hm
    exact cmp_step (cmpOk m) _ _ _ _ _ _ _ _ _ _ _ _ (by omega) ho hu
theorem e74 (a b : Vl) (ha : a.ok) (hb : b.ok) : acall S 74 [.agg a.c, .agg b.c] = some (.i .i64 (cmpV a.p b.p), []) := cmpOk a.size a b (Nat.le_refl _) ha hb
end Go.Proofs.YtgeaibhgaihobaaDoor
