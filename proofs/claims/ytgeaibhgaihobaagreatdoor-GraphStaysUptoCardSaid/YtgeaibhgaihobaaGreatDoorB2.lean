/-
  Own work. Contracts of the functions, and the plain law: many texts, merged by program.
-/
import Derived.Test.YtgeaibhgaihobaaGreatDoorB1
import Derived.Test.YtgeaibhgaihobaaGreatDoorFf
set_option linter.unusedSimpArgs false
set_option linter.unusedVariables false
set_option maxHeartbeats 8000000
set_option maxRecDepth 100000
namespace Go.Proofs.YtgeaibhgaihobaaGreatDoor
open Go.Abs
open Nat renaming add_assoc → J0, reduceEqDiff → Ja, reduceAdd → Jb, reduceMul → Jc, reduceSub → Jd, reduceLeDiff → Je, reduceLT → Jf, reduceBEq → Jg, reduceBNe → Jh
open Int renaming reduceLE → Ji, reduceLT → Jj, reduceToNat → Jk, reduceEq → Jl, reduceNe → Jm, reduceNeg → Jn, reduceAdd → Jo, reduceSub → Jp, reduceMul → Jq, cast_ofNat_Int → Jr, natCast_zero → Js
section
theorem e116 (a : Int) : acall S 116 [.i .i64 a] = some (.b false, []) := by
 refine W_eq (g116 rfl ?_)
 (repeat' (first | with_reducible refine zab ?_ | simp only [go_sem, J0, reduceIte, reduceCtorEq, Ja, Jb, Jc, Jd, Je, Jf, Jg, Jh, Ji, Jj, Jk, Jl, Jm, Jn, Jo, Jp, Jq, Jr, Js, a116]))
theorem e117 (a : Int) : acall S 117 [.i .i64 a] = some (.b false, []) := by
 refine W_eq (g117 rfl ?_)
 (repeat' (first | with_reducible refine zab ?_ | simp only [go_sem, J0, reduceIte, reduceCtorEq, Ja, Jb, Jc, Jd, Je, Jf, Jg, Jh, Ji, Jj, Jk, Jl, Jm, Jn, Jo, Jp, Jq, Jr, Js, a117]))
theorem e106 (a b : Int) : acall S 106 [.i .i64 a, .i .i64 b] = some (.i .i64 (cmpI a b), []) := by
 have e1 := e116 a
 have e2 := e116 b
 refine W_eq (g106 rfl ?_)
 unfold cmpI
 by_cases h1 : a < b
 · have g1 := decide_eq_true h1
   rw [if_pos h1]
   (repeat' (first | with_reducible refine zab ?_ | simp only [go_sem, J0, reduceIte, reduceCtorEq, Ja, Jb, Jc, Jd, Je, Jf, Jg, Jh, Ji, Jj, Jk, Jl, Jm, Jn, Jo, Jp, Jq, Jr, Js, a106, s116, e1, e2, g1]))
 · have g1 := decide_eq_false h1
   rw [if_neg h1]
   by_cases h2 : b < a
   · have g2 := decide_eq_true h2
     rw [if_pos h2]
     (repeat' (first | with_reducible refine zab ?_ | simp only [go_sem, J0, reduceIte, reduceCtorEq, Ja, Jb, Jc, Jd, Je, Jf, Jg, Jh, Ji, Jj, Jk, Jl, Jm, Jn, Jo, Jp, Jq, Jr, Js, a106, s116, e1, e2, g1, g2]))
   · have g2 := decide_eq_false h2
     rw [if_neg h2]
     (repeat' (first | with_reducible refine zab ?_ | simp only [go_sem, J0, reduceIte, reduceCtorEq, Ja, Jb, Jc, Jd, Je, Jf, Jg, Jh, Ji, Jj, Jk, Jl, Jm, Jn, Jo, Jp, Jq, Jr, Js, a106, s116, e1, e2, g1, g2]))
theorem e107 (a b : Int) : acall S 107 [.i .i64 a, .i .i64 b] = some (.i .i64 (cmpI a b), []) := by
 have e1 := e117 a
 have e2 := e117 b
 refine W_eq (g107 rfl ?_)
 unfold cmpI
 by_cases h1 : a < b
 · have g1 := decide_eq_true h1
   rw [if_pos h1]
   (repeat' (first | with_reducible refine zab ?_ | simp only [go_sem, J0, reduceIte, reduceCtorEq, Ja, Jb, Jc, Jd, Je, Jf, Jg, Jh, Ji, Jj, Jk, Jl, Jm, Jn, Jo, Jp, Jq, Jr, Js, a107, s117, e1, e2, g1]))
 · have g1 := decide_eq_false h1
   rw [if_neg h1]
   by_cases h2 : b < a
   · have g2 := decide_eq_true h2
     rw [if_pos h2]
     (repeat' (first | with_reducible refine zab ?_ | simp only [go_sem, J0, reduceIte, reduceCtorEq, Ja, Jb, Jc, Jd, Je, Jf, Jg, Jh, Ji, Jj, Jk, Jl, Jm, Jn, Jo, Jp, Jq, Jr, Js, a107, s117, e1, e2, g1, g2]))
   · have g2 := decide_eq_false h2
     rw [if_neg h2]
     (repeat' (first | with_reducible refine zab ?_ | simp only [go_sem, J0, reduceIte, reduceCtorEq, Ja, Jb, Jc, Jd, Je, Jf, Jg, Jh, Ji, Jj, Jk, Jl, Jm, Jn, Jo, Jp, Jq, Jr, Js, a107, s117, e1, e2, g1, g2]))
theorem e118 (a b : List UInt8) : acall S 118 [.str a, .str b] = some (.i .i64 (Go.Lib.compareBytes a b), []) := by
 have e1 : acall S 125 [.str a, .str b] = some (.i .i64 (Go.Lib.compareBytes a b), []) := zei (p := znj) rfl rfl rfl
 refine W_eq (g118 rfl ?_)
 (repeat' (first | with_reducible refine zab ?_ | simp only [go_sem, J0, reduceIte, reduceCtorEq, Ja, Jb, Jc, Jd, Je, Jf, Jg, Jh, Ji, Jj, Jk, Jl, Jm, Jn, Jo, Jp, Jq, Jr, Js, a118, s125, e1]))
theorem e108 (a b : List UInt8) : acall S 108 [.str a, .str b] = some (.i .i64 (Go.Lib.compareBytes a b), []) := by
 have e1 := e118 a b
 refine W_eq (g108 rfl ?_)
 (repeat' (first | with_reducible refine zab ?_ | simp only [go_sem, J0, reduceIte, reduceCtorEq, Ja, Jb, Jc, Jd, Je, Jf, Jg, Jh, Ji, Jj, Jk, Jl, Jm, Jn, Jo, Jp, Jq, Jr, Js, a108, s118, e1]))
def orL : List Int → Int
 | [] => 0
 | a :: r => first0 a (orL r)
theorem e105 (k : SK) (l : List Int) (hl : l.length < 1000) : acall S 105 [.sl k 1 (l.map fun a => [.i .i64 a])] = some (.i .i64 (orL l), []) := by
 refine W_eq (g105 rfl ?_)
 (repeat' (first | with_reducible refine zab ?_ | simp only [go_sem, J0, reduceIte, reduceCtorEq, Ja, Jb, Jc, Jd, Je, Jf, Jg, Jh, Ji, Jj, Jk, Jl, Jm, Jn, Jo, Jp, Jq, Jr, Js, a105]))
 refine zag (ι := Nat) (fun i => [.i .i64 0, .sl k 1 (l.map fun a => [.i .i64 a]), .i .i64 l.length, .i .i64 i]) (fun i => i ≤ l.length ∧ orL (l.drop i) = orL l) (fun i => l.length - i) 0 rfl ⟨by omega, rfl⟩ ?_
 rintro i ⟨hi, hT⟩
 by_cases hlt : i < l.length
 · obtain ⟨a, ga⟩ := zbj hlt
   have hT' := hT
   rw [za4 ga] at hT'
   simp only [orL] at hT'
   have g1 : decide ((i : Int) < (l.length : Int)) = true := decide_eq_true (by omega)
   have b1 : (0 : Int) ≤ (i : Int) := by omega
   have hw := wrap_succ (k := i) (by omega)
   by_cases hz : a = 0
   · subst hz
     rw [show first0 0 (orL (l.drop (i + 1))) = orL (l.drop (i + 1)) from if_neg (by simp)] at hT'
     (repeat' (first | with_reducible refine zab ?_ | simp only [go_sem, J0, reduceIte, reduceCtorEq, Ja, Jb, Jc, Jd, Je, Jf, Jg, Jh, Ji, Jj, Jk, Jl, Jm, Jn, Jo, Jp, Jq, Jr, Js, g1, b1, ga, hw]))
     exact ⟨i + 1, rfl, ⟨by omega, hT'⟩, by omega⟩
   · have g2 : decide (¬ a = 0) = true := decide_eq_true hz
     rw [show first0 a (orL (l.drop (i + 1))) = a from if_pos hz] at hT'
     (repeat' (first | with_reducible refine zab ?_ | simp only [go_sem, J0, reduceIte, reduceCtorEq, Ja, Jb, Jc, Jd, Je, Jf, Jg, Jh, Ji, Jj, Jk, Jl, Jm, Jn, Jo, Jp, Jq, Jr, Js, g1, b1, ga, g2]))
     rw [← hT']
 · have g1 : decide ((i : Int) < (l.length : Int)) = false := decide_eq_false (by omega)
   rw [List.drop_of_length_le (by omega)] at hT
   (repeat' (first | with_reducible refine zab ?_ | simp only [go_sem, J0, reduceIte, reduceCtorEq, Ja, Jb, Jc, Jd, Je, Jf, Jg, Jh, Ji, Jj, Jk, Jl, Jm, Jn, Jo, Jp, Jq, Jr, Js, g1]))
   rw [← hT]; rfl
def z03 (m : Nat) : Prop := ∀ (a b : Vl), a.size ≤ m → a.ok → b.ok → acall S 92 [.agg a.c, .agg b.c] = some (.i .i64 (cmpV a.p b.p), [])
theorem e109 {m : Nat} (ih : z03 m) {k k' : SK} {z z' : Nat} {l l' : List Vl} (h : OkS k z 4 l) (h' : OkS k' z' 4 l') (hl : l.length ≤ 137438953472) (hl' : l'.length ≤ 137438953472)
   (hs : Vl.sizes l ≤ m) (ho : Vl.oks l) (ho' : Vl.oks l') :
   acall S 109 [.sl k z (l.map Vl.c), .sl k' z' (l'.map Vl.c), .fn 92 []] = some (.i .i64 (cmpL (Vl.ps l) (Vl.ps l')), []) := by
 refine W_eq (g109 rfl ?_)
 (repeat' (first | with_reducible refine zab ?_ | simp only [go_sem, J0, reduceIte, reduceCtorEq, Ja, Jb, Jc, Jd, Je, Jf, Jg, Jh, Ji, Jj, Jk, Jl, Jm, Jn, Jo, Jp, Jq, Jr, Js, a109]))
 refine zag (ι := Nat) (fun i => [.sl k z (l.map Vl.c), .sl k' z' (l'.map Vl.c), .fn 92 [], .sl k z (l.map Vl.c), .i .i64 l.length, .i .i64 i])
   (fun i => i ≤ l.length ∧ i ≤ l'.length ∧ cmpL (Vl.ps (l.drop i)) (Vl.ps (l'.drop i)) = cmpL (Vl.ps l) (Vl.ps l')) (fun i => l.length - i) 0 rfl ⟨by omega, by omega, rfl⟩ ?_
 rintro i ⟨i1, i2, hT⟩
 by_cases hla : i < l.length
 · obtain ⟨c, gc⟩ := zbj hla
   have g1 : decide ((i : Int) < (l.length : Int)) = true := decide_eq_true (by omega)
   have b1 : (0 : Int) ≤ (i : Int) := by omega
   have hw := wrap_succ (k := i) (by omega)
   by_cases hlb : i < l'.length
   · obtain ⟨d, gd⟩ := zbj hlb
     have g2 : decide ((l'.length : Int) ≤ (i : Int)) = false := decide_eq_false (by omega)
     rw [za4 gc, za4 gd] at hT
     simp only [Vl.ps, cmpL] at hT
     have hcs := Vl.size_get gc
     have er := ih c d (by omega) (Vl.oks_get ho gc) (Vl.oks_get ho' gd)
     obtain ⟨ck, cn, cs, ckk, cz, cl⟩ := c
     obtain ⟨dk, dn, ds, dkk, dz, dl⟩ := d
     simp only [Vl.c, Vl.cs_map] at er
     by_cases hz : cmpV (Vl.p (.mk ck cn cs ckk cz cl)) (Vl.p (.mk dk dn ds dkk dz dl)) = 0
     · have q3 : decide (¬ cmpV (Vl.p (.mk ck cn cs ckk cz cl)) (Vl.p (.mk dk dn ds dkk dz dl)) = 0) = false := decide_eq_false (by simpa using hz)
       rw [show ∀ q, first0 (cmpV (Vl.p (.mk ck cn cs ckk cz cl)) (Vl.p (.mk dk dn ds dkk dz dl))) q = q from fun q => if_neg (by simpa using hz)] at hT
       (repeat' (first | with_reducible refine zab ?_ | simp only [go_sem, J0, reduceIte, reduceCtorEq, Ja, Jb, Jc, Jd, Je, Jf, Jg, Jh, Ji, Jj, Jk, Jl, Jm, Jn, Jo, Jp, Jq, Jr, Js, g1, b1, g2, gc, gd, h.1, h'.1, Vl.c, Vl.cs_map, s92, er, q3, hw]))
       exact ⟨i + 1, rfl, ⟨by omega, by omega, hT⟩, by omega⟩
     · have q3 : decide (¬ cmpV (Vl.p (.mk ck cn cs ckk cz cl)) (Vl.p (.mk dk dn ds dkk dz dl)) = 0) = true := decide_eq_true hz
       rw [show ∀ q, first0 (cmpV (Vl.p (.mk ck cn cs ckk cz cl)) (Vl.p (.mk dk dn ds dkk dz dl))) q = cmpV (Vl.p (.mk ck cn cs ckk cz cl)) (Vl.p (.mk dk dn ds dkk dz dl)) from fun q => if_pos hz] at hT
       (repeat' (first | with_reducible refine zab ?_ | simp only [go_sem, J0, reduceIte, reduceCtorEq, Ja, Jb, Jc, Jd, Je, Jf, Jg, Jh, Ji, Jj, Jk, Jl, Jm, Jn, Jo, Jp, Jq, Jr, Js, g1, b1, g2, gc, gd, h.1, h'.1, Vl.c, Vl.cs_map, s92, er, q3]))
       rw [hT]
   · have g2 : decide ((l'.length : Int) ≤ (i : Int)) = true := decide_eq_true (by omega)
     have hend := znl (x := l) (y := l') (i := i) (by omega) i1 i2
     rw [hT, show cmpI (l.length : Int) (l'.length : Int) = 1 by unfold cmpI; rw [if_neg (by omega), if_pos (by omega)]] at hend
     obtain ⟨ck, cn, cs, ckk, cz, cl⟩ := c
     (repeat' (first | with_reducible refine zab ?_ | simp only [go_sem, J0, reduceIte, reduceCtorEq, Ja, Jb, Jc, Jd, Je, Jf, Jg, Jh, Ji, Jj, Jk, Jl, Jm, Jn, Jo, Jp, Jq, Jr, Js, g1, b1, g2, gc, h.1, Vl.c, Vl.cs_map]))
     rw [← hend]
 · have g1 : decide ((i : Int) < (l.length : Int)) = false := decide_eq_false (by omega)
   have hend := znl (x := l) (y := l') (i := i) (by omega) i1 i2
   rw [hT] at hend
   by_cases hx : l.length < l'.length
   · have g2 : decide ((l.length : Int) < (l'.length : Int)) = true := decide_eq_true (by omega)
     rw [show cmpI (l.length : Int) (l'.length : Int) = -1 by unfold cmpI; rw [if_pos (by omega)]] at hend
     (repeat' (first | with_reducible refine zab ?_ | simp only [go_sem, J0, reduceIte, reduceCtorEq, Ja, Jb, Jc, Jd, Je, Jf, Jg, Jh, Ji, Jj, Jk, Jl, Jm, Jn, Jo, Jp, Jq, Jr, Js, g1, g2]))
     rw [← hend]
   · have g2 : decide ((l.length : Int) < (l'.length : Int)) = false := decide_eq_false (by omega)
     rw [show cmpI (l.length : Int) (l'.length : Int) = 0 by unfold cmpI; rw [if_neg (by omega), if_neg (by omega)]] at hend
     (repeat' (first | with_reducible refine zab ?_ | simp only [go_sem, J0, reduceIte, reduceCtorEq, Ja, Jb, Jc, Jd, Je, Jf, Jg, Jh, Ji, Jj, Jk, Jl, Jm, Jn, Jo, Jp, Jq, Jr, Js, g1, g2]))
     rw [← hend]
theorem zwz {m : Nat} (ih : z03 m) (k n : Int) (s : List UInt8) (sk : SK) (z : Nat) (l : List Vl) (k' n' : Int) (s' : List UInt8) (sk' : SK) (z' : Nat) (l' : List Vl) (hm : Vl.sizes l ≤ m) (ha : (Vl.mk k n s sk z l).ok) (hb : (Vl.mk k' n' s' sk' z' l').ok) :
   acall S 92 [.agg (Vl.mk k n s sk z l).c, .agg (Vl.mk k' n' s' sk' z' l').c] = some (.i .i64 (cmpV (Vl.mk k n s sk z l).p (Vl.mk k' n' s' sk' z' l').p), []) := by
 obtain ⟨hs, hl, hok, hall⟩ := ha
 obtain ⟨hs', hl', hok', hall'⟩ := hb
 have e1 := e106 k k'
 have e2 := e107 n n'
 have e3 := e108 s s'
 have e4 := e109 ih hok hok' hl hl' hm hall hall'
 have e5 := e105 .open_ [cmpI k k', cmpI n n', Go.Lib.compareBytes s s', cmpL (Vl.ps l) (Vl.ps l')] (by simp)
 simp only [List.map_cons, List.map_nil] at e5
 have hor : orL [cmpI k k', cmpI n n', Go.Lib.compareBytes s s', cmpL (Vl.ps l) (Vl.ps l')] = cmpV (Vl.mk k n s sk z l).p (Vl.mk k' n' s' sk' z' l').p := by
   simp only [Vl.p, cmpV, orL]
   congr 3
   unfold first0
   split <;> simp_all
 rw [hor] at e5
 refine W_eq (g92 rfl ?_)
 (repeat' (first | with_reducible refine zab ?_ | simp only [go_sem, J0, reduceIte, reduceCtorEq, Ja, Jb, Jc, Jd, Je, Jf, Jg, Jh, Ji, Jj, Jk, Jl, Jm, Jn, Jo, Jp, Jq, Jr, Js, a92, Vl.c, Vl.cs_map, s106, s107, s108, s109, s105, e1, e2, e3, e4, e5]))
theorem z5r : ∀ m, z03 m
 | 0 => fun v _ hm _ _ => by cases v; simp [Vl.size] at hm
 | m + 1 => fun v u hm ho hu => by
   obtain ⟨k, n, s, sk, z, l⟩ := v
   obtain ⟨k', n', s', sk', z', l'⟩ := u
   simp only [Vl.size] at hm
   exact zwz (z5r m) _ _ _ _ _ _ _ _ _ _ _ _ (by omega) ho hu
theorem e92 (a b : Vl) (ha : a.ok) (hb : b.ok) : acall S 92 [.agg a.c, .agg b.c] = some (.i .i64 (cmpV a.p b.p), []) := z5r a.size a b (Nat.le_refl _) ha hb
end
section
def zft : List PV → Bool
 | a :: x :: b :: r => !decide (0 ≤ cmpV a b) && zft (b :: r)
 | _ => true
mutual
def mayV : PV → Nat → Bool
 | .mk k n s l, d =>
   if (8 : Int) ≤ (d : Int) then false
   else if k = 1 then decide (s = []) && decide ((l.length : Int) = 0)
   else if k = 3 then decide (s = []) && decide ((l.length : Int) = 0) && (decide (n = 0) || decide (n = 1))
   else if k = 6 ∨ k = 7 then decide (s = []) && decide ((l.length : Int) = 0) && decide (1 ≤ n) && decide (n ≤ 281474976710656)
   else if k = 2 then decide (n = 0) && decide ((l.length : Int) = 0) && decide ((s.length : Int) ≤ 128)
   else if k = 4 then decide (n = 0) && decide (s = []) && decide ((l.length : Int) ≤ 256) && allV l (d + 1)
   else if k = 5 then decide (n = 0) && decide (s = []) && decide ((l.length : Int) ≤ 512) && decide (((l.length : Int)).tmod 2 = 0) && allV l (d + 1) && zft l
   else false
def allV : List PV → Nat → Bool
 | [], _ => true
 | v :: r, d => mayV v d && allV r d
end
def zg8 (c : Int) : Bool := decide (c = 95) || (decide (97 ≤ c) && decide (c ≤ 122)) || (decide (65 ≤ c) && decide (c ≤ 90))
def zlb (c : Int) : Bool := zg8 c || (decide (48 ≤ c) && decide (c ≤ 57))
def zi3 (s : List UInt8) : Bool := s.all fun c => zlb c.toNat
def zox (s : List UInt8) : Bool := !(decide (s = []) || decide ((24 : Int) < (s.length : Int)) || !zg8 ((s.headD 0).toNat : Int)) && zi3 s
theorem Vl.ps_length (l : List Vl) : (Vl.ps l).length = l.length := by rw [Vl.ps_map, List.length_map]
end
section
theorem zlo {l : List Vl} {i : Nat} {a b : Vl} (ha : l[i]? = some a) (hb : l[i + 2]? = some b) : zft (Vl.ps (l.drop i)) = (!decide (0 ≤ cmpV a.p b.p) && zft (Vl.ps (l.drop (i + 2)))) := by
 obtain ⟨hl, _⟩ := List.getElem?_eq_some_iff.1 hb
 obtain ⟨x, hx⟩ := zbj (show i + 1 < l.length by omega)
 rw [za4 ha, za4 hx, za4 hb]
 simp only [Vl.ps, zft]
theorem zob {l : List Vl} {i : Nat} (h : l.length ≤ i + 2) : zft (Vl.ps (l.drop i)) = true := by
 have : (l.drop i).length ≤ 2 := by rw [List.length_drop]; omega
 match l.drop i, this with
 | [], _ => rfl
 | [a], _ => rfl
 | [a, b], _ => rfl
 | _ :: _ :: _ :: _, h => simp at h
theorem zqh {k : Nat} (h : k < 4611686018427387904) : IntKind.i64.wrap ((k : Int) + 2) = ((k + 2 : Nat) : Int) := by
 simp [IntKind.wrap, IntKind.bits, IntKind.signed]
 omega
theorem zoz {k : Nat} (h : k < 4611686018427387904) (h2 : 2 ≤ k) : IntKind.i64.wrap ((k : Int) - 2) = ((k - 2 : Nat) : Int) := by
 simp [IntKind.wrap, IntKind.bits, IntKind.signed]
 omega
theorem e100 {k : SK} {z : Nat} {l : List Vl} (h : OkS k z 4 l) (hl : l.length ≤ 137438953472) (ho : ∀ x ∈ l, x.ok) : acall S 100 [.sl k z (l.map Vl.c)] = some (.b (zft (Vl.ps l)), []) := by
 refine W_eq (g100 rfl ?_)
 (repeat' (first | with_reducible refine zab ?_ | simp only [go_sem, J0, reduceIte, reduceCtorEq, Ja, Jb, Jc, Jd, Je, Jf, Jg, Jh, Ji, Jj, Jk, Jl, Jm, Jn, Jo, Jp, Jq, Jr, Js, a100]))
 refine zag (ι := Nat) (fun i => [.sl k z (l.map Vl.c), .i .i64 i]) (fun i => 2 ≤ i ∧ i - 2 ≤ l.length ∧ zft (Vl.ps (l.drop (i - 2))) = zft (Vl.ps l)) (fun i => l.length + 2 - i) 2 rfl ⟨by omega, by omega, rfl⟩ ?_
 rintro i ⟨h2, hi, hT⟩
 by_cases hlt : i < l.length
 · obtain ⟨a, ga⟩ := zbj (show i - 2 < l.length by omega)
   obtain ⟨b, gb⟩ := zbj hlt
   have gb' : l[i - 2 + 2]? = some b := by rw [show i - 2 + 2 = i by omega]; exact gb
   have hT' := hT
   rw [zlo ga gb', show i - 2 + 2 = i by omega] at hT'
   have g1 : decide ((i : Int) < (l.length : Int)) = true := decide_eq_true (by omega)
   have b1 : (0 : Int) ≤ (i : Int) := by omega
   have b2 : (0 : Int) ≤ ((i - 2 : Nat) : Int) := by omega
   have hw := zqh (k := i) (by omega)
   have hw2 := zoz (k := i) (by omega) h2
   have ec := e110 a b (ho a (List.mem_of_getElem? ga)) (ho b (List.mem_of_getElem? gb))
   obtain ⟨ck, cn, cs, ckk, cz, cl⟩ := a
   obtain ⟨dk, dn, ds, dkk, dz, dl⟩ := b
   simp only [Vl.c, Vl.cs_map] at ec
   by_cases hc : 0 ≤ cmpV (Vl.p (.mk ck cn cs ckk cz cl)) (Vl.p (.mk dk dn ds dkk dz dl))
   · have g3 := decide_eq_true hc
     rw [g3] at hT'
     (repeat' (first | with_reducible refine zab ?_ | simp only [go_sem, J0, reduceIte, reduceCtorEq, Ja, Jb, Jc, Jd, Je, Jf, Jg, Jh, Ji, Jj, Jk, Jl, Jm, Jn, Jo, Jp, Jq, Jr, Js, g1, b1, b2, ga, gb, hw2, h.1, Vl.c, Vl.cs_map, ec, s110, g3]))
     rw [← hT']; rfl
   · have g3 := decide_eq_false hc
     rw [g3] at hT'
     (repeat' (first | with_reducible refine zab ?_ | simp only [go_sem, J0, reduceIte, reduceCtorEq, Ja, Jb, Jc, Jd, Je, Jf, Jg, Jh, Ji, Jj, Jk, Jl, Jm, Jn, Jo, Jp, Jq, Jr, Js, g1, b1, b2, ga, gb, hw2, h.1, Vl.c, Vl.cs_map, ec, s110, g3, hw]))
     exact ⟨i + 2, rfl, ⟨by omega, by omega, by simpa using hT'⟩, by omega⟩
 · have g1 : decide ((i : Int) < (l.length : Int)) = false := decide_eq_false (by omega)
   rw [zob (by omega)] at hT
   (repeat' (first | with_reducible refine zab ?_ | simp only [go_sem, J0, reduceIte, reduceCtorEq, Ja, Jb, Jc, Jd, Je, Jf, Jg, Jh, Ji, Jj, Jk, Jl, Jm, Jn, Jo, Jp, Jq, Jr, Js, g1]))
   rw [← hT]
end
section
def zzh (m : Nat) : Prop := ∀ (v : Vl) (d : Nat), v.size ≤ m → v.ok → d ≤ 8 → acall S 84 [.agg v.c, .i .i64 d] = some (.b (mayV v.p d), [])
theorem e99 {m : Nat} (ih : zzh m) {k : SK} {z : Nat} {l : List Vl} (h : OkS k z 4 l) (hl : l.length ≤ 137438953472) (hs : ∀ x ∈ l, x.size ≤ m) (ho : ∀ x ∈ l, x.ok) (d : Nat) (hd : d < 8) :
   acall S 99 [.sl k z (l.map Vl.c), .i .i64 d] = some (.b (allV (Vl.ps l) (d + 1)), []) := by
 refine W_eq (g99 rfl ?_)
 (repeat' (first | with_reducible refine zab ?_ | simp only [go_sem, J0, reduceIte, reduceCtorEq, Ja, Jb, Jc, Jd, Je, Jf, Jg, Jh, Ji, Jj, Jk, Jl, Jm, Jn, Jo, Jp, Jq, Jr, Js, a99]))
 refine zag (ι := Nat) (fun i => [.sl k z (l.map Vl.c), .i .i64 d, .i .i64 i]) (fun i => i ≤ l.length ∧ allV (Vl.ps (l.drop i)) (d + 1) = allV (Vl.ps l) (d + 1)) (fun i => l.length - i) 0 rfl ⟨by omega, rfl⟩ ?_
 rintro i ⟨hi, hT⟩
 by_cases hlt : i < l.length
 · obtain ⟨a, ga⟩ := zbj hlt
   have hT' := hT
   rw [za4 ga] at hT'
   simp only [Vl.ps, allV] at hT'
   have g1 : decide ((i : Int) < (l.length : Int)) = true := decide_eq_true (by omega)
   have b1 : (0 : Int) ≤ (i : Int) := by omega
   have hw := wrap_succ (k := i) (by omega)
   have hwd := wrap_succ (k := d) (by omega)
   have ec := ih a (d + 1) (hs a (List.mem_of_getElem? ga)) (ho a (List.mem_of_getElem? ga)) (by omega)
   obtain ⟨ck, cn, cs, ckk, cz, cl⟩ := a
   simp only [Vl.c, Vl.cs_map] at ec
   cases hc : mayV (Vl.p (.mk ck cn cs ckk cz cl)) (d + 1) with
   | true =>
     rw [hc] at ec hT'
     (repeat' (first | with_reducible refine zab ?_ | simp only [go_sem, J0, reduceIte, reduceCtorEq, Ja, Jb, Jc, Jd, Je, Jf, Jg, Jh, Ji, Jj, Jk, Jl, Jm, Jn, Jo, Jp, Jq, Jr, Js, g1, b1, ga, h.1, Vl.c, Vl.cs_map, hwd, ec, s84, hw]))
     exact ⟨i + 1, rfl, ⟨by omega, by simpa using hT'⟩, by omega⟩
   | false =>
     rw [hc] at ec hT'
     (repeat' (first | with_reducible refine zab ?_ | simp only [go_sem, J0, reduceIte, reduceCtorEq, Ja, Jb, Jc, Jd, Je, Jf, Jg, Jh, Ji, Jj, Jk, Jl, Jm, Jn, Jo, Jp, Jq, Jr, Js, g1, b1, ga, h.1, Vl.c, Vl.cs_map, hwd, ec, s84]))
     rw [← hT']; rfl
 · have g1 : decide ((i : Int) < (l.length : Int)) = false := decide_eq_false (by omega)
   rw [List.drop_of_length_le (by omega)] at hT
   (repeat' (first | with_reducible refine zab ?_ | simp only [go_sem, J0, reduceIte, reduceCtorEq, Ja, Jb, Jc, Jd, Je, Jf, Jg, Jh, Ji, Jj, Jk, Jl, Jm, Jn, Jo, Jp, Jq, Jr, Js, g1]))
   rw [← hT]; rfl
theorem zwj {m : Nat} (ih : zzh m) (k n : Int) (s : List UInt8) (sk : SK) (z : Nat) (l : List Vl) (d : Nat) (hm : Vl.sizes l ≤ m) (ho : (Vl.mk k n s sk z l).ok) (hd : d ≤ 8) :
   acall S 84 [.agg (Vl.mk k n s sk z l).c, .i .i64 d] = some (.b (mayV (Vl.mk k n s sk z l).p d), []) := by
 obtain ⟨hs, hl, hok, hall⟩ := ho
 have hlen := Vl.ps_length l
 have hso : ∀ x ∈ l, x.size ≤ m := fun x hx => by
   obtain ⟨i, hi⟩ := List.getElem?_of_mem hx
   have := Vl.size_get hi
   omega
 have er := e100 hok hl ((Vl.oks_iff l).1 hall)
 refine W_eq (g84 rfl ?_)
 simp only [Vl.p, mayV, hlen]
 by_cases h8 : (8 : Int) ≤ (d : Int)
 · rw [if_pos h8]
   have g8 := decide_eq_true h8
   (repeat' (first | with_reducible refine zab ?_ | simp only [go_sem, J0, reduceIte, reduceCtorEq, Ja, Jb, Jc, Jd, Je, Jf, Jg, Jh, Ji, Jj, Jk, Jl, Jm, Jn, Jo, Jp, Jq, Jr, Js, a84, Vl.c, Vl.cs_map, g8]))
 have g8 := decide_eq_false h8
 have el := e99 ih hok hl hso ((Vl.oks_iff l).1 hall) d (by omega)
 rw [if_neg h8]
 by_cases k1 : k = 1
 · subst k1
   rw [if_pos rfl]
   (simp only [go_sem, J0, reduceIte, reduceCtorEq, Ja, Jb, Jc, Jd, Je, Jf, Jg, Jh, Ji, Jj, Jk, Jl, Jm, Jn, Jo, Jp, Jq, Jr, Js, a84, Vl.c, Vl.cs_map, g8]; repeat' (first | (first | refine zbc (fun hh => ?_) (fun hh => ?_) | refine zbp (fun hh => ?_) (fun hh => ?_) | refine zbs (fun hh => ?_) (fun hh => ?_) | refine zco (fun hh => ?_) (fun hh => ?_) | refine za9 (fun hh => ?_) (fun hh => ?_) | refine zbr (fun hh => ?_) (fun hh => ?_) | refine zbt (fun hh => ?_) (fun hh => ?_) | refine zbb (fun hh => ?_) (fun hh => ?_) | refine za7 (fun hh => ?_) (fun hh => ?_) | refine za1 (fun hh => ?_) (fun hh => ?_)) <;> (try simp only [go_sem, J0, reduceIte, reduceCtorEq, Ja, Jb, Jc, Jd, Je, Jf, Jg, Jh, Ji, Jj, Jk, Jl, Jm, Jn, Jo, Jp, Jq, Jr, Js, a84, Vl.c, Vl.cs_map, g8, hh]) | (first | refine zbd (by omega) ?_ | refine za0 (by omega) ?_ | refine zaq (by omega) ?_ | refine zao (by omega) ?_ | refine zbo (by omega) ?_ | refine zba (by omega) ?_ | refine za8 (by omega) ?_ | refine zaz (by omega) ?_ | refine zbq (by omega) ?_ | refine zab ?_ | refine zan ?_ | refine zap ?_ | refine zak ?_) <;> (try simp only [go_sem, J0, reduceIte, reduceCtorEq, Ja, Jb, Jc, Jd, Je, Jf, Jg, Jh, Ji, Jj, Jk, Jl, Jm, Jn, Jo, Jp, Jq, Jr, Js, a84, Vl.c, Vl.cs_map, g8]) | (show @Eq Nat _ _; omega) | (show @LE.le Nat _ _ _; omega)))
   all_goals (first | (refine leafb ?_; simp only [decide_eq_true_eq, decide_eq_false_iff_not, Bool.or_eq_true, Bool.and_eq_true, Bool.or_eq_false_iff, Bool.and_eq_false_iff, Bool.not_eq_true', Bool.not_eq_false', Bool.not_eq_true, Bool.not_eq_false, Bool.false_eq_true, Bool.true_eq_false, iff_true, true_iff, iff_false, false_iff, not_false_eq_true, not_true_eq_false, decide_not] at *; omega) | (simp_all; done) | (simp_all <;> omega))
 rw [if_neg k1]
 have q1 := decide_eq_false k1
 by_cases k3 : k = 3
 · subst k3
   rw [if_pos rfl]
   (simp only [go_sem, J0, reduceIte, reduceCtorEq, Ja, Jb, Jc, Jd, Je, Jf, Jg, Jh, Ji, Jj, Jk, Jl, Jm, Jn, Jo, Jp, Jq, Jr, Js, a84, Vl.c, Vl.cs_map, g8, q1]; repeat' (first | (first | refine zbc (fun hh => ?_) (fun hh => ?_) | refine zbp (fun hh => ?_) (fun hh => ?_) | refine zbs (fun hh => ?_) (fun hh => ?_) | refine zco (fun hh => ?_) (fun hh => ?_) | refine za9 (fun hh => ?_) (fun hh => ?_) | refine zbr (fun hh => ?_) (fun hh => ?_) | refine zbt (fun hh => ?_) (fun hh => ?_) | refine zbb (fun hh => ?_) (fun hh => ?_) | refine za7 (fun hh => ?_) (fun hh => ?_) | refine za1 (fun hh => ?_) (fun hh => ?_)) <;> (try simp only [go_sem, J0, reduceIte, reduceCtorEq, Ja, Jb, Jc, Jd, Je, Jf, Jg, Jh, Ji, Jj, Jk, Jl, Jm, Jn, Jo, Jp, Jq, Jr, Js, a84, Vl.c, Vl.cs_map, g8, q1, hh]) | (first | refine zbd (by omega) ?_ | refine za0 (by omega) ?_ | refine zaq (by omega) ?_ | refine zao (by omega) ?_ | refine zbo (by omega) ?_ | refine zba (by omega) ?_ | refine za8 (by omega) ?_ | refine zaz (by omega) ?_ | refine zbq (by omega) ?_ | refine zab ?_ | refine zan ?_ | refine zap ?_ | refine zak ?_) <;> (try simp only [go_sem, J0, reduceIte, reduceCtorEq, Ja, Jb, Jc, Jd, Je, Jf, Jg, Jh, Ji, Jj, Jk, Jl, Jm, Jn, Jo, Jp, Jq, Jr, Js, a84, Vl.c, Vl.cs_map, g8, q1]) | (show @Eq Nat _ _; omega) | (show @LE.le Nat _ _ _; omega)))
   all_goals (first | (refine leafb ?_; simp only [decide_eq_true_eq, decide_eq_false_iff_not, Bool.or_eq_true, Bool.and_eq_true, Bool.or_eq_false_iff, Bool.and_eq_false_iff, Bool.not_eq_true', Bool.not_eq_false', Bool.not_eq_true, Bool.not_eq_false, Bool.false_eq_true, Bool.true_eq_false, iff_true, true_iff, iff_false, false_iff, not_false_eq_true, not_true_eq_false, decide_not] at *; omega) | (simp_all; done) | (simp_all <;> omega))
 rw [if_neg k3]
 have q3 := decide_eq_false k3
 by_cases k6 : k = 6
 · subst k6
   rw [if_pos (.inl rfl)]
   (simp only [go_sem, J0, reduceIte, reduceCtorEq, Ja, Jb, Jc, Jd, Je, Jf, Jg, Jh, Ji, Jj, Jk, Jl, Jm, Jn, Jo, Jp, Jq, Jr, Js, a84, Vl.c, Vl.cs_map, g8, q1, q3]; repeat' (first | (first | refine zbc (fun hh => ?_) (fun hh => ?_) | refine zbp (fun hh => ?_) (fun hh => ?_) | refine zbs (fun hh => ?_) (fun hh => ?_) | refine zco (fun hh => ?_) (fun hh => ?_) | refine za9 (fun hh => ?_) (fun hh => ?_) | refine zbr (fun hh => ?_) (fun hh => ?_) | refine zbt (fun hh => ?_) (fun hh => ?_) | refine zbb (fun hh => ?_) (fun hh => ?_) | refine za7 (fun hh => ?_) (fun hh => ?_) | refine za1 (fun hh => ?_) (fun hh => ?_)) <;> (try simp only [go_sem, J0, reduceIte, reduceCtorEq, Ja, Jb, Jc, Jd, Je, Jf, Jg, Jh, Ji, Jj, Jk, Jl, Jm, Jn, Jo, Jp, Jq, Jr, Js, a84, Vl.c, Vl.cs_map, g8, q1, q3, hh]) | (first | refine zbd (by omega) ?_ | refine za0 (by omega) ?_ | refine zaq (by omega) ?_ | refine zao (by omega) ?_ | refine zbo (by omega) ?_ | refine zba (by omega) ?_ | refine za8 (by omega) ?_ | refine zaz (by omega) ?_ | refine zbq (by omega) ?_ | refine zab ?_ | refine zan ?_ | refine zap ?_ | refine zak ?_) <;> (try simp only [go_sem, J0, reduceIte, reduceCtorEq, Ja, Jb, Jc, Jd, Je, Jf, Jg, Jh, Ji, Jj, Jk, Jl, Jm, Jn, Jo, Jp, Jq, Jr, Js, a84, Vl.c, Vl.cs_map, g8, q1, q3]) | (show @Eq Nat _ _; omega) | (show @LE.le Nat _ _ _; omega)))
   all_goals (first | (refine leafb ?_; simp only [decide_eq_true_eq, decide_eq_false_iff_not, Bool.or_eq_true, Bool.and_eq_true, Bool.or_eq_false_iff, Bool.and_eq_false_iff, Bool.not_eq_true', Bool.not_eq_false', Bool.not_eq_true, Bool.not_eq_false, Bool.false_eq_true, Bool.true_eq_false, iff_true, true_iff, iff_false, false_iff, not_false_eq_true, not_true_eq_false, decide_not] at *; omega) | (simp_all; done) | (simp_all <;> omega))
 have q6 := decide_eq_false k6
 by_cases k7 : k = 7
 · subst k7
   rw [if_pos (.inr rfl)]
   (simp only [go_sem, J0, reduceIte, reduceCtorEq, Ja, Jb, Jc, Jd, Je, Jf, Jg, Jh, Ji, Jj, Jk, Jl, Jm, Jn, Jo, Jp, Jq, Jr, Js, a84, Vl.c, Vl.cs_map, g8, q1, q3, q6]; repeat' (first | (first | refine zbc (fun hh => ?_) (fun hh => ?_) | refine zbp (fun hh => ?_) (fun hh => ?_) | refine zbs (fun hh => ?_) (fun hh => ?_) | refine zco (fun hh => ?_) (fun hh => ?_) | refine za9 (fun hh => ?_) (fun hh => ?_) | refine zbr (fun hh => ?_) (fun hh => ?_) | refine zbt (fun hh => ?_) (fun hh => ?_) | refine zbb (fun hh => ?_) (fun hh => ?_) | refine za7 (fun hh => ?_) (fun hh => ?_) | refine za1 (fun hh => ?_) (fun hh => ?_)) <;> (try simp only [go_sem, J0, reduceIte, reduceCtorEq, Ja, Jb, Jc, Jd, Je, Jf, Jg, Jh, Ji, Jj, Jk, Jl, Jm, Jn, Jo, Jp, Jq, Jr, Js, a84, Vl.c, Vl.cs_map, g8, q1, q3, q6, hh]) | (first | refine zbd (by omega) ?_ | refine za0 (by omega) ?_ | refine zaq (by omega) ?_ | refine zao (by omega) ?_ | refine zbo (by omega) ?_ | refine zba (by omega) ?_ | refine za8 (by omega) ?_ | refine zaz (by omega) ?_ | refine zbq (by omega) ?_ | refine zab ?_ | refine zan ?_ | refine zap ?_ | refine zak ?_) <;> (try simp only [go_sem, J0, reduceIte, reduceCtorEq, Ja, Jb, Jc, Jd, Je, Jf, Jg, Jh, Ji, Jj, Jk, Jl, Jm, Jn, Jo, Jp, Jq, Jr, Js, a84, Vl.c, Vl.cs_map, g8, q1, q3, q6]) | (show @Eq Nat _ _; omega) | (show @LE.le Nat _ _ _; omega)))
   all_goals (first | (refine leafb ?_; simp only [decide_eq_true_eq, decide_eq_false_iff_not, Bool.or_eq_true, Bool.and_eq_true, Bool.or_eq_false_iff, Bool.and_eq_false_iff, Bool.not_eq_true', Bool.not_eq_false', Bool.not_eq_true, Bool.not_eq_false, Bool.false_eq_true, Bool.true_eq_false, iff_true, true_iff, iff_false, false_iff, not_false_eq_true, not_true_eq_false, decide_not] at *; omega) | (simp_all; done) | (simp_all <;> omega))
 have q7 := decide_eq_false k7
 rw [if_neg (fun h => h.elim k6 k7)]
 by_cases k2 : k = 2
 · subst k2
   rw [if_pos rfl]
   (simp only [go_sem, J0, reduceIte, reduceCtorEq, Ja, Jb, Jc, Jd, Je, Jf, Jg, Jh, Ji, Jj, Jk, Jl, Jm, Jn, Jo, Jp, Jq, Jr, Js, a84, Vl.c, Vl.cs_map, g8, q1, q3, q6, q7]; repeat' (first | (first | refine zbc (fun hh => ?_) (fun hh => ?_) | refine zbp (fun hh => ?_) (fun hh => ?_) | refine zbs (fun hh => ?_) (fun hh => ?_) | refine zco (fun hh => ?_) (fun hh => ?_) | refine za9 (fun hh => ?_) (fun hh => ?_) | refine zbr (fun hh => ?_) (fun hh => ?_) | refine zbt (fun hh => ?_) (fun hh => ?_) | refine zbb (fun hh => ?_) (fun hh => ?_) | refine za7 (fun hh => ?_) (fun hh => ?_) | refine za1 (fun hh => ?_) (fun hh => ?_)) <;> (try simp only [go_sem, J0, reduceIte, reduceCtorEq, Ja, Jb, Jc, Jd, Je, Jf, Jg, Jh, Ji, Jj, Jk, Jl, Jm, Jn, Jo, Jp, Jq, Jr, Js, a84, Vl.c, Vl.cs_map, g8, q1, q3, q6, q7, hh]) | (first | refine zbd (by omega) ?_ | refine za0 (by omega) ?_ | refine zaq (by omega) ?_ | refine zao (by omega) ?_ | refine zbo (by omega) ?_ | refine zba (by omega) ?_ | refine za8 (by omega) ?_ | refine zaz (by omega) ?_ | refine zbq (by omega) ?_ | refine zab ?_ | refine zan ?_ | refine zap ?_ | refine zak ?_) <;> (try simp only [go_sem, J0, reduceIte, reduceCtorEq, Ja, Jb, Jc, Jd, Je, Jf, Jg, Jh, Ji, Jj, Jk, Jl, Jm, Jn, Jo, Jp, Jq, Jr, Js, a84, Vl.c, Vl.cs_map, g8, q1, q3, q6, q7]) | (show @Eq Nat _ _; omega) | (show @LE.le Nat _ _ _; omega)))
   all_goals (first | (refine leafb ?_; simp only [decide_eq_true_eq, decide_eq_false_iff_not, Bool.or_eq_true, Bool.and_eq_true, Bool.or_eq_false_iff, Bool.and_eq_false_iff, Bool.not_eq_true', Bool.not_eq_false', Bool.not_eq_true, Bool.not_eq_false, Bool.false_eq_true, Bool.true_eq_false, iff_true, true_iff, iff_false, false_iff, not_false_eq_true, not_true_eq_false, decide_not] at *; omega) | (simp_all; done) | (simp_all <;> omega))
 rw [if_neg k2]
 have q2 := decide_eq_false k2
 by_cases k4 : k = 4
 · subst k4
   rw [if_pos rfl]
   (simp only [go_sem, J0, reduceIte, reduceCtorEq, Ja, Jb, Jc, Jd, Je, Jf, Jg, Jh, Ji, Jj, Jk, Jl, Jm, Jn, Jo, Jp, Jq, Jr, Js, a84, Vl.c, Vl.cs_map, g8, q1, q3, q6, q7, q2, s99, el]; repeat' (first | (first | refine zbc (fun hh => ?_) (fun hh => ?_) | refine zbp (fun hh => ?_) (fun hh => ?_) | refine zbs (fun hh => ?_) (fun hh => ?_) | refine zco (fun hh => ?_) (fun hh => ?_) | refine za9 (fun hh => ?_) (fun hh => ?_) | refine zbr (fun hh => ?_) (fun hh => ?_) | refine zbt (fun hh => ?_) (fun hh => ?_) | refine zbb (fun hh => ?_) (fun hh => ?_) | refine za7 (fun hh => ?_) (fun hh => ?_) | refine za1 (fun hh => ?_) (fun hh => ?_)) <;> (try simp only [go_sem, J0, reduceIte, reduceCtorEq, Ja, Jb, Jc, Jd, Je, Jf, Jg, Jh, Ji, Jj, Jk, Jl, Jm, Jn, Jo, Jp, Jq, Jr, Js, a84, Vl.c, Vl.cs_map, g8, q1, q3, q6, q7, q2, s99, el, hh]) | (first | refine zbd (by omega) ?_ | refine za0 (by omega) ?_ | refine zaq (by omega) ?_ | refine zao (by omega) ?_ | refine zbo (by omega) ?_ | refine zba (by omega) ?_ | refine za8 (by omega) ?_ | refine zaz (by omega) ?_ | refine zbq (by omega) ?_ | refine zab ?_ | refine zan ?_ | refine zap ?_ | refine zak ?_) <;> (try simp only [go_sem, J0, reduceIte, reduceCtorEq, Ja, Jb, Jc, Jd, Je, Jf, Jg, Jh, Ji, Jj, Jk, Jl, Jm, Jn, Jo, Jp, Jq, Jr, Js, a84, Vl.c, Vl.cs_map, g8, q1, q3, q6, q7, q2, s99, el]) | (show @Eq Nat _ _; omega) | (show @LE.le Nat _ _ _; omega)))
   all_goals (first | (refine leafb ?_; simp only [decide_eq_true_eq, decide_eq_false_iff_not, Bool.or_eq_true, Bool.and_eq_true, Bool.or_eq_false_iff, Bool.and_eq_false_iff, Bool.not_eq_true', Bool.not_eq_false', Bool.not_eq_true, Bool.not_eq_false, Bool.false_eq_true, Bool.true_eq_false, iff_true, true_iff, iff_false, false_iff, not_false_eq_true, not_true_eq_false, decide_not] at *; omega) | (simp_all; done) | (simp_all <;> omega))
 rw [if_neg k4]
 have q4 := decide_eq_false k4
 by_cases k5 : k = 5
 · subst k5
   rw [if_pos rfl]
   (simp only [go_sem, J0, reduceIte, reduceCtorEq, Ja, Jb, Jc, Jd, Je, Jf, Jg, Jh, Ji, Jj, Jk, Jl, Jm, Jn, Jo, Jp, Jq, Jr, Js, a84, Vl.c, Vl.cs_map, g8, q1, q3, q6, q7, q2, q4, s99, el, s100, er]; repeat' (first | (first | refine zbc (fun hh => ?_) (fun hh => ?_) | refine zbp (fun hh => ?_) (fun hh => ?_) | refine zbs (fun hh => ?_) (fun hh => ?_) | refine zco (fun hh => ?_) (fun hh => ?_) | refine za9 (fun hh => ?_) (fun hh => ?_) | refine zbr (fun hh => ?_) (fun hh => ?_) | refine zbt (fun hh => ?_) (fun hh => ?_) | refine zbb (fun hh => ?_) (fun hh => ?_) | refine za7 (fun hh => ?_) (fun hh => ?_) | refine za1 (fun hh => ?_) (fun hh => ?_)) <;> (try simp only [go_sem, J0, reduceIte, reduceCtorEq, Ja, Jb, Jc, Jd, Je, Jf, Jg, Jh, Ji, Jj, Jk, Jl, Jm, Jn, Jo, Jp, Jq, Jr, Js, a84, Vl.c, Vl.cs_map, g8, q1, q3, q6, q7, q2, q4, s99, el, s100, er, hh]) | (first | refine zbd (by omega) ?_ | refine za0 (by omega) ?_ | refine zaq (by omega) ?_ | refine zao (by omega) ?_ | refine zbo (by omega) ?_ | refine zba (by omega) ?_ | refine za8 (by omega) ?_ | refine zaz (by omega) ?_ | refine zbq (by omega) ?_ | refine zab ?_ | refine zan ?_ | refine zap ?_ | refine zak ?_) <;> (try simp only [go_sem, J0, reduceIte, reduceCtorEq, Ja, Jb, Jc, Jd, Je, Jf, Jg, Jh, Ji, Jj, Jk, Jl, Jm, Jn, Jo, Jp, Jq, Jr, Js, a84, Vl.c, Vl.cs_map, g8, q1, q3, q6, q7, q2, q4, s99, el, s100, er]) | (show @Eq Nat _ _; omega) | (show @LE.le Nat _ _ _; omega)))
   all_goals (first | (refine leafb ?_; simp only [decide_eq_true_eq, decide_eq_false_iff_not, Bool.or_eq_true, Bool.and_eq_true, Bool.or_eq_false_iff, Bool.and_eq_false_iff, Bool.not_eq_true', Bool.not_eq_false', Bool.not_eq_true, Bool.not_eq_false, Bool.false_eq_true, Bool.true_eq_false, iff_true, true_iff, iff_false, false_iff, not_false_eq_true, not_true_eq_false, decide_not] at *; omega) | (simp_all; done) | (simp_all <;> omega))
 rw [if_neg k5]
 have q5 := decide_eq_false k5
 (repeat' (first | with_reducible refine zab ?_ | simp only [go_sem, J0, reduceIte, reduceCtorEq, Ja, Jb, Jc, Jd, Je, Jf, Jg, Jh, Ji, Jj, Jk, Jl, Jm, Jn, Jo, Jp, Jq, Jr, Js, a84, Vl.c, Vl.cs_map, g8, q1, q3, q6, q7, q2, q4, q5]))
theorem z6c : ∀ m, zzh m
 | 0 => fun v d hm _ _ => by cases v; simp [Vl.size] at hm
 | m + 1 => fun v d hm ho hd => by
   obtain ⟨k, n, s, sk, z, l⟩ := v
   simp only [Vl.size] at hm
   exact zwj (z6c m) k n s sk z l d (by omega) ho hd
theorem e60 (v : Vl) (ho : v.ok) : acall S 60 [.agg v.c] = some (.i .i64 (if mayV v.p 0 then 0 else 20), []) := by
 have em := z6c v.size v 0 (Nat.le_refl _) ho (by omega)
 obtain ⟨k, n, s, sk, z, l⟩ := v
 simp only [Vl.c, Vl.cs_map, Int.natCast_zero] at em ⊢
 refine W_eq (g60 rfl ?_)
 cases hc : mayV (Vl.mk k n s sk z l).p 0 with
 | true => rw [hc] at em; (repeat' (first | with_reducible refine zab ?_ | simp only [go_sem, J0, reduceIte, reduceCtorEq, Ja, Jb, Jc, Jd, Je, Jf, Jg, Jh, Ji, Jj, Jk, Jl, Jm, Jn, Jo, Jp, Jq, Jr, Js, a60, s84, em]))
 | false => rw [hc] at em; (repeat' (first | with_reducible refine zab ?_ | simp only [go_sem, J0, reduceIte, reduceCtorEq, Ja, Jb, Jc, Jd, Je, Jf, Jg, Jh, Ji, Jj, Jk, Jl, Jm, Jn, Jo, Jp, Jq, Jr, Js, a60, s84, em]))
end
section
def z1m (m : Nat) : Prop := ∀ (v : Vl) (d : Nat), v.size ≤ m → v.ok → d ≤ 8 → acall S 79 [.agg v.c, .i .i64 ((d + 1 : Nat) : Int)] = some (.b (mayV v.p d), [])
theorem e97 {m : Nat} (ih : z1m m) (v : Vl) (d : Nat) (hm : v.size ≤ m) (ho : v.ok) (hd : d < 8) : acall S 97 [.agg v.c, .ip [.i .i64 ((d + 1 : Nat) : Int)]] = some (.b (!mayV v.p (d + 1)), []) := by
 have e1 := ih v (d + 1) hm ho (by omega)
 have hw := wrap_succ (k := d + 1) (by omega)
 obtain ⟨k, n, s, sk, z, l⟩ := v
 simp only [Vl.c, Vl.cs_map] at e1 ⊢
 generalize hD : ((d + 1 : Nat) : Int) = D at *
 refine W_eq (g97 rfl ?_)
 (repeat' (first | with_reducible refine zab ?_ | simp only [go_sem, J0, reduceIte, reduceCtorEq, Ja, Jb, Jc, Jd, Je, Jf, Jg, Jh, Ji, Jj, Jk, Jl, Jm, Jn, Jo, Jp, Jq, Jr, Js, a97, s79, hw, e1]))
theorem z1j (l : List Vl) (d : Nat) : (l.any fun x => !mayV x.p d) = !allV (Vl.ps l) d := by
 induction l with
 | nil => rfl
 | cons v r ih =>
   simp only [List.any_cons, Vl.ps, allV, ih]
   cases mayV v.p d <;> rfl
theorem z1s (n : Int) (s : List UInt8) (sk : SK) (z : Nat) (l : List Vl) (d : Nat) (D : Int) (hl : l.length ≤ 137438953472) (hok : OkS sk z 4 l) (hall : Vl.oks l) (g8 : decide (8 < D) = false)
   (el : acall S 96 [.sl sk z (l.map Vl.c), .fn 97 [.ip [.i .i64 D]]] = some (.b (!allV (Vl.ps l) (d + 1)), [])) :
   kexec cx a79.body [] (kfin { pm := [], rm := none } a79.nparams a79.res (· = (.b (decide (n = 0) && decide (s = []) && decide ((l.length : Int) ≤ 512) && decide (((l.length : Int)).tmod 2 = 0) && allV (Vl.ps l) (d + 1) && zft (Vl.ps l)), [])))
     (zae 0 [.agg (Vl.mk 5 n s sk z l).c, .i .i64 D] [] []) := by
 cases hs : decide (s = []) <;> cases hb : decide ((l.length : Int) = 0)
 all_goals (
   have ht : ((l.length : Int)).tmod 2 = (l.length : Int) % 2 := Int.tmod_eq_emod_of_nonneg (by omega)
   rw [ht]
   by_cases hlen : (512 : Int) < (l.length : Int)
   · have g1 := decide_eq_true hlen
     have g2 : decide ((l.length : Int) ≤ 512) = false := decide_eq_false (by omega)
     simp only [g2, Bool.and_false, Bool.false_and]
     (repeat' (first | with_reducible refine zab ?_ | simp only [go_sem, J0, reduceIte, reduceCtorEq, Ja, Jb, Jc, Jd, Je, Jf, Jg, Jh, Ji, Jj, Jk, Jl, Jm, Jn, Jo, Jp, Jq, Jr, Js, a79, Vl.c, Vl.cs_map, g8, hs, hb, g1]))
   have g1 := decide_eq_false hlen
   have g2 : decide ((l.length : Int) ≤ 512) = true := decide_eq_true (by omega)
   simp only [g2, Bool.and_true]
   by_cases hp : (l.length : Int) % 2 = 1
   · have g3 := decide_eq_true hp
     have g4 : decide ((l.length : Int) % 2 = 0) = false := decide_eq_false (by omega)
     simp only [g4, Bool.and_false, Bool.false_and]
     (repeat' (first | with_reducible refine zab ?_ | simp only [go_sem, J0, reduceIte, reduceCtorEq, Ja, Jb, Jc, Jd, Je, Jf, Jg, Jh, Ji, Jj, Jk, Jl, Jm, Jn, Jo, Jp, Jq, Jr, Js, a79, Vl.c, Vl.cs_map, g8, hs, hb, g1, ht, g3]))
   have g3 := decide_eq_false hp
   have g4 : decide ((l.length : Int) % 2 = 0) = true := decide_eq_true (by omega)
   simp only [g4, Bool.and_true]
   (repeat' (first | with_reducible refine zab ?_ | simp only [go_sem, J0, reduceIte, reduceCtorEq, Ja, Jb, Jc, Jd, Je, Jf, Jg, Jh, Ji, Jj, Jk, Jl, Jm, Jn, Jo, Jp, Jq, Jr, Js, a79, Vl.c, Vl.cs_map, g8, hs, hb, g1, ht, g3]))
   refine zag (ι := Nat) (fun i => [.bx [.i .i64 5, .i .i64 n, .str s, .sl sk z (l.map Vl.c)], .bx [.i .i64 D], .i .i64 i]) (fun i => 2 ≤ i ∧ i - 2 ≤ l.length ∧ zft (Vl.ps (l.drop (i - 2))) = zft (Vl.ps l)) (fun i => l.length + 2 - i) 2 rfl ⟨by omega, by omega, rfl⟩ ?_
   rintro i ⟨h2, hi, hT⟩
   by_cases hlt : i < l.length
   · obtain ⟨a, ga⟩ := zbj (show i - 2 < l.length by omega)
     obtain ⟨b, gb⟩ := zbj hlt
     have gb' : l[i - 2 + 2]? = some b := by rw [show i - 2 + 2 = i by omega]; exact gb
     have hT' := hT
     rw [zlo ga gb', show i - 2 + 2 = i by omega] at hT'
     have r1 : decide ((i : Int) < (l.length : Int)) = true := decide_eq_true (by omega)
     have b1 : (0 : Int) ≤ (i : Int) := by omega
     have b2 : (0 : Int) ≤ ((i - 2 : Nat) : Int) := by omega
     have hw := zqh (k := i) (by omega)
     have hw2 := zoz (k := i) (by omega) h2
     have ec := e92 a b (Vl.oks_get hall ga) (Vl.oks_get hall gb)
     obtain ⟨ck, cn, cs, ckk, cz, cl⟩ := a
     obtain ⟨dk, dn, ds, dkk, dz, dl⟩ := b
     simp only [Vl.c, Vl.cs_map] at ec
     by_cases hc : 0 ≤ cmpV (Vl.p (.mk ck cn cs ckk cz cl)) (Vl.p (.mk dk dn ds dkk dz dl))
     · have r3 := decide_eq_true hc
       rw [r3] at hT'
       (repeat' (first | with_reducible refine zab ?_ | simp only [go_sem, J0, reduceIte, reduceCtorEq, Ja, Jb, Jc, Jd, Je, Jf, Jg, Jh, Ji, Jj, Jk, Jl, Jm, Jn, Jo, Jp, Jq, Jr, Js, r1, b1, b2, ga, gb, hw2, hok.1, Vl.c, Vl.cs_map, ec, s92, r3]))
       all_goals (try rw [← hT'])
       all_goals (try simp)
     · have r3 := decide_eq_false hc
       rw [r3] at hT'
       (repeat' (first | with_reducible refine zab ?_ | simp only [go_sem, J0, reduceIte, reduceCtorEq, Ja, Jb, Jc, Jd, Je, Jf, Jg, Jh, Ji, Jj, Jk, Jl, Jm, Jn, Jo, Jp, Jq, Jr, Js, r1, b1, b2, ga, gb, hw2, hok.1, Vl.c, Vl.cs_map, ec, s92, r3, hw]))
       exact ⟨i + 2, rfl, ⟨by omega, by omega, by simpa using hT'⟩, by omega⟩
   · have r1 : decide ((i : Int) < (l.length : Int)) = false := decide_eq_false (by omega)
     rw [zob (by omega)] at hT
     rw [← hT]
     (simp only [go_sem, J0, reduceIte, reduceCtorEq, Ja, Jb, Jc, Jd, Je, Jf, Jg, Jh, Ji, Jj, Jk, Jl, Jm, Jn, Jo, Jp, Jq, Jr, Js, r1, s96, el]; repeat' (first | (first | refine zbc (fun hh => ?_) (fun hh => ?_) | refine zbp (fun hh => ?_) (fun hh => ?_) | refine zbs (fun hh => ?_) (fun hh => ?_) | refine zco (fun hh => ?_) (fun hh => ?_) | refine za9 (fun hh => ?_) (fun hh => ?_) | refine zbr (fun hh => ?_) (fun hh => ?_) | refine zbt (fun hh => ?_) (fun hh => ?_) | refine zbb (fun hh => ?_) (fun hh => ?_) | refine za7 (fun hh => ?_) (fun hh => ?_) | refine za1 (fun hh => ?_) (fun hh => ?_)) <;> (try simp only [go_sem, J0, reduceIte, reduceCtorEq, Ja, Jb, Jc, Jd, Je, Jf, Jg, Jh, Ji, Jj, Jk, Jl, Jm, Jn, Jo, Jp, Jq, Jr, Js, r1, s96, el, hh]) | (first | refine zbd (by omega) ?_ | refine za0 (by omega) ?_ | refine zaq (by omega) ?_ | refine zao (by omega) ?_ | refine zbo (by omega) ?_ | refine zba (by omega) ?_ | refine za8 (by omega) ?_ | refine zaz (by omega) ?_ | refine zbq (by omega) ?_ | refine zab ?_ | refine zan ?_ | refine zap ?_ | refine zak ?_) <;> (try simp only [go_sem, J0, reduceIte, reduceCtorEq, Ja, Jb, Jc, Jd, Je, Jf, Jg, Jh, Ji, Jj, Jk, Jl, Jm, Jn, Jo, Jp, Jq, Jr, Js, r1, s96, el]) | (show @Eq Nat _ _; omega) | (show @LE.le Nat _ _ _; omega)))
     all_goals (first | (refine leafb ?_; simp only [decide_eq_true_eq, decide_eq_false_iff_not, Bool.or_eq_true, Bool.and_eq_true, Bool.or_eq_false_iff, Bool.and_eq_false_iff, Bool.not_eq_true', Bool.not_eq_false', Bool.not_eq_true, Bool.not_eq_false, Bool.false_eq_true, Bool.true_eq_false, iff_true, true_iff, iff_false, false_iff, not_false_eq_true, not_true_eq_false, decide_not] at *; omega) | (simp_all; done) | (simp_all <;> omega)))
end
section
theorem zw5 {m : Nat} (ih : z1m m) (k n : Int) (s : List UInt8) (sk : SK) (z : Nat) (l : List Vl) (d : Nat) (hm : Vl.sizes l ≤ m) (ho : (Vl.mk k n s sk z l).ok) (hd : d ≤ 8) :
   acall S 79 [.agg (Vl.mk k n s sk z l).c, .i .i64 ((d + 1 : Nat) : Int)] = some (.b (mayV (Vl.mk k n s sk z l).p d), []) := by
 obtain ⟨hs, hl, hok, hall⟩ := ho
 have hlen := Vl.ps_length l
 have hso : ∀ x ∈ l, x.size ≤ m := fun x hx => by
   obtain ⟨i, hi⟩ := List.getElem?_of_mem hx
   have := Vl.size_get hi
   omega
 have h8eq : decide ((8 : Int) < ((d + 1 : Nat) : Int)) = decide ((8 : Int) ≤ (d : Int)) := decide_eq_decide.2 (by omega)
 have ec : d < 8 → acall S 96 [.sl sk z (l.map Vl.c), .fn 97 [.ip [.i .i64 ((d + 1 : Nat) : Int)]]] = some (.b (!allV (Vl.ps l) (d + 1)), []) := fun hd8 => by
   rw [z0v ((d + 1 : Nat) : Int) (q := fun x => !mayV x.p (d + 1)) hok hl (fun x hx => e97 ih x d (hso x hx) ((Vl.oks_iff l).1 hall x hx) hd8), z1j]
 generalize hD : ((d + 1 : Nat) : Int) = D at *
 refine W_eq (g79 rfl ?_)
 simp only [Vl.p, mayV, hlen]
 by_cases h8 : (8 : Int) ≤ (d : Int)
 · rw [if_pos h8]
   have g8 : decide (8 < D) = true := h8eq.trans (decide_eq_true h8)
   (repeat' (first | with_reducible refine zab ?_ | simp only [go_sem, J0, reduceIte, reduceCtorEq, Ja, Jb, Jc, Jd, Je, Jf, Jg, Jh, Ji, Jj, Jk, Jl, Jm, Jn, Jo, Jp, Jq, Jr, Js, a79, Vl.c, Vl.cs_map, g8]))
 have g8 : decide (8 < D) = false := h8eq.trans (decide_eq_false h8)
 have el := ec (by omega)
 clear ec h8eq
 rw [if_neg h8]
 by_cases k1 : k = 1
 · subst k1
   rw [if_pos rfl]
   (simp only [go_sem, J0, reduceIte, reduceCtorEq, Ja, Jb, Jc, Jd, Je, Jf, Jg, Jh, Ji, Jj, Jk, Jl, Jm, Jn, Jo, Jp, Jq, Jr, Js, a79, Vl.c, Vl.cs_map, g8]; repeat' (first | (first | refine zbc (fun hh => ?_) (fun hh => ?_) | refine zbp (fun hh => ?_) (fun hh => ?_) | refine zbs (fun hh => ?_) (fun hh => ?_) | refine zco (fun hh => ?_) (fun hh => ?_) | refine za9 (fun hh => ?_) (fun hh => ?_) | refine zbr (fun hh => ?_) (fun hh => ?_) | refine zbt (fun hh => ?_) (fun hh => ?_) | refine zbb (fun hh => ?_) (fun hh => ?_) | refine za7 (fun hh => ?_) (fun hh => ?_) | refine za1 (fun hh => ?_) (fun hh => ?_)) <;> (try simp only [go_sem, J0, reduceIte, reduceCtorEq, Ja, Jb, Jc, Jd, Je, Jf, Jg, Jh, Ji, Jj, Jk, Jl, Jm, Jn, Jo, Jp, Jq, Jr, Js, a79, Vl.c, Vl.cs_map, g8, hh]) | (first | refine zbd (by omega) ?_ | refine za0 (by omega) ?_ | refine zaq (by omega) ?_ | refine zao (by omega) ?_ | refine zbo (by omega) ?_ | refine zba (by omega) ?_ | refine za8 (by omega) ?_ | refine zaz (by omega) ?_ | refine zbq (by omega) ?_ | refine zab ?_ | refine zan ?_ | refine zap ?_ | refine zak ?_) <;> (try simp only [go_sem, J0, reduceIte, reduceCtorEq, Ja, Jb, Jc, Jd, Je, Jf, Jg, Jh, Ji, Jj, Jk, Jl, Jm, Jn, Jo, Jp, Jq, Jr, Js, a79, Vl.c, Vl.cs_map, g8]) | (show @Eq Nat _ _; omega) | (show @LE.le Nat _ _ _; omega)))
   all_goals (first | (refine leafb ?_; simp only [decide_eq_true_eq, decide_eq_false_iff_not, Bool.or_eq_true, Bool.and_eq_true, Bool.or_eq_false_iff, Bool.and_eq_false_iff, Bool.not_eq_true', Bool.not_eq_false', Bool.not_eq_true, Bool.not_eq_false, Bool.false_eq_true, Bool.true_eq_false, iff_true, true_iff, iff_false, false_iff, not_false_eq_true, not_true_eq_false, decide_not] at *; omega) | (simp_all; done) | (simp_all <;> omega))
 rw [if_neg k1]
 have q1 := decide_eq_false k1
 by_cases k3 : k = 3
 · subst k3
   rw [if_pos rfl]
   (simp only [go_sem, J0, reduceIte, reduceCtorEq, Ja, Jb, Jc, Jd, Je, Jf, Jg, Jh, Ji, Jj, Jk, Jl, Jm, Jn, Jo, Jp, Jq, Jr, Js, a79, Vl.c, Vl.cs_map, g8, q1]; repeat' (first | (first | refine zbc (fun hh => ?_) (fun hh => ?_) | refine zbp (fun hh => ?_) (fun hh => ?_) | refine zbs (fun hh => ?_) (fun hh => ?_) | refine zco (fun hh => ?_) (fun hh => ?_) | refine za9 (fun hh => ?_) (fun hh => ?_) | refine zbr (fun hh => ?_) (fun hh => ?_) | refine zbt (fun hh => ?_) (fun hh => ?_) | refine zbb (fun hh => ?_) (fun hh => ?_) | refine za7 (fun hh => ?_) (fun hh => ?_) | refine za1 (fun hh => ?_) (fun hh => ?_)) <;> (try simp only [go_sem, J0, reduceIte, reduceCtorEq, Ja, Jb, Jc, Jd, Je, Jf, Jg, Jh, Ji, Jj, Jk, Jl, Jm, Jn, Jo, Jp, Jq, Jr, Js, a79, Vl.c, Vl.cs_map, g8, q1, hh]) | (first | refine zbd (by omega) ?_ | refine za0 (by omega) ?_ | refine zaq (by omega) ?_ | refine zao (by omega) ?_ | refine zbo (by omega) ?_ | refine zba (by omega) ?_ | refine za8 (by omega) ?_ | refine zaz (by omega) ?_ | refine zbq (by omega) ?_ | refine zab ?_ | refine zan ?_ | refine zap ?_ | refine zak ?_) <;> (try simp only [go_sem, J0, reduceIte, reduceCtorEq, Ja, Jb, Jc, Jd, Je, Jf, Jg, Jh, Ji, Jj, Jk, Jl, Jm, Jn, Jo, Jp, Jq, Jr, Js, a79, Vl.c, Vl.cs_map, g8, q1]) | (show @Eq Nat _ _; omega) | (show @LE.le Nat _ _ _; omega)))
   all_goals (first | (refine leafb ?_; simp only [decide_eq_true_eq, decide_eq_false_iff_not, Bool.or_eq_true, Bool.and_eq_true, Bool.or_eq_false_iff, Bool.and_eq_false_iff, Bool.not_eq_true', Bool.not_eq_false', Bool.not_eq_true, Bool.not_eq_false, Bool.false_eq_true, Bool.true_eq_false, iff_true, true_iff, iff_false, false_iff, not_false_eq_true, not_true_eq_false, decide_not] at *; omega) | (simp_all; done) | (simp_all <;> omega))
 rw [if_neg k3]
 have q3 := decide_eq_false k3
 by_cases k6 : k = 6
 · subst k6
   rw [if_pos (.inl rfl)]
   (simp only [go_sem, J0, reduceIte, reduceCtorEq, Ja, Jb, Jc, Jd, Je, Jf, Jg, Jh, Ji, Jj, Jk, Jl, Jm, Jn, Jo, Jp, Jq, Jr, Js, a79, Vl.c, Vl.cs_map, g8, q1, q3]; repeat' (first | (first | refine zbc (fun hh => ?_) (fun hh => ?_) | refine zbp (fun hh => ?_) (fun hh => ?_) | refine zbs (fun hh => ?_) (fun hh => ?_) | refine zco (fun hh => ?_) (fun hh => ?_) | refine za9 (fun hh => ?_) (fun hh => ?_) | refine zbr (fun hh => ?_) (fun hh => ?_) | refine zbt (fun hh => ?_) (fun hh => ?_) | refine zbb (fun hh => ?_) (fun hh => ?_) | refine za7 (fun hh => ?_) (fun hh => ?_) | refine za1 (fun hh => ?_) (fun hh => ?_)) <;> (try simp only [go_sem, J0, reduceIte, reduceCtorEq, Ja, Jb, Jc, Jd, Je, Jf, Jg, Jh, Ji, Jj, Jk, Jl, Jm, Jn, Jo, Jp, Jq, Jr, Js, a79, Vl.c, Vl.cs_map, g8, q1, q3, hh]) | (first | refine zbd (by omega) ?_ | refine za0 (by omega) ?_ | refine zaq (by omega) ?_ | refine zao (by omega) ?_ | refine zbo (by omega) ?_ | refine zba (by omega) ?_ | refine za8 (by omega) ?_ | refine zaz (by omega) ?_ | refine zbq (by omega) ?_ | refine zab ?_ | refine zan ?_ | refine zap ?_ | refine zak ?_) <;> (try simp only [go_sem, J0, reduceIte, reduceCtorEq, Ja, Jb, Jc, Jd, Je, Jf, Jg, Jh, Ji, Jj, Jk, Jl, Jm, Jn, Jo, Jp, Jq, Jr, Js, a79, Vl.c, Vl.cs_map, g8, q1, q3]) | (show @Eq Nat _ _; omega) | (show @LE.le Nat _ _ _; omega)))
   all_goals (first | (refine leafb ?_; simp only [decide_eq_true_eq, decide_eq_false_iff_not, Bool.or_eq_true, Bool.and_eq_true, Bool.or_eq_false_iff, Bool.and_eq_false_iff, Bool.not_eq_true', Bool.not_eq_false', Bool.not_eq_true, Bool.not_eq_false, Bool.false_eq_true, Bool.true_eq_false, iff_true, true_iff, iff_false, false_iff, not_false_eq_true, not_true_eq_false, decide_not] at *; omega) | (simp_all; done) | (simp_all <;> omega))
 have q6 := decide_eq_false k6
 by_cases k7 : k = 7
 · subst k7
   rw [if_pos (.inr rfl)]
   (simp only [go_sem, J0, reduceIte, reduceCtorEq, Ja, Jb, Jc, Jd, Je, Jf, Jg, Jh, Ji, Jj, Jk, Jl, Jm, Jn, Jo, Jp, Jq, Jr, Js, a79, Vl.c, Vl.cs_map, g8, q1, q3, q6]; repeat' (first | (first | refine zbc (fun hh => ?_) (fun hh => ?_) | refine zbp (fun hh => ?_) (fun hh => ?_) | refine zbs (fun hh => ?_) (fun hh => ?_) | refine zco (fun hh => ?_) (fun hh => ?_) | refine za9 (fun hh => ?_) (fun hh => ?_) | refine zbr (fun hh => ?_) (fun hh => ?_) | refine zbt (fun hh => ?_) (fun hh => ?_) | refine zbb (fun hh => ?_) (fun hh => ?_) | refine za7 (fun hh => ?_) (fun hh => ?_) | refine za1 (fun hh => ?_) (fun hh => ?_)) <;> (try simp only [go_sem, J0, reduceIte, reduceCtorEq, Ja, Jb, Jc, Jd, Je, Jf, Jg, Jh, Ji, Jj, Jk, Jl, Jm, Jn, Jo, Jp, Jq, Jr, Js, a79, Vl.c, Vl.cs_map, g8, q1, q3, q6, hh]) | (first | refine zbd (by omega) ?_ | refine za0 (by omega) ?_ | refine zaq (by omega) ?_ | refine zao (by omega) ?_ | refine zbo (by omega) ?_ | refine zba (by omega) ?_ | refine za8 (by omega) ?_ | refine zaz (by omega) ?_ | refine zbq (by omega) ?_ | refine zab ?_ | refine zan ?_ | refine zap ?_ | refine zak ?_) <;> (try simp only [go_sem, J0, reduceIte, reduceCtorEq, Ja, Jb, Jc, Jd, Je, Jf, Jg, Jh, Ji, Jj, Jk, Jl, Jm, Jn, Jo, Jp, Jq, Jr, Js, a79, Vl.c, Vl.cs_map, g8, q1, q3, q6]) | (show @Eq Nat _ _; omega) | (show @LE.le Nat _ _ _; omega)))
   all_goals (first | (refine leafb ?_; simp only [decide_eq_true_eq, decide_eq_false_iff_not, Bool.or_eq_true, Bool.and_eq_true, Bool.or_eq_false_iff, Bool.and_eq_false_iff, Bool.not_eq_true', Bool.not_eq_false', Bool.not_eq_true, Bool.not_eq_false, Bool.false_eq_true, Bool.true_eq_false, iff_true, true_iff, iff_false, false_iff, not_false_eq_true, not_true_eq_false, decide_not] at *; omega) | (simp_all; done) | (simp_all <;> omega))
 have q7 := decide_eq_false k7
 rw [if_neg (fun h => h.elim k6 k7)]
 by_cases k2 : k = 2
 · subst k2
   rw [if_pos rfl]
   (simp only [go_sem, J0, reduceIte, reduceCtorEq, Ja, Jb, Jc, Jd, Je, Jf, Jg, Jh, Ji, Jj, Jk, Jl, Jm, Jn, Jo, Jp, Jq, Jr, Js, a79, Vl.c, Vl.cs_map, g8, q1, q3, q6, q7]; repeat' (first | (first | refine zbc (fun hh => ?_) (fun hh => ?_) | refine zbp (fun hh => ?_) (fun hh => ?_) | refine zbs (fun hh => ?_) (fun hh => ?_) | refine zco (fun hh => ?_) (fun hh => ?_) | refine za9 (fun hh => ?_) (fun hh => ?_) | refine zbr (fun hh => ?_) (fun hh => ?_) | refine zbt (fun hh => ?_) (fun hh => ?_) | refine zbb (fun hh => ?_) (fun hh => ?_) | refine za7 (fun hh => ?_) (fun hh => ?_) | refine za1 (fun hh => ?_) (fun hh => ?_)) <;> (try simp only [go_sem, J0, reduceIte, reduceCtorEq, Ja, Jb, Jc, Jd, Je, Jf, Jg, Jh, Ji, Jj, Jk, Jl, Jm, Jn, Jo, Jp, Jq, Jr, Js, a79, Vl.c, Vl.cs_map, g8, q1, q3, q6, q7, hh]) | (first | refine zbd (by omega) ?_ | refine za0 (by omega) ?_ | refine zaq (by omega) ?_ | refine zao (by omega) ?_ | refine zbo (by omega) ?_ | refine zba (by omega) ?_ | refine za8 (by omega) ?_ | refine zaz (by omega) ?_ | refine zbq (by omega) ?_ | refine zab ?_ | refine zan ?_ | refine zap ?_ | refine zak ?_) <;> (try simp only [go_sem, J0, reduceIte, reduceCtorEq, Ja, Jb, Jc, Jd, Je, Jf, Jg, Jh, Ji, Jj, Jk, Jl, Jm, Jn, Jo, Jp, Jq, Jr, Js, a79, Vl.c, Vl.cs_map, g8, q1, q3, q6, q7]) | (show @Eq Nat _ _; omega) | (show @LE.le Nat _ _ _; omega)))
   all_goals (first | (refine leafb ?_; simp only [decide_eq_true_eq, decide_eq_false_iff_not, Bool.or_eq_true, Bool.and_eq_true, Bool.or_eq_false_iff, Bool.and_eq_false_iff, Bool.not_eq_true', Bool.not_eq_false', Bool.not_eq_true, Bool.not_eq_false, Bool.false_eq_true, Bool.true_eq_false, iff_true, true_iff, iff_false, false_iff, not_false_eq_true, not_true_eq_false, decide_not] at *; omega) | (simp_all; done) | (simp_all <;> omega))
 rw [if_neg k2]
 have q2 := decide_eq_false k2
 by_cases k4 : k = 4
 · subst k4
   rw [if_pos rfl]
   (simp only [go_sem, J0, reduceIte, reduceCtorEq, Ja, Jb, Jc, Jd, Je, Jf, Jg, Jh, Ji, Jj, Jk, Jl, Jm, Jn, Jo, Jp, Jq, Jr, Js, a79, Vl.c, Vl.cs_map, g8, q1, q3, q6, q7, q2, s96, el]; repeat' (first | (first | refine zbc (fun hh => ?_) (fun hh => ?_) | refine zbp (fun hh => ?_) (fun hh => ?_) | refine zbs (fun hh => ?_) (fun hh => ?_) | refine zco (fun hh => ?_) (fun hh => ?_) | refine za9 (fun hh => ?_) (fun hh => ?_) | refine zbr (fun hh => ?_) (fun hh => ?_) | refine zbt (fun hh => ?_) (fun hh => ?_) | refine zbb (fun hh => ?_) (fun hh => ?_) | refine za7 (fun hh => ?_) (fun hh => ?_) | refine za1 (fun hh => ?_) (fun hh => ?_)) <;> (try simp only [go_sem, J0, reduceIte, reduceCtorEq, Ja, Jb, Jc, Jd, Je, Jf, Jg, Jh, Ji, Jj, Jk, Jl, Jm, Jn, Jo, Jp, Jq, Jr, Js, a79, Vl.c, Vl.cs_map, g8, q1, q3, q6, q7, q2, s96, el, hh]) | (first | refine zbd (by omega) ?_ | refine za0 (by omega) ?_ | refine zaq (by omega) ?_ | refine zao (by omega) ?_ | refine zbo (by omega) ?_ | refine zba (by omega) ?_ | refine za8 (by omega) ?_ | refine zaz (by omega) ?_ | refine zbq (by omega) ?_ | refine zab ?_ | refine zan ?_ | refine zap ?_ | refine zak ?_) <;> (try simp only [go_sem, J0, reduceIte, reduceCtorEq, Ja, Jb, Jc, Jd, Je, Jf, Jg, Jh, Ji, Jj, Jk, Jl, Jm, Jn, Jo, Jp, Jq, Jr, Js, a79, Vl.c, Vl.cs_map, g8, q1, q3, q6, q7, q2, s96, el]) | (show @Eq Nat _ _; omega) | (show @LE.le Nat _ _ _; omega)))
   all_goals (first | (refine leafb ?_; simp only [decide_eq_true_eq, decide_eq_false_iff_not, Bool.or_eq_true, Bool.and_eq_true, Bool.or_eq_false_iff, Bool.and_eq_false_iff, Bool.not_eq_true', Bool.not_eq_false', Bool.not_eq_true, Bool.not_eq_false, Bool.false_eq_true, Bool.true_eq_false, iff_true, true_iff, iff_false, false_iff, not_false_eq_true, not_true_eq_false, decide_not] at *; omega) | (simp_all; done) | (simp_all <;> omega))
 rw [if_neg k4]
 have q4 := decide_eq_false k4
 by_cases k5 : k = 5
 · subst k5
   rw [if_pos rfl]
   exact z1s n s sk z l d D hl hok hall g8 el
 rw [if_neg k5]
 have q5 := decide_eq_false k5
 (simp only [go_sem, J0, reduceIte, reduceCtorEq, Ja, Jb, Jc, Jd, Je, Jf, Jg, Jh, Ji, Jj, Jk, Jl, Jm, Jn, Jo, Jp, Jq, Jr, Js, a79, Vl.c, Vl.cs_map, g8, q1, q3, q6, q7, q2, q4, q5]; repeat' (first | (first | refine zbc (fun hh => ?_) (fun hh => ?_) | refine zbp (fun hh => ?_) (fun hh => ?_) | refine zbs (fun hh => ?_) (fun hh => ?_) | refine zco (fun hh => ?_) (fun hh => ?_) | refine za9 (fun hh => ?_) (fun hh => ?_) | refine zbr (fun hh => ?_) (fun hh => ?_) | refine zbt (fun hh => ?_) (fun hh => ?_) | refine zbb (fun hh => ?_) (fun hh => ?_) | refine za7 (fun hh => ?_) (fun hh => ?_) | refine za1 (fun hh => ?_) (fun hh => ?_)) <;> (try simp only [go_sem, J0, reduceIte, reduceCtorEq, Ja, Jb, Jc, Jd, Je, Jf, Jg, Jh, Ji, Jj, Jk, Jl, Jm, Jn, Jo, Jp, Jq, Jr, Js, a79, Vl.c, Vl.cs_map, g8, q1, q3, q6, q7, q2, q4, q5, hh]) | (first | refine zbd (by omega) ?_ | refine za0 (by omega) ?_ | refine zaq (by omega) ?_ | refine zao (by omega) ?_ | refine zbo (by omega) ?_ | refine zba (by omega) ?_ | refine za8 (by omega) ?_ | refine zaz (by omega) ?_ | refine zbq (by omega) ?_ | refine zab ?_ | refine zan ?_ | refine zap ?_ | refine zak ?_) <;> (try simp only [go_sem, J0, reduceIte, reduceCtorEq, Ja, Jb, Jc, Jd, Je, Jf, Jg, Jh, Ji, Jj, Jk, Jl, Jm, Jn, Jo, Jp, Jq, Jr, Js, a79, Vl.c, Vl.cs_map, g8, q1, q3, q6, q7, q2, q4, q5]) | (show @Eq Nat _ _; omega) | (show @LE.le Nat _ _ _; omega)))
theorem z3i : ∀ m, z1m m
 | 0 => fun v d hm _ _ => by cases v; simp [Vl.size] at hm
 | m + 1 => fun v d hm ho hd => by
   obtain ⟨k, n, s, sk, z, l⟩ := v
   simp only [Vl.size] at hm
   exact zw5 (z3i m) k n s sk z l d (by omega) ho hd
theorem e54 (v : Vl) (ho : v.ok) : acall S 54 [.agg v.c] = some (.i .i64 (if mayV v.p 0 then 0 else 20), []) := by
 have em : acall S 79 [.agg v.c, .i .i64 1] = some (.b (mayV v.p 0), []) := z3i v.size v 0 (Nat.le_refl _) ho (by omega)
 obtain ⟨k, n, s, sk, z, l⟩ := v
 simp only [Vl.c, Vl.cs_map] at em ⊢
 refine W_eq (g54 rfl ?_)
 cases hc : mayV (Vl.mk k n s sk z l).p 0 with
 | true => rw [hc] at em; (repeat' (first | with_reducible refine zab ?_ | simp only [go_sem, J0, reduceIte, reduceCtorEq, Ja, Jb, Jc, Jd, Je, Jf, Jg, Jh, Ji, Jj, Jk, Jl, Jm, Jn, Jo, Jp, Jq, Jr, Js, a54, s79, em]))
 | false => rw [hc] at em; (repeat' (first | with_reducible refine zab ?_ | simp only [go_sem, J0, reduceIte, reduceCtorEq, Ja, Jb, Jc, Jd, Je, Jf, Jg, Jh, Ji, Jj, Jk, Jl, Jm, Jn, Jo, Jp, Jq, Jr, Js, a54, s79, em]))
end
section
def zc2 : Option (List UInt8) → List UInt8 → Bool
 | some q, n => !Op.bytesLess q n
 | none, _ => false
def zfu : Option (List UInt8) → List (List UInt8 × PV) → Bool
 | _, [] => false
 | q, x :: r => (!nameB x.1 || zc2 q x.1 || !mayV x.2 0) || zfu (some x.1) r
def zcj (l : List (List UInt8 × PV)) : Bool := zfu none l || decide ((16 : Int) < (l.length : Int))
def zi1 (l : List Pp) : Nat → Option (List UInt8)
 | 0 => none
 | i + 1 => (l[i]?).map (·.1)
theorem zrr {l : List Pp} {i : Nat} {x : Pp} (h : l[i]? = some x) : zfu (zi1 l i) ((l.drop i).map tagP) = ((!nameB x.1 || zc2 (zi1 l i) x.1 || !mayV x.2.p 0) || zfu (zi1 l (i + 1)) ((l.drop (i + 1)).map tagP)) := by
 have hlt := (List.getElem?_eq_some_iff.1 h).1
 have hd : l.drop i = x :: l.drop (i + 1) := by rw [List.drop_eq_getElem_cons hlt, (List.getElem?_eq_some_iff.1 h).2]
 rw [hd]
 simp only [List.map_cons, zfu, tagP, zi1, h, Option.map_some]
theorem e28 {k : SK} {z : Nat} {l : List Pp} (h : PsOk k z l) : acall S 28 [.sl k z (l.map tagC)] = some (.b (zcj (l.map tagP)), []) := by
 have h1 := h.s.1
 have hlen := h.len
 refine W_eq (g28 rfl ?_)
 unfold zcj
 rw [List.length_map]
 (repeat' (first | with_reducible refine zab ?_ | simp only [go_sem, J0, reduceIte, reduceCtorEq, Ja, Jb, Jc, Jd, Je, Jf, Jg, Jh, Ji, Jj, Jk, Jl, Jm, Jn, Jo, Jp, Jq, Jr, Js, a28, List.length_map]))
 refine zag (ι := Nat) (fun i => [.sl k z (l.map tagC), .sl k z (l.map tagC), .i .i64 l.length, .i .i64 i]) (fun i => i ≤ l.length ∧ zfu none (l.map tagP) = zfu (zi1 l i) ((l.drop i).map tagP)) (fun i => l.length - i) 0 rfl ⟨Nat.zero_le _, rfl⟩ ?_
 rintro i ⟨hi, hT⟩
 by_cases hlt : i < l.length
 · obtain ⟨x, gx⟩ := zbe hlt
   have hx := h.get gx
   have hw := wrap_succ (k := i) (by omega)
   have hbt : decide ((i : Int) < (l.length : Int)) = true := decide_eq_true (by omega)
   have b1 : (0 : Int) ≤ (i : Int) := by omega
   have hLL : x.1.length ≤ LIM := by have := hx.1; simp [LIM]; omega
   have en := e27 x.1 hLL
   have ec := e54 x.2 hx.2
   rw [zrr gx] at hT
   obtain ⟨xn, xv⟩ := x
   simp only at en ec hT
   cases hn : nameB xn with
   | false =>
     rw [hn] at en hT
     simp only [Bool.not_false, Bool.true_or] at hT
     obtain ⟨xk, xm, xs, xkk, xz, xl⟩ := xv
     rw [hT]
     (repeat' (first | with_reducible refine zab ?_ | simp only [go_sem, J0, reduceIte, reduceCtorEq, Ja, Jb, Jc, Jd, Je, Jf, Jg, Jh, Ji, Jj, Jk, Jl, Jm, Jn, Jo, Jp, Jq, Jr, Js, hbt, h1, b1, gx, tagC, Vl.c, Vl.cs_map, s27, en, hw]))
   | true =>
     rw [hn] at en hT
     have hm : ∀ b : Bool, mayV xv.p 0 = b → acall S 54 [.agg xv.c] = some (.i .i64 (if b = true then 0 else 20), []) := fun b hb => by rw [← hb]; exact ec
     by_cases hi0 : i = 0
     · have g0 : decide ((0 : Int) < (i : Int)) = false := decide_eq_false (by omega)
       have hp : zi1 l i = none := by rw [hi0]; rfl
       rw [hp] at hT
       cases hv : mayV xv.p 0 with
       | true =>
         have ec := hm true hv
         rw [hv] at hT
         simp only [zc2, Bool.not_true, Bool.false_or] at hT
         obtain ⟨xk, xm, xs, xkk, xz, xl⟩ := xv
         simp only [Vl.c, Vl.cs_map] at ec
         (repeat' (first | with_reducible refine zab ?_ | simp only [go_sem, J0, reduceIte, reduceCtorEq, Ja, Jb, Jc, Jd, Je, Jf, Jg, Jh, Ji, Jj, Jk, Jl, Jm, Jn, Jo, Jp, Jq, Jr, Js, hbt, h1, b1, gx, tagC, Vl.c, Vl.cs_map, s27, en, hw, g0, s54, ec]))
         exact ⟨i + 1, rfl, ⟨by omega, hT⟩, by omega⟩
       | false =>
         have ec := hm false hv
         rw [hv] at hT
         simp only [zc2, Bool.not_true, Bool.not_false, Bool.false_or, Bool.or_true, Bool.true_or] at hT
         obtain ⟨xk, xm, xs, xkk, xz, xl⟩ := xv
         simp only [Vl.c, Vl.cs_map] at ec
         rw [hT]
         (repeat' (first | with_reducible refine zab ?_ | simp only [go_sem, J0, reduceIte, reduceCtorEq, Ja, Jb, Jc, Jd, Je, Jf, Jg, Jh, Ji, Jj, Jk, Jl, Jm, Jn, Jo, Jp, Jq, Jr, Js, hbt, h1, b1, gx, tagC, Vl.c, Vl.cs_map, s27, en, hw, g0, s54, ec]))
     · obtain ⟨j, rfl⟩ : ∃ j, i = j + 1 := ⟨i - 1, by omega⟩
       obtain ⟨y, gy⟩ := zbe (show j < l.length by omega)
       have g0 : decide ((0 : Int) < ((j + 1 : Nat) : Int)) = true := decide_eq_true (by omega)
       have hw1 : IntKind.i64.wrap (((j + 1 : Nat) : Int) - 1) = (j : Int) := by rw [wrap_i64] <;> omega
       have b2 : (0 : Int) ≤ (j : Int) := by omega
       have hp : zi1 l (j + 1) = some y.1 := by simp only [zi1, gy, Option.map_some]
       rw [hp] at hT
       simp only [zc2, Bool.not_true, Bool.false_or] at hT
       obtain ⟨yn, yv⟩ := y
       obtain ⟨yk, ym, ys, ykk, yz, yl⟩ := yv
       simp only at hT
       cases hb : Op.bytesLess yn xn with
       | false =>
         rw [hb] at hT
         simp only [Bool.not_false, Bool.true_or] at hT
         rw [hT]
         obtain ⟨xk, xm, xs, xkk, xz, xl⟩ := xv
         (repeat' (first | with_reducible refine zab ?_ | simp only [go_sem, J0, reduceIte, reduceCtorEq, Ja, Jb, Jc, Jd, Je, Jf, Jg, Jh, Ji, Jj, Jk, Jl, Jm, Jn, Jo, Jp, Jq, Jr, Js, hbt, h1, b1, b2, gx, gy, tagC, Vl.c, Vl.cs_map, s27, en, hw, hw1, g0, hb]))
       | true =>
         rw [hb] at hT
         simp only [Bool.not_true, Bool.false_or] at hT
         cases hv : mayV xv.p 0 with
         | true =>
           have ec := hm true hv
           rw [hv] at hT
           simp only [Bool.not_true, Bool.false_or] at hT
           obtain ⟨xk, xm, xs, xkk, xz, xl⟩ := xv
           simp only [Vl.c, Vl.cs_map] at ec
           (repeat' (first | with_reducible refine zab ?_ | simp only [go_sem, J0, reduceIte, reduceCtorEq, Ja, Jb, Jc, Jd, Je, Jf, Jg, Jh, Ji, Jj, Jk, Jl, Jm, Jn, Jo, Jp, Jq, Jr, Js, hbt, h1, b1, b2, gx, gy, tagC, Vl.c, Vl.cs_map, s27, en, hw, hw1, g0, hb, s54, ec]))
           exact ⟨j + 1 + 1, rfl, ⟨by omega, hT⟩, by omega⟩
         | false =>
           have ec := hm false hv
           rw [hv] at hT
           simp only [Bool.not_false, Bool.true_or] at hT
           obtain ⟨xk, xm, xs, xkk, xz, xl⟩ := xv
           simp only [Vl.c, Vl.cs_map] at ec
           rw [hT]
           (repeat' (first | with_reducible refine zab ?_ | simp only [go_sem, J0, reduceIte, reduceCtorEq, Ja, Jb, Jc, Jd, Je, Jf, Jg, Jh, Ji, Jj, Jk, Jl, Jm, Jn, Jo, Jp, Jq, Jr, Js, hbt, h1, b1, b2, gx, gy, tagC, Vl.c, Vl.cs_map, s27, en, hw, hw1, g0, hb, s54, ec]))
 · have hbf : decide ((i : Int) < (l.length : Int)) = false := decide_eq_false (by omega)
   obtain rfl : i = l.length := by omega
   rw [List.drop_length] at hT
   rw [hT]
   simp only [List.map_nil, zfu, Bool.false_or]
   (repeat' (first | with_reducible refine zab ?_ | simp only [go_sem, J0, reduceIte, reduceCtorEq, Ja, Jb, Jc, Jd, Je, Jf, Jg, Jh, Ji, Jj, Jk, Jl, Jm, Jn, Jo, Jp, Jq, Jr, Js, hbf]))
end
section
def bvx (last top id : Int) (lab : List UInt8) (bp : Bool) : Bool := decide (id ≤ last) || (decide (top < id) || (!nameB lab || bp))
def znf (last top : Int) (v : PVx) : Bool := bvx last top v.id v.label (zcj v.props)
def zdc (top : Int) : Int → List PVx → Bool
 | _, [] => false
 | last, v :: r => znf last top v || zdc top v.id r
def blk (last top id : Int) (lab : List UInt8) (bp i0 i1 i2 : Bool) : Bool := decide (id ≤ last) || (decide (top < id) || (!nameB lab || (bp || (i0 || (!i1 || !i2)))))
def zm5 (ids : Int → Bool) (last top : Int) (e : PLk) : Bool := blk last top e.id e.label (zcj e.props) (ids e.id) (ids e.out) (ids e.inn)
def zdh (ids : Int → Bool) (top : Int) : Int → List PLk → Bool
 | _, [] => false
 | last, e :: r => zm5 ids last top e || zdh ids top e.id r
def zcs (vs : List PVx) (n : Int) : Bool := vs.any fun v => v.id == n
def bigN (last nv ne : Int) : Bool := decide (last < 0) || (decide ((281474976710656 : Int) < last) || (decide ((2048 : Int) < nv) || decide ((2048 : Int) < ne)))
def tooBig (g : PG) : Bool := bigN g.last g.v.length g.e.length
def okG (g : PG) : Bool := !tooBig g && (!zdc g.last 0 g.v && !zdh (zcs g.v) g.last 0 g.e)
def idC (v : Vx) : List AV := [.i .i64 v.id, .b true]
theorem zfy (n : Int) : ∀ (l : List Vx) (i : Nat), ∃ r, zka .int (.i .i64 n) (l.map idC) i = some r ∧ zgv (.b false) false r = .b (zcs (l.map Vx.p) n) ∧ (zcs (l.map Vx.p) n = false → r = none)
 | [], i => ⟨none, rfl, rfl, fun _ => rfl⟩
 | v :: l, i => by
   obtain ⟨r, h1, h2, h3⟩ := zfy n l (i + 1)
   simp only [List.map_cons, idC, zka, zwg, zd3, zai]
   by_cases h : n = v.id
   · subst h
     refine ⟨some (i, .b true), by simp, ?_, ?_⟩
     · simp [zgv, zcs, Vx.p]
     · simp [zcs, Vx.p]
   · have hb : (n == v.id) = false := by simp [h]
     have hb2 : (v.id == n) = false := by simp [Ne.symm h]
     refine ⟨r, by rw [hb]; exact h1, ?_, ?_⟩
     · rw [h2]
       simp only [zcs, List.any_cons, Vx.p, hb2, Bool.false_or]
     · intro hx
       refine h3 ?_
       simpa only [zcs, List.any_cons, Vx.p, hb2, Bool.false_or] using hx
def zle (l : List Vx) : Nat → Int
 | 0 => 0
 | i + 1 => ((l[i]?).map (·.id)).getD 0
def znb (l : List Lk) : Nat → Int
 | 0 => 0
 | i + 1 => ((l[i]?).map (·.id)).getD 0
theorem drop_cons {α : Type} {l : List α} {i : Nat} {x : α} (h : l[i]? = some x) : l.drop i = x :: l.drop (i + 1) := by
 have hlt := (List.getElem?_eq_some_iff.1 h).1
 rw [List.drop_eq_getElem_cons hlt, (List.getElem?_eq_some_iff.1 h).2]
theorem zr7 {l : List Vx} {i : Nat} {x : Vx} {top : Int} (h : l[i]? = some x) : zdc top (zle l i) ((l.drop i).map Vx.p) = (znf (zle l i) top x.p || zdc top (zle l (i + 1)) ((l.drop (i + 1)).map Vx.p)) := by
 rw [drop_cons h]
 simp only [List.map_cons, zdc, zle, h, Option.map_some, Option.getD_some]
 rfl
theorem zrb {ids : Int → Bool} {l : List Lk} {i : Nat} {x : Lk} {top : Int} (h : l[i]? = some x) : zdh ids top (znb l i) ((l.drop i).map Lk.p) = (zm5 ids (znb l i) top x.p || zdh ids top (znb l (i + 1)) ((l.drop (i + 1)).map Lk.p)) := by
 rw [drop_cons h]
 simp only [List.map_cons, zdh, znb, h, Option.map_some, Option.getD_some]
 rfl
theorem e7 (g : Gr) (h : g.ok) : acall S 7 [.agg g.c] = some (.i .i64 (if okG g.p then 0 else 103), []) := by
 have hv1 := h.v.1
 have he1 := h.e.1
 have hvl := h.vl
 have hel := h.el
 obtain ⟨vk, vz, vs, ek, ez, es, last⟩ := g
 simp only at hv1 he1 hvl hel
 have hva := h.va
 have hea := h.ea
 simp only at hva hea
 refine W_eq (g7 rfl ?_)
 cases htb : tooBig (Gr.p ⟨vk, vz, vs, ek, ez, es, last⟩) with
 | true =>
   simp only [okG, htb, Bool.not_true, Bool.false_and]
   simp only [tooBig, Gr.p, List.length_map] at htb
   unfold bigN at htb
   cases t1 : decide (last < 0) with
   | true => (repeat' (first | with_reducible refine zab ?_ | simp only [go_sem, J0, reduceIte, reduceCtorEq, Ja, Jb, Jc, Jd, Je, Jf, Jg, Jh, Ji, Jj, Jk, Jl, Jm, Jn, Jo, Jp, Jq, Jr, Js, a7, Gr.c, t1]))
   | false =>
     rw [t1, Bool.false_or] at htb
     cases t2 : decide ((281474976710656 : Int) < last) with
     | true => (repeat' (first | with_reducible refine zab ?_ | simp only [go_sem, J0, reduceIte, reduceCtorEq, Ja, Jb, Jc, Jd, Je, Jf, Jg, Jh, Ji, Jj, Jk, Jl, Jm, Jn, Jo, Jp, Jq, Jr, Js, a7, Gr.c, t1, t2]))
     | false =>
       rw [t2, Bool.false_or] at htb
       cases t3 : decide ((2048 : Int) < (vs.length : Int)) with
       | true => (repeat' (first | with_reducible refine zab ?_ | simp only [go_sem, J0, reduceIte, reduceCtorEq, Ja, Jb, Jc, Jd, Je, Jf, Jg, Jh, Ji, Jj, Jk, Jl, Jm, Jn, Jo, Jp, Jq, Jr, Js, a7, Gr.c, t1, t2, t3, List.length_map]))
       | false =>
         rw [t3, Bool.false_or] at htb
         (repeat' (first | with_reducible refine zab ?_ | simp only [go_sem, J0, reduceIte, reduceCtorEq, Ja, Jb, Jc, Jd, Je, Jf, Jg, Jh, Ji, Jj, Jk, Jl, Jm, Jn, Jo, Jp, Jq, Jr, Js, a7, Gr.c, t1, t2, t3, htb, List.length_map]))
 | false =>
   simp only [okG, htb, Bool.not_false, Bool.true_and]
   simp only [Gr.p]
   simp only [tooBig, Gr.p, List.length_map] at htb
   unfold bigN at htb
   simp only [Bool.or_eq_false_iff] at htb
   obtain ⟨t1, t2, t3, t4⟩ := htb
   (repeat' (first | with_reducible refine zab ?_ | simp only [go_sem, J0, reduceIte, reduceCtorEq, Ja, Jb, Jc, Jd, Je, Jf, Jg, Jh, Ji, Jj, Jk, Jl, Jm, Jn, Jo, Jp, Jq, Jr, Js, a7, Gr.c, t1, t2, t3, t4, List.length_map]))
   refine zag (ι := Nat) (fun i => [.bx [.sl vk vz (vs.map Vx.c), .sl ek ez (es.map Lk.c), .i .i64 last], .om ((vs.take i).map idC), .i .i64 (zle vs i), .sl vk vz (vs.map Vx.c), .i .i64 vs.length, .i .i64 i])
     (fun i => i ≤ vs.length ∧ zdc last 0 (vs.map Vx.p) = zdc last (zle vs i) ((vs.drop i).map Vx.p) ∧ ∀ v ∈ vs.take i, v.id ≤ zle vs i) (fun i => vs.length - i) 0 rfl ⟨Nat.zero_le _, rfl, by simp⟩ ?_
   rintro i ⟨hi, hT, hids⟩
   by_cases hlt : i < vs.length
   · obtain ⟨x, gx⟩ := zbe hlt
     have hx := hva x (List.mem_of_getElem? gx)
     have hw := wrap_succ (k := i) (by omega)
     have hbt : decide ((i : Int) < (vs.length : Int)) = true := decide_eq_true (by omega)
     have b1 : (0 : Int) ≤ (i : Int) := by omega
     have hLL : x.label.length ≤ LIM := by have := hx.lab; simp [LIM]; omega
     have en := e27 x.label hLL
     have ep := e28 hx.ps
     rw [zr7 gx] at hT
     have hlast : zle vs (i + 1) = x.id := by simp only [zle, gx, Option.map_some, Option.getD_some]
     rw [hlast] at hT
     generalize hlv : zle vs i = lv at hT hids
     obtain ⟨r, r1, r2, r3⟩ := zfy x.id (vs.take i) 0
     have hsn : (vs.take (i + 1)).map idC = (vs.take i).map idC ++ [[.i .i64 x.id, .b true]] := by rw [zdq gx]; rfl
     have htk : ∀ v ∈ vs.take (i + 1), v = x ∨ v ∈ vs.take i := fun v hv => by
       rw [zdu gx] at hv
       rcases List.mem_append.1 hv with hv | hv
       · exact .inr hv
       · exact .inl (by simpa using hv)
     obtain ⟨xid, xl, xpk, xpz, xps⟩ := x
     simp only [Vx.p, znf] at hT en ep r1 r2 r3 hsn hlast htk
     unfold bvx at hT
     cases q1 : decide (xid ≤ lv) with
     | true =>
       rw [q1, Bool.true_or, Bool.true_or] at hT
       rw [hT]
       (repeat' (first | with_reducible refine zab ?_ | simp only [go_sem, J0, reduceIte, reduceCtorEq, Ja, Jb, Jc, Jd, Je, Jf, Jg, Jh, Ji, Jj, Jk, Jl, Jm, Jn, Jo, Jp, Jq, Jr, Js, hbt, hv1, b1, gx, Vx.c, s27, en, hw, s28, ep, q1]))
     | false =>
       rw [q1, Bool.false_or] at hT
       cases q2 : decide (last < xid) with
       | true =>
         rw [q2, Bool.true_or, Bool.true_or] at hT
         rw [hT]
         (repeat' (first | with_reducible refine zab ?_ | simp only [go_sem, J0, reduceIte, reduceCtorEq, Ja, Jb, Jc, Jd, Je, Jf, Jg, Jh, Ji, Jj, Jk, Jl, Jm, Jn, Jo, Jp, Jq, Jr, Js, hbt, hv1, b1, gx, Vx.c, s27, en, hw, s28, ep, q1, q2]))
       | false =>
         rw [q2, Bool.false_or] at hT
         cases q3 : nameB xl with
         | false =>
           rw [q3] at en
           rw [q3, Bool.not_false, Bool.true_or, Bool.true_or] at hT
           rw [hT]
           (repeat' (first | with_reducible refine zab ?_ | simp only [go_sem, J0, reduceIte, reduceCtorEq, Ja, Jb, Jc, Jd, Je, Jf, Jg, Jh, Ji, Jj, Jk, Jl, Jm, Jn, Jo, Jp, Jq, Jr, Js, hbt, hv1, b1, gx, Vx.c, s27, en, hw, s28, ep, q1, q2]))
         | true =>
           rw [q3] at en
           rw [q3, Bool.not_true, Bool.false_or] at hT
           cases q4 : zcj (xps.map tagP) with
           | true =>
             rw [q4] at ep
             rw [q4, Bool.true_or] at hT
             rw [hT]
             (repeat' (first | with_reducible refine zab ?_ | simp only [go_sem, J0, reduceIte, reduceCtorEq, Ja, Jb, Jc, Jd, Je, Jf, Jg, Jh, Ji, Jj, Jk, Jl, Jm, Jn, Jo, Jp, Jq, Jr, Js, hbt, hv1, b1, gx, Vx.c, s27, en, hw, s28, ep, q1, q2]))
           | false =>
             rw [q4] at ep
             rw [q4, Bool.false_or] at hT
             have q1' := of_decide_eq_false q1
             have hno : zcs ((vs.take i).map Vx.p) xid = false := by
               unfold zcs
               rw [List.any_eq_false]
               intro p hp
               obtain ⟨v, hv, rfl⟩ := List.mem_map.1 hp
               have := hids v hv
               simp only [Vx.p, beq_iff_eq]
               omega
             have hr := r3 hno
             subst hr
             (repeat' (first | with_reducible refine zab ?_ | simp only [go_sem, J0, reduceIte, reduceCtorEq, Ja, Jb, Jc, Jd, Je, Jf, Jg, Jh, Ji, Jj, Jk, Jl, Jm, Jn, Jo, Jp, Jq, Jr, Js, hbt, hv1, b1, gx, Vx.c, s27, en, hw, s28, ep, q1, q2, r1]))
             exact ⟨i + 1, by rw [hsn, hlast], ⟨by omega, by rw [hlast]; exact hT, fun v hv => by
               rw [hlast]
               rcases htk v hv with rfl | hv
               · exact Int.le_refl _
               · have := hids v hv
                 omega⟩, by omega⟩
   · have hbf : decide ((i : Int) < (vs.length : Int)) = false := decide_eq_false (by omega)
     obtain rfl : i = vs.length := by omega
     rw [List.drop_length, List.take_length] at *
     simp only [List.map_nil, zdc] at hT
     rw [hT]
     simp only [Bool.not_false, Bool.true_and]
     (repeat' (first | with_reducible refine zab ?_ | simp only [go_sem, J0, reduceIte, reduceCtorEq, Ja, Jb, Jc, Jd, Je, Jf, Jg, Jh, Ji, Jj, Jk, Jl, Jm, Jn, Jo, Jp, Jq, Jr, Js, hbf]))
     clear hids hT hi hlt hbf
     refine zag (ι := Nat) (fun i => [.bx [.sl vk vz (vs.map Vx.c), .sl ek ez (es.map Lk.c), .i .i64 last], .om (vs.map idC), .i .i64 (znb es i), .sl ek ez (es.map Lk.c), .i .i64 es.length, .i .i64 i])
       (fun i => i ≤ es.length ∧ zdh (zcs (vs.map Vx.p)) last 0 (es.map Lk.p) = zdh (zcs (vs.map Vx.p)) last (znb es i) ((es.drop i).map Lk.p)) (fun i => es.length - i) 0 rfl ⟨Nat.zero_le _, rfl⟩ ?_
     rintro i ⟨hi, hT⟩
     by_cases hlt : i < es.length
     · obtain ⟨x, gx⟩ := zbe hlt
       have hx := hea x (List.mem_of_getElem? gx)
       have hw := wrap_succ (k := i) (by omega)
       have hbt : decide ((i : Int) < (es.length : Int)) = true := decide_eq_true (by omega)
       have b1 : (0 : Int) ≤ (i : Int) := by omega
       have hLL : x.label.length ≤ LIM := by have := hx.lab; simp [LIM]; omega
       have en := e27 x.label hLL
       have ep := e28 hx.ps
       rw [zrb gx] at hT
       have hlast : znb es (i + 1) = x.id := by simp only [znb, gx, Option.map_some, Option.getD_some]
       rw [hlast] at hT
       generalize hlv : znb es i = lv at hT
       obtain ⟨xid, xl, xo, xn, xpk, xpz, xps⟩ := x
       obtain ⟨r, r1, r2, -⟩ := zfy xid vs 0
       obtain ⟨u, u1, u2, -⟩ := zfy xo vs 0
       obtain ⟨w, w1, w2, -⟩ := zfy xn vs 0
       simp only [Lk.p, zm5] at hT en ep hlast
       unfold blk at hT
       cases q1 : decide (xid ≤ lv) with
       | true =>
         rw [q1, Bool.true_or, Bool.true_or] at hT
         rw [hT]
         (repeat' (first | with_reducible refine zab ?_ | simp only [go_sem, J0, reduceIte, reduceCtorEq, Ja, Jb, Jc, Jd, Je, Jf, Jg, Jh, Ji, Jj, Jk, Jl, Jm, Jn, Jo, Jp, Jq, Jr, Js, hbt, he1, b1, gx, Lk.c, s27, en, hw, s28, ep, r1, r2, u1, u2, w1, w2, q1]))
       | false =>
         rw [q1, Bool.false_or] at hT
         cases q2 : decide (last < xid) with
         | true =>
           rw [q2, Bool.true_or, Bool.true_or] at hT
           rw [hT]
           (repeat' (first | with_reducible refine zab ?_ | simp only [go_sem, J0, reduceIte, reduceCtorEq, Ja, Jb, Jc, Jd, Je, Jf, Jg, Jh, Ji, Jj, Jk, Jl, Jm, Jn, Jo, Jp, Jq, Jr, Js, hbt, he1, b1, gx, Lk.c, s27, en, hw, s28, ep, r1, r2, u1, u2, w1, w2, q1, q2]))
         | false =>
           rw [q2, Bool.false_or] at hT
           cases q3 : nameB xl with
           | false =>
             rw [q3] at en
             rw [q3, Bool.not_false, Bool.true_or, Bool.true_or] at hT
             rw [hT]
             (repeat' (first | with_reducible refine zab ?_ | simp only [go_sem, J0, reduceIte, reduceCtorEq, Ja, Jb, Jc, Jd, Je, Jf, Jg, Jh, Ji, Jj, Jk, Jl, Jm, Jn, Jo, Jp, Jq, Jr, Js, hbt, he1, b1, gx, Lk.c, s27, en, hw, s28, ep, r1, r2, u1, u2, w1, w2, q1, q2, q3]))
           | true =>
             rw [q3] at en
             rw [q3, Bool.not_true, Bool.false_or] at hT
             cases q4 : zcj (xps.map tagP) with
             | true =>
               rw [q4] at ep
               rw [q4, Bool.true_or, Bool.true_or] at hT
               rw [hT]
               (repeat' (first | with_reducible refine zab ?_ | simp only [go_sem, J0, reduceIte, reduceCtorEq, Ja, Jb, Jc, Jd, Je, Jf, Jg, Jh, Ji, Jj, Jk, Jl, Jm, Jn, Jo, Jp, Jq, Jr, Js, hbt, he1, b1, gx, Lk.c, s27, en, hw, s28, ep, r1, r2, u1, u2, w1, w2, q1, q2, q3, q4]))
             | false =>
               rw [q4] at ep
               rw [q4, Bool.false_or] at hT
               cases q5 : zcs (vs.map Vx.p) xid with
               | true =>
                 rw [q5] at r2
                 rw [q5, Bool.true_or, Bool.true_or] at hT
                 rw [hT]
                 (repeat' (first | with_reducible refine zab ?_ | simp only [go_sem, J0, reduceIte, reduceCtorEq, Ja, Jb, Jc, Jd, Je, Jf, Jg, Jh, Ji, Jj, Jk, Jl, Jm, Jn, Jo, Jp, Jq, Jr, Js, hbt, he1, b1, gx, Lk.c, s27, en, hw, s28, ep, r1, r2, u1, u2, w1, w2, q1, q2, q3, q4, q5]))
               | false =>
                 rw [q5] at r2
                 rw [q5, Bool.false_or] at hT
                 cases q6 : zcs (vs.map Vx.p) xo with
                 | false =>
                   rw [q6] at u2
                   rw [q6, Bool.not_false, Bool.true_or, Bool.true_or] at hT
                   rw [hT]
                   (repeat' (first | with_reducible refine zab ?_ | simp only [go_sem, J0, reduceIte, reduceCtorEq, Ja, Jb, Jc, Jd, Je, Jf, Jg, Jh, Ji, Jj, Jk, Jl, Jm, Jn, Jo, Jp, Jq, Jr, Js, hbt, he1, b1, gx, Lk.c, s27, en, hw, s28, ep, r1, r2, u1, u2, w1, w2, q1, q2, q3, q4, q5, q6]))
                 | true =>
                   rw [q6] at u2
                   rw [q6, Bool.not_true, Bool.false_or] at hT
                   cases q7 : zcs (vs.map Vx.p) xn with
                   | false =>
                     rw [q7] at w2
                     rw [q7, Bool.not_false, Bool.true_or] at hT
                     rw [hT]
                     (repeat' (first | with_reducible refine zab ?_ | simp only [go_sem, J0, reduceIte, reduceCtorEq, Ja, Jb, Jc, Jd, Je, Jf, Jg, Jh, Ji, Jj, Jk, Jl, Jm, Jn, Jo, Jp, Jq, Jr, Js, hbt, he1, b1, gx, Lk.c, s27, en, hw, s28, ep, r1, r2, u1, u2, w1, w2, q1, q2, q3, q4, q5, q6, q7]))
                   | true =>
                     rw [q7] at w2
                     rw [q7, Bool.not_true, Bool.false_or] at hT
                     (repeat' (first | with_reducible refine zab ?_ | simp only [go_sem, J0, reduceIte, reduceCtorEq, Ja, Jb, Jc, Jd, Je, Jf, Jg, Jh, Ji, Jj, Jk, Jl, Jm, Jn, Jo, Jp, Jq, Jr, Js, hbt, he1, b1, gx, Lk.c, s27, en, hw, s28, ep, r1, r2, u1, u2, w1, w2, q1, q2, q3, q4, q5, q6, q7]))
                     exact ⟨i + 1, by rw [hlast], ⟨by omega, by rw [hlast]; exact hT⟩, by omega⟩
     · have hbf : decide ((i : Int) < (es.length : Int)) = false := decide_eq_false (by omega)
       obtain rfl : i = es.length := by omega
       rw [List.drop_length] at hT
       simp only [List.map_nil, zdh] at hT
       rw [hT]
       (repeat' (first | with_reducible refine zab ?_ | simp only [go_sem, J0, reduceIte, reduceCtorEq, Ja, Jb, Jc, Jd, Je, Jf, Jg, Jh, Ji, Jj, Jk, Jl, Jm, Jn, Jo, Jp, Jq, Jr, Js, hbf]))
end
section
noncomputable def Gr.cl (g : Gr) : Gr := ⟨skOf (decide (g.vs = [])), 3, g.vs.map Vx.cl, skOf (decide (g.es = [])), 5, g.es.map Lk.cl, g.last⟩
theorem zch (vs : List Vx) : ClV (vs.map Vx.cl) := fun v hv => by obtain ⟨x, _, rfl⟩ := List.mem_map.1 hv; exact ⟨rfl, rfl⟩
theorem zcg (es : List Lk) : ClE (es.map Lk.cl) := fun v hv => by obtain ⟨x, _, rfl⟩ := List.mem_map.1 hv; exact ⟨rfl, rfl⟩
theorem zyz {α : Type} (n : Nat) (l : List α) : OkS (skOf (decide (l = []))) n n l := by
 by_cases h : l = []
 · rw [decide_eq_true h, h]; exact ⟨.inr rfl, fun _ => rfl⟩
 · rw [decide_eq_false h]; exact OkS.open_ n _
theorem zts {α β : Type} {k : SK} {z n : Nat} {l : List α} (f : α → β) (h : OkS k z n l) : OkS k z n (l.map f) := by
 obtain ⟨h1, h2⟩ := h
 refine ⟨h1.imp id (fun e => by rw [e]; rfl), fun e => ?_⟩
 rw [h2 e]; rfl
theorem Gr.cl_ok {g : Gr} (h : g.ok) : g.cl.ok :=
 ⟨zts _ (zyz 3 g.vs), zts _ (zyz 5 g.es), by simp only [Gr.cl, List.length_map]; exact h.vl, by simp only [Gr.cl, List.length_map]; exact h.el,
   fun x hx => by obtain ⟨y, hy, rfl⟩ := List.mem_map.1 hx; exact Vx.cl_ok (h.va y hy), fun x hx => by obtain ⟨y, hy, rfl⟩ := List.mem_map.1 hx; exact Lk.cl_ok (h.ea y hy)⟩
theorem Gr.cl_p (g : Gr) : g.cl.p = g.p := by
 simp only [Gr.cl, Gr.p, List.map_map]
 congr 1
 · exact List.map_congr_left fun x _ => Vx.cl_p x
 · exact List.map_congr_left fun x _ => Lk.cl_p x
theorem zcm {g : Gr} (h : g.ok) {kv ke Kv Ke : Nat} (h1 : kv < 44800128) (h2 : ke < 44800128) (h3 : 44800192 < Kv) (h4 : 44800192 < Ke) : Lies kv ke Kv Ke (decide (g.vs = [])) (decide (g.es = [])) (g.vs.map Vx.cl) (g.es.map Lk.cl) :=
 ⟨h1, h2, h3, h4, by rw [List.length_map]; exact h.vl, by rw [List.length_map]; exact h.el, zch _, zcg _, fun e => by rw [of_decide_eq_true e]; rfl, fun e => by rw [of_decide_eq_true e]; rfl⟩
theorem z0p {g : Gr} (h : g.ok) {ec v : Vl} {name : List UInt8} (hc : okG g.p = false) : acall S 22 [.agg g.c, .agg ec.c, .str name, .agg v.c] = some (.tup [.agg g.cl.c, .i .i64 103], []) := by
 have hcl := e1000011 g h
 have hck := e7 g.cl (Gr.cl_ok h)
 rw [Gr.cl_p, hc] at hck
 have hvl := h.vl
 have hel := h.el
 have hv0 := zdo (zch g.vs)
 have he0 := zdl (zcg g.es)
 obtain ⟨xk, xm, xs, xkk, xz, xll⟩ := ec
 obtain ⟨yk, ym, ys, ykk, yz, yll⟩ := v
 simp only [growd, Gr.c, Gr.cl, Vl.c, Vl.cs_map] at hcl hck ⊢
 refine W_eq (g22 rfl ?_)
 (repeat' (first | with_reducible refine zab ?_ | simp only [go_sem, J0, reduceIte, reduceCtorEq, Ja, Jb, Jc, Jd, Je, Jf, Jg, Jh, Ji, Jj, Jk, Jl, Jm, Jn, Jo, Jp, Jq, Jr, Js, a22, s1000011, hcl, s7, hck, List.length_map, hvl, hel, hv0, he0, zdv (ty := 45) (sz := 5), zcb (ty := 45) (sz := 5)]))
theorem zzb {g : Gr} (h : g.ok) {v : Vl} {name s : List UInt8} {kd n : Int} {kk : SK} {z : Nat} {ll : List (List AV)} (hc : okG g.p = true) (h6 : kd = 6 → ¬ 0 ≤ idxJ (isV n) (g.vs.map Vx.cl) 0) (h7 : kd = 7 → ¬ 0 ≤ idxJ (isE n) (g.es.map Lk.cl) 0) :
   acall S 22 [.agg g.c, .agg [.i .i64 kd, .i .i64 n, .str s, .sl kk z ll], .str name, .agg v.c] = some (.tup [.agg g.cl.c, .i .i64 101], []) := by
 have hcl := e1000011 g h
 have hck := e7 g.cl (Gr.cl_ok h)
 rw [Gr.cl_p, hc] at hck
 have hvl := h.vl
 have hel := h.el
 have hv0 := zdo (zch g.vs)
 have he0 := zdl (zcg g.es)
 have hp := fun hp hh => zl2 (hp := hp) (kv := 1024) (ke := 1025) (Kv := 1025000000000000000) (Ke := 1026000000000000000) (last := g.last) (s := s) (y := .sl kk z ll) hh (zcm h (by omega) (by omega) (by omega) (by omega)) h6 h7
 obtain ⟨yk, ym, ys, ykk, yz, yll⟩ := v
 simp only [growd, Gr.c, Gr.cl, Vl.c, Vl.cs_map] at hcl hck ⊢
 simp only [zce, List.length_map, zen, vBlk, eBlk, bxB] at hp
 refine W_eq (g22 rfl ?_)
 (repeat' (first | with_reducible refine zab ?_ | simp only [go_sem, J0, reduceIte, reduceCtorEq, Ja, Jb, Jc, Jd, Je, Jf, Jg, Jh, Ji, Jj, Jk, Jl, Jm, Jn, Jo, Jp, Jq, Jr, Js, a22, s1000011, hcl, s7, hck, List.length_map, hvl, hel, hv0, he0, zdv (ty := 45) (sz := 5), zcb (ty := 45) (sz := 5), hp]))
end
section
theorem zdj {last top : Int} {v : PVx} : znf last top v = false ↔ last < v.id ∧ v.id ≤ top ∧ nameB v.label = true ∧ zcj v.props = false := by
 simp only [znf, bvx, Bool.or_eq_false_iff, decide_eq_false_iff_not, Bool.not_eq_false', Int.not_le, Int.not_lt]
theorem zdp {ids : Int → Bool} {last top : Int} {e : PLk} : zm5 ids last top e = false ↔ last < e.id ∧ e.id ≤ top ∧ nameB e.label = true ∧ zcj e.props = false ∧ ids e.id = false ∧ ids e.out = true ∧ ids e.inn = true := by
 simp only [zm5, blk, Bool.or_eq_false_iff, decide_eq_false_iff_not, Bool.not_eq_false', Int.not_le, Int.not_lt]
theorem zcv {last top : Int} {v : PVx} {r : List PVx} : zdc top last (v :: r) = false ↔ znf last top v = false ∧ zdc top v.id r = false := by simp only [zdc, Bool.or_eq_false_iff]
theorem zc4 {ids : Int → Bool} {last top : Int} {e : PLk} {r : List PLk} : zdh ids top last (e :: r) = false ↔ zm5 ids last top e = false ∧ zdh ids top e.id r = false := by simp only [zdh, Bool.or_eq_false_iff]
theorem zlq {top top' : Int} (ht : top ≤ top') : ∀ {l : List PVx} {last : Int}, zdc top last l = false → zdc top' last l = false
 | [], _, _ => rfl
 | v :: r, last, h => by
   obtain ⟨h1, h2⟩ := zcv.1 h
   obtain ⟨a, b, c, d⟩ := zdj.1 h1
   exact zcv.2 ⟨zdj.2 ⟨a, by omega, c, d⟩, zlq ht h2⟩
theorem zrn {top : Int} : ∀ {l : List PVx} {last last' : Int}, last' ≤ last → zdc top last l = false → zdc top last' l = false
 | [], _, _, _, _ => rfl
 | v :: r, last, last', hl, h => by
   obtain ⟨h1, h2⟩ := zcv.1 h
   obtain ⟨a, b, c, d⟩ := zdj.1 h1
   exact zcv.2 ⟨zdj.2 ⟨by omega, b, c, d⟩, h2⟩
theorem zrd {ids : Int → Bool} {top : Int} : ∀ {l : List PLk} {last last' : Int}, last' ≤ last → zdh ids top last l = false → zdh ids top last' l = false
 | [], _, _, _, _ => rfl
 | v :: r, last, last', hl, h => by
   obtain ⟨h1, h2⟩ := zc4.1 h
   obtain ⟨a, b⟩ := zdp.1 h1
   exact zc4.2 ⟨zdp.2 ⟨by omega, b⟩, h2⟩
theorem zlw {top : Int} {lab : List UInt8} (hn : nameB lab = true) : ∀ {l : List PVx} {last : Int}, last ≤ top → zdc top last l = false → zdc (top + 1) last (l ++ [⟨top + 1, lab, []⟩]) = false
 | [], last, hl, _ => zcv.2 ⟨zdj.2 ⟨by simp only; omega, by simp only; omega, hn, rfl⟩, rfl⟩
 | v :: r, last, hl, h => by
   obtain ⟨h1, h2⟩ := zcv.1 h
   obtain ⟨a, b, c, d⟩ := zdj.1 h1
   exact zcv.2 ⟨zdj.2 ⟨a, by omega, c, d⟩, zlw hn b h2⟩
theorem zl5 {ids : Int → Bool} {top : Int} {lab : List UInt8} {o i : Int} (hn : nameB lab = true) (h0 : ids (top + 1) = false) (h1 : ids o = true) (h2 : ids i = true) : ∀ {l : List PLk} {last : Int}, last ≤ top → zdh ids top last l = false → zdh ids (top + 1) last (l ++ [⟨top + 1, lab, o, i, []⟩]) = false
 | [], last, hl, _ => zc4.2 ⟨zdp.2 ⟨by simp only; omega, by simp only; omega, hn, rfl, h0, h1, h2⟩, rfl⟩
 | v :: r, last, hl, h => by
   obtain ⟨k1, k2⟩ := zc4.1 h
   obtain ⟨a, b, c⟩ := zdp.1 k1
   exact zc4.2 ⟨zdp.2 ⟨a, by omega, c⟩, zl5 hn h0 h1 h2 b k2⟩
theorem zoe {ids ids' : Int → Bool} {top : Int} (h1 : ∀ n, n ≤ top → ids n = false → ids' n = false) (h2 : ∀ n, ids n = true → ids' n = true) : ∀ {l : List PLk} {last : Int}, zdh ids top last l = false → zdh ids' (top + 1) last l = false
 | [], _, _ => rfl
 | v :: r, last, h => by
   obtain ⟨k1, k2⟩ := zc4.1 h
   obtain ⟨a, b, c, d, e, f, g⟩ := zdp.1 k1
   exact zc4.2 ⟨zdp.2 ⟨a, by omega, c, d, h1 _ b e, h2 _ f, h2 _ g⟩, zoe h1 h2 k2⟩
theorem zvd {top : Int} : ∀ {l : List PVx} {last n : Int}, zdc top last l = false → zcs l n = true → n ≤ top
 | [], _, _, _, h => by simp [zcs] at h
 | v :: r, last, n, h, hi => by
   obtain ⟨h1, h2⟩ := zcv.1 h
   obtain ⟨a, b, c, d⟩ := zdj.1 h1
   simp only [zcs, List.any_cons, Bool.or_eq_true, beq_iff_eq] at hi
   rcases hi with rfl | hi
   · exact b
   · exact zvd (n := n) h2 hi
theorem zf2 {top : Int} {p : PVx → Bool} : ∀ {l : List PVx} {last : Int}, zdc top last l = false → zdc top last (l.filter p) = false
 | [], _, _ => rfl
 | v :: r, last, h => by
   obtain ⟨h1, h2⟩ := zcv.1 h
   obtain ⟨a, b, c, d⟩ := zdj.1 h1
   rw [List.filter_cons]
   split
   · exact zcv.2 ⟨h1, zf2 h2⟩
   · exact zrn (Int.le_of_lt a) (zf2 h2)
theorem zf1 {ids ids' : Int → Bool} {top : Int} {p : PLk → Bool} (h0 : ∀ n, ids n = false → ids' n = false) : ∀ {l : List PLk} {last : Int}, (∀ e ∈ l, p e = true → (ids e.out = true → ids' e.out = true) ∧ (ids e.inn = true → ids' e.inn = true)) → zdh ids top last l = false → zdh ids' top last (l.filter p) = false
 | [], _, _, _ => rfl
 | v :: r, last, hp, h => by
   obtain ⟨k1, k2⟩ := zc4.1 h
   obtain ⟨a, b, c, d, e, f, g⟩ := zdp.1 k1
   have ih := zf1 (p := p) h0 (fun e he => hp e (List.mem_cons_of_mem _ he)) k2
   rw [List.filter_cons]
   split
   · rename_i hv
     obtain ⟨q1, q2⟩ := hp v (List.mem_cons_self ..) hv
     exact zc4.2 ⟨zdp.2 ⟨a, b, c, d, h0 _ e, q1 f, q2 g⟩, ih⟩
   · exact zrd (Int.le_of_lt a) ih
theorem ze3 {g : PG} : okG g = true ↔ (0 ≤ g.last ∧ g.last ≤ 281474976710656 ∧ g.v.length ≤ 2048 ∧ g.e.length ≤ 2048) ∧ zdc g.last 0 g.v = false ∧ zdh (zcs g.v) g.last 0 g.e = false := by
 simp only [okG, tooBig, bigN, Bool.and_eq_true, Bool.not_eq_true', Bool.or_eq_false_iff, decide_eq_false_iff_not]
 constructor
 · rintro ⟨⟨a, b, c, d⟩, e, f⟩
   exact ⟨⟨by omega, by omega, by omega, by omega⟩, e, f⟩
 · rintro ⟨⟨a, b, c, d⟩, e, f⟩
   exact ⟨⟨by omega, by omega, by omega, by omega⟩, e, f⟩
theorem zwf {g : PG} {lab : List UInt8} (h : okG g = true) (hn : nameB lab = true) (h1 : g.v.length < 2048) (h2 : g.last < 281474976710656) : okG ⟨g.v ++ [⟨g.last + 1, lab, []⟩], g.e, g.last + 1⟩ = true := by
 obtain ⟨⟨a, b, c, d⟩, e, f⟩ := ze3.1 h
 refine ze3.2 ⟨⟨by simp only; omega, by simp only; omega, by simp only [List.length_append, List.length_cons, List.length_nil]; omega, d⟩, zlw hn a e, ?_⟩
 have hid : ∀ n, zcs (g.v ++ [⟨g.last + 1, lab, []⟩]) n = (zcs g.v n || (g.last + 1 == n)) := fun n => by simp [zcs]
 refine zoe (fun n hn h => ?_) (fun n h => ?_) f
 · rw [hid, h, Bool.false_or, beq_eq_false_iff_ne]; omega
 · rw [hid, h, Bool.true_or]
theorem zwa {g : PG} {lab : List UInt8} {o i : Int} (h : okG g = true) (hn : nameB lab = true) (h1 : g.e.length < 2048) (h2 : g.last < 281474976710656) (ho : zcs g.v o = true) (hi : zcs g.v i = true) : okG ⟨g.v, g.e ++ [⟨g.last + 1, lab, o, i, []⟩], g.last + 1⟩ = true := by
 obtain ⟨⟨a, b, c, d⟩, e, f⟩ := ze3.1 h
 refine ze3.2 ⟨⟨by simp only; omega, by simp only; omega, c, by simp only [List.length_append, List.length_cons, List.length_nil]; omega⟩, zlq (by simp only; omega) e, zl5 hn ?_ ho hi a f⟩
 cases hx : zcs g.v (g.last + 1) with
 | false => rfl
 | true => have := zvd e hx; omega
theorem zuh {g : PG} {p : PLk → Bool} (h : okG g = true) : okG ⟨g.v, g.e.filter p, g.last⟩ = true := by
 obtain ⟨⟨a, b, c, d⟩, e, f⟩ := ze3.1 h
 exact ze3.2 ⟨⟨a, b, c, Nat.le_trans (List.length_filter_le ..) d⟩, e, zf1 (fun n h => h) (fun e _ _ => ⟨id, id⟩) f⟩
theorem zuz {g : PG} {n : Int} (h : okG g = true) : okG ⟨g.v.filter fun x => !decide (x.id = n), g.e.filter fun e => !(decide (e.out = n) || decide (e.inn = n)), g.last⟩ = true := by
 obtain ⟨⟨a, b, c, d⟩, e, f⟩ := ze3.1 h
 refine ze3.2 ⟨⟨a, b, Nat.le_trans (List.length_filter_le ..) c, Nat.le_trans (List.length_filter_le ..) d⟩, zf2 e, zf1 (fun m hm => ?_) (fun e _ he => ?_) f⟩
 · simp only [zcs, List.any_eq_false] at hm ⊢
   intro x hx
   exact hm x (List.mem_filter.1 hx).1
 · have keep : ∀ m, m ≠ n → zcs g.v m = true → zcs (g.v.filter fun x => !decide (x.id = n)) m = true := by
     intro m hm hi
     simp only [zcs, List.any_eq_true] at hi ⊢
     obtain ⟨x, hx, hxm⟩ := hi
     refine ⟨x, List.mem_filter.2 ⟨hx, ?_⟩, hxm⟩
     simp only [beq_iff_eq] at hxm
     subst hxm
     simp [hm]
   simp only [Bool.not_eq_true', Bool.or_eq_false_iff, decide_eq_false_iff_not] at he
   exact ⟨keep _ he.1, keep _ he.2⟩
end
section
theorem psnil : PsOk .nil 0 [] := ⟨⟨.inr rfl, fun _ => rfl⟩, by decide, by simp⟩
theorem zqm {α : Type} {l : List α} {n : Nat} {x : α} : OkS .open_ n n (l ++ [x]) := OkS.open_ n _
theorem zzu {g : Gr} (h : g.ok) {label : List UInt8} (hn : label.length ≤ 137438953472) :
   ∃ (q : Gr) (n e : Int), acall S 13 [.agg g.c, .str label] = some (.tup [.agg q.c, .i .i64 n, .i .i64 e], []) ∧ q.ok ∧ (okG g.p = true → okG q.p = true ∧ g.last ≤ q.last) := by
 have hcl := e11 g h
 have hck := e7 g.cl (Gr.cl_ok h)
 have hnm := e27 label (Nat.le_trans hn (by decide))
 have hvl := h.vl
 have hel := h.el
 have hL : LIM = 274877906944 := rfl
 rw [Gr.cl_p] at hck
 have hcp := Gr.cl_p g
 have hco := Gr.cl_ok h
 have hcb : okG g.p = true → okG g.cl.p = true ∧ g.last ≤ g.cl.last := fun e => ⟨by rw [hcp]; exact e, Int.le_refl _⟩
 cases hc : okG g.p with
 | false =>
   rw [hc] at hck
   refine ⟨g.cl, 0, 103, ?_, hco, fun e => by cases e⟩
   simp only [grow, Gr.c, Gr.cl] at hcl hck ⊢
   refine W_eq (g13 rfl ?_)
   (repeat' (first | with_reducible refine zab ?_ | simp only [go_sem, J0, reduceIte, reduceCtorEq, Ja, Jb, Jc, Jd, Je, Jf, Jg, Jh, Ji, Jj, Jk, Jl, Jm, Jn, Jo, Jp, Jq, Jr, Js, a13, s11, hcl, s7, hck, List.length_map, hvl, hel]))
 | true =>
   rw [hc] at hck
   cases hq : nameB label with
   | false =>
     rw [hq] at hnm
     refine ⟨g.cl, 0, 100, ?_, hco, fun _ => hcb hc⟩
     simp only [grow, Gr.c, Gr.cl] at hcl hck ⊢
     refine W_eq (g13 rfl ?_)
     (repeat' (first | with_reducible refine zab ?_ | simp only [go_sem, J0, reduceIte, reduceCtorEq, Ja, Jb, Jc, Jd, Je, Jf, Jg, Jh, Ji, Jj, Jk, Jl, Jm, Jn, Jo, Jp, Jq, Jr, Js, a13, s11, hcl, s7, hck, s27, hnm, List.length_map, hvl, hel]))
   | true =>
     rw [hq] at hnm
     obtain ⟨⟨l0, l1, l2, l3⟩, -, -⟩ := ze3.1 hc
     simp only [Gr.p, List.length_map] at l0 l1 l2 l3
     by_cases f1 : (2048 : Int) ≤ (g.vs.length : Int)
     · have d1 : decide ((2048 : Int) ≤ (g.vs.length : Int)) = true := decide_eq_true f1
       refine ⟨g.cl, 0, 6, ?_, hco, fun _ => hcb hc⟩
       simp only [grow, Gr.c, Gr.cl] at hcl hck ⊢
       refine W_eq (g13 rfl ?_)
       (repeat' (first | with_reducible refine zab ?_ | simp only [go_sem, J0, reduceIte, reduceCtorEq, Ja, Jb, Jc, Jd, Je, Jf, Jg, Jh, Ji, Jj, Jk, Jl, Jm, Jn, Jo, Jp, Jq, Jr, Js, a13, s11, hcl, s7, hck, s27, hnm, List.length_map, hvl, hel, d1]))
     · have d1 : decide ((2048 : Int) ≤ (g.vs.length : Int)) = false := decide_eq_false f1
       by_cases f2 : (281474976710656 : Int) ≤ g.last
       · have d2 : decide ((281474976710656 : Int) ≤ g.last) = true := decide_eq_true f2
         refine ⟨g.cl, 0, 6, ?_, hco, fun _ => hcb hc⟩
         simp only [grow, Gr.c, Gr.cl] at hcl hck ⊢
         refine W_eq (g13 rfl ?_)
         (repeat' (first | with_reducible refine zab ?_ | simp only [go_sem, J0, reduceIte, reduceCtorEq, Ja, Jb, Jc, Jd, Je, Jf, Jg, Jh, Ji, Jj, Jk, Jl, Jm, Jn, Jo, Jp, Jq, Jr, Js, a13, s11, hcl, s7, hck, s27, hnm, List.length_map, hvl, hel, d1, d2]))
       · have d2 : decide ((281474976710656 : Int) ≤ g.last) = false := decide_eq_false f2
         have hw : IntKind.i64.wrap (g.last + 1) = g.last + 1 := wrap_i64 (by omega) (by omega)
         have glim : g.vs.length + 1 ≤ LIM := by omega
         obtain ⟨h1, h2, h3, h4, h5, h6⟩ := hco
         refine ⟨{ g.cl with vk := .open_, vs := g.cl.vs ++ [⟨g.last + 1, label, .nil, 0, []⟩], last := g.last + 1 }, g.last + 1, 0, ?_, ⟨zqm, h2, ?_, h4, ?_, h6⟩, fun _ => ⟨?_, by simp only; omega⟩⟩
         · simp only [grow, Gr.c, Gr.cl, List.map_append, List.map_cons, List.map_nil, Vx.c] at hcl hck ⊢
           refine W_eq (g13 rfl ?_)
           (repeat' (first | with_reducible refine zab ?_ | simp only [go_sem, J0, reduceIte, reduceCtorEq, Ja, Jb, Jc, Jd, Je, Jf, Jg, Jh, Ji, Jj, Jk, Jl, Jm, Jn, Jo, Jp, Jq, Jr, Js, a13, s11, hcl, s7, hck, s27, hnm, List.length_map, hvl, hel, d1, d2, hw, glim]))
         · simp only [Gr.cl, List.length_append, List.length_map, List.length_cons, List.length_nil]; omega
         · intro x hx
           rcases List.mem_append.1 hx with hx | hx
           · exact h5 x hx
           · simp only [List.mem_singleton] at hx
             subst hx
             exact ⟨hn, psnil⟩
         · have := zwf (g := g.cl.p) (lab := label) (by rw [hcp]; exact hc) hq (by rw [hcp]; simp only [Gr.p, List.length_map]; omega) (by rw [hcp]; simp only [Gr.p]; omega)
           simp only [Gr.p, List.map_append, List.map_cons, List.map_nil, Vx.p] at this ⊢
           exact this
theorem zzp {g : Gr} (h : g.ok) {label : List UInt8} (hn : label.length ≤ 137438953472) (o i : Int) :
   ∃ (q : Gr) (n e : Int), acall S 14 [.agg g.c, .str label, .i .i64 o, .i .i64 i] = some (.tup [.agg q.c, .i .i64 n, .i .i64 e], []) ∧ q.ok ∧ (okG g.p = true → okG q.p = true ∧ g.last ≤ q.last) := by
 have hcl := e11 g h
 have hck := e7 g.cl (Gr.cl_ok h)
 have hnm := e27 label (Nat.le_trans hn (by decide))
 have hvl := h.vl
 have hel := h.el
 have hL : LIM = 274877906944 := rfl
 rw [Gr.cl_p] at hck
 have hcp := Gr.cl_p g
 have hco := Gr.cl_ok h
 have hvo := fun n => e41 n (.sl g.cl.ek g.cl.ez (g.cl.es.map Lk.c)) (.i .i64 g.cl.last) hco.v hco.vl rfl rfl
 have ho := hvo o
 have hi := hvo i
 have hid : ∀ n, decide (0 ≤ idxJ (isV n) g.cl.vs 0) = zcs g.cl.p.v n := fun n => by
   rw [zmo]
   simp only [Gr.p, zcs, List.any_map]
   congr 1
 rw [hid] at ho hi
 have hcb : okG g.p = true → okG g.cl.p = true ∧ g.last ≤ g.cl.last := fun e => ⟨by rw [hcp]; exact e, Int.le_refl _⟩
 generalize idxJ (isV o) g.cl.vs 0 = jo at ho
 generalize idxJ (isV i) g.cl.vs 0 = ji at hi
 generalize ao : zcs g.cl.p.v o = bo at ho
 generalize ai : zcs g.cl.p.v i = bi at hi
 cases hc : okG g.p with
 | false =>
   rw [hc] at hck
   refine ⟨g.cl, 0, 103, ?_, hco, fun e => by cases e⟩
   simp only [grow, Gr.c, Gr.cl] at hcl hck ho hi ⊢
   refine W_eq (g14 rfl ?_)
   (repeat' (first | with_reducible refine zab ?_ | simp only [go_sem, J0, reduceIte, reduceCtorEq, Ja, Jb, Jc, Jd, Je, Jf, Jg, Jh, Ji, Jj, Jk, Jl, Jm, Jn, Jo, Jp, Jq, Jr, Js, a14, s11, hcl, s7, hck, List.length_map, hvl, hel, s41, ho, hi]))
 | true =>
   rw [hc] at hck
   cases hq : nameB label with
   | false =>
     rw [hq] at hnm
     refine ⟨g.cl, 0, 100, ?_, hco, fun _ => hcb hc⟩
     simp only [grow, Gr.c, Gr.cl] at hcl hck ho hi ⊢
     refine W_eq (g14 rfl ?_)
     (repeat' (first | with_reducible refine zab ?_ | simp only [go_sem, J0, reduceIte, reduceCtorEq, Ja, Jb, Jc, Jd, Je, Jf, Jg, Jh, Ji, Jj, Jk, Jl, Jm, Jn, Jo, Jp, Jq, Jr, Js, a14, s11, hcl, s7, hck, s27, hnm, List.length_map, hvl, hel, s41, ho, hi]))
   | true =>
     rw [hq] at hnm
     obtain ⟨⟨l0, l1, l2, l3⟩, -, -⟩ := ze3.1 hc
     simp only [Gr.p, List.length_map] at l0 l1 l2 l3
     cases bo with
     | false =>
       refine ⟨g.cl, 0, 101, ?_, hco, fun _ => hcb hc⟩
       simp only [grow, Gr.c, Gr.cl] at hcl hck ho hi ⊢
       refine W_eq (g14 rfl ?_)
       (repeat' (first | with_reducible refine zab ?_ | simp only [go_sem, J0, reduceIte, reduceCtorEq, Ja, Jb, Jc, Jd, Je, Jf, Jg, Jh, Ji, Jj, Jk, Jl, Jm, Jn, Jo, Jp, Jq, Jr, Js, a14, s11, hcl, s7, hck, s27, hnm, List.length_map, hvl, hel, s41, ho, hi]))
     | true =>
       cases bi with
       | false =>
         refine ⟨g.cl, 0, 101, ?_, hco, fun _ => hcb hc⟩
         simp only [grow, Gr.c, Gr.cl] at hcl hck ho hi ⊢
         refine W_eq (g14 rfl ?_)
         (repeat' (first | with_reducible refine zab ?_ | simp only [go_sem, J0, reduceIte, reduceCtorEq, Ja, Jb, Jc, Jd, Je, Jf, Jg, Jh, Ji, Jj, Jk, Jl, Jm, Jn, Jo, Jp, Jq, Jr, Js, a14, s11, hcl, s7, hck, s27, hnm, List.length_map, hvl, hel, s41, ho, hi]))
       | true =>
         by_cases f1 : (2048 : Int) ≤ (g.es.length : Int)
         · have d1 : decide ((2048 : Int) ≤ (g.es.length : Int)) = true := decide_eq_true f1
           refine ⟨g.cl, 0, 6, ?_, hco, fun _ => hcb hc⟩
           simp only [grow, Gr.c, Gr.cl] at hcl hck ho hi ⊢
           refine W_eq (g14 rfl ?_)
           (repeat' (first | with_reducible refine zab ?_ | simp only [go_sem, J0, reduceIte, reduceCtorEq, Ja, Jb, Jc, Jd, Je, Jf, Jg, Jh, Ji, Jj, Jk, Jl, Jm, Jn, Jo, Jp, Jq, Jr, Js, a14, s11, hcl, s7, hck, s27, hnm, List.length_map, hvl, hel, d1, s41, ho, hi]))
         · have d1 : decide ((2048 : Int) ≤ (g.es.length : Int)) = false := decide_eq_false f1
           by_cases f2 : (281474976710656 : Int) ≤ g.last
           · have d2 : decide ((281474976710656 : Int) ≤ g.last) = true := decide_eq_true f2
             refine ⟨g.cl, 0, 6, ?_, hco, fun _ => hcb hc⟩
             simp only [grow, Gr.c, Gr.cl] at hcl hck ho hi ⊢
             refine W_eq (g14 rfl ?_)
             (repeat' (first | with_reducible refine zab ?_ | simp only [go_sem, J0, reduceIte, reduceCtorEq, Ja, Jb, Jc, Jd, Je, Jf, Jg, Jh, Ji, Jj, Jk, Jl, Jm, Jn, Jo, Jp, Jq, Jr, Js, a14, s11, hcl, s7, hck, s27, hnm, List.length_map, hvl, hel, d1, d2, s41, ho, hi]))
           · have d2 : decide ((281474976710656 : Int) ≤ g.last) = false := decide_eq_false f2
             have hw : IntKind.i64.wrap (g.last + 1) = g.last + 1 := wrap_i64 (by omega) (by omega)
             have glim : g.es.length + 1 ≤ LIM := by omega
             obtain ⟨h1, h2, h3, h4, h5, h6⟩ := hco
             refine ⟨{ g.cl with ek := .open_, es := g.cl.es ++ [⟨g.last + 1, label, o, i, .nil, 0, []⟩], last := g.last + 1 }, g.last + 1, 0, ?_, ⟨h1, zqm, h3, ?_, h5, ?_⟩, fun _ => ⟨?_, by simp only; omega⟩⟩
             · simp only [grow, Gr.c, Gr.cl, List.map_append, List.map_cons, List.map_nil, Lk.c] at hcl hck ho hi ⊢
               refine W_eq (g14 rfl ?_)
               (repeat' (first | with_reducible refine zab ?_ | simp only [go_sem, J0, reduceIte, reduceCtorEq, Ja, Jb, Jc, Jd, Je, Jf, Jg, Jh, Ji, Jj, Jk, Jl, Jm, Jn, Jo, Jp, Jq, Jr, Js, a14, s11, hcl, s7, hck, s27, hnm, List.length_map, hvl, hel, d1, d2, hw, glim, s41, ho, hi]))
             · simp only [Gr.cl, List.length_append, List.length_map, List.length_cons, List.length_nil]; omega
             · intro x hx
               rcases List.mem_append.1 hx with hx | hx
               · exact h6 x hx
               · simp only [List.mem_singleton] at hx
                 subst hx
                 exact ⟨hn, psnil⟩
             · have := zwa (g := g.cl.p) (lab := label) (by rw [hcp]; exact hc) hq (by rw [hcp]; simp only [Gr.p, List.length_map]; omega) (by rw [hcp]; simp only [Gr.p]; omega) ao ai
               simp only [Gr.p, List.map_append, List.map_cons, List.map_nil, Lk.p] at this ⊢
               exact this
end
section
theorem ze7 {α : Type} {q : α → Bool} : ∀ {l : List α} {k : Nat}, idxJ q l k = -1 → ∀ y ∈ l, q y = false
 | [], _, _, y, hy => by simp at hy
 | x :: l, k, h, y, hy => by
   simp only [idxJ] at h
   cases hx : q x with
   | true => rw [hx, if_pos rfl] at h; omega
   | false =>
     rw [hx, if_neg (by simp)] at h
     rcases List.mem_cons.1 hy with rfl | hy
     · exact hx
     · exact ze7 h y hy
theorem zoh {α : Type} {q : α → Bool} : ∀ {l : List α} {k i : Nat}, idxJ q l k = ((k + i : Nat) : Int) → ∃ x, l[i]? = some x ∧ q x = true ∧ ∀ y ∈ l.take i, q y = false
 | [], k, i, h => by simp only [idxJ] at h; omega
 | x :: l, k, i, h => by
   simp only [idxJ] at h
   cases hx : q x with
   | true =>
     rw [hx, if_pos rfl] at h
     obtain rfl : i = 0 := by omega
     exact ⟨x, rfl, hx, by simp⟩
   | false =>
     rw [hx, if_neg (by simp)] at h
     have hk : k + 1 ≤ k + i ∨ idxJ q l (k + 1) = -1 := by
       have : ∀ (l : List α) (k : Nat), (k : Int) ≤ idxJ q l k ∨ idxJ q l k = -1 := by
         intro l
         induction l with
         | nil => intro k; exact .inr rfl
         | cons a l ih =>
           intro k
           simp only [idxJ]
           split
           · exact .inl (Int.le_refl _)
           · rcases ih (k + 1) with h | h
             · exact .inl (by omega)
             · exact .inr h
       rcases this l (k + 1) with h' | h'
       · exact .inl (by omega)
       · exact .inr h'
     have hi : 1 ≤ i := by omega
     obtain ⟨j, rfl⟩ : ∃ j, i = j + 1 := ⟨i - 1, by omega⟩
     obtain ⟨y, h1, h2, h3⟩ := zoh (q := q) (l := l) (k := k + 1) (i := j) (by rw [h]; congr 1; omega)
     refine ⟨y, h1, h2, fun z hz => ?_⟩
     rcases List.mem_cons.1 (by simpa using hz : z ∈ x :: l.take j) with rfl | hz
     · exact hx
     · exact h3 z hz
theorem zbh {α : Type} {q : α → Bool} {l : List α} {i : Nat} (h : idxJ q l 0 = (i : Int)) : ∃ x, l[i]? = some x ∧ q x = true ∧ ∀ y ∈ l.take i, q y = false := zoh (k := 0) (by rw [h, Nat.zero_add])
def zf5 (nm : List UInt8) (l : List Pp) (j : Nat) : List Pp := (l.take j).filter fun x => !eqP nm x
theorem zmb {nm : List UInt8} {l : List Pp} {j : Nat} {x : Pp} (h : l[j]? = some x) : zf5 nm l (j + 1) = zf5 nm l j ++ if eqP nm x then [] else [x] := by
 unfold zf5
 have : l.take (j + 1) = l.take j ++ [x] := by rw [List.take_add_one, h]; rfl
 rw [this, List.filter_append]
 congr 1
 cases h : eqP nm x <;> simp [h]
theorem zkt {nm : List UInt8} {l : List Pp} {i : Nat} {x : Pp} (hx : l[i]? = some x) (hq : eqP nm x = true) (h : ∀ y ∈ l.take i, eqP nm y = false) : zf5 nm l (i + 1) = l.take i := by
 rw [zmb hx, hq, if_pos rfl, List.append_nil]
 unfold zf5
 exact List.filter_eq_self.2 fun y hy => by rw [h y hy]; rfl
theorem zqy (nm : List UInt8) {l : List Pp} (hl : l.length ≤ 137438953472) (h : idxJ (eqP nm) l 0 = -1) :
   acall S 63 [.ow 45 5 false (l.map tagC), .fn 64 [.ip [.str nm]]] = some (.ow 45 5 false (l.map tagC), []) := by
 have e1 := idxQ nm (OkS.open_ 5 l) hl
 rw [h] at e1
 refine W_eq (g63 rfl ?_)
 (repeat' (first | with_reducible refine zab ?_ | simp only [go_sem, J0, reduceIte, reduceCtorEq, Ja, Jb, Jc, Jd, Je, Jf, Jg, Jh, Ji, Jj, Jk, Jl, Jm, Jn, Jo, Jp, Jq, Jr, Js, a63, s56, e1, za3, List.length_map, Nat.le_refl]))
theorem zp4 (nm : List UInt8) {l : List Pp} (hl : l.length ≤ 137438953472) {i : Nat} (h : idxJ (eqP nm) l 0 = (i : Int)) :
   acall S 63 [.ow 45 5 false (l.map tagC), .fn 64 [.ip [.str nm]]] = some (.sl .open_ 5 ((l.filter fun x => !eqP nm x).map tagC), []) := by
 have e1 := idxQ nm (OkS.open_ 5 l) hl
 rw [h] at e1
 obtain ⟨x0, hx0, hq0, hb0⟩ := zbh h
 have hi0 := zbi hx0
 have n1 : decide ((i : Int) = -1) = false := decide_eq_false (by omega)
 have hw0 := wrap_succ (k := i) (by omega)
 refine W_eq (g63 rfl ?_)
 (repeat' (first | with_reducible refine zab ?_ | simp only [go_sem, J0, reduceIte, reduceCtorEq, Ja, Jb, Jc, Jd, Je, Jf, Jg, Jh, Ji, Jj, Jk, Jl, Jm, Jn, Jo, Jp, Jq, Jr, Js, a63, s56, e1, za3, List.length_map, Nat.le_refl, n1, hw0]))
 refine zag (ι := Nat × List Pp) (fun y => [.ow 45 5 false (y.2.map tagC), .fn 64 [.ip [.str nm]], .i .i64 (zf5 nm l y.1).length, .i .i64 y.1])
   (fun y => y.1 ≤ l.length ∧ (zf5 nm l y.1).length < y.1 ∧ y.2.length = l.length ∧ y.2.take (zf5 nm l y.1).length = zf5 nm l y.1 ∧ y.2.drop y.1 = l.drop y.1) (fun y => l.length - y.1) (i + 1, l) ?_ ?_ ?_
 · have := zkt hx0 hq0 hb0
   simp only [this, List.length_take, Nat.min_eq_left (Nat.le_of_lt hi0)]
 · have := zkt hx0 hq0 hb0
   simp only [this, List.length_take, Nat.min_eq_left (Nat.le_of_lt hi0), and_self, and_true]
   try omega
 rintro ⟨j, M⟩ ⟨hj, hk, hlen, ht, hd⟩
 simp only at hj hk hlen ht hd ⊢
 have b1 : (0 : Int) ≤ (j : Int) := by omega
 by_cases hlt : j < l.length
 · obtain ⟨c, gc⟩ := zbj hlt
   have g1 : decide ((j : Int) < (l.length : Int)) = true := decide_eq_true (by omega)
   have b2 : (j : Int) < (l.length : Int) := by omega
   have hw := wrap_succ (k := j) (by omega)
   have hs := zmb (nm := nm) gc
   have ge : M[j]? = some c := by
     have := congrArg List.head? hd
     rw [List.head?_drop, List.head?_drop, gc] at this
     exact this
   have hd2 : M.drop (j + 1) = l.drop (j + 1) := by
     have := congrArg (List.drop 1) hd
     rw [List.drop_drop, List.drop_drop] at this
     exact this
   have ec := fnQ c nm
   cases hc : eqP nm c with
   | true =>
     rw [hc] at ec hs
     rw [if_pos rfl, List.append_nil] at hs
     obtain ⟨xn, xv⟩ := c
     obtain ⟨xk, xm, xs, xkk, xz, xll⟩ := xv
     simp only [tagC, Vl.c, Vl.cs_map] at ec
     (repeat' (first | with_reducible refine zab ?_ | simp only [go_sem, J0, reduceIte, reduceCtorEq, Ja, Jb, Jc, Jd, Je, Jf, Jg, Jh, Ji, Jj, Jk, Jl, Jm, Jn, Jo, Jp, Jq, Jr, Js, g1, b1, b2, ge, hlen, List.length_map, s64, ec, hw, za3, tagC, Vl.c, Vl.cs_map]))
     exact ⟨(j + 1, M), by rw [hs], ⟨by omega, by rw [hs]; omega, hlen, by rw [hs]; exact ht, hd2⟩, by simp only; omega⟩
   | false =>
     rw [hc] at ec hs
     rw [if_neg (by simp)] at hs
     have hsl : (zf5 nm l (j + 1)).length = (zf5 nm l j).length + 1 := by rw [hs, List.length_append]; rfl
     have k3 : (zf5 nm l j).length = (zf5 nm l j).length := rfl
     generalize hn : (zf5 nm l j).length = n at hk ht hsl ⊢
     obtain ⟨d, gd⟩ : ∃ y, M[n]? = some y := ⟨M[n]'(by omega), List.getElem?_eq_getElem (by omega)⟩
     have c1 : (0 : Int) ≤ (n : Int) := by omega
     have c2 : (n : Int) < (l.length : Int) := by omega
     have c3 : n < l.length := by omega
     have hwn := wrap_succ (k := n) (by omega)
     have k1 : (M.set n c).take (n + 1) = zf5 nm l (j + 1) := by
       rw [List.take_add_one, List.take_set_of_le (Nat.le_refl _), ht, hs, List.getElem?_set_self (by omega)]
       rfl
     have k2 : (M.set n c).drop (j + 1) = l.drop (j + 1) := by rw [List.drop_set_of_lt (by omega)]; exact hd2
     have km := List.map_set (f := tagC) (l := M) (i := n) (a := c)
     obtain ⟨xn, xv⟩ := c
     obtain ⟨xk, xm, xs, xkk, xz, xll⟩ := xv
     obtain ⟨dn, dv⟩ := d
     obtain ⟨dk, dm, ds, dkk, dz, dll⟩ := dv
     simp only [tagC, Vl.c, Vl.cs_map] at ec km
     (repeat' (first | with_reducible refine zab ?_ | simp only [go_sem, J0, reduceIte, reduceCtorEq, Ja, Jb, Jc, Jd, Je, Jf, Jg, Jh, Ji, Jj, Jk, Jl, Jm, Jn, Jo, Jp, Jq, Jr, Js, g1, b1, b2, c1, c2, c3, ge, gd, hlen, List.length_set, Nat.le_refl, List.length_map, s64, ec, hw, hwn, za3, tagC, Vl.c, Vl.cs_map]))
     exact ⟨(j + 1, M.set n (xn, Vl.mk xk xm xs xkk xz xll)), by rw [hsl, km], ⟨by omega, by rw [hsl]; omega, by rw [List.length_set]; exact hlen, by rw [hsl]; exact k1, k2⟩, by simp only; omega⟩
 · have g1 : decide ((j : Int) < (l.length : Int)) = false := decide_eq_false (by omega)
   obtain rfl : j = l.length := by omega
   have hf : zf5 nm l l.length = l.filter fun x => !eqP nm x := by unfold zf5; rw [List.take_length]
   rw [hf] at hk ht ⊢
   generalize (l.filter fun x => !eqP nm x) = F at hk ht ⊢
   have c1 : (0 : Int) ≤ (F.length : Int) := by omega
   have c3 : F.length ≤ l.length := by omega
   have c4 : F.length + (l.length - F.length) ≤ l.length := by omega
   have c5 : (M.map tagC).take F.length = F.map tagC := by rw [← List.map_take, ht]
   have c6 : ∀ z : List AV, l.length ≤ F.length + ((List.replicate (l.length - F.length) z).length + (List.drop (F.length + (l.length - F.length)) (M.map tagC)).length) := fun z => by rw [List.length_replicate]; omega
   have c7 : ∀ X : List (List AV), (F.map tagC ++ X).take F.length = F.map tagC := fun X => by rw [List.take_left' (by rw [List.length_map])]
   have c8 : ∀ z : List AV, ¬ F.length = F.length + ((List.replicate (l.length - F.length) z).length + (List.drop (F.length + (l.length - F.length)) (M.map tagC)).length) := fun z => by rw [List.length_replicate]; omega
   have c9 : ∀ n, F.length ≤ F.length + n := fun n => Nat.le_add_right _ _
   (repeat' (first | with_reducible refine zab ?_ | simp only [go_sem, J0, reduceIte, reduceCtorEq, Ja, Jb, Jc, Jd, Je, Jf, Jg, Jh, Ji, Jj, Jk, Jl, Jm, Jn, Jo, Jp, Jq, Jr, Js, g1, hlen, List.length_map, c1, c3, c4, c5, c6, c7, c8, c9]))
end
section
def kept {α : Type} (q : α → Bool) (l : List α) (j : Nat) : List α := (l.take j).filter fun x => !q x
theorem zkl {α : Type} {q : α → Bool} {l : List α} {j : Nat} {x : α} (h : l[j]? = some x) : kept q l (j + 1) = kept q l j ++ if q x then [] else [x] := by
 unfold kept
 have : l.take (j + 1) = l.take j ++ [x] := by rw [List.take_add_one, h]; rfl
 rw [this, List.filter_append]
 congr 1
 cases h : q x <;> simp [h]
theorem zgg {α : Type} {q : α → Bool} {l : List α} {i : Nat} {x : α} (hx : l[i]? = some x) (hq : q x = true) (h : ∀ y ∈ l.take i, q y = false) : kept q l (i + 1) = l.take i := by
 rw [zkl hx, hq, if_pos rfl, List.append_nil]
 unfold kept
 exact List.filter_eq_self.2 fun y hy => by rw [h y hy]; rfl
section
variable {clo : Nat} {kd n : Int} {s : List UInt8} {kk : SK} {z : Nat} {ll : List (List AV)} {q : Vx → Bool}
theorem z5x (hs : S.spec clo = { pm := [], rm := none }) (hq : ∀ x : Vx, acall S clo [.agg x.c, .ip [.i .i64 kd, .i .i64 n, .str s, .sl kk z ll]] = some (.b (q x), [])) {k : SK} {y : Nat} {l : List Vx} (h : OkS k y 3 l) (hl : l.length ≤ 137438953472) :
   acall S 72 [.sl k y (l.map Vx.c), .fn clo [.ip [.i .i64 kd, .i .i64 n, .str s, .sl kk z ll]]] = some (.i .i64 (idxJ q l 0), []) := by
 refine W_eq (g72 rfl ?_)
 (repeat' (first | with_reducible refine zab ?_ | simp only [go_sem, J0, reduceIte, reduceCtorEq, Ja, Jb, Jc, Jd, Je, Jf, Jg, Jh, Ji, Jj, Jk, Jl, Jm, Jn, Jo, Jp, Jq, Jr, Js, a72]))
 refine zag (ι := Nat) (fun i => [.sl k y (l.map Vx.c), .fn clo [.ip [.i .i64 kd, .i .i64 n, .str s, .sl kk z ll]], .i .i64 l.length, .i .i64 i]) (fun i => i ≤ l.length ∧ idxJ q (l.drop i) i = idxJ q l 0) (fun i => l.length - i) 0 rfl ⟨by omega, rfl⟩ ?_
 rintro i ⟨hi, hT⟩
 by_cases hlt : i < l.length
 · obtain ⟨c, gc⟩ := zbj hlt
   have g1 : decide ((i : Int) < (l.length : Int)) = true := decide_eq_true (by omega)
   have b1 : (0 : Int) ≤ (i : Int) := by omega
   have hw := wrap_succ (k := i) (by omega)
   rw [za4 gc] at hT
   simp only [idxJ] at hT
   have ec := hq c
   cases hc : q c with
   | true =>
     rw [hc] at ec hT
     obtain ⟨xid, xl, xpk, xpz, xps⟩ := c
     simp only [Vx.c] at ec
     rw [if_pos rfl] at hT
     (repeat' (first | with_reducible refine zab ?_ | simp only [go_sem, J0, reduceIte, reduceCtorEq, Ja, Jb, Jc, Jd, Je, Jf, Jg, Jh, Ji, Jj, Jk, Jl, Jm, Jn, Jo, Jp, Jq, Jr, Js, g1, b1, gc, h.1, Vx.c, hs, ec]))
     rw [← hT]
   | false =>
     rw [hc] at ec hT
     obtain ⟨xid, xl, xpk, xpz, xps⟩ := c
     simp only [Vx.c] at ec
     rw [if_neg (by simp)] at hT
     (repeat' (first | with_reducible refine zab ?_ | simp only [go_sem, J0, reduceIte, reduceCtorEq, Ja, Jb, Jc, Jd, Je, Jf, Jg, Jh, Ji, Jj, Jk, Jl, Jm, Jn, Jo, Jp, Jq, Jr, Js, g1, b1, gc, h.1, Vx.c, hs, ec, hw]))
     exact ⟨i + 1, rfl, ⟨by omega, hT⟩, by omega⟩
 · have g1 : decide ((i : Int) < (l.length : Int)) = false := decide_eq_false (by omega)
   rw [List.drop_of_length_le (by omega)] at hT
   (repeat' (first | with_reducible refine zab ?_ | simp only [go_sem, J0, reduceIte, reduceCtorEq, Ja, Jb, Jc, Jd, Je, Jf, Jg, Jh, Ji, Jj, Jk, Jl, Jm, Jn, Jo, Jp, Jq, Jr, Js, g1]))
   rw [← hT]; rfl
theorem z3p (hs : S.spec clo = { pm := [], rm := none }) (hq : ∀ x : Vx, acall S clo [.agg x.c, .ip [.i .i64 kd, .i .i64 n, .str s, .sl kk z ll]] = some (.b (q x), [])) {nl : Bool} {l : List Vx} (hnl : nl = true → l = []) (hl : l.length ≤ 137438953472) (h : idxJ q l 0 = -1) :
   acall S 48 [.ow 43 3 nl (l.map Vx.c), .fn clo [.ip [.i .i64 kd, .i .i64 n, .str s, .sl kk z ll]]] = some (.ow 43 3 nl (l.map Vx.c), []) := by
 have ok : OkS (skOf nl) 3 3 l := by
   cases nl with
   | false => exact OkS.open_ 3 _
   | true => rw [hnl rfl]; exact ⟨.inr rfl, fun _ => rfl⟩
 have e1 := z5x hs hq ok hl
 rw [h] at e1
 refine W_eq (g48 rfl ?_)
 (repeat' (first | with_reducible refine zab ?_ | simp only [go_sem, J0, reduceIte, reduceCtorEq, Ja, Jb, Jc, Jd, Je, Jf, Jg, Jh, Ji, Jj, Jk, Jl, Jm, Jn, Jo, Jp, Jq, Jr, Js, a48, s72, e1, List.length_map, Nat.le_refl]))
theorem zve (hs : S.spec clo = { pm := [], rm := none }) (hq : ∀ x : Vx, acall S clo [.agg x.c, .ip [.i .i64 kd, .i .i64 n, .str s, .sl kk z ll]] = some (.b (q x), [])) {l : List Vx} (hl : l.length ≤ 137438953472) {i : Nat} (h : idxJ q l 0 = (i : Int)) :
   acall S 48 [.ow 43 3 false (l.map Vx.c), .fn clo [.ip [.i .i64 kd, .i .i64 n, .str s, .sl kk z ll]]] = some (.sl .open_ 3 ((l.filter fun x => !q x).map Vx.c), []) := by
 have e1 := z5x hs hq (OkS.open_ 3 l) hl
 rw [h] at e1
 obtain ⟨x0, hx0, hq0, hb0⟩ := zbh h
 have hi0 := zbi hx0
 have n1 : decide ((i : Int) = -1) = false := decide_eq_false (by omega)
 have hw0 := wrap_succ (k := i) (by omega)
 refine W_eq (g48 rfl ?_)
 (repeat' (first | with_reducible refine zab ?_ | simp only [go_sem, J0, reduceIte, reduceCtorEq, Ja, Jb, Jc, Jd, Je, Jf, Jg, Jh, Ji, Jj, Jk, Jl, Jm, Jn, Jo, Jp, Jq, Jr, Js, a48, s72, e1, za3, List.length_map, Nat.le_refl, n1, hw0]))
 refine zag (ι := Nat × List Vx) (fun y => [.ow 43 3 false (y.2.map Vx.c), .fn clo [.ip [.i .i64 kd, .i .i64 n, .str s, .sl kk z ll]], .i .i64 (kept q l y.1).length, .i .i64 y.1])
   (fun y => y.1 ≤ l.length ∧ (kept q l y.1).length < y.1 ∧ y.2.length = l.length ∧ y.2.take (kept q l y.1).length = kept q l y.1 ∧ y.2.drop y.1 = l.drop y.1) (fun y => l.length - y.1) (i + 1, l) ?_ ?_ ?_
 · have := zgg hx0 hq0 hb0
   simp only [this, List.length_take, Nat.min_eq_left (Nat.le_of_lt hi0)]
 · have := zgg hx0 hq0 hb0
   simp only [this, List.length_take, Nat.min_eq_left (Nat.le_of_lt hi0), and_self, and_true]
   try omega
 rintro ⟨j, M⟩ ⟨hj, hk, hlen, ht, hd⟩
 simp only at hj hk hlen ht hd ⊢
 have b1 : (0 : Int) ≤ (j : Int) := by omega
 by_cases hlt : j < l.length
 · obtain ⟨c, gc⟩ := zbj hlt
   have g1 : decide ((j : Int) < (l.length : Int)) = true := decide_eq_true (by omega)
   have b2 : (j : Int) < (l.length : Int) := by omega
   have hw := wrap_succ (k := j) (by omega)
   have hs2 := zkl (q := q) gc
   have ge : M[j]? = some c := by
     have := congrArg List.head? hd
     rw [List.head?_drop, List.head?_drop, gc] at this
     exact this
   have hd2 : M.drop (j + 1) = l.drop (j + 1) := by
     have := congrArg (List.drop 1) hd
     rw [List.drop_drop, List.drop_drop] at this
     exact this
   have ec := hq c
   cases hc : q c with
   | true =>
     rw [hc] at ec hs2
     rw [if_pos rfl, List.append_nil] at hs2
     obtain ⟨xid, xl, xpk, xpz, xps⟩ := c
     simp only [Vx.c] at ec
     (repeat' (first | with_reducible refine zab ?_ | simp only [go_sem, J0, reduceIte, reduceCtorEq, Ja, Jb, Jc, Jd, Je, Jf, Jg, Jh, Ji, Jj, Jk, Jl, Jm, Jn, Jo, Jp, Jq, Jr, Js, g1, b1, b2, ge, hlen, List.length_map, hs, ec, hw, za3, Vx.c]))
     exact ⟨(j + 1, M), by rw [hs2], ⟨by omega, by rw [hs2]; omega, hlen, by rw [hs2]; exact ht, hd2⟩, by simp only; omega⟩
   | false =>
     rw [hc] at ec hs2
     rw [if_neg (by simp)] at hs2
     have hsl : (kept q l (j + 1)).length = (kept q l j).length + 1 := by rw [hs2, List.length_append]; rfl
     generalize hn : (kept q l j).length = n0 at hk ht hsl ⊢
     obtain ⟨d, gd⟩ : ∃ y, M[n0]? = some y := ⟨M[n0]'(by omega), List.getElem?_eq_getElem (by omega)⟩
     have c1 : (0 : Int) ≤ (n0 : Int) := by omega
     have c2 : (n0 : Int) < (l.length : Int) := by omega
     have c3 : n0 < l.length := by omega
     have hwn := wrap_succ (k := n0) (by omega)
     have k1 : (M.set n0 c).take (n0 + 1) = kept q l (j + 1) := by
       rw [List.take_add_one, List.take_set_of_le (Nat.le_refl _), ht, hs2, List.getElem?_set_self (by omega)]
       rfl
     have k2 : (M.set n0 c).drop (j + 1) = l.drop (j + 1) := by rw [List.drop_set_of_lt (by omega)]; exact hd2
     have km := List.map_set (f := Vx.c) (l := M) (i := n0) (a := c)
     obtain ⟨xid, xl, xpk, xpz, xps⟩ := c
     obtain ⟨yid, yl, ypk, ypz, yps⟩ := d
     simp only [Vx.c] at ec km
     (repeat' (first | with_reducible refine zab ?_ | simp only [go_sem, J0, reduceIte, reduceCtorEq, Ja, Jb, Jc, Jd, Je, Jf, Jg, Jh, Ji, Jj, Jk, Jl, Jm, Jn, Jo, Jp, Jq, Jr, Js, g1, b1, b2, c1, c2, c3, ge, gd, hlen, List.length_set, Nat.le_refl, List.length_map, hs, ec, hw, hwn, za3, Vx.c]))
     exact ⟨(j + 1, M.set n0 ⟨xid, xl, xpk, xpz, xps⟩), by rw [hsl, km], ⟨by omega, by rw [hsl]; omega, by rw [List.length_set]; exact hlen, by rw [hsl]; exact k1, k2⟩, by simp only; omega⟩
 · have g1 : decide ((j : Int) < (l.length : Int)) = false := decide_eq_false (by omega)
   obtain rfl : j = l.length := by omega
   have hf : kept q l l.length = l.filter fun x => !q x := by unfold kept; rw [List.take_length]
   rw [hf] at hk ht ⊢
   generalize (l.filter fun x => !q x) = F at hk ht ⊢
   have c1 : (0 : Int) ≤ (F.length : Int) := by omega
   have c3 : F.length ≤ l.length := by omega
   have c4 : F.length + (l.length - F.length) ≤ l.length := by omega
   have c5 : (M.map Vx.c).take F.length = F.map Vx.c := by rw [← List.map_take, ht]
   have c6 : ∀ w : List AV, l.length ≤ F.length + ((List.replicate (l.length - F.length) w).length + (List.drop (F.length + (l.length - F.length)) (M.map Vx.c)).length) := fun w => by rw [List.length_replicate]; omega
   have c7 : ∀ X : List (List AV), (F.map Vx.c ++ X).take F.length = F.map Vx.c := fun X => by rw [List.take_left' (by rw [List.length_map])]
   have c8 : ∀ w : List AV, ¬ F.length = F.length + ((List.replicate (l.length - F.length) w).length + (List.drop (F.length + (l.length - F.length)) (M.map Vx.c)).length) := fun w => by rw [List.length_replicate]; omega
   have c9 : ∀ m, F.length ≤ F.length + m := fun m => Nat.le_add_right _ _
   (repeat' (first | with_reducible refine zab ?_ | simp only [go_sem, J0, reduceIte, reduceCtorEq, Ja, Jb, Jc, Jd, Je, Jf, Jg, Jh, Ji, Jj, Jk, Jl, Jm, Jn, Jo, Jp, Jq, Jr, Js, g1, hlen, List.length_map, c1, c3, c4, c5, c6, c7, c8, c9]))
end
section
variable {clo : Nat} {kd n : Int} {s : List UInt8} {kk : SK} {z : Nat} {ll : List (List AV)} {q : Lk → Bool}
theorem z6f (hs : S.spec clo = { pm := [], rm := none }) (hq : ∀ x : Lk, acall S clo [.agg x.c, .ip [.i .i64 kd, .i .i64 n, .str s, .sl kk z ll]] = some (.b (q x), [])) {k : SK} {y : Nat} {l : List Lk} (h : OkS k y 5 l) (hl : l.length ≤ 137438953472) :
   acall S 76 [.sl k y (l.map Lk.c), .fn clo [.ip [.i .i64 kd, .i .i64 n, .str s, .sl kk z ll]]] = some (.i .i64 (idxJ q l 0), []) := by
 refine W_eq (g76 rfl ?_)
 (repeat' (first | with_reducible refine zab ?_ | simp only [go_sem, J0, reduceIte, reduceCtorEq, Ja, Jb, Jc, Jd, Je, Jf, Jg, Jh, Ji, Jj, Jk, Jl, Jm, Jn, Jo, Jp, Jq, Jr, Js, a76]))
 refine zag (ι := Nat) (fun i => [.sl k y (l.map Lk.c), .fn clo [.ip [.i .i64 kd, .i .i64 n, .str s, .sl kk z ll]], .i .i64 l.length, .i .i64 i]) (fun i => i ≤ l.length ∧ idxJ q (l.drop i) i = idxJ q l 0) (fun i => l.length - i) 0 rfl ⟨by omega, rfl⟩ ?_
 rintro i ⟨hi, hT⟩
 by_cases hlt : i < l.length
 · obtain ⟨c, gc⟩ := zbj hlt
   have g1 : decide ((i : Int) < (l.length : Int)) = true := decide_eq_true (by omega)
   have b1 : (0 : Int) ≤ (i : Int) := by omega
   have hw := wrap_succ (k := i) (by omega)
   rw [za4 gc] at hT
   simp only [idxJ] at hT
   have ec := hq c
   cases hc : q c with
   | true =>
     rw [hc] at ec hT
     obtain ⟨xid, xl, xo, xi, xpk, xpz, xps⟩ := c
     simp only [Lk.c] at ec
     rw [if_pos rfl] at hT
     (repeat' (first | with_reducible refine zab ?_ | simp only [go_sem, J0, reduceIte, reduceCtorEq, Ja, Jb, Jc, Jd, Je, Jf, Jg, Jh, Ji, Jj, Jk, Jl, Jm, Jn, Jo, Jp, Jq, Jr, Js, g1, b1, gc, h.1, Lk.c, hs, ec]))
     rw [← hT]
   | false =>
     rw [hc] at ec hT
     obtain ⟨xid, xl, xo, xi, xpk, xpz, xps⟩ := c
     simp only [Lk.c] at ec
     rw [if_neg (by simp)] at hT
     (repeat' (first | with_reducible refine zab ?_ | simp only [go_sem, J0, reduceIte, reduceCtorEq, Ja, Jb, Jc, Jd, Je, Jf, Jg, Jh, Ji, Jj, Jk, Jl, Jm, Jn, Jo, Jp, Jq, Jr, Js, g1, b1, gc, h.1, Lk.c, hs, ec, hw]))
     exact ⟨i + 1, rfl, ⟨by omega, hT⟩, by omega⟩
 · have g1 : decide ((i : Int) < (l.length : Int)) = false := decide_eq_false (by omega)
   rw [List.drop_of_length_le (by omega)] at hT
   (repeat' (first | with_reducible refine zab ?_ | simp only [go_sem, J0, reduceIte, reduceCtorEq, Ja, Jb, Jc, Jd, Je, Jf, Jg, Jh, Ji, Jj, Jk, Jl, Jm, Jn, Jo, Jp, Jq, Jr, Js, g1]))
   rw [← hT]; rfl
theorem zux (hs : S.spec clo = { pm := [], rm := none }) (hq : ∀ x : Lk, acall S clo [.agg x.c, .ip [.i .i64 kd, .i .i64 n, .str s, .sl kk z ll]] = some (.b (q x), [])) {nl : Bool} {l : List Lk} (hnl : nl = true → l = []) (hl : l.length ≤ 137438953472) (h : idxJ q l 0 = -1) :
   acall S 46 [.ow 47 5 nl (l.map Lk.c), .fn clo [.ip [.i .i64 kd, .i .i64 n, .str s, .sl kk z ll]]] = some (.ow 47 5 nl (l.map Lk.c), []) := by
 have ok : OkS (skOf nl) 5 5 l := by
   cases nl with
   | false => exact OkS.open_ 5 _
   | true => rw [hnl rfl]; exact ⟨.inr rfl, fun _ => rfl⟩
 have e1 := z6f hs hq ok hl
 rw [h] at e1
 refine W_eq (g46 rfl ?_)
 (repeat' (first | with_reducible refine zab ?_ | simp only [go_sem, J0, reduceIte, reduceCtorEq, Ja, Jb, Jc, Jd, Je, Jf, Jg, Jh, Ji, Jj, Jk, Jl, Jm, Jn, Jo, Jp, Jq, Jr, Js, a46, s76, e1, List.length_map, Nat.le_refl]))
theorem zo2 (hs : S.spec clo = { pm := [], rm := none }) (hq : ∀ x : Lk, acall S clo [.agg x.c, .ip [.i .i64 kd, .i .i64 n, .str s, .sl kk z ll]] = some (.b (q x), [])) {l : List Lk} (hl : l.length ≤ 137438953472) {i : Nat} (h : idxJ q l 0 = (i : Int)) :
   acall S 46 [.ow 47 5 false (l.map Lk.c), .fn clo [.ip [.i .i64 kd, .i .i64 n, .str s, .sl kk z ll]]] = some (.sl .open_ 5 ((l.filter fun x => !q x).map Lk.c), []) := by
 have e1 := z6f hs hq (OkS.open_ 5 l) hl
 rw [h] at e1
 obtain ⟨x0, hx0, hq0, hb0⟩ := zbh h
 have hi0 := zbi hx0
 have n1 : decide ((i : Int) = -1) = false := decide_eq_false (by omega)
 have hw0 := wrap_succ (k := i) (by omega)
 refine W_eq (g46 rfl ?_)
 (repeat' (first | with_reducible refine zab ?_ | simp only [go_sem, J0, reduceIte, reduceCtorEq, Ja, Jb, Jc, Jd, Je, Jf, Jg, Jh, Ji, Jj, Jk, Jl, Jm, Jn, Jo, Jp, Jq, Jr, Js, a46, s76, e1, za3, List.length_map, Nat.le_refl, n1, hw0]))
 refine zag (ι := Nat × List Lk) (fun y => [.ow 47 5 false (y.2.map Lk.c), .fn clo [.ip [.i .i64 kd, .i .i64 n, .str s, .sl kk z ll]], .i .i64 (kept q l y.1).length, .i .i64 y.1])
   (fun y => y.1 ≤ l.length ∧ (kept q l y.1).length < y.1 ∧ y.2.length = l.length ∧ y.2.take (kept q l y.1).length = kept q l y.1 ∧ y.2.drop y.1 = l.drop y.1) (fun y => l.length - y.1) (i + 1, l) ?_ ?_ ?_
 · have := zgg hx0 hq0 hb0
   simp only [this, List.length_take, Nat.min_eq_left (Nat.le_of_lt hi0)]
 · have := zgg hx0 hq0 hb0
   simp only [this, List.length_take, Nat.min_eq_left (Nat.le_of_lt hi0), and_self, and_true]
   try omega
 rintro ⟨j, M⟩ ⟨hj, hk, hlen, ht, hd⟩
 simp only at hj hk hlen ht hd ⊢
 have b1 : (0 : Int) ≤ (j : Int) := by omega
 by_cases hlt : j < l.length
 · obtain ⟨c, gc⟩ := zbj hlt
   have g1 : decide ((j : Int) < (l.length : Int)) = true := decide_eq_true (by omega)
   have b2 : (j : Int) < (l.length : Int) := by omega
   have hw := wrap_succ (k := j) (by omega)
   have hs2 := zkl (q := q) gc
   have ge : M[j]? = some c := by
     have := congrArg List.head? hd
     rw [List.head?_drop, List.head?_drop, gc] at this
     exact this
   have hd2 : M.drop (j + 1) = l.drop (j + 1) := by
     have := congrArg (List.drop 1) hd
     rw [List.drop_drop, List.drop_drop] at this
     exact this
   have ec := hq c
   cases hc : q c with
   | true =>
     rw [hc] at ec hs2
     rw [if_pos rfl, List.append_nil] at hs2
     obtain ⟨xid, xl, xo, xi, xpk, xpz, xps⟩ := c
     simp only [Lk.c] at ec
     (repeat' (first | with_reducible refine zab ?_ | simp only [go_sem, J0, reduceIte, reduceCtorEq, Ja, Jb, Jc, Jd, Je, Jf, Jg, Jh, Ji, Jj, Jk, Jl, Jm, Jn, Jo, Jp, Jq, Jr, Js, g1, b1, b2, ge, hlen, List.length_map, hs, ec, hw, za3, Lk.c]))
     exact ⟨(j + 1, M), by rw [hs2], ⟨by omega, by rw [hs2]; omega, hlen, by rw [hs2]; exact ht, hd2⟩, by simp only; omega⟩
   | false =>
     rw [hc] at ec hs2
     rw [if_neg (by simp)] at hs2
     have hsl : (kept q l (j + 1)).length = (kept q l j).length + 1 := by rw [hs2, List.length_append]; rfl
     generalize hn : (kept q l j).length = n0 at hk ht hsl ⊢
     obtain ⟨d, gd⟩ : ∃ y, M[n0]? = some y := ⟨M[n0]'(by omega), List.getElem?_eq_getElem (by omega)⟩
     have c1 : (0 : Int) ≤ (n0 : Int) := by omega
     have c2 : (n0 : Int) < (l.length : Int) := by omega
     have c3 : n0 < l.length := by omega
     have hwn := wrap_succ (k := n0) (by omega)
     have k1 : (M.set n0 c).take (n0 + 1) = kept q l (j + 1) := by
       rw [List.take_add_one, List.take_set_of_le (Nat.le_refl _), ht, hs2, List.getElem?_set_self (by omega)]
       rfl
     have k2 : (M.set n0 c).drop (j + 1) = l.drop (j + 1) := by rw [List.drop_set_of_lt (by omega)]; exact hd2
     have km := List.map_set (f := Lk.c) (l := M) (i := n0) (a := c)
     obtain ⟨xid, xl, xo, xi, xpk, xpz, xps⟩ := c
     obtain ⟨yid, yl, yo, yi, ypk, ypz, yps⟩ := d
     simp only [Lk.c] at ec km
     (repeat' (first | with_reducible refine zab ?_ | simp only [go_sem, J0, reduceIte, reduceCtorEq, Ja, Jb, Jc, Jd, Je, Jf, Jg, Jh, Ji, Jj, Jk, Jl, Jm, Jn, Jo, Jp, Jq, Jr, Js, g1, b1, b2, c1, c2, c3, ge, gd, hlen, List.length_set, Nat.le_refl, List.length_map, hs, ec, hw, hwn, za3, Lk.c]))
     exact ⟨(j + 1, M.set n0 ⟨xid, xl, xo, xi, xpk, xpz, xps⟩), by rw [hsl, km], ⟨by omega, by rw [hsl]; omega, by rw [List.length_set]; exact hlen, by rw [hsl]; exact k1, k2⟩, by simp only; omega⟩
 · have g1 : decide ((j : Int) < (l.length : Int)) = false := decide_eq_false (by omega)
   obtain rfl : j = l.length := by omega
   have hf : kept q l l.length = l.filter fun x => !q x := by unfold kept; rw [List.take_length]
   rw [hf] at hk ht ⊢
   generalize (l.filter fun x => !q x) = F at hk ht ⊢
   have c1 : (0 : Int) ≤ (F.length : Int) := by omega
   have c3 : F.length ≤ l.length := by omega
   have c4 : F.length + (l.length - F.length) ≤ l.length := by omega
   have c5 : (M.map Lk.c).take F.length = F.map Lk.c := by rw [← List.map_take, ht]
   have c6 : ∀ w : List AV, l.length ≤ F.length + ((List.replicate (l.length - F.length) w).length + (List.drop (F.length + (l.length - F.length)) (M.map Lk.c)).length) := fun w => by rw [List.length_replicate]; omega
   have c7 : ∀ X : List (List AV), (F.map Lk.c ++ X).take F.length = F.map Lk.c := fun X => by rw [List.take_left' (by rw [List.length_map])]
   have c8 : ∀ w : List AV, ¬ F.length = F.length + ((List.replicate (l.length - F.length) w).length + (List.drop (F.length + (l.length - F.length)) (M.map Lk.c)).length) := fun w => by rw [List.length_replicate]; omega
   have c9 : ∀ m, F.length ≤ F.length + m := fun m => Nat.le_add_right _ _
   (repeat' (first | with_reducible refine zab ?_ | simp only [go_sem, J0, reduceIte, reduceCtorEq, Ja, Jb, Jc, Jd, Je, Jf, Jg, Jh, Ji, Jj, Jk, Jl, Jm, Jn, Jo, Jp, Jq, Jr, Js, g1, hlen, List.length_map, c1, c3, c4, c5, c6, c7, c8, c9]))
end
end
end Go.Proofs.YtgeaibhgaihobaaGreatDoor
