import Derived.Test.YtgeaibhgaihobaaDoorV1
import Derived.Test.YtgeaibhgaihobaaDoorSys
set_option linter.unusedSimpArgs false
set_option linter.unusedVariables false
set_option maxHeartbeats 8000000
set_option maxRecDepth 100000
namespace Go.Proofs.YtgeaibhgaihobaaDoor
open Go.Abs
open Nat renaming add_assoc → J0, reduceEqDiff → Ja, reduceAdd → Jb, reduceMul → Jc, reduceSub → Jd, reduceLeDiff → Je, reduceLT → Jf, reduceBEq → Jg, reduceBNe → Jh
open Int renaming reduceLE → Ji, reduceLT → Jj, reduceToNat → Jk, reduceEq → Jl, reduceNe → Jm, reduceNeg → Jn, reduceAdd → Jo, reduceSub → Jp, reduceMul → Jq, cast_ofNat_Int → Jr, natCast_zero → Js
theorem get_lt3 {α : Type} {l : List α} {k : Nat} (h : k < l.length) : ∃ b, l[k]? = some b := ⟨l[k], List.getElem?_eq_getElem h⟩
theorem drop_get3 {α : Type} {l : List α} {i : Nat} {c : α} (h : l[i]? = some c) : l.drop i = c :: l.drop (i + 1) := by
  obtain ⟨hlt, rfl⟩ := List.getElem?_eq_some_iff.1 h
  exact (List.drop_eq_getElem_cons hlt)
theorem e61 (a b : Int) : acall S 61 [.i .i64 a, .i .i64 b] = some (.i .i64 (cmpI a b), []) := by
  refine W_eq (g61 rfl ?_)
  unfold cmpI
  by_cases h1 : a < b
  · have g1 : decide (a < b) = true := decide_eq_true h1
    rw [if_pos h1]
    (repeat' (first | (with_reducible first | refine kont_next ?_ | refine lkont_next ?_ | refine kont_nextn ?_ | refine ikont_next ?_ | refine ikont_nextn ?_) | simp only [go_sem, J0, reduceIte, reduceCtorEq, Ja, Jb, Jc, Jd, Je, Jf, Jg, Jh, Ji, Jj, Jk, Jl, Jm, Jn, Jo, Jp, Jq, Jr, Js, a61, g1]))
  · have g1 : decide (a < b) = false := decide_eq_false h1
    rw [if_neg h1]
    by_cases h2 : b < a
    · have g2 : decide (b < a) = true := decide_eq_true h2
      rw [if_pos h2]
      (repeat' (first | (with_reducible first | refine kont_next ?_ | refine lkont_next ?_ | refine kont_nextn ?_ | refine ikont_next ?_ | refine ikont_nextn ?_) | simp only [go_sem, J0, reduceIte, reduceCtorEq, Ja, Jb, Jc, Jd, Je, Jf, Jg, Jh, Ji, Jj, Jk, Jl, Jm, Jn, Jo, Jp, Jq, Jr, Js, a61, g1, g2]))
    · have g2 : decide (b < a) = false := decide_eq_false h2
      rw [if_neg h2]
      (repeat' (first | (with_reducible first | refine kont_next ?_ | refine lkont_next ?_ | refine kont_nextn ?_ | refine ikont_next ?_ | refine ikont_nextn ?_) | simp only [go_sem, J0, reduceIte, reduceCtorEq, Ja, Jb, Jc, Jd, Je, Jf, Jg, Jh, Ji, Jj, Jk, Jl, Jm, Jn, Jo, Jp, Jq, Jr, Js, a61, g1, g2]))
theorem cmpB_cons (c d : UInt8) (x y : List UInt8) : Go.Lib.compareBytes (c :: x) (d :: y) = if c = d then Go.Lib.compareBytes x y else cmpI (c.toNat : Int) (d.toNat : Int) := by
  simp only [Go.Lib.compareBytes, cmpI]
  by_cases h : c = d
  · subst h; simp
  · rw [if_neg h]
    have hne : c.toNat ≠ d.toNat := fun e => h (UInt8.toNat_inj.1 e)
    by_cases h1 : c < d
    · have h1' : (c.toNat : Int) < (d.toNat : Int) := by rw [UInt8.lt_iff_toNat_lt] at h1; omega
      rw [if_pos h1, if_pos h1']
    · have h1' : ¬ (c.toNat : Int) < (d.toNat : Int) := by rw [UInt8.lt_iff_toNat_lt] at h1; omega
      have h2 : d < c := by rw [UInt8.lt_iff_toNat_lt] at *; omega
      have h2' : (d.toNat : Int) < (c.toNat : Int) := by rw [UInt8.lt_iff_toNat_lt] at h2; omega
      rw [if_neg h1, if_neg h1', if_pos h2, if_pos h2']
theorem e62 (a b : List UInt8) (ha : a.length ≤ LIM) (hb : b.length ≤ LIM) : acall S 62 [.str a, .str b] = some (.i .i64 (Go.Lib.compareBytes a b), []) := by
  have hL : LIM = 274877906944 := rfl
  refine W_eq (g62 rfl ?_)
  (repeat' (first | (with_reducible first | refine kont_next ?_ | refine lkont_next ?_ | refine kont_nextn ?_ | refine ikont_next ?_ | refine ikont_nextn ?_) | simp only [go_sem, J0, reduceIte, reduceCtorEq, Ja, Jb, Jc, Jd, Je, Jf, Jg, Jh, Ji, Jj, Jk, Jl, Jm, Jn, Jo, Jp, Jq, Jr, Js, a62]))
  refine kloop_inv (ι := Nat) (fun i => [.str a, .str b, .i .i64 i]) (fun i => i ≤ a.length ∧ i ≤ b.length ∧ Go.Lib.compareBytes (a.drop i) (b.drop i) = Go.Lib.compareBytes a b) (fun i => a.length - i) 0 rfl ⟨by omega, by omega, rfl⟩ ?_
  rintro i ⟨h1, h2, hT⟩
  by_cases hlt : i < a.length ∧ i < b.length
  · obtain ⟨hla, hlb⟩ := hlt
    obtain ⟨c, gc⟩ := get_lt3 hla
    obtain ⟨d, gd⟩ := get_lt3 hlb
    rw [drop_get3 gc, drop_get3 gd, cmpB_cons] at hT
    have g1 : decide ((i : Int) < (a.length : Int)) = true := decide_eq_true (by omega)
    have g2 : decide ((i : Int) < (b.length : Int)) = true := decide_eq_true (by omega)
    have b1 : (0 : Int) ≤ (i : Int) := by omega
    have hw := wrap_succ (k := i) (by omega)
    have c1 := UInt8.toNat_lt c
    have d1 := UInt8.toNat_lt d
    by_cases hcd : c = d
    · subst hcd
      rw [if_pos rfl] at hT
      (repeat' (first | (with_reducible first | refine kont_next ?_ | refine lkont_next ?_ | refine kont_nextn ?_ | refine ikont_next ?_ | refine ikont_nextn ?_) | simp only [go_sem, J0, reduceIte, reduceCtorEq, Ja, Jb, Jc, Jd, Je, Jf, Jg, Jh, Ji, Jj, Jk, Jl, Jm, Jn, Jo, Jp, Jq, Jr, Js, g1, g2, b1, gc, gd, hw]))
      exact ⟨i + 1, rfl, ⟨by omega, by omega, hT⟩, by omega⟩
    · rw [if_neg hcd] at hT
      have g3 : decide (¬ (c.toNat : Int) = (d.toNat : Int)) = true := decide_eq_true fun e => hcd (UInt8.toNat_inj.1 (by omega))
      have w1 : IntKind.i64.wrap (c.toNat : Int) = (c.toNat : Int) := wrap_i64 (by omega) (by omega)
      have w2 : IntKind.i64.wrap (d.toNat : Int) = (d.toNat : Int) := wrap_i64 (by omega) (by omega)
      have en := e61 (c.toNat : Int) (d.toNat : Int)
      (repeat' (first | (with_reducible first | refine kont_next ?_ | refine lkont_next ?_ | refine kont_nextn ?_ | refine ikont_next ?_ | refine ikont_nextn ?_) | simp only [go_sem, J0, reduceIte, reduceCtorEq, Ja, Jb, Jc, Jd, Je, Jf, Jg, Jh, Ji, Jj, Jk, Jl, Jm, Jn, Jo, Jp, Jq, Jr, Js, g1, g2, b1, gc, gd, g3, w1, w2, s61, en]))
      rw [hT]
  · have en := e61 (a.length : Int) (b.length : Int)
    have hend : cmpI (a.length : Int) (b.length : Int) = Go.Lib.compareBytes a b := by
      rw [← hT]
      by_cases hla : i < a.length
      · have hib : i = b.length := by omega
        obtain ⟨c, gc⟩ := get_lt3 hla
        rw [drop_get3 gc, hib, List.drop_length]
        unfold cmpI
        rw [if_neg (by omega), if_pos (by omega)]; rfl
      · have hia : i = a.length := by omega
        rw [hia, List.drop_length]
        by_cases hlb : a.length < b.length
        · obtain ⟨d, gd⟩ := get_lt3 hlb
          rw [drop_get3 gd]
          unfold cmpI
          rw [if_pos (by omega)]; rfl
        · have : b.drop a.length = [] := List.drop_of_length_le (by omega)
          rw [this]
          unfold cmpI
          rw [if_neg (by omega), if_neg (by omega)]; rfl
    by_cases hla : i < a.length
    · have g1 : decide ((i : Int) < (a.length : Int)) = true := decide_eq_true (by omega)
      have g2 : decide ((i : Int) < (b.length : Int)) = false := decide_eq_false (by omega)
      (repeat' (first | (with_reducible first | refine kont_next ?_ | refine lkont_next ?_ | refine kont_nextn ?_ | refine ikont_next ?_ | refine ikont_nextn ?_) | simp only [go_sem, J0, reduceIte, reduceCtorEq, Ja, Jb, Jc, Jd, Je, Jf, Jg, Jh, Ji, Jj, Jk, Jl, Jm, Jn, Jo, Jp, Jq, Jr, Js, g1, g2, s61, en, hend]))
    · have g1 : decide ((i : Int) < (a.length : Int)) = false := decide_eq_false (by omega)
      (repeat' (first | (with_reducible first | refine kont_next ?_ | refine lkont_next ?_ | refine kont_nextn ?_ | refine ikont_next ?_ | refine ikont_nextn ?_) | simp only [go_sem, J0, reduceIte, reduceCtorEq, Ja, Jb, Jc, Jd, Je, Jf, Jg, Jh, Ji, Jj, Jk, Jl, Jm, Jn, Jo, Jp, Jq, Jr, Js, g1, s61, en, hend]))
theorem cmpL_end {i : Nat} {x y : List Vl} (h : ¬ (i < x.length ∧ i < y.length)) (hi : i ≤ x.length) (hj : i ≤ y.length) : cmpI (x.length : Int) (y.length : Int) = cmpL (Vl.ps (x.drop i)) (Vl.ps (y.drop i)) := by
  by_cases hla : i < x.length
  · have hib : i = y.length := by omega
    obtain ⟨c, gc⟩ := get_lt3 hla
    rw [drop_get3 gc, hib, List.drop_length]
    unfold cmpI
    rw [if_neg (by omega), if_pos (by omega)]; simp only [Vl.ps, cmpL]
  · have hia : i = x.length := by omega
    rw [hia, List.drop_length]
    by_cases hlb : x.length < y.length
    · obtain ⟨d, gd⟩ := get_lt3 hlb
      rw [drop_get3 gd]
      unfold cmpI
      rw [if_pos (by omega)]; simp only [Vl.ps, cmpL]
    · have : y.drop x.length = [] := List.drop_of_length_le (by omega)
      rw [this]
      unfold cmpI
      rw [if_neg (by omega), if_neg (by omega)]; simp only [Vl.ps, cmpL]
theorem e40' : ∀ (m : Nat) (a b : Vl), a.size ≤ m → a.ok → b.ok → acall S 40 [.agg a.c, .agg b.c] = some (.i .i64 (cmpV a.p b.p), [])
  | 0, .mk k n s sk z l, _, hm, _, _ => by simp [Vl.size] at hm
  | m + 1, .mk k n s sk z l, .mk k' n' s' sk' z' l', hm, ha, hb => by
    obtain ⟨hs, hl, hok, hall⟩ := ha
    obtain ⟨hs', hl', hok', hall'⟩ := hb
    have hL : LIM = 274877906944 := rfl
    simp only [Vl.size] at hm
    have e1 := e61 k k'
    have e2 := e61 n n'
    have e3 := e62 s s' (by omega) (by omega)
    refine W_eq (g40 rfl ?_)
    simp only [Vl.p, cmpV]
    by_cases h1 : cmpI k k' = 0
    case neg =>
      have g1 : decide (¬ cmpI k k' = 0) = true := decide_eq_true h1
      rw [show first0 (cmpI k k') _ = cmpI k k' from if_pos h1]
      (repeat' (first | (with_reducible first | refine kont_next ?_ | refine lkont_next ?_ | refine kont_nextn ?_ | refine ikont_next ?_ | refine ikont_nextn ?_) | simp only [go_sem, J0, reduceIte, reduceCtorEq, Ja, Jb, Jc, Jd, Je, Jf, Jg, Jh, Ji, Jj, Jk, Jl, Jm, Jn, Jo, Jp, Jq, Jr, Js, a40, Vl.c, s61, e1, g1]))
    have g1 : decide (¬ cmpI k k' = 0) = false := decide_eq_false (by simpa using h1)
    rw [show ∀ q, first0 (cmpI k k') q = q from fun q => if_neg (by simpa using h1)]
    by_cases h2 : cmpI n n' = 0
    case neg =>
      have g2 : decide (¬ cmpI n n' = 0) = true := decide_eq_true h2
      rw [show first0 (cmpI n n') _ = cmpI n n' from if_pos h2]
      (repeat' (first | (with_reducible first | refine kont_next ?_ | refine lkont_next ?_ | refine kont_nextn ?_ | refine ikont_next ?_ | refine ikont_nextn ?_) | simp only [go_sem, J0, reduceIte, reduceCtorEq, Ja, Jb, Jc, Jd, Je, Jf, Jg, Jh, Ji, Jj, Jk, Jl, Jm, Jn, Jo, Jp, Jq, Jr, Js, a40, Vl.c, s61, e1, g1, e2, g2]))
    have g2 : decide (¬ cmpI n n' = 0) = false := decide_eq_false (by simpa using h2)
    rw [show ∀ q, first0 (cmpI n n') q = q from fun q => if_neg (by simpa using h2)]
    by_cases h3 : Go.Lib.compareBytes s s' = 0
    case neg =>
      have g3 : decide (¬ Go.Lib.compareBytes s s' = 0) = true := decide_eq_true h3
      rw [show first0 (Go.Lib.compareBytes s s') _ = Go.Lib.compareBytes s s' from if_pos h3]
      (repeat' (first | (with_reducible first | refine kont_next ?_ | refine lkont_next ?_ | refine kont_nextn ?_ | refine ikont_next ?_ | refine ikont_nextn ?_) | simp only [go_sem, J0, reduceIte, reduceCtorEq, Ja, Jb, Jc, Jd, Je, Jf, Jg, Jh, Ji, Jj, Jk, Jl, Jm, Jn, Jo, Jp, Jq, Jr, Js, a40, Vl.c, s61, s62, e1, g1, e2, g2, e3, g3]))
    have g3 : decide (¬ Go.Lib.compareBytes s s' = 0) = false := decide_eq_false (by simpa using h3)
    rw [show ∀ q, first0 (Go.Lib.compareBytes s s') q = q from fun q => if_neg (by simpa using h3)]
    (repeat' (first | (with_reducible first | refine kont_next ?_ | refine lkont_next ?_ | refine kont_nextn ?_ | refine ikont_next ?_ | refine ikont_nextn ?_) | simp only [go_sem, J0, reduceIte, reduceCtorEq, Ja, Jb, Jc, Jd, Je, Jf, Jg, Jh, Ji, Jj, Jk, Jl, Jm, Jn, Jo, Jp, Jq, Jr, Js, a40, Vl.c, Vl.cs_map, s61, s62, e1, g1, e2, g2, e3, g3]))
    refine kloop_inv (ι := Nat) (fun i => [.bx [.i .i64 k, .i .i64 n, .str s, .sl sk z (l.map Vl.c)], .bx [.i .i64 k', .i .i64 n', .str s', .sl sk' z' (l'.map Vl.c)], .i .i64 i])
      (fun i => i ≤ l.length ∧ i ≤ l'.length ∧ cmpL (Vl.ps (l.drop i)) (Vl.ps (l'.drop i)) = cmpL (Vl.ps l) (Vl.ps l')) (fun i => l.length - i) 0 rfl ⟨by omega, by omega, rfl⟩ ?_
    rintro i ⟨i1, i2, hT⟩
    by_cases hlt : i < l.length ∧ i < l'.length
    · obtain ⟨hla, hlb⟩ := hlt
      obtain ⟨c, gc⟩ := get_lt3 hla
      obtain ⟨d, gd⟩ := get_lt3 hlb
      rw [drop_get3 gc, drop_get3 gd] at hT
      simp only [Vl.ps, cmpL] at hT
      have q1 : decide ((i : Int) < (l.length : Int)) = true := decide_eq_true (by omega)
      have q2 : decide ((i : Int) < (l'.length : Int)) = true := decide_eq_true (by omega)
      have b1 : (0 : Int) ≤ (i : Int) := by omega
      have hw := wrap_succ (k := i) (by omega)
      have hcs := Vl.size_get gc
      have er := e40' m c d (by omega) (Vl.oks_get hall gc) (Vl.oks_get hall' gd)
      obtain ⟨ck, cn, cs, ckk, cz, cl⟩ := c
      obtain ⟨dk, dn, ds, dkk, dz, dl⟩ := d
      simp only [Vl.c, Vl.cs_map] at er
      by_cases hz : cmpV (Vl.p (.mk ck cn cs ckk cz cl)) (Vl.p (.mk dk dn ds dkk dz dl)) = 0
      · have q3 : decide (¬ cmpV (Vl.p (.mk ck cn cs ckk cz cl)) (Vl.p (.mk dk dn ds dkk dz dl)) = 0) = false := decide_eq_false (by simpa using hz)
        rw [show ∀ q, first0 (cmpV (Vl.p (.mk ck cn cs ckk cz cl)) (Vl.p (.mk dk dn ds dkk dz dl))) q = q from fun q => if_neg (by simpa using hz)] at hT
        (repeat' (first | (with_reducible first | refine kont_next ?_ | refine lkont_next ?_ | refine kont_nextn ?_ | refine ikont_next ?_ | refine ikont_nextn ?_) | simp only [go_sem, J0, reduceIte, reduceCtorEq, Ja, Jb, Jc, Jd, Je, Jf, Jg, Jh, Ji, Jj, Jk, Jl, Jm, Jn, Jo, Jp, Jq, Jr, Js, q1, q2, b1, gc, gd, hok.1, hok'.1, Vl.c, Vl.cs_map, s40, er, q3, hw]))
        exact ⟨i + 1, rfl, ⟨by omega, by omega, hT⟩, by omega⟩
      · have q3 : decide (¬ cmpV (Vl.p (.mk ck cn cs ckk cz cl)) (Vl.p (.mk dk dn ds dkk dz dl)) = 0) = true := decide_eq_true hz
        rw [show ∀ q, first0 (cmpV (Vl.p (.mk ck cn cs ckk cz cl)) (Vl.p (.mk dk dn ds dkk dz dl))) q = cmpV (Vl.p (.mk ck cn cs ckk cz cl)) (Vl.p (.mk dk dn ds dkk dz dl)) from fun q => if_pos hz] at hT
        (repeat' (first | (with_reducible first | refine kont_next ?_ | refine lkont_next ?_ | refine kont_nextn ?_ | refine ikont_next ?_ | refine ikont_nextn ?_) | simp only [go_sem, J0, reduceIte, reduceCtorEq, Ja, Jb, Jc, Jd, Je, Jf, Jg, Jh, Ji, Jj, Jk, Jl, Jm, Jn, Jo, Jp, Jq, Jr, Js, q1, q2, b1, gc, gd, hok.1, hok'.1, Vl.c, Vl.cs_map, s40, er, q3]))
        rw [hT]
    · have en := e61 (l.length : Int) (l'.length : Int)
      rw [cmpL_end hlt i1 i2, hT] at en
      by_cases hla : i < l.length
      · have q1 : decide ((i : Int) < (l.length : Int)) = true := decide_eq_true (by omega)
        have q2 : decide ((i : Int) < (l'.length : Int)) = false := decide_eq_false (by omega)
        (repeat' (first | (with_reducible first | refine kont_next ?_ | refine lkont_next ?_ | refine kont_nextn ?_ | refine ikont_next ?_ | refine ikont_nextn ?_) | simp only [go_sem, J0, reduceIte, reduceCtorEq, Ja, Jb, Jc, Jd, Je, Jf, Jg, Jh, Ji, Jj, Jk, Jl, Jm, Jn, Jo, Jp, Jq, Jr, Js, q1, q2, s61, en]))
      · have q1 : decide ((i : Int) < (l.length : Int)) = false := decide_eq_false (by omega)
        (repeat' (first | (with_reducible first | refine kont_next ?_ | refine lkont_next ?_ | refine kont_nextn ?_ | refine ikont_next ?_ | refine ikont_nextn ?_) | simp only [go_sem, J0, reduceIte, reduceCtorEq, Ja, Jb, Jc, Jd, Je, Jf, Jg, Jh, Ji, Jj, Jk, Jl, Jm, Jn, Jo, Jp, Jq, Jr, Js, q1, s61, en]))
theorem e40 (a b : Vl) (ha : a.ok) (hb : b.ok) : acall S 40 [.agg a.c, .agg b.c] = some (.i .i64 (cmpV a.p b.p), []) := e40' a.size a b (Nat.le_refl _) ha hb
open Classical in
theorem e16 (a b : Vl) (ha : a.ok) (hb : b.ok) : acall S 16 [.agg a.c, .agg b.c] = some (.b (decide (a.p = b.p)), []) := by
  have e1 := e40 a b ha hb
  obtain ⟨ck, cn, cs, ckk, cz, cl⟩ := a
  obtain ⟨dk, dn, ds, dkk, dz, dl⟩ := b
  have hd : decide (Vl.p (.mk ck cn cs ckk cz cl) = Vl.p (.mk dk dn ds dkk dz dl)) = decide (cmpV (Vl.p (.mk ck cn cs ckk cz cl)) (Vl.p (.mk dk dn ds dkk dz dl)) = 0) := by
    apply Bool.eq_iff_iff.2
    simp only [decide_eq_true_eq, cmpV_zero]
  rw [hd]
  simp only [Vl.c, Vl.cs_map] at e1 ⊢
  refine W_eq (g16 rfl ?_)
  (repeat' (first | (with_reducible first | refine kont_next ?_ | refine lkont_next ?_ | refine kont_nextn ?_ | refine ikont_next ?_ | refine ikont_nextn ?_) | simp only [go_sem, J0, reduceIte, reduceCtorEq, Ja, Jb, Jc, Jd, Je, Jf, Jg, Jh, Ji, Jj, Jk, Jl, Jm, Jn, Jo, Jp, Jq, Jr, Js, a16, s40, e1]))
end Go.Proofs.YtgeaibhgaihobaaDoor
