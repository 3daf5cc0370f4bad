import Derived.Test.YtgeaibhgaihobaaDoorV8
import Derived.Test.YtgeaibhgaihobaaDoorV7
import Derived.Test.YtgeaibhgaihobaaDoorV6
set_option linter.unusedSimpArgs false
set_option linter.unusedVariables false
set_option maxHeartbeats 8000000
set_option maxRecDepth 100000
namespace Go.Proofs.YtgeaibhgaihobaaDoor
open Go.Abs
open Nat renaming add_assoc → J0, reduceEqDiff → Ja, reduceAdd → Jb, reduceMul → Jc, reduceSub → Jd, reduceLeDiff → Je, reduceLT → Jf, reduceBEq → Jg, reduceBNe → Jh
open Int renaming reduceLE → Ji, reduceLT → Jj, reduceToNat → Jk, reduceEq → Jl, reduceNe → Jm, reduceNeg → Jn, reduceAdd → Jo, reduceSub → Jp, reduceMul → Jq, cast_ofNat_Int → Jr, natCast_zero → Js
def PayOk (m : Nat) : Prop := ∀ (v : Vl) (d : Nat), v.size ≤ m → v.ok → d ≤ 8 → acall S 56 [.agg v.c, .i .i64 ((d + 1 : Nat) : Int)] = some (.b (mayV v.p d), [])
theorem e76 {m : Nat} (ih : PayOk m) (v : Vl) (d : Nat) (hm : v.size ≤ m) (ho : v.ok) (hd : d < 8) : acall S 76 [.agg v.c, .ip [.i .i64 ((d + 1 : Nat) : Int)]] = some (.b (!mayV v.p (d + 1)), []) := by
  have e1 := ih v (d + 1) hm ho (by omega)
  have hw := wrap_succ (k := d + 1) (by omega)
  obtain ⟨k, n, s, sk, z, l⟩ := v
  simp only [Vl.c, Vl.cs_map] at e1 ⊢
  generalize hD : ((d + 1 : Nat) : Int) = D at *
  refine W_eq (g76 rfl ?_)
  (repeat' (first | (with_reducible first | refine kont_next ?_ | refine lkont_next ?_ | refine kont_nextn ?_ | refine ikont_next ?_ | refine ikont_nextn ?_) | simp only [go_sem, J0, reduceIte, reduceCtorEq, Ja, Jb, Jc, Jd, Je, Jf, Jg, Jh, Ji, Jj, Jk, Jl, Jm, Jn, Jo, Jp, Jq, Jr, Js, a76, s56, hw, e1]))
theorem any_may (l : List Vl) (d : Nat) : (l.any fun x => !mayV x.p d) = !allV (Vl.ps l) d := by
  induction l with
  | nil => rfl
  | cons v r ih =>
    simp only [List.any_cons, Vl.ps, allV, ih]
    cases mayV v.p d <;> rfl
theorem pay_map (n : Int) (s : List UInt8) (sk : SK) (z : Nat) (l : List Vl) (d : Nat) (D : Int) (hl : l.length ≤ 137438953472) (hok : OkS sk z 4 l) (hall : Vl.oks l) (g8 : decide (8 < D) = false)
    (el : acall S 75 [.sl sk z (l.map Vl.c), .fn 76 [.ip [.i .i64 D]]] = some (.b (!allV (Vl.ps l) (d + 1)), [])) :
    kexec cx a56.body [] (kfin { pm := [], rm := none } a56.nparams a56.res (· = (.b (decide (n = 0) && decide (s = []) && decide ((l.length : Int) ≤ 512) && decide (((l.length : Int)).tmod 2 = 0) && allV (Vl.ps l) (d + 1) && risesV (Vl.ps l)), [])))
      (unpackP 0 [.agg (Vl.mk 5 n s sk z l).c, .i .i64 D] [] []) := by
  cases hs : decide (s = []) <;> cases hb : decide ((l.length : Int) = 0)
  all_goals (
    have ht : ((l.length : Int)).tmod 2 = (l.length : Int) % 2 := Int.tmod_eq_emod_of_nonneg (by omega)
    rw [ht]
    by_cases hlen : (512 : Int) < (l.length : Int)
    · have g1 := decide_eq_true hlen
      have g2 : decide ((l.length : Int) ≤ 512) = false := decide_eq_false (by omega)
      simp only [g2, Bool.and_false, Bool.false_and]
      (repeat' (first | (with_reducible first | refine kont_next ?_ | refine lkont_next ?_ | refine kont_nextn ?_ | refine ikont_next ?_ | refine ikont_nextn ?_) | simp only [go_sem, J0, reduceIte, reduceCtorEq, Ja, Jb, Jc, Jd, Je, Jf, Jg, Jh, Ji, Jj, Jk, Jl, Jm, Jn, Jo, Jp, Jq, Jr, Js, a56, Vl.c, Vl.cs_map, g8, hs, hb, g1]))
    have g1 := decide_eq_false hlen
    have g2 : decide ((l.length : Int) ≤ 512) = true := decide_eq_true (by omega)
    simp only [g2, Bool.and_true]
    by_cases hp : (l.length : Int) % 2 = 1
    · have g3 := decide_eq_true hp
      have g4 : decide ((l.length : Int) % 2 = 0) = false := decide_eq_false (by omega)
      simp only [g4, Bool.and_false, Bool.false_and]
      (repeat' (first | (with_reducible first | refine kont_next ?_ | refine lkont_next ?_ | refine kont_nextn ?_ | refine ikont_next ?_ | refine ikont_nextn ?_) | simp only [go_sem, J0, reduceIte, reduceCtorEq, Ja, Jb, Jc, Jd, Je, Jf, Jg, Jh, Ji, Jj, Jk, Jl, Jm, Jn, Jo, Jp, Jq, Jr, Js, a56, Vl.c, Vl.cs_map, g8, hs, hb, g1, ht, g3]))
    have g3 := decide_eq_false hp
    have g4 : decide ((l.length : Int) % 2 = 0) = true := decide_eq_true (by omega)
    simp only [g4, Bool.and_true]
    (repeat' (first | (with_reducible first | refine kont_next ?_ | refine lkont_next ?_ | refine kont_nextn ?_ | refine ikont_next ?_ | refine ikont_nextn ?_) | simp only [go_sem, J0, reduceIte, reduceCtorEq, Ja, Jb, Jc, Jd, Je, Jf, Jg, Jh, Ji, Jj, Jk, Jl, Jm, Jn, Jo, Jp, Jq, Jr, Js, a56, Vl.c, Vl.cs_map, g8, hs, hb, g1, ht, g3]))
    refine kloop_inv (ι := Nat) (fun i => [.bx [.i .i64 5, .i .i64 n, .str s, .sl sk z (l.map Vl.c)], .bx [.i .i64 D], .i .i64 i]) (fun i => 2 ≤ i ∧ i - 2 ≤ l.length ∧ risesV (Vl.ps (l.drop (i - 2))) = risesV (Vl.ps l)) (fun i => l.length + 2 - i) 2 rfl ⟨by omega, by omega, rfl⟩ ?_
    rintro i ⟨h2, hi, hT⟩
    by_cases hlt : i < l.length
    · obtain ⟨a, ga⟩ := get_lt3 (show i - 2 < l.length by omega)
      obtain ⟨b, gb⟩ := get_lt3 hlt
      have gb' : l[i - 2 + 2]? = some b := by rw [show i - 2 + 2 = i by omega]; exact gb
      have hT' := hT
      rw [rises_step ga gb', show i - 2 + 2 = i by omega] at hT'
      have r1 : decide ((i : Int) < (l.length : Int)) = true := decide_eq_true (by omega)
      have b1 : (0 : Int) ≤ (i : Int) := by omega
      have b2 : (0 : Int) ≤ ((i - 2 : Nat) : Int) := by omega
      have hw := wrap_two (k := i) (by omega)
      have hw2 := wrap_sub2 (k := i) (by omega) h2
      have ec := e74 a b (Vl.oks_get hall ga) (Vl.oks_get hall gb)
      obtain ⟨ck, cn, cs, ckk, cz, cl⟩ := a
      obtain ⟨dk, dn, ds, dkk, dz, dl⟩ := b
      simp only [Vl.c, Vl.cs_map] at ec
      by_cases hc : 0 ≤ cmpV (Vl.p (.mk ck cn cs ckk cz cl)) (Vl.p (.mk dk dn ds dkk dz dl))
      · have r3 := decide_eq_true hc
        rw [r3] at hT'
        (repeat' (first | (with_reducible first | refine kont_next ?_ | refine lkont_next ?_ | refine kont_nextn ?_ | refine ikont_next ?_ | refine ikont_nextn ?_) | simp only [go_sem, J0, reduceIte, reduceCtorEq, Ja, Jb, Jc, Jd, Je, Jf, Jg, Jh, Ji, Jj, Jk, Jl, Jm, Jn, Jo, Jp, Jq, Jr, Js, r1, b1, b2, ga, gb, hw2, hok.1, Vl.c, Vl.cs_map, ec, s74, r3]))
        all_goals (try rw [← hT'])
        all_goals (try simp)
      · have r3 := decide_eq_false hc
        rw [r3] at hT'
        (repeat' (first | (with_reducible first | refine kont_next ?_ | refine lkont_next ?_ | refine kont_nextn ?_ | refine ikont_next ?_ | refine ikont_nextn ?_) | simp only [go_sem, J0, reduceIte, reduceCtorEq, Ja, Jb, Jc, Jd, Je, Jf, Jg, Jh, Ji, Jj, Jk, Jl, Jm, Jn, Jo, Jp, Jq, Jr, Js, r1, b1, b2, ga, gb, hw2, hok.1, Vl.c, Vl.cs_map, ec, s74, r3, hw]))
        exact ⟨i + 2, rfl, ⟨by omega, by omega, by simpa using hT'⟩, by omega⟩
    · have r1 : decide ((i : Int) < (l.length : Int)) = false := decide_eq_false (by omega)
      rw [rises_end (by omega)] at hT
      rw [← hT]
      (simp only [go_sem, J0, reduceIte, reduceCtorEq, Ja, Jb, Jc, Jd, Je, Jf, Jg, Jh, Ji, Jj, Jk, Jl, Jm, Jn, Jo, Jp, Jq, Jr, Js, r1, s75, el]; repeat' (first | (first | refine ikway_sp (fun hh => ?_) (fun hh => ?_) | refine kway_sp (fun hh => ?_) (fun hh => ?_) | refine kgdn_sp (fun hh => ?_) (fun hh => ?_) | refine kgd_sp (fun hh => ?_) (fun hh => ?_) | refine kgddn_sp (fun hh => ?_) (fun hh => ?_) | refine kgdd_sp (fun hh => ?_) (fun hh => ?_) | refine kop_way (fun hh => ?_) (fun hh => ?_) | refine kop_bway (fun hh => ?_) (fun hh => ?_) | refine kopd_way (fun hh => ?_) (fun hh => ?_) | refine kopd_bway (fun hh => ?_) (fun hh => ?_)) <;> (try simp only [go_sem, J0, reduceIte, reduceCtorEq, Ja, Jb, Jc, Jd, Je, Jf, Jg, Jh, Ji, Jj, Jk, Jl, Jm, Jn, Jo, Jp, Jq, Jr, Js, r1, s75, el, hh]) | (first | refine ikop_ask (by omega) ?_ | refine ikopd_ask (by omega) ?_ | refine ikpack_ask (by omega) ?_ | refine krpack_ask (by omega) ?_ | refine kop_ask (by omega) ?_ | refine kopd_ask (by omega) ?_ | refine kans_ask (by omega) ?_ | refine kpack_ask (by omega) ?_ | refine kpk_ask (by omega) ?_ | refine kont_next ?_ | refine kont_nextn ?_ | refine ikont_next ?_ | refine ikont_nextn ?_) <;> (try simp only [go_sem, J0, reduceIte, reduceCtorEq, Ja, Jb, Jc, Jd, Je, Jf, Jg, Jh, Ji, Jj, Jk, Jl, Jm, Jn, Jo, Jp, Jq, Jr, Js, r1, s75, el]) | (show @Eq Nat _ _; omega) | (show @LE.le Nat _ _ _; omega)))
      all_goals (first | (refine leafb ?_; simp only [decide_eq_true_eq, decide_eq_false_iff_not, Bool.or_eq_true, Bool.and_eq_true, Bool.or_eq_false_iff, Bool.and_eq_false_iff, Bool.not_eq_true', Bool.not_eq_false', Bool.not_eq_true, Bool.not_eq_false, Bool.false_eq_true, Bool.true_eq_false, iff_true, true_iff, iff_false, false_iff, not_false_eq_true, not_true_eq_false, decide_not] at *; omega) | (simp_all; done) | (simp_all <;> omega)))
end Go.Proofs.YtgeaibhgaihobaaDoor
