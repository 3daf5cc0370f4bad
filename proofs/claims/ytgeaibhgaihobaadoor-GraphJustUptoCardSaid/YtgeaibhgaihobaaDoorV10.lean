import Derived.Test.YtgeaibhgaihobaaDoorV9
set_option linter.unusedSimpArgs false
set_option linter.unusedVariables false
set_option maxHeartbeats 8000000
set_option maxRecDepth 100000
namespace Go.Proofs.YtgeaibhgaihobaaDoor
open Go.Abs
open Nat renaming add_assoc → J0, reduceEqDiff → Ja, reduceAdd → Jb, reduceMul → Jc, reduceSub → Jd, reduceLeDiff → Je, reduceLT → Jf, reduceBEq → Jg, reduceBNe → Jh
open Int renaming reduceLE → Ji, reduceLT → Jj, reduceToNat → Jk, reduceEq → Jl, reduceNe → Jm, reduceNeg → Jn, reduceAdd → Jo, reduceSub → Jp, reduceMul → Jq, cast_ofNat_Int → Jr, natCast_zero → Js
theorem pay_step {m : Nat} (ih : PayOk m) (k n : Int) (s : List UInt8) (sk : SK) (z : Nat) (l : List Vl) (d : Nat) (hm : Vl.sizes l ≤ m) (ho : (Vl.mk k n s sk z l).ok) (hd : d ≤ 8) :
    acall S 56 [.agg (Vl.mk k n s sk z l).c, .i .i64 ((d + 1 : Nat) : Int)] = some (.b (mayV (Vl.mk k n s sk z l).p d), []) := by
  obtain ⟨hs, hl, hok, hall⟩ := ho
  have hlen := Vl.ps_length l
  have hso : ∀ x ∈ l, x.size ≤ m := fun x hx => by
    obtain ⟨i, hi⟩ := List.getElem?_of_mem hx
    have := Vl.size_get hi
    omega
  have h8eq : decide ((8 : Int) < ((d + 1 : Nat) : Int)) = decide ((8 : Int) ≤ (d : Int)) := decide_eq_decide.2 (by omega)
  have ec : d < 8 → acall S 75 [.sl sk z (l.map Vl.c), .fn 76 [.ip [.i .i64 ((d + 1 : Nat) : Int)]]] = some (.b (!allV (Vl.ps l) (d + 1)), []) := fun hd8 => by
    rw [con_may ((d + 1 : Nat) : Int) (q := fun x => !mayV x.p (d + 1)) hok hl (fun x hx => e76 ih x d (hso x hx) ((Vl.oks_iff l).1 hall x hx) hd8), any_may]
  generalize hD : ((d + 1 : Nat) : Int) = D at *
  refine W_eq (g56 rfl ?_)
  simp only [Vl.p, mayV, hlen]
  by_cases h8 : (8 : Int) ≤ (d : Int)
  · rw [if_pos h8]
    have g8 : decide (8 < D) = true := h8eq.trans (decide_eq_true h8)
    (repeat' (first | (with_reducible first | refine kont_next ?_ | refine lkont_next ?_ | refine kont_nextn ?_ | refine ikont_next ?_ | refine ikont_nextn ?_) | simp only [go_sem, J0, reduceIte, reduceCtorEq, Ja, Jb, Jc, Jd, Je, Jf, Jg, Jh, Ji, Jj, Jk, Jl, Jm, Jn, Jo, Jp, Jq, Jr, Js, a56, Vl.c, Vl.cs_map, g8]))
  have g8 : decide (8 < D) = false := h8eq.trans (decide_eq_false h8)
  have el := ec (by omega)
  clear ec h8eq
  rw [if_neg h8]
  by_cases k1 : k = 1
  · subst k1
    rw [if_pos rfl]
    (simp only [go_sem, J0, reduceIte, reduceCtorEq, Ja, Jb, Jc, Jd, Je, Jf, Jg, Jh, Ji, Jj, Jk, Jl, Jm, Jn, Jo, Jp, Jq, Jr, Js, a56, Vl.c, Vl.cs_map, g8]; repeat' (first | (first | refine ikway_sp (fun hh => ?_) (fun hh => ?_) | refine kway_sp (fun hh => ?_) (fun hh => ?_) | refine kgdn_sp (fun hh => ?_) (fun hh => ?_) | refine kgd_sp (fun hh => ?_) (fun hh => ?_) | refine kgddn_sp (fun hh => ?_) (fun hh => ?_) | refine kgdd_sp (fun hh => ?_) (fun hh => ?_) | refine kop_way (fun hh => ?_) (fun hh => ?_) | refine kop_bway (fun hh => ?_) (fun hh => ?_) | refine kopd_way (fun hh => ?_) (fun hh => ?_) | refine kopd_bway (fun hh => ?_) (fun hh => ?_)) <;> (try simp only [go_sem, J0, reduceIte, reduceCtorEq, Ja, Jb, Jc, Jd, Je, Jf, Jg, Jh, Ji, Jj, Jk, Jl, Jm, Jn, Jo, Jp, Jq, Jr, Js, a56, Vl.c, Vl.cs_map, g8, hh]) | (first | refine ikop_ask (by omega) ?_ | refine ikopd_ask (by omega) ?_ | refine ikpack_ask (by omega) ?_ | refine krpack_ask (by omega) ?_ | refine kop_ask (by omega) ?_ | refine kopd_ask (by omega) ?_ | refine kans_ask (by omega) ?_ | refine kpack_ask (by omega) ?_ | refine kpk_ask (by omega) ?_ | refine kont_next ?_ | refine kont_nextn ?_ | refine ikont_next ?_ | refine ikont_nextn ?_) <;> (try simp only [go_sem, J0, reduceIte, reduceCtorEq, Ja, Jb, Jc, Jd, Je, Jf, Jg, Jh, Ji, Jj, Jk, Jl, Jm, Jn, Jo, Jp, Jq, Jr, Js, a56, Vl.c, Vl.cs_map, g8]) | (show @Eq Nat _ _; omega) | (show @LE.le Nat _ _ _; omega)))
    all_goals (first | (refine leafb ?_; simp only [decide_eq_true_eq, decide_eq_false_iff_not, Bool.or_eq_true, Bool.and_eq_true, Bool.or_eq_false_iff, Bool.and_eq_false_iff, Bool.not_eq_true', Bool.not_eq_false', Bool.not_eq_true, Bool.not_eq_false, Bool.false_eq_true, Bool.true_eq_false, iff_true, true_iff, iff_false, false_iff, not_false_eq_true, not_true_eq_false, decide_not] at *; omega) | (simp_all; done) | (simp_all <;> omega))
  rw [if_neg k1]
  have q1 := decide_eq_false k1
  by_cases k3 : k = 3
  · subst k3
    rw [if_pos rfl]
    (simp only [go_sem, J0, reduceIte, reduceCtorEq, Ja, Jb, Jc, Jd, Je, Jf, Jg, Jh, Ji, Jj, Jk, Jl, Jm, Jn, Jo, Jp, Jq, Jr, Js, a56, Vl.c, Vl.cs_map, g8, q1]; repeat' (first | (first | refine ikway_sp (fun hh => ?_) (fun hh => ?_) | refine kway_sp (fun hh => ?_) (fun hh => ?_) | refine kgdn_sp (fun hh => ?_) (fun hh => ?_) | refine kgd_sp (fun hh => ?_) (fun hh => ?_) | refine kgddn_sp (fun hh => ?_) (fun hh => ?_) | refine kgdd_sp (fun hh => ?_) (fun hh => ?_) | refine kop_way (fun hh => ?_) (fun hh => ?_) | refine kop_bway (fun hh => ?_) (fun hh => ?_) | refine kopd_way (fun hh => ?_) (fun hh => ?_) | refine kopd_bway (fun hh => ?_) (fun hh => ?_)) <;> (try simp only [go_sem, J0, reduceIte, reduceCtorEq, Ja, Jb, Jc, Jd, Je, Jf, Jg, Jh, Ji, Jj, Jk, Jl, Jm, Jn, Jo, Jp, Jq, Jr, Js, a56, Vl.c, Vl.cs_map, g8, q1, hh]) | (first | refine ikop_ask (by omega) ?_ | refine ikopd_ask (by omega) ?_ | refine ikpack_ask (by omega) ?_ | refine krpack_ask (by omega) ?_ | refine kop_ask (by omega) ?_ | refine kopd_ask (by omega) ?_ | refine kans_ask (by omega) ?_ | refine kpack_ask (by omega) ?_ | refine kpk_ask (by omega) ?_ | refine kont_next ?_ | refine kont_nextn ?_ | refine ikont_next ?_ | refine ikont_nextn ?_) <;> (try simp only [go_sem, J0, reduceIte, reduceCtorEq, Ja, Jb, Jc, Jd, Je, Jf, Jg, Jh, Ji, Jj, Jk, Jl, Jm, Jn, Jo, Jp, Jq, Jr, Js, a56, Vl.c, Vl.cs_map, g8, q1]) | (show @Eq Nat _ _; omega) | (show @LE.le Nat _ _ _; omega)))
    all_goals (first | (refine leafb ?_; simp only [decide_eq_true_eq, decide_eq_false_iff_not, Bool.or_eq_true, Bool.and_eq_true, Bool.or_eq_false_iff, Bool.and_eq_false_iff, Bool.not_eq_true', Bool.not_eq_false', Bool.not_eq_true, Bool.not_eq_false, Bool.false_eq_true, Bool.true_eq_false, iff_true, true_iff, iff_false, false_iff, not_false_eq_true, not_true_eq_false, decide_not] at *; omega) | (simp_all; done) | (simp_all <;> omega))
  rw [if_neg k3]
  have q3 := decide_eq_false k3
  by_cases k6 : k = 6
  · subst k6
    rw [if_pos (.inl rfl)]
    (simp only [go_sem, J0, reduceIte, reduceCtorEq, Ja, Jb, Jc, Jd, Je, Jf, Jg, Jh, Ji, Jj, Jk, Jl, Jm, Jn, Jo, Jp, Jq, Jr, Js, a56, Vl.c, Vl.cs_map, g8, q1, q3]; repeat' (first | (first | refine ikway_sp (fun hh => ?_) (fun hh => ?_) | refine kway_sp (fun hh => ?_) (fun hh => ?_) | refine kgdn_sp (fun hh => ?_) (fun hh => ?_) | refine kgd_sp (fun hh => ?_) (fun hh => ?_) | refine kgddn_sp (fun hh => ?_) (fun hh => ?_) | refine kgdd_sp (fun hh => ?_) (fun hh => ?_) | refine kop_way (fun hh => ?_) (fun hh => ?_) | refine kop_bway (fun hh => ?_) (fun hh => ?_) | refine kopd_way (fun hh => ?_) (fun hh => ?_) | refine kopd_bway (fun hh => ?_) (fun hh => ?_)) <;> (try simp only [go_sem, J0, reduceIte, reduceCtorEq, Ja, Jb, Jc, Jd, Je, Jf, Jg, Jh, Ji, Jj, Jk, Jl, Jm, Jn, Jo, Jp, Jq, Jr, Js, a56, Vl.c, Vl.cs_map, g8, q1, q3, hh]) | (first | refine ikop_ask (by omega) ?_ | refine ikopd_ask (by omega) ?_ | refine ikpack_ask (by omega) ?_ | refine krpack_ask (by omega) ?_ | refine kop_ask (by omega) ?_ | refine kopd_ask (by omega) ?_ | refine kans_ask (by omega) ?_ | refine kpack_ask (by omega) ?_ | refine kpk_ask (by omega) ?_ | refine kont_next ?_ | refine kont_nextn ?_ | refine ikont_next ?_ | refine ikont_nextn ?_) <;> (try simp only [go_sem, J0, reduceIte, reduceCtorEq, Ja, Jb, Jc, Jd, Je, Jf, Jg, Jh, Ji, Jj, Jk, Jl, Jm, Jn, Jo, Jp, Jq, Jr, Js, a56, Vl.c, Vl.cs_map, g8, q1, q3]) | (show @Eq Nat _ _; omega) | (show @LE.le Nat _ _ _; omega)))
    all_goals (first | (refine leafb ?_; simp only [decide_eq_true_eq, decide_eq_false_iff_not, Bool.or_eq_true, Bool.and_eq_true, Bool.or_eq_false_iff, Bool.and_eq_false_iff, Bool.not_eq_true', Bool.not_eq_false', Bool.not_eq_true, Bool.not_eq_false, Bool.false_eq_true, Bool.true_eq_false, iff_true, true_iff, iff_false, false_iff, not_false_eq_true, not_true_eq_false, decide_not] at *; omega) | (simp_all; done) | (simp_all <;> omega))
  have q6 := decide_eq_false k6
  by_cases k7 : k = 7
  · subst k7
    rw [if_pos (.inr rfl)]
    (simp only [go_sem, J0, reduceIte, reduceCtorEq, Ja, Jb, Jc, Jd, Je, Jf, Jg, Jh, Ji, Jj, Jk, Jl, Jm, Jn, Jo, Jp, Jq, Jr, Js, a56, Vl.c, Vl.cs_map, g8, q1, q3, q6]; repeat' (first | (first | refine ikway_sp (fun hh => ?_) (fun hh => ?_) | refine kway_sp (fun hh => ?_) (fun hh => ?_) | refine kgdn_sp (fun hh => ?_) (fun hh => ?_) | refine kgd_sp (fun hh => ?_) (fun hh => ?_) | refine kgddn_sp (fun hh => ?_) (fun hh => ?_) | refine kgdd_sp (fun hh => ?_) (fun hh => ?_) | refine kop_way (fun hh => ?_) (fun hh => ?_) | refine kop_bway (fun hh => ?_) (fun hh => ?_) | refine kopd_way (fun hh => ?_) (fun hh => ?_) | refine kopd_bway (fun hh => ?_) (fun hh => ?_)) <;> (try simp only [go_sem, J0, reduceIte, reduceCtorEq, Ja, Jb, Jc, Jd, Je, Jf, Jg, Jh, Ji, Jj, Jk, Jl, Jm, Jn, Jo, Jp, Jq, Jr, Js, a56, Vl.c, Vl.cs_map, g8, q1, q3, q6, hh]) | (first | refine ikop_ask (by omega) ?_ | refine ikopd_ask (by omega) ?_ | refine ikpack_ask (by omega) ?_ | refine krpack_ask (by omega) ?_ | refine kop_ask (by omega) ?_ | refine kopd_ask (by omega) ?_ | refine kans_ask (by omega) ?_ | refine kpack_ask (by omega) ?_ | refine kpk_ask (by omega) ?_ | refine kont_next ?_ | refine kont_nextn ?_ | refine ikont_next ?_ | refine ikont_nextn ?_) <;> (try simp only [go_sem, J0, reduceIte, reduceCtorEq, Ja, Jb, Jc, Jd, Je, Jf, Jg, Jh, Ji, Jj, Jk, Jl, Jm, Jn, Jo, Jp, Jq, Jr, Js, a56, Vl.c, Vl.cs_map, g8, q1, q3, q6]) | (show @Eq Nat _ _; omega) | (show @LE.le Nat _ _ _; omega)))
    all_goals (first | (refine leafb ?_; simp only [decide_eq_true_eq, decide_eq_false_iff_not, Bool.or_eq_true, Bool.and_eq_true, Bool.or_eq_false_iff, Bool.and_eq_false_iff, Bool.not_eq_true', Bool.not_eq_false', Bool.not_eq_true, Bool.not_eq_false, Bool.false_eq_true, Bool.true_eq_false, iff_true, true_iff, iff_false, false_iff, not_false_eq_true, not_true_eq_false, decide_not] at *; omega) | (simp_all; done) | (simp_all <;> omega))
  have q7 := decide_eq_false k7
  rw [if_neg (fun h => h.elim k6 k7)]
  by_cases k2 : k = 2
  · subst k2
    rw [if_pos rfl]
    (simp only [go_sem, J0, reduceIte, reduceCtorEq, Ja, Jb, Jc, Jd, Je, Jf, Jg, Jh, Ji, Jj, Jk, Jl, Jm, Jn, Jo, Jp, Jq, Jr, Js, a56, Vl.c, Vl.cs_map, g8, q1, q3, q6, q7]; repeat' (first | (first | refine ikway_sp (fun hh => ?_) (fun hh => ?_) | refine kway_sp (fun hh => ?_) (fun hh => ?_) | refine kgdn_sp (fun hh => ?_) (fun hh => ?_) | refine kgd_sp (fun hh => ?_) (fun hh => ?_) | refine kgddn_sp (fun hh => ?_) (fun hh => ?_) | refine kgdd_sp (fun hh => ?_) (fun hh => ?_) | refine kop_way (fun hh => ?_) (fun hh => ?_) | refine kop_bway (fun hh => ?_) (fun hh => ?_) | refine kopd_way (fun hh => ?_) (fun hh => ?_) | refine kopd_bway (fun hh => ?_) (fun hh => ?_)) <;> (try simp only [go_sem, J0, reduceIte, reduceCtorEq, Ja, Jb, Jc, Jd, Je, Jf, Jg, Jh, Ji, Jj, Jk, Jl, Jm, Jn, Jo, Jp, Jq, Jr, Js, a56, Vl.c, Vl.cs_map, g8, q1, q3, q6, q7, hh]) | (first | refine ikop_ask (by omega) ?_ | refine ikopd_ask (by omega) ?_ | refine ikpack_ask (by omega) ?_ | refine krpack_ask (by omega) ?_ | refine kop_ask (by omega) ?_ | refine kopd_ask (by omega) ?_ | refine kans_ask (by omega) ?_ | refine kpack_ask (by omega) ?_ | refine kpk_ask (by omega) ?_ | refine kont_next ?_ | refine kont_nextn ?_ | refine ikont_next ?_ | refine ikont_nextn ?_) <;> (try simp only [go_sem, J0, reduceIte, reduceCtorEq, Ja, Jb, Jc, Jd, Je, Jf, Jg, Jh, Ji, Jj, Jk, Jl, Jm, Jn, Jo, Jp, Jq, Jr, Js, a56, Vl.c, Vl.cs_map, g8, q1, q3, q6, q7]) | (show @Eq Nat _ _; omega) | (show @LE.le Nat _ _ _; omega)))
    all_goals (first | (refine leafb ?_; simp only [decide_eq_true_eq, decide_eq_false_iff_not, Bool.or_eq_true, Bool.and_eq_true, Bool.or_eq_false_iff, Bool.and_eq_false_iff, Bool.not_eq_true', Bool.not_eq_false', Bool.not_eq_true, Bool.not_eq_false, Bool.false_eq_true, Bool.true_eq_false, iff_true, true_iff, iff_false, false_iff, not_false_eq_true, not_true_eq_false, decide_not] at *; omega) | (simp_all; done) | (simp_all <;> omega))
  rw [if_neg k2]
  have q2 := decide_eq_false k2
  by_cases k4 : k = 4
  · subst k4
    rw [if_pos rfl]
    (simp only [go_sem, J0, reduceIte, reduceCtorEq, Ja, Jb, Jc, Jd, Je, Jf, Jg, Jh, Ji, Jj, Jk, Jl, Jm, Jn, Jo, Jp, Jq, Jr, Js, a56, Vl.c, Vl.cs_map, g8, q1, q3, q6, q7, q2, s75, el]; repeat' (first | (first | refine ikway_sp (fun hh => ?_) (fun hh => ?_) | refine kway_sp (fun hh => ?_) (fun hh => ?_) | refine kgdn_sp (fun hh => ?_) (fun hh => ?_) | refine kgd_sp (fun hh => ?_) (fun hh => ?_) | refine kgddn_sp (fun hh => ?_) (fun hh => ?_) | refine kgdd_sp (fun hh => ?_) (fun hh => ?_) | refine kop_way (fun hh => ?_) (fun hh => ?_) | refine kop_bway (fun hh => ?_) (fun hh => ?_) | refine kopd_way (fun hh => ?_) (fun hh => ?_) | refine kopd_bway (fun hh => ?_) (fun hh => ?_)) <;> (try simp only [go_sem, J0, reduceIte, reduceCtorEq, Ja, Jb, Jc, Jd, Je, Jf, Jg, Jh, Ji, Jj, Jk, Jl, Jm, Jn, Jo, Jp, Jq, Jr, Js, a56, Vl.c, Vl.cs_map, g8, q1, q3, q6, q7, q2, s75, el, hh]) | (first | refine ikop_ask (by omega) ?_ | refine ikopd_ask (by omega) ?_ | refine ikpack_ask (by omega) ?_ | refine krpack_ask (by omega) ?_ | refine kop_ask (by omega) ?_ | refine kopd_ask (by omega) ?_ | refine kans_ask (by omega) ?_ | refine kpack_ask (by omega) ?_ | refine kpk_ask (by omega) ?_ | refine kont_next ?_ | refine kont_nextn ?_ | refine ikont_next ?_ | refine ikont_nextn ?_) <;> (try simp only [go_sem, J0, reduceIte, reduceCtorEq, Ja, Jb, Jc, Jd, Je, Jf, Jg, Jh, Ji, Jj, Jk, Jl, Jm, Jn, Jo, Jp, Jq, Jr, Js, a56, Vl.c, Vl.cs_map, g8, q1, q3, q6, q7, q2, s75, el]) | (show @Eq Nat _ _; omega) | (show @LE.le Nat _ _ _; omega)))
    all_goals (first | (refine leafb ?_; simp only [decide_eq_true_eq, decide_eq_false_iff_not, Bool.or_eq_true, Bool.and_eq_true, Bool.or_eq_false_iff, Bool.and_eq_false_iff, Bool.not_eq_true', Bool.not_eq_false', Bool.not_eq_true, Bool.not_eq_false, Bool.false_eq_true, Bool.true_eq_false, iff_true, true_iff, iff_false, false_iff, not_false_eq_true, not_true_eq_false, decide_not] at *; omega) | (simp_all; done) | (simp_all <;> omega))
  rw [if_neg k4]
  have q4 := decide_eq_false k4
  by_cases k5 : k = 5
  · subst k5
    rw [if_pos rfl]
    exact pay_map n s sk z l d D hl hok hall g8 el
  rw [if_neg k5]
  have q5 := decide_eq_false k5
  (simp only [go_sem, J0, reduceIte, reduceCtorEq, Ja, Jb, Jc, Jd, Je, Jf, Jg, Jh, Ji, Jj, Jk, Jl, Jm, Jn, Jo, Jp, Jq, Jr, Js, a56, Vl.c, Vl.cs_map, g8, q1, q3, q6, q7, q2, q4, q5]; repeat' (first | (first | refine ikway_sp (fun hh => ?_) (fun hh => ?_) | refine kway_sp (fun hh => ?_) (fun hh => ?_) | refine kgdn_sp (fun hh => ?_) (fun hh => ?_) | refine kgd_sp (fun hh => ?_) (fun hh => ?_) | refine kgddn_sp (fun hh => ?_) (fun hh => ?_) | refine kgdd_sp (fun hh => ?_) (fun hh => ?_) | refine kop_way (fun hh => ?_) (fun hh => ?_) | refine kop_bway (fun hh => ?_) (fun hh => ?_) | refine kopd_way (fun hh => ?_) (fun hh => ?_) | refine kopd_bway (fun hh => ?_) (fun hh => ?_)) <;> (try simp only [go_sem, J0, reduceIte, reduceCtorEq, Ja, Jb, Jc, Jd, Je, Jf, Jg, Jh, Ji, Jj, Jk, Jl, Jm, Jn, Jo, Jp, Jq, Jr, Js, a56, Vl.c, Vl.cs_map, g8, q1, q3, q6, q7, q2, q4, q5, hh]) | (first | refine ikop_ask (by omega) ?_ | refine ikopd_ask (by omega) ?_ | refine ikpack_ask (by omega) ?_ | refine krpack_ask (by omega) ?_ | refine kop_ask (by omega) ?_ | refine kopd_ask (by omega) ?_ | refine kans_ask (by omega) ?_ | refine kpack_ask (by omega) ?_ | refine kpk_ask (by omega) ?_ | refine kont_next ?_ | refine kont_nextn ?_ | refine ikont_next ?_ | refine ikont_nextn ?_) <;> (try simp only [go_sem, J0, reduceIte, reduceCtorEq, Ja, Jb, Jc, Jd, Je, Jf, Jg, Jh, Ji, Jj, Jk, Jl, Jm, Jn, Jo, Jp, Jq, Jr, Js, a56, Vl.c, Vl.cs_map, g8, q1, q3, q6, q7, q2, q4, q5]) | (show @Eq Nat _ _; omega) | (show @LE.le Nat _ _ _; omega)))
theorem payOk : ∀ m, PayOk m
  | 0 => fun v d hm _ _ => by cases v; simp [Vl.size] at hm
  | m + 1 => fun v d hm ho hd => by
    obtain ⟨k, n, s, sk, z, l⟩ := v
    simp only [Vl.size] at hm
    exact pay_step (payOk m) k n s sk z l d (by omega) ho hd
theorem e33 (v : Vl) (ho : v.ok) : acall S 33 [.agg v.c] = some (.i .i64 (if mayV v.p 0 then 0 else 20), []) := by
  have em : acall S 56 [.agg v.c, .i .i64 1] = some (.b (mayV v.p 0), []) := payOk v.size v 0 (Nat.le_refl _) ho (by omega)
  obtain ⟨k, n, s, sk, z, l⟩ := v
  simp only [Vl.c, Vl.cs_map] at em ⊢
  refine W_eq (g33 rfl ?_)
  cases hc : mayV (Vl.mk k n s sk z l).p 0 with
  | true => rw [hc] at em; (repeat' (first | (with_reducible first | refine kont_next ?_ | refine lkont_next ?_ | refine kont_nextn ?_ | refine ikont_next ?_ | refine ikont_nextn ?_) | simp only [go_sem, J0, reduceIte, reduceCtorEq, Ja, Jb, Jc, Jd, Je, Jf, Jg, Jh, Ji, Jj, Jk, Jl, Jm, Jn, Jo, Jp, Jq, Jr, Js, a33, s56, em]))
  | false => rw [hc] at em; (repeat' (first | (with_reducible first | refine kont_next ?_ | refine lkont_next ?_ | refine kont_nextn ?_ | refine ikont_next ?_ | refine ikont_nextn ?_) | simp only [go_sem, J0, reduceIte, reduceCtorEq, Ja, Jb, Jc, Jd, Je, Jf, Jg, Jh, Ji, Jj, Jk, Jl, Jm, Jn, Jo, Jp, Jq, Jr, Js, a33, s56, em]))
end Go.Proofs.YtgeaibhgaihobaaDoor
