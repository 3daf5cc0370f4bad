import Derived.Test.YtgeaibhgaihobaaDoorV1
import Derived.Test.YtgeaibhgaihobaaDoorSys
set_option linter.unusedSimpArgs false
set_option linter.unusedVariables false
set_option maxHeartbeats 8000000
set_option maxRecDepth 100000
namespace Go.Proofs.YtgeaibhgaihobaaDoor
open Go.Abs
open Nat renaming add_assoc → J0, reduceEqDiff → Ja, reduceAdd → Jb, reduceMul → Jc, reduceSub → Jd, reduceLeDiff → Je, reduceLT → Jf, reduceBEq → Jg, reduceBNe → Jh
open Int renaming reduceLE → Ji, reduceLT → Jj, reduceToNat → Jk, reduceEq → Jl, reduceNe → Jm, reduceNeg → Jn, reduceAdd → Jo, reduceSub → Jp, reduceMul → Jq, cast_ofNat_Int → Jr, natCast_zero → Js
theorem get_lt' {α : Type} {l : List α} {k : Nat} (h : k < l.length) : ∃ b, l[k]? = some b := ⟨l[k], List.getElem?_eq_getElem h⟩
theorem skOf_row {α : Type} {l : List α} {nl : Bool} (h : nl = true → l = []) (hk : skOf nl = SK.nil) : l = [] := by cases nl with | true => exact h rfl | false => cases hk
theorem e57 {k : SK} {z : Nat} {l : List Vl} (h : OkS k z 4 l) (hl : l.length ≤ LIM) : acall S 57 [.sl k z (l.map Vl.c)] = some (.ow 43 4 (decide (k = .nil)) (l.map Vl.c), []) := by
  have h1 := h.1
  have h2 := h.2
  refine W_eq (g57 rfl ?_)
  (simp only [go_sem, J0, reduceIte, reduceCtorEq, Ja, Jb, Jc, Jd, Je, Jf, Jg, Jh, Ji, Jj, Jk, Jl, Jm, Jn, Jo, Jp, Jq, Jr, Js, a57, h1, hl, s57]; repeat' (first | (first | refine ikway_sp (fun hh => ?_) (fun hh => ?_) | refine kway_sp (fun hh => ?_) (fun hh => ?_) | refine kgdn_sp (fun hh => ?_) (fun hh => ?_) | refine kgd_sp (fun hh => ?_) (fun hh => ?_) | refine kgddn_sp (fun hh => ?_) (fun hh => ?_) | refine kgdd_sp (fun hh => ?_) (fun hh => ?_) | refine kop_way (fun hh => ?_) (fun hh => ?_) | refine kop_bway (fun hh => ?_) (fun hh => ?_) | refine kopd_way (fun hh => ?_) (fun hh => ?_) | refine kopd_bway (fun hh => ?_) (fun hh => ?_)) <;> (try simp only [go_sem, J0, reduceIte, reduceCtorEq, Ja, Jb, Jc, Jd, Je, Jf, Jg, Jh, Ji, Jj, Jk, Jl, Jm, Jn, Jo, Jp, Jq, Jr, Js, a57, h1, hl, s57, hh]) | (first | refine ikop_ask (by omega) ?_ | refine ikopd_ask (by omega) ?_ | refine ikpack_ask (by omega) ?_ | refine krpack_ask (by omega) ?_ | refine kop_ask (by omega) ?_ | refine kopd_ask (by omega) ?_ | refine kans_ask (by omega) ?_ | refine kpack_ask (by omega) ?_ | refine kpk_ask (by omega) ?_ | refine kont_next ?_ | refine kont_nextn ?_ | refine ikont_next ?_ | refine ikont_nextn ?_) <;> (try simp only [go_sem, J0, reduceIte, reduceCtorEq, Ja, Jb, Jc, Jd, Je, Jf, Jg, Jh, Ji, Jj, Jk, Jl, Jm, Jn, Jo, Jp, Jq, Jr, Js, a57, h1, hl, s57]) | (show @Eq Nat _ _; omega) | (show @LE.le Nat _ _ _; omega)))
  · have hk : k = .nil := by simpa using hh
    rw [h2 hk]; rfl
theorem e34' : ∀ (m : Nat) (v : Vl), v.size ≤ m → v.ok → ∃ u : Vl, acall S 34 [.agg v.c] = some (.agg u.c, []) ∧ u.p = v.p ∧ u.ok
  | 0, .mk kd n s k z l, hm, _ => by simp [Vl.size] at hm
  | m + 1, .mk kd n s k z l, hm, hv => by
    obtain ⟨hs, hl, hok, hall⟩ := hv
    have hL : LIM = 274877906944 := rfl
    simp only [Vl.size] at hm
    suffices hW : W (acall S 34 [.agg (Vl.mk kd n s k z l).c]) (fun x => ∃ u : Vl, x = (.agg u.c, []) ∧ u.p = (Vl.mk kd n s k z l).p ∧ u.ok) by
      obtain ⟨x, h1, u, rfl, h2⟩ := hW
      exact ⟨u, h1, h2⟩
    refine g34 rfl ?_
    have e1 := e57 hok (by omega)
    have hnl : decide (k = SK.nil) = true → l = [] := fun h => hok.2 (by simpa using h)
    obtain ⟨nl, hnle⟩ : ∃ nl, nl = decide (k = SK.nil) := ⟨_, rfl⟩
    rw [← hnle] at e1 hnl
    (repeat' (first | (with_reducible first | refine kont_next ?_ | refine lkont_next ?_ | refine kont_nextn ?_ | refine ikont_next ?_ | refine ikont_nextn ?_) | simp only [go_sem, J0, reduceIte, reduceCtorEq, Ja, Jb, Jc, Jd, Je, Jf, Jg, Jh, Ji, Jj, Jk, Jl, Jm, Jn, Jo, Jp, Jq, Jr, Js, a34, Vl.c, Vl.cs_map, s57, e1]))
    refine kloop_inv (ι := List Vl × Nat) (fun x => [.bx [.i .i64 kd, .i .i64 n, .str s, .ow 43 4 nl (x.1.map Vl.c)], .bx [.i .i64 0, .i .i64 0, .str [], .sl .nil 0 []], .i .i64 l.length, .i .i64 x.2])
      (fun x => x.2 ≤ l.length ∧ x.1.length = l.length ∧ x.1.drop x.2 = l.drop x.2 ∧ (x.1.take x.2).map Vl.p = (l.take x.2).map Vl.p ∧ Vl.oks x.1) (fun x => l.length - x.2) (l, 0) (by simp) ⟨by simp, rfl, rfl, rfl, hall⟩ ?_
    rintro ⟨es, j⟩ ⟨hj, hel, hdr, htk, hoks⟩
    simp only at hj hel hdr htk hoks
    by_cases hlt : j < l.length
    · obtain ⟨x, gx⟩ := get_lt' hlt
      have gx2 : es[j]? = some x := by
        have := congrArg (fun q : List Vl => q[0]?) hdr
        simp only [List.getElem?_drop, Nat.add_zero] at this
        rw [this, gx]
      have hxs := Vl.size_get gx
      obtain ⟨u, eu, hup, huo⟩ := e34' m x (by omega) (Vl.oks_get hoks gx2)
      have hw := wrap_succ (k := j) (by omega)
      have hbt : decide ((j : Int) < (l.length : Int)) = true := decide_eq_true (by omega)
      have b1 : (0 : Int) ≤ (j : Int) := by omega
      have b2 : j < es.length := by omega
      have b4 : (j : Int) < (es.length : Int) := by omega
      have b5 : (j : Int) < (l.length : Int) := by omega
      obtain ⟨xk, xn, xs, xkk, xz, xl⟩ := x
      obtain ⟨uk, un, us, ukk, uz, ul⟩ := u
      simp only [Vl.c, Vl.cs_map] at eu
      have b3 : (es.map Vl.c)[j]? = some (Vl.c (.mk xk xn xs xkk xz xl)) := by rw [List.getElem?_map, gx2]; rfl
      (repeat' (first | (with_reducible first | refine kont_next ?_ | refine lkont_next ?_ | refine kont_nextn ?_ | refine ikont_next ?_ | refine ikont_nextn ?_) | simp only [go_sem, J0, reduceIte, reduceCtorEq, Ja, Jb, Jc, Jd, Je, Jf, Jg, Jh, Ji, Jj, Jk, Jl, Jm, Jn, Jo, Jp, Jq, Jr, Js, hbt, hel, b1, b2, b4, b5, List.length_set, List.length_map, gx2, Vl.c, Vl.cs_map, s34, eu, hw, hlt]))
      refine ⟨(es.set j (.mk uk un us ukk uz ul), j + 1), ?_, ⟨?_, ?_, ?_, ?_, ?_⟩, ?_⟩
      · simp only [List.map_set, Vl.c, Vl.cs_map]
      · simp only; omega
      · simp only [List.length_set]; exact hel
      · simp only
        have h3 := congrArg List.tail hdr
        simp only [List.tail_drop] at h3
        rw [List.drop_set_of_lt (by omega), h3]
      · simp only
        rw [List.take_set, take_get gx, take_get gx2, List.set_append_right _ _ (by simp; omega)]
        simp only [List.map_append, htk]
        have : j - (es.take j).length = 0 := by simp; omega
        rw [this]
        simp [hup]
      · simp only
        rw [Vl.oks_iff] at hoks ⊢
        intro y hy
        rcases List.mem_or_eq_of_mem_set hy with h | h
        · exact hoks y h
        · rw [h]; exact huo
      · simp only; omega
    · have hbf : decide ((j : Int) < (l.length : Int)) = false := decide_eq_false (by omega)
      obtain rfl : j = l.length := by omega
      rw [List.take_of_length_le (by omega), List.take_length] at htk
      (repeat' (first | (with_reducible first | refine kont_next ?_ | refine lkont_next ?_ | refine kont_nextn ?_ | refine ikont_next ?_ | refine ikont_nextn ?_) | simp only [go_sem, J0, reduceIte, reduceCtorEq, Ja, Jb, Jc, Jd, Je, Jf, Jg, Jh, Ji, Jj, Jk, Jl, Jm, Jn, Jo, Jp, Jq, Jr, Js, hbf]))
      refine ⟨.mk kd n s (skOf nl) 4 es, by simp only [Vl.c, Vl.cs_map], ?_, ?_⟩
      · simp only [Vl.p, Vl.ps_map, htk]
      · exact ⟨hs, by omega, ⟨.inl rfl, skOf_row fun h => List.eq_nil_of_length_eq_zero (by rw [hel, hnl h]; rfl)⟩, hoks⟩
theorem e34 (v : Vl) (h : v.ok) : ∃ u : Vl, acall S 34 [.agg v.c] = some (.agg u.c, []) ∧ u.p = v.p ∧ u.ok := e34' v.size v (Nat.le_refl _) h
end Go.Proofs.YtgeaibhgaihobaaDoor
