import Derived.Test.YtmdbfbcolofelaaDoorR4
set_option linter.unusedSimpArgs false
set_option linter.unusedVariables false
set_option maxHeartbeats 8000000
set_option maxRecDepth 100000
namespace Go.Proofs.YtmdbfbcolofelaaDoor
open Go.Abs

def newT : Tv := ⟨.mk 4 0 [] .nil 0 [], .nil, 0, [], .nil, 0, [], 0⟩
theorem newT_ok : newT.ok := ⟨⟨by simp, by simp, ⟨.inr rfl, fun _ => rfl⟩, trivial⟩, by simp [newT], by simp [newT], ⟨.inr rfl, fun _ => rfl⟩, ⟨.inr rfl, fun _ => rfl⟩, by simp [newT], by simp [newT]⟩
theorem nameB_a : nameB [97] = true := by decide +kernel
open Classical in
theorem e7 : acall S 7 [] = some (.b true, []) := by
  obtain ⟨u1, e1, p1, o1⟩ := e10 newT newT_ok (intV 1) (intV_ok 1)
  obtain ⟨u2, e2, o2, q2, v2, l2, _⟩ := e9 u1 o1 [97] (by simp)
  obtain ⟨u3, e3, p3, o3⟩ := e10 u2 o2 (intV 2) (intV_ok 2)
  have hp1 : u1.p = ⟨(intV 1).p, [(intV 1).p], [], 0⟩ := by rw [p1]; rfl
  have hE : asE [97] u1.p = 0 := by unfold asE; rw [nameB_a, hp1]; rfl
  have hl2 := l2 hE
  have hq2 : u2.p.path = [(intV 1).p] := by rw [q2, hp1]
  have hlt : ¬ u2.p.path.length ≥ 256 := by rw [hq2]; simp
  have hp3 : u3.p = { u2.p with v := (intV 2).p, path := u2.p.path ++ [(intV 2).p] } := by rw [p3]; unfold toP; rw [if_neg hlt]
  have hT0 : toE newT.p = 0 := rfl
  have hT2 : toE u2.p = 0 := by unfold toE; rw [if_neg hlt]
  obtain ⟨r, b, e4, o4, s4⟩ := e14 u3 o3 [97]
  have hk : lk [97] u3.p.tags = some (intV 1).p := by rw [hp3]; simp only; rw [hl2, hp1]
  obtain ⟨rfl, hr⟩ := s4 _ hk
  have es1 := e15 r (intV 1) o4 (intV_ok 1)
  rw [decide_eq_true hr] at es1
  have hv3 : u3.v.p = (intV 2).p := congrArg PT.v hp3
  have es2 := e15 u3.v (intV 2) o3.v (intV_ok 2)
  rw [decide_eq_true hv3] at es2
  have hlen : u3.path.length = 2 := by
    have := congrArg (fun x => x.path.length) hp3
    simp only [Tv.p, List.length_map] at this
    rw [this]
    have h2 := congrArg List.length hq2
    simp only [Tv.p, List.length_map] at h2
    simp [h2]
  have eN := e25
  have eI1 := e32 1
  have eI2 := e32 2
  rw [hT0] at e1
  rw [hE] at e2
  rw [hT2] at e3
  have g2 : decide ((u3.path.length : Int) = 2) = true := decide_eq_true (by omega)
  obtain ⟨⟨ak, an, as_, akk, az, al⟩, apk, apz, apath, atk, atz, atags, aloops⟩ := u1
  obtain ⟨⟨bk, bn, bs, bkk, bz, bl⟩, bpk, bpz, bpath, btk, btz, btags, bloops⟩ := u2
  obtain ⟨⟨ck, cn, cs, ckk, cz, cl⟩, cpk, cpz, cpath, ctk, ctz, ctags, cloops⟩ := u3
  obtain ⟨rk, rn, rs, rkk, rz, rl⟩ := r
  simp only [newT, intV, Tv.cs, Vl.c, Vl.cs, Vl.cs_map, List.map_nil, List.cons_append, List.nil_append] at e1 e2 e3 e4 es1 es2 eN eI1 eI2 g2
  refine W_eq (g7 rfl ?_)
  (simp only [go_sem, Nat.add_assoc, reduceIte, reduceCtorEq, Nat.reduceEqDiff, Nat.reduceAdd, Nat.reduceMul, Nat.reduceSub, Nat.reduceLeDiff, Nat.reduceLT, Nat.reduceBEq, Nat.reduceBNe, Int.reduceLE, Int.reduceLT, Int.reduceToNat, Int.reduceEq, Int.reduceNe, Int.reduceNeg, Nat.reduceEqDiff, Int.reduceAdd, Int.reduceSub, Int.reduceMul, Int.cast_ofNat_Int, Int.natCast_zero, a7, s25, eN, s32, eI1, eI2, s10, e1, s9, e2, e3, s14, e4, s15, es1, es2, g2]; repeat' (refine kont_next ?_ <;> (try simp only [go_sem, Nat.add_assoc, reduceIte, reduceCtorEq, Nat.reduceEqDiff, Nat.reduceAdd, Nat.reduceMul, Nat.reduceSub, Nat.reduceLeDiff, Nat.reduceLT, Nat.reduceBEq, Nat.reduceBNe, Int.reduceLE, Int.reduceLT, Int.reduceToNat, Int.reduceEq, Int.reduceNe, Int.reduceNeg, Nat.reduceEqDiff, Int.reduceAdd, Int.reduceSub, Int.reduceMul, Int.cast_ofNat_Int, Int.natCast_zero, a7, s25, eN, s32, eI1, eI2, s10, e1, s9, e2, e3, s14, e4, s15, es1, es2, g2])))

open Classical in
theorem e3 (t : Tv) (ht : t.ok) {k : SK} {z : Nat} {l : List Vl} (hk : OkS k z 4 l) (hl : l.length ≤ 137438953472) (hlo : ∀ x ∈ l, x.ok) (nm : List UInt8) (hnm : nm.length ≤ 137438953472) :
    acall S 3 [.agg t.cs, .sl k z (l.map Vl.c), .str nm] = some (.b true, []) := by
  have hL : LIM = 274877906944 := rfl
  have eB := e7
  have hpl := ht.pl
  have gw : IntKind.i64.wrap ((t.path.length : Int) + (l.length : Int)) = ((t.path.length + l.length : Nat) : Int) := by rw [wrap_i64 (by omega) (by omega)]; omega
  refine W_eq (g3 rfl ?_)
  by_cases hlong : t.path.length + l.length > 256
  · have g1 : decide ((256 : Int) < ((t.path.length + l.length : Nat) : Int)) = true := decide_eq_true (by omega)
    obtain ⟨⟨tvk, tvn, tvs, tvkk, tvz, tvl⟩, tpk, tpz, tpath, ttk, ttz, ttags, tloops⟩ := t
    simp only at gw g1
    (simp only [go_sem, Nat.add_assoc, reduceIte, reduceCtorEq, Nat.reduceEqDiff, Nat.reduceAdd, Nat.reduceMul, Nat.reduceSub, Nat.reduceLeDiff, Nat.reduceLT, Nat.reduceBEq, Nat.reduceBNe, Int.reduceLE, Int.reduceLT, Int.reduceToNat, Int.reduceEq, Int.reduceNe, Int.reduceNeg, Nat.reduceEqDiff, Int.reduceAdd, Int.reduceSub, Int.reduceMul, Int.cast_ofNat_Int, Int.natCast_zero, a3, Tv.cs, Vl.c, Vl.cs_map, s7, eB, gw, g1]; repeat' (refine kont_next ?_ <;> (try simp only [go_sem, Nat.add_assoc, reduceIte, reduceCtorEq, Nat.reduceEqDiff, Nat.reduceAdd, Nat.reduceMul, Nat.reduceSub, Nat.reduceLeDiff, Nat.reduceLT, Nat.reduceBEq, Nat.reduceBNe, Int.reduceLE, Int.reduceLT, Int.reduceToNat, Int.reduceEq, Int.reduceNe, Int.reduceNeg, Nat.reduceEqDiff, Int.reduceAdd, Int.reduceSub, Int.reduceMul, Int.cast_ofNat_Int, Int.natCast_zero, a3, Tv.cs, Vl.c, Vl.cs_map, s7, eB, gw, g1])))
  have g1 : decide ((256 : Int) < ((t.path.length + l.length : Nat) : Int)) = false := decide_eq_false (by omega)
  obtain ⟨u0, eO, pO, oO⟩ := e8 t ht
  obtain ⟨w, eA, oA, qA, vA, lA, _⟩ := e9 u0 oO nm hnm
  rw [pO] at qA vA lA eA
  -- the traverser that the loop begins with
  obtain ⟨s0, hs0, os0, ps0, ls0⟩ : ∃ s0 : Tv, s0 = (if asE nm t.p = 0 then w else u0) ∧ s0.ok ∧ s0.p.path = t.p.path ∧ (asE nm t.p = 0 → lk nm s0.p.tags = some t.p.v) := by
    refine ⟨_, rfl, ?_, ?_, fun h => ?_⟩
    · split
      · exact oA
      · exact oO
    · split
      · exact qA
      · rw [pO]
    · rw [if_pos h]; exact lA h
  obtain ⟨e, he⟩ : ∃ e, e = asE nm t.p := ⟨_, rfl⟩
  rw [← he] at eA lA ls0 hs0
  cases hg : decide (e = 0) with
  | true =>
    have he0 : e = 0 := of_decide_eq_true hg
    rw [if_pos he0] at hs0
    rw [hs0] at os0 ps0 ls0
    clear hs0
    have hts := ht.ps.1
    clear gw
    have gw : IntKind.i64.wrap ((t.path.length : Int) + (l.length : Int)) = ((t.path.length + l.length : Nat) : Int) := by rw [wrap_i64 (by omega) (by omega)]; omega
    have hpt : t.p.path = t.path.map Vl.p := rfl
    have hvt : t.p.v = t.v.p := rfl
    have otv := ht.v
    have otp := ht.po
    have hplen : t.path.length + l.length ≤ 256 := by omega
    have glim1 : t.path.length ≤ LIM := by omega
    have glim2 : t.path.length + l.length ≤ LIM := by omega
    rw [hvt] at ls0
    rw [hpt] at ps0
    clear pO qA vA lA hpt hvt
    obtain ⟨⟨tvk, tvn, tvs, tvkk, tvz, tvl⟩, tpk, tpz, tpath, ttk, ttz, ttags, tloops⟩ := t
    simp only at gw g1 hts ps0 ls0 otv otp hplen glim1 glim2
    have eO' := eO
    have eA' := eA
    obtain ⟨⟨ok_, on_, os_, okk, oz, ol⟩, opk, opz, opath, otk, otz, otags, oloops⟩ := u0
    obtain ⟨⟨wk, wn, ws, wkk, wz, wl⟩, wpk, wpz, wpath, wtk, wtz, wtags, wloops⟩ := w
    simp only [Tv.cs, Vl.c, Vl.cs_map, List.cons_append, List.nil_append] at eO eA
    (simp only [go_sem, Nat.add_assoc, reduceIte, reduceCtorEq, Nat.reduceEqDiff, Nat.reduceAdd, Nat.reduceMul, Nat.reduceSub, Nat.reduceLeDiff, Nat.reduceLT, Nat.reduceBEq, Nat.reduceBNe, Int.reduceLE, Int.reduceLT, Int.reduceToNat, Int.reduceEq, Int.reduceNe, Int.reduceNeg, Nat.reduceEqDiff, Int.reduceAdd, Int.reduceSub, Int.reduceMul, Int.cast_ofNat_Int, Int.natCast_zero, a3, Tv.cs, Vl.c, Vl.cs_map, s7, eB, gw, g1, s8, eO, s9, eA, hg]; repeat' (refine kont_next ?_ <;> (try simp only [go_sem, Nat.add_assoc, reduceIte, reduceCtorEq, Nat.reduceEqDiff, Nat.reduceAdd, Nat.reduceMul, Nat.reduceSub, Nat.reduceLeDiff, Nat.reduceLT, Nat.reduceBEq, Nat.reduceBNe, Int.reduceLE, Int.reduceLT, Int.reduceToNat, Int.reduceEq, Int.reduceNe, Int.reduceNeg, Nat.reduceEqDiff, Int.reduceAdd, Int.reduceSub, Int.reduceMul, Int.cast_ofNat_Int, Int.natCast_zero, a3, Tv.cs, Vl.c, Vl.cs_map, s7, eB, gw, g1, s8, eO, s9, eA, hg])))
    refine kloop_inv (ι := Tv × Nat) (fun x => [.sl k z (l.map Vl.c), .str nm, .bx [.i .i64 tvk, .i .i64 tvn, .str tvs, .sl tvkk tvz (tvl.map Vl.c), .sl tpk tpz (tpath.map Vl.c), .sl ttk ttz (ttags.map tagC), .i .i64 tloops], .bx x.1.cs, .i .i64 e, .sl k z (l.map Vl.c), .i .i64 l.length, .i .i64 x.2])
      (fun x => x.2 ≤ l.length ∧ x.1.ok ∧ x.1.path.map Vl.p = tpath.map Vl.p ++ (l.take x.2).map Vl.p ∧ (e = 0 → lk nm x.1.p.tags = some (Vl.p (.mk tvk tvn tvs tvkk tvz tvl)))) (fun x => l.length - x.2)
      (⟨.mk wk wn ws wkk wz wl, wpk, wpz, wpath, wtk, wtz, wtags, wloops⟩, 0) (by simp [Tv.cs, Vl.c, Vl.cs_map]) ⟨by simp, os0, by simpa [Tv.p] using ps0, ls0⟩ ?_
    rintro ⟨u, i⟩ ⟨hi, ou, pu, lu⟩
    simp only at hi ou pu lu
    have hulen : u.path.length = tpath.length + i := by
      have := congrArg List.length pu
      simp only [List.length_map, List.length_append, List.length_take] at this
      omega
    by_cases hlt : i < l.length
    · obtain ⟨c, gc⟩ := get_lt hlt
      have hw := wrap_succ (k := i) (by omega)
      have hbt : decide ((i : Int) < (l.length : Int)) = true := decide_eq_true (by omega)
      obtain ⟨x, ex, px, ox⟩ := e10 u ou c (hlo c (List.mem_of_getElem? gc))
      have hul : ¬ u.p.path.length ≥ 256 := by simp only [Tv.p, List.length_map]; omega
      have hxe : toE u.p = 0 := by unfold toE; rw [if_neg hul]
      have hxp : x.p = { u.p with v := c.p, path := u.p.path ++ [c.p] } := by rw [px]; unfold toP; rw [if_neg hul]
      rw [hxe] at ex
      obtain ⟨y1, ey1, py1, oy1⟩ := e11 x ox zeroV zeroV_ok
      obtain ⟨y2, ey2, oy2, qy2, vy2, _⟩ := e9 y1 oy1 [122, 122] (by simp)
      obtain ⟨y3, ey3, py3, oy3⟩ := e13 y2 oy2
      have hy3 : y3.path.map Vl.p = x.path.map Vl.p := by
        have h1 : y3.p.path = y2.p.path := by rw [py3]; unfold roundP; split <;> rfl
        have h2 : y1.p.path = x.p.path := by rw [py1]; rfl
        exact (h1.trans qy2).trans h2
      have esa := e12 oy3.ps ox.ps (by have := oy3.pl; omega) (by have := ox.pl; omega) oy3.po ox.po
      rw [decide_eq_true hy3] at esa
      have hnp : x.path.map Vl.p = tpath.map Vl.p ++ (l.take (i + 1)).map Vl.p := by
        have h1 : x.path.map Vl.p = u.path.map Vl.p ++ [c.p] := congrArg PT.path hxp
        rw [h1, pu, take_get gc]; simp
      have hnl : e = 0 → lk nm x.p.tags = some (Vl.p (.mk tvk tvn tvs tvkk tvz tvl)) := fun h => by rw [hxp]; exact lu h
      have b2 : (i : Int) < (l.length : Int) := by omega
      have next : ∃ y : Tv × Nat, y = (x, i + 1) := ⟨_, rfl⟩
      obtain ⟨ck, cn, cs, ckk, cz, cl⟩ := c
      obtain ⟨⟨uk, un, us, ukk, uz, ul⟩, upk, upz, upath, utk, utz, utags, uloops⟩ := u
      obtain ⟨⟨xk, xn, xs, xkk, xz, xl⟩, xpk, xpz, xpath, xtk, xtz, xtags, xloops⟩ := x
      obtain ⟨⟨y1k, y1n, y1s, y1kk, y1z, y1l⟩, y1pk, y1pz, y1path, y1tk, y1tz, y1tags, y1loops⟩ := y1
      obtain ⟨⟨y2k, y2n, y2s, y2kk, y2z, y2l⟩, y2pk, y2pz, y2path, y2tk, y2tz, y2tags, y2loops⟩ := y2
      obtain ⟨⟨y3k, y3n, y3s, y3kk, y3z, y3l⟩, y3pk, y3pz, y3path, y3tk, y3tz, y3tags, y3loops⟩ := y3
      simp only [Tv.cs, zeroV, Vl.c, Vl.cs, Vl.cs_map, List.cons_append, List.nil_append, List.map_nil] at ex ey1 ey2 ey3 esa
      (simp only [go_sem, Nat.add_assoc, reduceIte, reduceCtorEq, Nat.reduceEqDiff, Nat.reduceAdd, Nat.reduceMul, Nat.reduceSub, Nat.reduceLeDiff, Nat.reduceLT, Nat.reduceBEq, Nat.reduceBNe, Int.reduceLE, Int.reduceLT, Int.reduceToNat, Int.reduceEq, Int.reduceNe, Int.reduceNeg, Nat.reduceEqDiff, Int.reduceAdd, Int.reduceSub, Int.reduceMul, Int.cast_ofNat_Int, Int.natCast_zero, hbt, Tv.cs, hk.1, gc, Vl.c, Vl.cs_map, s10, ex, s11, ey1, s9, ey2, s13, ey3, s12, esa, hw]; repeat' (refine kont_next ?_ <;> (try simp only [go_sem, Nat.add_assoc, reduceIte, reduceCtorEq, Nat.reduceEqDiff, Nat.reduceAdd, Nat.reduceMul, Nat.reduceSub, Nat.reduceLeDiff, Nat.reduceLT, Nat.reduceBEq, Nat.reduceBNe, Int.reduceLE, Int.reduceLT, Int.reduceToNat, Int.reduceEq, Int.reduceNe, Int.reduceNeg, Nat.reduceEqDiff, Int.reduceAdd, Int.reduceSub, Int.reduceMul, Int.cast_ofNat_Int, Int.natCast_zero, hbt, Tv.cs, hk.1, gc, Vl.c, Vl.cs_map, s10, ex, s11, ey1, s9, ey2, s13, ey3, s12, esa, hw])))
      exact ⟨(⟨.mk xk xn xs xkk xz xl, xpk, xpz, xpath, xtk, xtz, xtags, xloops⟩, i + 1), by simp [Tv.cs, Vl.c, Vl.cs_map], ⟨by simp only; omega, ox, hnp, hnl⟩, by simp only; omega⟩
    · have hbf : decide ((i : Int) < (l.length : Int)) = false := decide_eq_false (by omega)
      obtain rfl : i = l.length := by omega
      rw [List.take_length] at pu
      have esa := e12 ou.ps (OkS.open_ 4 (tpath ++ l)) (by have := ou.pl; omega) (by simp; omega) ou.po (fun x hx => by
        rcases List.mem_append.1 hx with h | h
        · exact otp x h
        · exact hlo x h)
      rw [decide_eq_true (by rw [pu, List.map_append])] at esa
      obtain ⟨r, b, eS, oS, sS⟩ := e14 u ou nm
      obtain ⟨rfl, hr⟩ := sS _ (lu he0)
      have es1 := e15 r (.mk tvk tvn tvs tvkk tvz tvl) oS otv
      rw [decide_eq_true hr] at es1
      have hgn : decide (¬ e = 0) = false := decide_eq_false (by simpa using he0)
      obtain ⟨⟨uk, un, us, ukk, uz, ul⟩, upk, upz, upath, utk, utz, utags, uloops⟩ := u
      obtain ⟨rk, rn, rs, rkk, rz, rl⟩ := r
      simp only [Tv.cs, Vl.c, Vl.cs_map, List.cons_append, List.nil_append, List.map_append] at esa eS es1
      (simp only [go_sem, Nat.add_assoc, reduceIte, reduceCtorEq, Nat.reduceEqDiff, Nat.reduceAdd, Nat.reduceMul, Nat.reduceSub, Nat.reduceLeDiff, Nat.reduceLT, Nat.reduceBEq, Nat.reduceBNe, Int.reduceLE, Int.reduceLT, Int.reduceToNat, Int.reduceEq, Int.reduceNe, Int.reduceNeg, Nat.reduceEqDiff, Int.reduceAdd, Int.reduceSub, Int.reduceMul, Int.cast_ofNat_Int, Int.natCast_zero, hbf, Tv.cs, Vl.c, Vl.cs_map, hk.1, hts, glim1, glim2, s12, esa, s14, eS, hgn, s15, es1]; repeat' (refine kont_next ?_ <;> (try simp only [go_sem, Nat.add_assoc, reduceIte, reduceCtorEq, Nat.reduceEqDiff, Nat.reduceAdd, Nat.reduceMul, Nat.reduceSub, Nat.reduceLeDiff, Nat.reduceLT, Nat.reduceBEq, Nat.reduceBNe, Int.reduceLE, Int.reduceLT, Int.reduceToNat, Int.reduceEq, Int.reduceNe, Int.reduceNeg, Nat.reduceEqDiff, Int.reduceAdd, Int.reduceSub, Int.reduceMul, Int.cast_ofNat_Int, Int.natCast_zero, hbf, Tv.cs, Vl.c, Vl.cs_map, hk.1, hts, glim1, glim2, s12, esa, s14, eS, hgn, s15, es1])))
  | false =>
    have he0 : ¬ e = 0 := of_decide_eq_false hg
    rw [if_neg he0] at hs0
    rw [hs0] at os0 ps0 ls0
    clear hs0
    have hts := ht.ps.1
    clear gw
    have gw : IntKind.i64.wrap ((t.path.length : Int) + (l.length : Int)) = ((t.path.length + l.length : Nat) : Int) := by rw [wrap_i64 (by omega) (by omega)]; omega
    have hpt : t.p.path = t.path.map Vl.p := rfl
    have hvt : t.p.v = t.v.p := rfl
    have otv := ht.v
    have otp := ht.po
    have hplen : t.path.length + l.length ≤ 256 := by omega
    have glim1 : t.path.length ≤ LIM := by omega
    have glim2 : t.path.length + l.length ≤ LIM := by omega
    rw [hvt] at ls0
    rw [hpt] at ps0
    clear pO qA vA lA hpt hvt
    obtain ⟨⟨tvk, tvn, tvs, tvkk, tvz, tvl⟩, tpk, tpz, tpath, ttk, ttz, ttags, tloops⟩ := t
    simp only at gw g1 hts ps0 ls0 otv otp hplen glim1 glim2
    have eO' := eO
    have eA' := eA
    obtain ⟨⟨ok_, on_, os_, okk, oz, ol⟩, opk, opz, opath, otk, otz, otags, oloops⟩ := u0
    obtain ⟨⟨wk, wn, ws, wkk, wz, wl⟩, wpk, wpz, wpath, wtk, wtz, wtags, wloops⟩ := w
    simp only [Tv.cs, Vl.c, Vl.cs_map, List.cons_append, List.nil_append] at eO eA
    (simp only [go_sem, Nat.add_assoc, reduceIte, reduceCtorEq, Nat.reduceEqDiff, Nat.reduceAdd, Nat.reduceMul, Nat.reduceSub, Nat.reduceLeDiff, Nat.reduceLT, Nat.reduceBEq, Nat.reduceBNe, Int.reduceLE, Int.reduceLT, Int.reduceToNat, Int.reduceEq, Int.reduceNe, Int.reduceNeg, Nat.reduceEqDiff, Int.reduceAdd, Int.reduceSub, Int.reduceMul, Int.cast_ofNat_Int, Int.natCast_zero, a3, Tv.cs, Vl.c, Vl.cs_map, s7, eB, gw, g1, s8, eO, s9, eA, hg]; repeat' (refine kont_next ?_ <;> (try simp only [go_sem, Nat.add_assoc, reduceIte, reduceCtorEq, Nat.reduceEqDiff, Nat.reduceAdd, Nat.reduceMul, Nat.reduceSub, Nat.reduceLeDiff, Nat.reduceLT, Nat.reduceBEq, Nat.reduceBNe, Int.reduceLE, Int.reduceLT, Int.reduceToNat, Int.reduceEq, Int.reduceNe, Int.reduceNeg, Nat.reduceEqDiff, Int.reduceAdd, Int.reduceSub, Int.reduceMul, Int.cast_ofNat_Int, Int.natCast_zero, a3, Tv.cs, Vl.c, Vl.cs_map, s7, eB, gw, g1, s8, eO, s9, eA, hg])))
    refine kloop_inv (ι := Tv × Nat) (fun x => [.sl k z (l.map Vl.c), .str nm, .bx [.i .i64 tvk, .i .i64 tvn, .str tvs, .sl tvkk tvz (tvl.map Vl.c), .sl tpk tpz (tpath.map Vl.c), .sl ttk ttz (ttags.map tagC), .i .i64 tloops], .bx x.1.cs, .i .i64 e, .sl k z (l.map Vl.c), .i .i64 l.length, .i .i64 x.2])
      (fun x => x.2 ≤ l.length ∧ x.1.ok ∧ x.1.path.map Vl.p = tpath.map Vl.p ++ (l.take x.2).map Vl.p ∧ (e = 0 → lk nm x.1.p.tags = some (Vl.p (.mk tvk tvn tvs tvkk tvz tvl)))) (fun x => l.length - x.2)
      (⟨.mk ok_ on_ os_ okk oz ol, opk, opz, opath, otk, otz, otags, oloops⟩, 0) (by simp [Tv.cs, Vl.c, Vl.cs_map]) ⟨by simp, os0, by simpa [Tv.p] using ps0, ls0⟩ ?_
    rintro ⟨u, i⟩ ⟨hi, ou, pu, lu⟩
    simp only at hi ou pu lu
    have hulen : u.path.length = tpath.length + i := by
      have := congrArg List.length pu
      simp only [List.length_map, List.length_append, List.length_take] at this
      omega
    by_cases hlt : i < l.length
    · obtain ⟨c, gc⟩ := get_lt hlt
      have hw := wrap_succ (k := i) (by omega)
      have hbt : decide ((i : Int) < (l.length : Int)) = true := decide_eq_true (by omega)
      obtain ⟨x, ex, px, ox⟩ := e10 u ou c (hlo c (List.mem_of_getElem? gc))
      have hul : ¬ u.p.path.length ≥ 256 := by simp only [Tv.p, List.length_map]; omega
      have hxe : toE u.p = 0 := by unfold toE; rw [if_neg hul]
      have hxp : x.p = { u.p with v := c.p, path := u.p.path ++ [c.p] } := by rw [px]; unfold toP; rw [if_neg hul]
      rw [hxe] at ex
      obtain ⟨y1, ey1, py1, oy1⟩ := e11 x ox zeroV zeroV_ok
      obtain ⟨y2, ey2, oy2, qy2, vy2, _⟩ := e9 y1 oy1 [122, 122] (by simp)
      obtain ⟨y3, ey3, py3, oy3⟩ := e13 y2 oy2
      have hy3 : y3.path.map Vl.p = x.path.map Vl.p := by
        have h1 : y3.p.path = y2.p.path := by rw [py3]; unfold roundP; split <;> rfl
        have h2 : y1.p.path = x.p.path := by rw [py1]; rfl
        exact (h1.trans qy2).trans h2
      have esa := e12 oy3.ps ox.ps (by have := oy3.pl; omega) (by have := ox.pl; omega) oy3.po ox.po
      rw [decide_eq_true hy3] at esa
      have hnp : x.path.map Vl.p = tpath.map Vl.p ++ (l.take (i + 1)).map Vl.p := by
        have h1 : x.path.map Vl.p = u.path.map Vl.p ++ [c.p] := congrArg PT.path hxp
        rw [h1, pu, take_get gc]; simp
      have hnl : e = 0 → lk nm x.p.tags = some (Vl.p (.mk tvk tvn tvs tvkk tvz tvl)) := fun h => by rw [hxp]; exact lu h
      have b2 : (i : Int) < (l.length : Int) := by omega
      have next : ∃ y : Tv × Nat, y = (x, i + 1) := ⟨_, rfl⟩
      obtain ⟨ck, cn, cs, ckk, cz, cl⟩ := c
      obtain ⟨⟨uk, un, us, ukk, uz, ul⟩, upk, upz, upath, utk, utz, utags, uloops⟩ := u
      obtain ⟨⟨xk, xn, xs, xkk, xz, xl⟩, xpk, xpz, xpath, xtk, xtz, xtags, xloops⟩ := x
      obtain ⟨⟨y1k, y1n, y1s, y1kk, y1z, y1l⟩, y1pk, y1pz, y1path, y1tk, y1tz, y1tags, y1loops⟩ := y1
      obtain ⟨⟨y2k, y2n, y2s, y2kk, y2z, y2l⟩, y2pk, y2pz, y2path, y2tk, y2tz, y2tags, y2loops⟩ := y2
      obtain ⟨⟨y3k, y3n, y3s, y3kk, y3z, y3l⟩, y3pk, y3pz, y3path, y3tk, y3tz, y3tags, y3loops⟩ := y3
      simp only [Tv.cs, zeroV, Vl.c, Vl.cs, Vl.cs_map, List.cons_append, List.nil_append, List.map_nil] at ex ey1 ey2 ey3 esa
      (simp only [go_sem, Nat.add_assoc, reduceIte, reduceCtorEq, Nat.reduceEqDiff, Nat.reduceAdd, Nat.reduceMul, Nat.reduceSub, Nat.reduceLeDiff, Nat.reduceLT, Nat.reduceBEq, Nat.reduceBNe, Int.reduceLE, Int.reduceLT, Int.reduceToNat, Int.reduceEq, Int.reduceNe, Int.reduceNeg, Nat.reduceEqDiff, Int.reduceAdd, Int.reduceSub, Int.reduceMul, Int.cast_ofNat_Int, Int.natCast_zero, hbt, Tv.cs, hk.1, gc, Vl.c, Vl.cs_map, s10, ex, s11, ey1, s9, ey2, s13, ey3, s12, esa, hw]; repeat' (refine kont_next ?_ <;> (try simp only [go_sem, Nat.add_assoc, reduceIte, reduceCtorEq, Nat.reduceEqDiff, Nat.reduceAdd, Nat.reduceMul, Nat.reduceSub, Nat.reduceLeDiff, Nat.reduceLT, Nat.reduceBEq, Nat.reduceBNe, Int.reduceLE, Int.reduceLT, Int.reduceToNat, Int.reduceEq, Int.reduceNe, Int.reduceNeg, Nat.reduceEqDiff, Int.reduceAdd, Int.reduceSub, Int.reduceMul, Int.cast_ofNat_Int, Int.natCast_zero, hbt, Tv.cs, hk.1, gc, Vl.c, Vl.cs_map, s10, ex, s11, ey1, s9, ey2, s13, ey3, s12, esa, hw])))
      exact ⟨(⟨.mk xk xn xs xkk xz xl, xpk, xpz, xpath, xtk, xtz, xtags, xloops⟩, i + 1), by simp [Tv.cs, Vl.c, Vl.cs_map], ⟨by simp only; omega, ox, hnp, hnl⟩, by simp only; omega⟩
    · have hbf : decide ((i : Int) < (l.length : Int)) = false := decide_eq_false (by omega)
      obtain rfl : i = l.length := by omega
      rw [List.take_length] at pu
      have esa := e12 ou.ps (OkS.open_ 4 (tpath ++ l)) (by have := ou.pl; omega) (by simp; omega) ou.po (fun x hx => by
        rcases List.mem_append.1 hx with h | h
        · exact otp x h
        · exact hlo x h)
      rw [decide_eq_true (by rw [pu, List.map_append])] at esa
      obtain ⟨r, b, eS, oS, sS⟩ := e14 u ou nm
      skip
      skip
      skip
      have hgn : decide (¬ e = 0) = true := decide_eq_true he0
      obtain ⟨⟨uk, un, us, ukk, uz, ul⟩, upk, upz, upath, utk, utz, utags, uloops⟩ := u
      obtain ⟨rk, rn, rs, rkk, rz, rl⟩ := r
      simp only [Tv.cs, Vl.c, Vl.cs_map, List.cons_append, List.nil_append, List.map_append] at esa eS
      (simp only [go_sem, Nat.add_assoc, reduceIte, reduceCtorEq, Nat.reduceEqDiff, Nat.reduceAdd, Nat.reduceMul, Nat.reduceSub, Nat.reduceLeDiff, Nat.reduceLT, Nat.reduceBEq, Nat.reduceBNe, Int.reduceLE, Int.reduceLT, Int.reduceToNat, Int.reduceEq, Int.reduceNe, Int.reduceNeg, Nat.reduceEqDiff, Int.reduceAdd, Int.reduceSub, Int.reduceMul, Int.cast_ofNat_Int, Int.natCast_zero, hbf, Tv.cs, Vl.c, Vl.cs_map, hk.1, hts, glim1, glim2, s12, esa, s14, eS, hgn]; repeat' (refine kont_next ?_ <;> (try simp only [go_sem, Nat.add_assoc, reduceIte, reduceCtorEq, Nat.reduceEqDiff, Nat.reduceAdd, Nat.reduceMul, Nat.reduceSub, Nat.reduceLeDiff, Nat.reduceLT, Nat.reduceBEq, Nat.reduceBNe, Int.reduceLE, Int.reduceLT, Int.reduceToNat, Int.reduceEq, Int.reduceNe, Int.reduceNeg, Nat.reduceEqDiff, Int.reduceAdd, Int.reduceSub, Int.reduceMul, Int.cast_ofNat_Int, Int.natCast_zero, hbf, Tv.cs, Vl.c, Vl.cs_map, hk.1, hts, glim1, glim2, s12, esa, s14, eS, hgn])))
end Go.Proofs.YtmdbfbcolofelaaDoor
