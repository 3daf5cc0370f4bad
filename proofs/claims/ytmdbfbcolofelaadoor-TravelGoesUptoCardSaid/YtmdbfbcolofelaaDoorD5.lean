/-
  The law TravelGoes answers true.
-/
import Derived.Test.YtmdbfbcolofelaaDoorD4
import Derived.Test.YtmdbfbcolofelaaDoorC3
import Derived.Test.YtmdbfbcolofelaaDoorR5
set_option linter.unusedSimpArgs false
set_option linter.unusedVariables false
set_option maxHeartbeats 8000000
set_option maxRecDepth 100000
namespace Go.Proofs.YtmdbfbcolofelaaDoor
open Go.Abs

theorem same_true {a b : Tv} (ha : a.ok) (hb : b.ok) (h : a.p = b.p) : acall S 20 [.agg a.cs, .agg b.cs] = some (.b true, []) := by
  classical
  have := e20 a b ha hb
  rwa [decide_eq_true h] at this
theorem e6 (t : Tv) (ht : t.ok) (v : Vl) (hv : v.ok) (n : Int) : acall S 6 [.agg t.cs, .agg v.c, .i .i64 n] = some (.b true, []) := by
  have eB := e7
  have eC := e21 t ht
  obtain ⟨u0, e0, p0, o0⟩ := e8 t ht
  have c0 := e23 u0 o0
  rw [p0] at c0
  obtain ⟨u1, e1, p1, o1⟩ := e10 u0 o0 v hv
  obtain ⟨w1, f1, r1, q1⟩ := e24 t ht v hv
  obtain ⟨u3, e3, p3, o3⟩ := e11 u0 o0 v hv
  obtain ⟨w3, f3, r3, q3⟩ := e27 t ht v hv
  obtain ⟨u4, e4, p4, o4⟩ := e13 u0 o0
  obtain ⟨w4, f4, r4, q4⟩ := e28 t ht
  obtain ⟨u5, e5, p5, o5⟩ := e29 u0 o0 n
  obtain ⟨hv', hpath, htags, f5, r5, q5, l5, l5'⟩ := e16 t ht
  have s0 := same_true newT_ok newT_ok rfl
  have s1 := same_true o1 q1 (by rw [p1, r1, p0])
  have s3 := same_true o3 q3 (by rw [p3, r3, p0])
  have s4 := same_true o4 q4 (by rw [p4, r4, p0])
  have q5' : (mkT hv' hpath htags n).ok := mkT_ok q5.v q5.pl q5.tl q5.po q5.to
  have s5 := same_true o5 q5' (by
    rw [p5, p0, ← r5]
    rfl)
  have m1 := e30 u0 o0
  have m2 := e31 t ht
  have hpp : u0.path.map Vl.p = t.path.map Vl.p := congrArg PT.path p0
  rw [hpp] at m1
  rw [p0] at e1
  have eN := e25
  have fN := e26
  generalize simpleL [] (t.path.map Vl.p) = M at m1 m2
  generalize (if mayT t.p = true then (0 : Int) else 180) = E0 at c0 eC
  generalize toE t.p = E1 at e1 f1
  clear p0 p1 p3 p4 p5 r1 r3 r4 r5 o0 o1 o3 o4 o5 q1 q3 q4 q5 q5' l5 l5' ht hv hpp
  obtain ⟨⟨tk, tn, ts, tkk, tz, tl⟩, tpk, tpz, tpath, ttk, ttz, ttags, tloops⟩ := t
  obtain ⟨vk, vn, vs, vkk, vz, vl⟩ := v
  obtain ⟨⟨ak, an, as_, akk, az, al⟩, apk, apz, apath, atk, atz, atags, aloops⟩ := u0
  obtain ⟨⟨bk, bn, bs, bkk, bz, bl⟩, bpk, bpz, bpath, btk, btz, btags, bloops⟩ := u1
  obtain ⟨⟨b'k, b'n, b's, b'kk, b'z, b'l⟩, b'pk, b'pz, b'path, b'tk, b'tz, b'tags, b'loops⟩ := w1
  obtain ⟨⟨dk, dn, ds, dkk, dz, dl⟩, dpk, dpz, dpath, dtk, dtz, dtags, dloops⟩ := u3
  obtain ⟨⟨d'k, d'n, d's, d'kk, d'z, d'l⟩, d'pk, d'pz, d'path, d'tk, d'tz, d'tags, d'loops⟩ := w3
  obtain ⟨⟨ek, en, es, ekk, ez, el⟩, epk, epz, epath, etk, etz, etags, eloops⟩ := u4
  obtain ⟨⟨e'k, e'n, e's, e'kk, e'z, e'l⟩, e'pk, e'pz, e'path, e'tk, e'tz, e'tags, e'loops⟩ := w4
  obtain ⟨⟨gk, gn, gs, gkk, gz, gl⟩, gpk, gpz, gpath, gtk, gtz, gtags, gloops⟩ := u5
  obtain ⟨hk, hn, hs, hkk, hz, hl⟩ := hv'
  simp only [newT, Tv.cs, Tv.ov, mkT, Vl.c, Vl.cs, Vl.cs_map, List.map_nil, List.cons_append, List.nil_append] at e0 e1 f1 e3 f3 e4 f4 e5 f5 c0 eC s0 s1 s3 s4 s5 m1 m2 eN fN ⊢
  refine W_eq (g6 rfl ?_)
  (simp only [go_sem, Nat.add_assoc, reduceIte, reduceCtorEq, Nat.reduceEqDiff, Nat.reduceAdd, Nat.reduceMul, Nat.reduceSub, Nat.reduceLeDiff, Nat.reduceLT, Nat.reduceBEq, Nat.reduceBNe, Int.reduceLE, Int.reduceLT, Int.reduceToNat, Int.reduceEq, Int.reduceNe, Int.reduceNeg, Nat.reduceEqDiff, Int.reduceAdd, Int.reduceSub, Int.reduceMul, Int.cast_ofNat_Int, Int.natCast_zero, a6, s7, eB, s21, eC, s8, e0, s10, e1, s24, f1, s11, e3, s27, f3, s13, e4, s28, f4, s29, e5, s16, f5, s23, c0, s20, s0, s1, s3, s4, s5, s30, m1, s31, m2, s25, eN, s26, fN]; repeat' (refine kont_next ?_ <;> (try simp only [go_sem, Nat.add_assoc, reduceIte, reduceCtorEq, Nat.reduceEqDiff, Nat.reduceAdd, Nat.reduceMul, Nat.reduceSub, Nat.reduceLeDiff, Nat.reduceLT, Nat.reduceBEq, Nat.reduceBNe, Int.reduceLE, Int.reduceLT, Int.reduceToNat, Int.reduceEq, Int.reduceNe, Int.reduceNeg, Nat.reduceEqDiff, Int.reduceAdd, Int.reduceSub, Int.reduceMul, Int.cast_ofNat_Int, Int.natCast_zero, a6, s7, eB, s21, eC, s8, e0, s10, e1, s24, f1, s11, e3, s27, f3, s13, e4, s28, f4, s29, e5, s16, f5, s23, c0, s20, s0, s1, s3, s4, s5, s30, m1, s31, m2, s25, eN, s26, fN])))
end Go.Proofs.YtmdbfbcolofelaaDoor
