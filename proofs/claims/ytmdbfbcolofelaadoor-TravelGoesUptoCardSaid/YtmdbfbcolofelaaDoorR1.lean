import Derived.Test.YtmdbfbcolofelaaDoorV2
import Derived.Test.YtmdbfbcolofelaaDoorV3
import Derived.Test.YtmdbfbcolofelaaDoorP1
set_option linter.unusedSimpArgs false
set_option linter.unusedVariables false
set_option maxHeartbeats 8000000
set_option maxRecDepth 100000
namespace Go.Proofs.YtmdbfbcolofelaaDoor
open Go.Abs

/-! ### lists of values -/
open Classical in
theorem e12 {k k' : SK} {z z' : Nat} {l r : List Vl} (h : OkS k z 4 l) (h' : OkS k' z' 4 r) (hl : l.length < 137438953473) (hr : r.length < 137438953473) (ol : ∀ x ∈ l, x.ok) (or_ : ∀ x ∈ r, x.ok) :
    acall S 12 [.sl k z (l.map Vl.c), .sl k' z' (r.map Vl.c)] = some (.b (decide (l.map Vl.p = r.map Vl.p)), []) := by
  have h1 := h.1
  have h2 := h'.1
  refine W_eq (g12 rfl ?_)
  by_cases hlen : l.length = r.length
  case neg =>
    have g1 : decide (¬ (l.length : Int) = (r.length : Int)) = true := decide_eq_true (by omega)
    rw [decide_eq_false (fun e => hlen (by simpa using congrArg List.length e))]
    (simp only [go_sem, Nat.add_assoc, reduceIte, reduceCtorEq, Nat.reduceEqDiff, Nat.reduceAdd, Nat.reduceMul, Nat.reduceSub, Nat.reduceLeDiff, Nat.reduceLT, Nat.reduceBEq, Nat.reduceBNe, Int.reduceLE, Int.reduceLT, Int.reduceToNat, Int.reduceEq, Int.reduceNe, Int.reduceNeg, Nat.reduceEqDiff, Int.reduceAdd, Int.reduceSub, Int.reduceMul, Int.cast_ofNat_Int, Int.natCast_zero, a12, g1]; repeat' (refine kont_next ?_ <;> (try simp only [go_sem, Nat.add_assoc, reduceIte, reduceCtorEq, Nat.reduceEqDiff, Nat.reduceAdd, Nat.reduceMul, Nat.reduceSub, Nat.reduceLeDiff, Nat.reduceLT, Nat.reduceBEq, Nat.reduceBNe, Int.reduceLE, Int.reduceLT, Int.reduceToNat, Int.reduceEq, Int.reduceNe, Int.reduceNeg, Nat.reduceEqDiff, Int.reduceAdd, Int.reduceSub, Int.reduceMul, Int.cast_ofNat_Int, Int.natCast_zero, a12, g1])))
  have g1 : decide (¬ (l.length : Int) = (r.length : Int)) = false := decide_eq_false (by omega)
  (simp only [go_sem, Nat.add_assoc, reduceIte, reduceCtorEq, Nat.reduceEqDiff, Nat.reduceAdd, Nat.reduceMul, Nat.reduceSub, Nat.reduceLeDiff, Nat.reduceLT, Nat.reduceBEq, Nat.reduceBNe, Int.reduceLE, Int.reduceLT, Int.reduceToNat, Int.reduceEq, Int.reduceNe, Int.reduceNeg, Nat.reduceEqDiff, Int.reduceAdd, Int.reduceSub, Int.reduceMul, Int.cast_ofNat_Int, Int.natCast_zero, a12, g1]; repeat' (refine kont_next ?_ <;> (try simp only [go_sem, Nat.add_assoc, reduceIte, reduceCtorEq, Nat.reduceEqDiff, Nat.reduceAdd, Nat.reduceMul, Nat.reduceSub, Nat.reduceLeDiff, Nat.reduceLT, Nat.reduceBEq, Nat.reduceBNe, Int.reduceLE, Int.reduceLT, Int.reduceToNat, Int.reduceEq, Int.reduceNe, Int.reduceNeg, Nat.reduceEqDiff, Int.reduceAdd, Int.reduceSub, Int.reduceMul, Int.cast_ofNat_Int, Int.natCast_zero, a12, g1])))
  refine kloop_inv (ι := Nat) (fun i => [.sl k z (l.map Vl.c), .sl k' z' (r.map Vl.c), .i .i64 i]) (fun i => i ≤ l.length ∧ (l.take i).map Vl.p = (r.take i).map Vl.p) (fun i => l.length - i) 0 rfl ⟨by omega, rfl⟩ ?_
  rintro i ⟨hi, hT⟩
  by_cases hlt : i < l.length
  · obtain ⟨c, gc⟩ := get_lt hlt
    obtain ⟨d, gd⟩ := get_lt (show i < r.length by omega)
    have hw := wrap_succ (k := i) (by omega)
    have hbt : decide ((i : Int) < (l.length : Int)) = true := decide_eq_true (by omega)
    have es := e15 c d (ol c (List.mem_of_getElem? gc)) (or_ d (List.mem_of_getElem? gd))
    have hne : c.p ≠ d.p → decide (l.map Vl.p = r.map Vl.p) = false := fun hx => decide_eq_false fun e => hx (by
      have := congrArg (fun x : List PV => x[i]?) e
      simp only [List.getElem?_map, gc, gd, Option.map_some, Option.some.injEq] at this
      exact this)
    have hst : c.p = d.p → (l.take (i + 1)).map Vl.p = (r.take (i + 1)).map Vl.p := fun hx => by
      rw [take_get gc, take_get gd]
      simp [hT, hx]
    obtain ⟨ck, cn, cs, ckk, cz, cl⟩ := c
    obtain ⟨dk, dn, ds, dkk, dz, dl⟩ := d
    by_cases hp : Vl.p (.mk ck cn cs ckk cz cl) = Vl.p (.mk dk dn ds dkk dz dl)
    · rw [decide_eq_true hp] at es
      simp only [Vl.c, Vl.cs_map] at es
      (simp only [go_sem, Nat.add_assoc, reduceIte, reduceCtorEq, Nat.reduceEqDiff, Nat.reduceAdd, Nat.reduceMul, Nat.reduceSub, Nat.reduceLeDiff, Nat.reduceLT, Nat.reduceBEq, Nat.reduceBNe, Int.reduceLE, Int.reduceLT, Int.reduceToNat, Int.reduceEq, Int.reduceNe, Int.reduceNeg, Nat.reduceEqDiff, Int.reduceAdd, Int.reduceSub, Int.reduceMul, Int.cast_ofNat_Int, Int.natCast_zero, hbt, h1, h2, gc, gd, Vl.c, Vl.cs_map, s15, es, hw]; repeat' (refine kont_next ?_ <;> (try simp only [go_sem, Nat.add_assoc, reduceIte, reduceCtorEq, Nat.reduceEqDiff, Nat.reduceAdd, Nat.reduceMul, Nat.reduceSub, Nat.reduceLeDiff, Nat.reduceLT, Nat.reduceBEq, Nat.reduceBNe, Int.reduceLE, Int.reduceLT, Int.reduceToNat, Int.reduceEq, Int.reduceNe, Int.reduceNeg, Nat.reduceEqDiff, Int.reduceAdd, Int.reduceSub, Int.reduceMul, Int.cast_ofNat_Int, Int.natCast_zero, hbt, h1, h2, gc, gd, Vl.c, Vl.cs_map, s15, es, hw])))
      exact ⟨i + 1, rfl, ⟨by omega, hst hp⟩, by omega⟩
    · rw [decide_eq_false hp] at es
      simp only [Vl.c, Vl.cs_map] at es
      rw [hne hp]
      (simp only [go_sem, Nat.add_assoc, reduceIte, reduceCtorEq, Nat.reduceEqDiff, Nat.reduceAdd, Nat.reduceMul, Nat.reduceSub, Nat.reduceLeDiff, Nat.reduceLT, Nat.reduceBEq, Nat.reduceBNe, Int.reduceLE, Int.reduceLT, Int.reduceToNat, Int.reduceEq, Int.reduceNe, Int.reduceNeg, Nat.reduceEqDiff, Int.reduceAdd, Int.reduceSub, Int.reduceMul, Int.cast_ofNat_Int, Int.natCast_zero, hbt, h1, h2, gc, gd, Vl.c, Vl.cs_map, s15, es, hw]; repeat' (refine kont_next ?_ <;> (try simp only [go_sem, Nat.add_assoc, reduceIte, reduceCtorEq, Nat.reduceEqDiff, Nat.reduceAdd, Nat.reduceMul, Nat.reduceSub, Nat.reduceLeDiff, Nat.reduceLT, Nat.reduceBEq, Nat.reduceBNe, Int.reduceLE, Int.reduceLT, Int.reduceToNat, Int.reduceEq, Int.reduceNe, Int.reduceNeg, Nat.reduceEqDiff, Int.reduceAdd, Int.reduceSub, Int.reduceMul, Int.cast_ofNat_Int, Int.natCast_zero, hbt, h1, h2, gc, gd, Vl.c, Vl.cs_map, s15, es, hw])))
  · have hbf : decide ((i : Int) < (l.length : Int)) = false := decide_eq_false (by omega)
    obtain rfl : i = l.length := by omega
    rw [List.take_length, hlen, List.take_length] at hT
    rw [decide_eq_true hT]
    (simp only [go_sem, Nat.add_assoc, reduceIte, reduceCtorEq, Nat.reduceEqDiff, Nat.reduceAdd, Nat.reduceMul, Nat.reduceSub, Nat.reduceLeDiff, Nat.reduceLT, Nat.reduceBEq, Nat.reduceBNe, Int.reduceLE, Int.reduceLT, Int.reduceToNat, Int.reduceEq, Int.reduceNe, Int.reduceNeg, Nat.reduceEqDiff, Int.reduceAdd, Int.reduceSub, Int.reduceMul, Int.cast_ofNat_Int, Int.natCast_zero, hbf]; repeat' (refine kont_next ?_ <;> (try simp only [go_sem, Nat.add_assoc, reduceIte, reduceCtorEq, Nat.reduceEqDiff, Nat.reduceAdd, Nat.reduceMul, Nat.reduceSub, Nat.reduceLeDiff, Nat.reduceLT, Nat.reduceBEq, Nat.reduceBNe, Int.reduceLE, Int.reduceLT, Int.reduceToNat, Int.reduceEq, Int.reduceNe, Int.reduceNeg, Nat.reduceEqDiff, Int.reduceAdd, Int.reduceSub, Int.reduceMul, Int.cast_ofNat_Int, Int.natCast_zero, hbf])))

/-! ### traversers -/
structure Tv where
  v : Vl
  pk : SK
  pz : Nat
  path : List Vl
  tk : SK
  tz : Nat
  tags : List (List UInt8 × Vl)
  loops : Int
structure PT where
  v : PV
  path : List PV
  tags : List (List UInt8 × PV)
  loops : Int
def tagC (x : List UInt8 × Vl) : List AV := .str x.1 :: x.2.c
def tagP (x : List UInt8 × Vl) : List UInt8 × PV := (x.1, x.2.p)
def Tv.cs (t : Tv) : List AV := t.v.c ++ [.sl t.pk t.pz (t.path.map Vl.c), .sl t.tk t.tz (t.tags.map tagC), .i .i64 t.loops]
def Tv.p (t : Tv) : PT := ⟨t.v.p, t.path.map Vl.p, t.tags.map tagP, t.loops⟩
structure Tv.ok (t : Tv) : Prop where
  v : t.v.ok
  pl : t.path.length ≤ 137438953472
  tl : t.tags.length ≤ 137438953472
  ps : OkS t.pk t.pz 4 t.path
  ts : OkS t.tk t.tz 5 t.tags
  po : ∀ x ∈ t.path, x.ok
  to : ∀ x ∈ t.tags, x.2.ok ∧ x.1.length ≤ 137438953472
def mkT (v : Vl) (path : List Vl) (tags : List (List UInt8 × Vl)) (loops : Int) : Tv := ⟨v, skOf path.isEmpty, 4, path, skOf tags.isEmpty, 5, tags, loops⟩
theorem skOf_nil' {α : Type} {l : List α} (h : skOf l.isEmpty = SK.nil) : l = [] := by cases l with | nil => rfl | cons a r => cases h
theorem mkT_ok {v : Vl} {path : List Vl} {tags : List (List UInt8 × Vl)} {loops : Int} (h1 : v.ok) (h2 : path.length ≤ 137438953472) (h3 : tags.length ≤ 137438953472) (h4 : ∀ x ∈ path, x.ok) (h5 : ∀ x ∈ tags, x.2.ok ∧ x.1.length ≤ 137438953472) : (mkT v path tags loops).ok :=
  ⟨h1, h2, h3, ⟨.inl rfl, skOf_nil'⟩, ⟨.inl rfl, skOf_nil'⟩, h4, h5⟩
/-- as one's own -/
def Tv.ov (t : Tv) : AV := .agg (t.v.c ++ [.ow 24 4 t.path.isEmpty (t.path.map Vl.c), .ow 48 5 t.tags.isEmpty (t.tags.map tagC), .i .i64 t.loops])

theorem e19 (t : Tv) (h : t.ok) : ∃ (v : Vl) (path : List Vl) (tags : List (List UInt8 × Vl)), acall S 19 [.agg t.cs] = some ((mkT v path tags t.loops).ov, []) ∧ (mkT v path tags t.loops).p = t.p ∧ (mkT v path tags t.loops).ok ∧ tags.length = t.tags.length ∧ path.length = t.path.length := by
  obtain ⟨hv, hpl, htl, hps, hts, hpo, hto⟩ := h
  suffices hW : W (acall S 19 [.agg t.cs]) (fun x => ∃ (v : Vl) (path : List Vl) (tags : List (List UInt8 × Vl)), x = ((mkT v path tags t.loops).ov, []) ∧ (mkT v path tags t.loops).p = t.p ∧ (mkT v path tags t.loops).ok ∧ tags.length = t.tags.length ∧ path.length = t.path.length) by
    obtain ⟨x, h1, v, path, tags, rfl, h2⟩ := hW
    exact ⟨v, path, tags, h1, h2⟩
  have hL : LIM = 274877906944 := rfl
  obtain ⟨v, pk, pz, path, tk, tz, tags, loops⟩ := t
  simp only at hv hpl htl hps hts hpo hto
  obtain ⟨u, eu, hup, huo⟩ := e35 v hv
  obtain ⟨vk, vn, vs, vkk, vz, vl⟩ := v
  obtain ⟨uk, un, us, ukk, uz, ul⟩ := u
  simp only [Vl.c, Vl.cs_map] at eu
  refine g19 rfl ?_
  (simp only [go_sem, Nat.add_assoc, reduceIte, reduceCtorEq, Nat.reduceEqDiff, Nat.reduceAdd, Nat.reduceMul, Nat.reduceSub, Nat.reduceLeDiff, Nat.reduceLT, Nat.reduceBEq, Nat.reduceBNe, Int.reduceLE, Int.reduceLT, Int.reduceToNat, Int.reduceEq, Int.reduceNe, Int.reduceNeg, Nat.reduceEqDiff, Int.reduceAdd, Int.reduceSub, Int.reduceMul, Int.cast_ofNat_Int, Int.natCast_zero, a19, Tv.cs, Vl.c, Vl.cs_map, s35, eu]; repeat' (refine kont_next ?_ <;> (try simp only [go_sem, Nat.add_assoc, reduceIte, reduceCtorEq, Nat.reduceEqDiff, Nat.reduceAdd, Nat.reduceMul, Nat.reduceSub, Nat.reduceLeDiff, Nat.reduceLT, Nat.reduceBEq, Nat.reduceBNe, Int.reduceLE, Int.reduceLT, Int.reduceToNat, Int.reduceEq, Int.reduceNe, Int.reduceNeg, Nat.reduceEqDiff, Int.reduceAdd, Int.reduceSub, Int.reduceMul, Int.cast_ofNat_Int, Int.natCast_zero, a19, Tv.cs, Vl.c, Vl.cs_map, s35, eu])))
  refine kloop_inv (ι := List Vl) (fun ps => [.bx [.i .i64 vk, .i .i64 vn, .str vs, .sl vkk vz (vl.map Vl.c), .sl pk pz (path.map Vl.c), .sl tk tz (tags.map tagC), .i .i64 loops],
      .bx [.i .i64 0, .i .i64 0, .str [], .sl .nil 0 [], .sl .nil 0 [], .sl .nil 0 [], .i .i64 0],
      .bx [.i .i64 uk, .i .i64 un, .str us, .sl ukk uz (ul.map Vl.c), .ow 24 4 ps.isEmpty (ps.map Vl.c), .sl .nil 0 [], .i .i64 loops], .sl pk pz (path.map Vl.c), .i .i64 path.length, .i .i64 ps.length])
    (fun ps => ps.length ≤ path.length ∧ ps.map Vl.p = (path.take ps.length).map Vl.p ∧ ∀ x ∈ ps, x.ok) (fun ps => path.length - ps.length) [] rfl ⟨by simp, rfl, by simp⟩ ?_
  rintro ps ⟨k1, k2, k3⟩
  by_cases hlt : ps.length < path.length
  · obtain ⟨c, gc⟩ := get_lt hlt
    have hw := wrap_succ (k := ps.length) (by omega)
    have hbt : decide ((ps.length : Int) < (path.length : Int)) = true := decide_eq_true (by omega)
    have glim : ps.length + 1 ≤ LIM := by omega
    obtain ⟨d, ed, hdp, hdo⟩ := e35 c (hpo c (List.mem_of_getElem? gc))
    have hnext : (ps ++ [d]).map Vl.p = (path.take (ps.length + 1)).map Vl.p := by
      rw [take_get gc, List.map_append, List.map_append, k2]; simp [hdp]
    obtain ⟨ck, cn, cs, ckk, cz, cl⟩ := c
    obtain ⟨dk, dn, ds, dkk, dz, dl⟩ := d
    simp only [Vl.c, Vl.cs_map] at ed
    (simp only [go_sem, Nat.add_assoc, reduceIte, reduceCtorEq, Nat.reduceEqDiff, Nat.reduceAdd, Nat.reduceMul, Nat.reduceSub, Nat.reduceLeDiff, Nat.reduceLT, Nat.reduceBEq, Nat.reduceBNe, Int.reduceLE, Int.reduceLT, Int.reduceToNat, Int.reduceEq, Int.reduceNe, Int.reduceNeg, Nat.reduceEqDiff, Int.reduceAdd, Int.reduceSub, Int.reduceMul, Int.cast_ofNat_Int, Int.natCast_zero, hbt, hps.1, gc, Vl.c, Vl.cs_map, s35, ed, hw, glim]; repeat' (refine kont_next ?_ <;> (try simp only [go_sem, Nat.add_assoc, reduceIte, reduceCtorEq, Nat.reduceEqDiff, Nat.reduceAdd, Nat.reduceMul, Nat.reduceSub, Nat.reduceLeDiff, Nat.reduceLT, Nat.reduceBEq, Nat.reduceBNe, Int.reduceLE, Int.reduceLT, Int.reduceToNat, Int.reduceEq, Int.reduceNe, Int.reduceNeg, Nat.reduceEqDiff, Int.reduceAdd, Int.reduceSub, Int.reduceMul, Int.cast_ofNat_Int, Int.natCast_zero, hbt, hps.1, gc, Vl.c, Vl.cs_map, s35, ed, hw, glim])))
    refine ⟨ps ++ [.mk dk dn ds dkk dz dl], ?_, ⟨by simp; omega, by simpa using hnext, ?_⟩, by simp; omega⟩
    · simp [Vl.c, Vl.cs_map]
    · intro x hx
      rcases List.mem_append.1 hx with h | h
      · exact k3 x h
      · simp only [List.mem_singleton] at h; rw [h]; exact hdo
  have hbf : decide ((ps.length : Int) < (path.length : Int)) = false := decide_eq_false (by omega)
  have hpp : ps.map Vl.p = path.map Vl.p := by rw [k2, List.take_of_length_le (by omega)]
  (simp only [go_sem, Nat.add_assoc, reduceIte, reduceCtorEq, Nat.reduceEqDiff, Nat.reduceAdd, Nat.reduceMul, Nat.reduceSub, Nat.reduceLeDiff, Nat.reduceLT, Nat.reduceBEq, Nat.reduceBNe, Int.reduceLE, Int.reduceLT, Int.reduceToNat, Int.reduceEq, Int.reduceNe, Int.reduceNeg, Nat.reduceEqDiff, Int.reduceAdd, Int.reduceSub, Int.reduceMul, Int.cast_ofNat_Int, Int.natCast_zero, hbf]; repeat' (refine kont_next ?_ <;> (try simp only [go_sem, Nat.add_assoc, reduceIte, reduceCtorEq, Nat.reduceEqDiff, Nat.reduceAdd, Nat.reduceMul, Nat.reduceSub, Nat.reduceLeDiff, Nat.reduceLT, Nat.reduceBEq, Nat.reduceBNe, Int.reduceLE, Int.reduceLT, Int.reduceToNat, Int.reduceEq, Int.reduceNe, Int.reduceNeg, Nat.reduceEqDiff, Int.reduceAdd, Int.reduceSub, Int.reduceMul, Int.cast_ofNat_Int, Int.natCast_zero, hbf])))
  refine kloop_inv (ι := List (List UInt8 × Vl)) (fun ts => [
      .bx [.i .i64 0, .i .i64 0, .str [], .sl .nil 0 [], .sl .nil 0 [], .sl .nil 0 [], .i .i64 0],
      .bx [.i .i64 uk, .i .i64 un, .str us, .sl ukk uz (ul.map Vl.c), .ow 24 4 ps.isEmpty (ps.map Vl.c), .ow 48 5 ts.isEmpty (ts.map tagC), .i .i64 loops], .sl tk tz (tags.map tagC), .i .i64 tags.length, .i .i64 ts.length])
    (fun ts => ts.length ≤ tags.length ∧ ts.map tagP = (tags.take ts.length).map tagP ∧ ∀ x ∈ ts, x.2.ok ∧ x.1.length ≤ 137438953472) (fun ts => tags.length - ts.length) [] rfl ⟨by simp, rfl, by simp⟩ ?_
  rintro ts ⟨q1, q2, q3⟩
  by_cases hlt : ts.length < tags.length
  · obtain ⟨⟨nm, c⟩, gc⟩ := get_lt hlt
    have hw := wrap_succ (k := ts.length) (by omega)
    have hbt : decide ((ts.length : Int) < (tags.length : Int)) = true := decide_eq_true (by omega)
    have glim : ts.length + 1 ≤ LIM := by omega
    have hco := hto (nm, c) (List.mem_of_getElem? gc)
    obtain ⟨d, ed, hdp, hdo⟩ := e35 c hco.1
    have hnext : (ts ++ [(nm, d)]).map tagP = (tags.take (ts.length + 1)).map tagP := by
      rw [take_get gc, List.map_append, List.map_append, q2]; simp [tagP, hdp]
    obtain ⟨ck, cn, cs, ckk, cz, cl⟩ := c
    obtain ⟨dk, dn, ds, dkk, dz, dl⟩ := d
    simp only [Vl.c, Vl.cs_map] at ed
    (simp only [go_sem, Nat.add_assoc, reduceIte, reduceCtorEq, Nat.reduceEqDiff, Nat.reduceAdd, Nat.reduceMul, Nat.reduceSub, Nat.reduceLeDiff, Nat.reduceLT, Nat.reduceBEq, Nat.reduceBNe, Int.reduceLE, Int.reduceLT, Int.reduceToNat, Int.reduceEq, Int.reduceNe, Int.reduceNeg, Nat.reduceEqDiff, Int.reduceAdd, Int.reduceSub, Int.reduceMul, Int.cast_ofNat_Int, Int.natCast_zero, hbt, hts.1, gc, tagC, Vl.c, Vl.cs_map, s35, ed, hw, glim]; repeat' (refine kont_next ?_ <;> (try simp only [go_sem, Nat.add_assoc, reduceIte, reduceCtorEq, Nat.reduceEqDiff, Nat.reduceAdd, Nat.reduceMul, Nat.reduceSub, Nat.reduceLeDiff, Nat.reduceLT, Nat.reduceBEq, Nat.reduceBNe, Int.reduceLE, Int.reduceLT, Int.reduceToNat, Int.reduceEq, Int.reduceNe, Int.reduceNeg, Nat.reduceEqDiff, Int.reduceAdd, Int.reduceSub, Int.reduceMul, Int.cast_ofNat_Int, Int.natCast_zero, hbt, hts.1, gc, tagC, Vl.c, Vl.cs_map, s35, ed, hw, glim])))
    refine ⟨ts ++ [(nm, .mk dk dn ds dkk dz dl)], ?_, ⟨by simp; omega, by simpa using hnext, ?_⟩, by simp; omega⟩
    · simp [tagC, Vl.c, Vl.cs_map]
    · intro x hx
      rcases List.mem_append.1 hx with h | h
      · exact q3 x h
      · simp only [List.mem_singleton] at h; rw [h]; exact ⟨hdo, hco.2⟩
  have hbf2 : decide ((ts.length : Int) < (tags.length : Int)) = false := decide_eq_false (by omega)
  have htp : ts.map tagP = tags.map tagP := by rw [q2, List.take_of_length_le (by omega)]
  (simp only [go_sem, Nat.add_assoc, reduceIte, reduceCtorEq, Nat.reduceEqDiff, Nat.reduceAdd, Nat.reduceMul, Nat.reduceSub, Nat.reduceLeDiff, Nat.reduceLT, Nat.reduceBEq, Nat.reduceBNe, Int.reduceLE, Int.reduceLT, Int.reduceToNat, Int.reduceEq, Int.reduceNe, Int.reduceNeg, Nat.reduceEqDiff, Int.reduceAdd, Int.reduceSub, Int.reduceMul, Int.cast_ofNat_Int, Int.natCast_zero, hbf2]; repeat' (refine kont_next ?_ <;> (try simp only [go_sem, Nat.add_assoc, reduceIte, reduceCtorEq, Nat.reduceEqDiff, Nat.reduceAdd, Nat.reduceMul, Nat.reduceSub, Nat.reduceLeDiff, Nat.reduceLT, Nat.reduceBEq, Nat.reduceBNe, Int.reduceLE, Int.reduceLT, Int.reduceToNat, Int.reduceEq, Int.reduceNe, Int.reduceNeg, Nat.reduceEqDiff, Int.reduceAdd, Int.reduceSub, Int.reduceMul, Int.cast_ofNat_Int, Int.natCast_zero, hbf2])))
  refine ⟨.mk uk un us ukk uz ul, ps, ts, ?_, ?_, mkT_ok huo (by omega) (by omega) k3 q3, by omega, by omega⟩
  · simp [Tv.ov, mkT, Vl.c, Vl.cs_map]
  · simp only [Tv.p, mkT, hpp, htp, hup]
end Go.Proofs.YtmdbfbcolofelaaDoor
