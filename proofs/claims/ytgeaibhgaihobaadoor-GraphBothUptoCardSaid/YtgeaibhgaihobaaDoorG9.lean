/-
  GraphBoth: the walk.
-/
import Derived.Test.YtgeaibhgaihobaaDoorG8
import Derived.Test.YtgeaibhgaihobaaDoorG4
import Derived.Test.YtgeaibhgaihobaaDoorGB
set_option linter.unusedSimpArgs false
set_option linter.unusedVariables false
set_option maxHeartbeats 8000000
set_option maxRecDepth 100000
namespace Go.Proofs.YtgeaibhgaihobaaDoor
open Go.Abs

noncomputable def outsOf (g : Gr) (id : Int) (l : List (List UInt8)) : List Lk := (g.es.filter fun e => outB id l e.p).map Lk.cl
noncomputable def insOf (g : Gr) (id : Int) (l : List (List UInt8)) : List Lk := (g.es.filter fun e => inB id l e.p).map Lk.cl
theorem told_map (q : PLk → Bool) (es : List Lk) : told q es = ((es.filter fun e => q e.p).map Lk.cl).map fun e => [.agg e.c] := by
  unfold told
  rw [List.map_map]
  rfl
theorem outsOf_len (g : Gr) (id : Int) (l : List (List UInt8)) : (outsOf g id l).length ≤ g.es.length := by
  unfold outsOf
  rw [List.length_map]
  exact List.length_filter_le _ _
theorem insOf_len (g : Gr) (id : Int) (l : List (List UInt8)) : (insOf g id l).length ≤ g.es.length := by
  unfold insOf
  rw [List.length_map]
  exact List.length_filter_le _ _
theorem outRow (g : Gr) (hg : g.ok) {k : SK} {z : Nat} {l : List (List UInt8)} (id : Int) (h : OkS k z 1 l) (hl : l.length ≤ 137438953472) :
    ∃ k' z', OkS k' z' 5 (outsOf g id l) ∧ acall S 7 [.fn 50 [.ip g.c, .ip [.fn 25 [.ip [.i .i64 id], .ip [.sl k z (l.map strC)]]]]] = some (.sl k' z' ((outsOf g id l).map Lk.c), []) :=
  e7 (Nat.le_trans (outsOf_len g id l) hg.el) (by rw [gvOut g hg id h hl, told_map]; rfl)
theorem inRow (g : Gr) (hg : g.ok) {k : SK} {z : Nat} {l : List (List UInt8)} (id : Int) (h : OkS k z 1 l) (hl : l.length ≤ 137438953472) :
    ∃ k' z', OkS k' z' 5 (insOf g id l) ∧ acall S 7 [.fn 50 [.ip g.c, .ip [.fn 28 [.ip [.i .i64 id], .ip [.sl k z (l.map strC)]]]]] = some (.sl k' z' ((insOf g id l).map Lk.c), []) :=
  e7 (Nat.le_trans (insOf_len g id l) hg.el) (by rw [gvIn g hg id h hl, told_map]; rfl)
theorem labB_nil (s : List UInt8) : labB s [] = true := rfl
theorem labB_one (s : List UInt8) : labB s [s] = true := by simp [labB]
theorem outs_mem {g : Gr} {id : Int} {e : Lk} (h : e ∈ outsOf g id []) : ∃ x ∈ g.es, e = x.cl ∧ x.out = id := by
  unfold outsOf at h
  obtain ⟨x, hx, rfl⟩ := List.mem_map.1 h
  obtain ⟨h1, h2⟩ := List.mem_filter.1 hx
  simp only [outB, atB, Bool.and_eq_true, decide_eq_true_eq] at h2
  exact ⟨x, h1, rfl, h2.1⟩
theorem ins_mem {g : Gr} {id : Int} {e : Lk} (h : e ∈ insOf g id []) : ∃ x ∈ g.es, e = x.cl ∧ x.inn = id := by
  unfold insOf at h
  obtain ⟨x, hx, rfl⟩ := List.mem_map.1 h
  obtain ⟨h1, h2⟩ := List.mem_filter.1 hx
  simp only [inB, atB, Bool.and_eq_true, decide_eq_true_eq] at h2
  exact ⟨x, h1, rfl, h2.1⟩
theorem ins_any {g : Gr} {x : Lk} (h : x ∈ g.es) : (insOf g x.inn [x.label]).any (isIt x.id) = true := by
  rw [List.any_eq_true]
  refine ⟨x.cl, List.mem_map.2 ⟨x, List.mem_filter.2 ⟨h, ?_⟩, rfl⟩, by simp [isIt, Lk.cl]⟩
  simp only [inB, atB, Lk.p, labB_one, decide_true, Bool.and_true]
theorem outs_any {g : Gr} {x : Lk} (h : x ∈ g.es) : (outsOf g x.out [x.label]).any (isIt x.id) = true := by
  rw [List.any_eq_true]
  refine ⟨x.cl, List.mem_map.2 ⟨x, List.mem_filter.2 ⟨h, ?_⟩, rfl⟩, by simp [isIt, Lk.cl]⟩
  simp only [outB, atB, Lk.p, labB_one, decide_true, Bool.and_true]
/-- how many edges have been told so far -/
noncomputable def cnt (g : Gr) : List Vx → Nat
  | [] => 0
  | v :: r => (outsOf g v.id []).length + (insOf g v.id []).length + cnt g r
theorem cnt_app (g : Gr) : ∀ (a b : List Vx), cnt g (a ++ b) = cnt g a + cnt g b
  | [], b => by simp [cnt]
  | v :: a, b => by simp only [List.cons_append, cnt, cnt_app g a b]; omega
theorem cnt_le (g : Gr) : ∀ (a : List Vx), cnt g a ≤ a.length * (2 * g.es.length)
  | [] => by simp [cnt]
  | v :: a => by
    have h1 := outsOf_len g v.id []
    have h2 := insOf_len g v.id []
    have h3 := cnt_le g a
    simp only [cnt, List.length_cons, Nat.add_mul, Nat.one_mul]
    omega
def big60 (nv ne : Int) : Bool := decide ((60 : Int) < nv) || decide ((60 : Int) < ne)

theorem e3 (g : Gr) (hg : g.ok) (hend : okG g.p = true → g.vs.length ≤ 60 → g.es.length ≤ 60 → cnt g g.vs = 2 * g.es.length) : acall S 3 [.agg g.c] = some (.b true, []) := by
  have eB := e5
  have eC := e6 g hg
  have hv1 := hg.v.1
  have he1 := hg.e.1
  have eO := e8 g
  have eI := e10 g
  have rO := @outRow g hg
  have rI := @inRow g hg
  have mO := @outs_mem g
  have mI := @ins_mem g
  have lO := outsOf_len g
  have lI := insOf_len g
  have aO := @outs_any g
  have aI := @ins_any g
  refine W_eq (g3 rfl ?_)
  cases hok : okG g.p with
  | false =>
    rw [hok, if_neg (by simp)] at eC
    obtain ⟨vk, vz, vs, ek, ez, es, last⟩ := g
    simp only [Gr.c] at eC
    (simp only [go_sem, Nat.add_assoc, reduceIte, reduceCtorEq, Nat.reduceEqDiff, Nat.reduceAdd, Nat.reduceMul, Nat.reduceSub, Nat.reduceLeDiff, Nat.reduceLT, Nat.reduceBEq, Nat.reduceBNe, Int.reduceLE, Int.reduceLT, Int.reduceToNat, Int.reduceEq, Int.reduceNe, Int.reduceNeg, Nat.reduceEqDiff, Int.reduceAdd, Int.reduceSub, Int.reduceMul, Int.cast_ofNat_Int, Int.natCast_zero, a3, Gr.c, s5, eB, s6, eC]; repeat' ((first | refine kont_next ?_ | refine kont_nextn ?_ | refine ikont_next ?_ | refine ikont_nextn ?_) <;> (try simp only [go_sem, Nat.add_assoc, reduceIte, reduceCtorEq, Nat.reduceEqDiff, Nat.reduceAdd, Nat.reduceMul, Nat.reduceSub, Nat.reduceLeDiff, Nat.reduceLT, Nat.reduceBEq, Nat.reduceBNe, Int.reduceLE, Int.reduceLT, Int.reduceToNat, Int.reduceEq, Int.reduceNe, Int.reduceNeg, Nat.reduceEqDiff, Int.reduceAdd, Int.reduceSub, Int.reduceMul, Int.cast_ofNat_Int, Int.natCast_zero, a3, Gr.c, s5, eB, s6, eC])))
  | true =>
    rw [hok, if_pos rfl] at eC
    have hend := hend hok
    have hcnt := cnt_le g
    have hca := cnt_app g
    have hc0 : cnt g [] = 0 := rfl
    have hc1 : ∀ v, cnt g [v] = (outsOf g v.id []).length + (insOf g v.id []).length := fun v => by simp [cnt]
    generalize hO : outsOf g = O at *
    generalize hI : insOf g = I at *
    generalize hC : cnt g = C at *
    obtain ⟨vk, vz, vs, ek, ez, es, last⟩ := g
    simp only [Gr.c] at eC eO eI rO rI mO mI lO lI aO aI hv1 he1 hend hcnt
    cases t1 : decide ((60 : Int) < (vs.length : Int)) with
    | true => (simp only [go_sem, Nat.add_assoc, reduceIte, reduceCtorEq, Nat.reduceEqDiff, Nat.reduceAdd, Nat.reduceMul, Nat.reduceSub, Nat.reduceLeDiff, Nat.reduceLT, Nat.reduceBEq, Nat.reduceBNe, Int.reduceLE, Int.reduceLT, Int.reduceToNat, Int.reduceEq, Int.reduceNe, Int.reduceNeg, Nat.reduceEqDiff, Int.reduceAdd, Int.reduceSub, Int.reduceMul, Int.cast_ofNat_Int, Int.natCast_zero, a3, Gr.c, s5, eB, s6, eC, List.length_map, t1]; repeat' ((first | refine kont_next ?_ | refine kont_nextn ?_ | refine ikont_next ?_ | refine ikont_nextn ?_) <;> (try simp only [go_sem, Nat.add_assoc, reduceIte, reduceCtorEq, Nat.reduceEqDiff, Nat.reduceAdd, Nat.reduceMul, Nat.reduceSub, Nat.reduceLeDiff, Nat.reduceLT, Nat.reduceBEq, Nat.reduceBNe, Int.reduceLE, Int.reduceLT, Int.reduceToNat, Int.reduceEq, Int.reduceNe, Int.reduceNeg, Nat.reduceEqDiff, Int.reduceAdd, Int.reduceSub, Int.reduceMul, Int.cast_ofNat_Int, Int.natCast_zero, a3, Gr.c, s5, eB, s6, eC, List.length_map, t1])))
    | false =>
      cases t2 : decide ((60 : Int) < (es.length : Int)) with
      | true => (simp only [go_sem, Nat.add_assoc, reduceIte, reduceCtorEq, Nat.reduceEqDiff, Nat.reduceAdd, Nat.reduceMul, Nat.reduceSub, Nat.reduceLeDiff, Nat.reduceLT, Nat.reduceBEq, Nat.reduceBNe, Int.reduceLE, Int.reduceLT, Int.reduceToNat, Int.reduceEq, Int.reduceNe, Int.reduceNeg, Nat.reduceEqDiff, Int.reduceAdd, Int.reduceSub, Int.reduceMul, Int.cast_ofNat_Int, Int.natCast_zero, a3, Gr.c, s5, eB, s6, eC, List.length_map, t1, t2]; repeat' ((first | refine kont_next ?_ | refine kont_nextn ?_ | refine ikont_next ?_ | refine ikont_nextn ?_) <;> (try simp only [go_sem, Nat.add_assoc, reduceIte, reduceCtorEq, Nat.reduceEqDiff, Nat.reduceAdd, Nat.reduceMul, Nat.reduceSub, Nat.reduceLeDiff, Nat.reduceLT, Nat.reduceBEq, Nat.reduceBNe, Int.reduceLE, Int.reduceLT, Int.reduceToNat, Int.reduceEq, Int.reduceNe, Int.reduceNeg, Nat.reduceEqDiff, Int.reduceAdd, Int.reduceSub, Int.reduceMul, Int.cast_ofNat_Int, Int.natCast_zero, a3, Gr.c, s5, eB, s6, eC, List.length_map, t1, t2])))
      | false =>
        have t1' := of_decide_eq_false t1
        have t2' := of_decide_eq_false t2
        (simp only [go_sem, Nat.add_assoc, reduceIte, reduceCtorEq, Nat.reduceEqDiff, Nat.reduceAdd, Nat.reduceMul, Nat.reduceSub, Nat.reduceLeDiff, Nat.reduceLT, Nat.reduceBEq, Nat.reduceBNe, Int.reduceLE, Int.reduceLT, Int.reduceToNat, Int.reduceEq, Int.reduceNe, Int.reduceNeg, Nat.reduceEqDiff, Int.reduceAdd, Int.reduceSub, Int.reduceMul, Int.cast_ofNat_Int, Int.natCast_zero, a3, Gr.c, s5, eB, s6, eC, List.length_map, t1, t2]; repeat' ((first | refine kont_next ?_ | refine kont_nextn ?_ | refine ikont_next ?_ | refine ikont_nextn ?_) <;> (try simp only [go_sem, Nat.add_assoc, reduceIte, reduceCtorEq, Nat.reduceEqDiff, Nat.reduceAdd, Nat.reduceMul, Nat.reduceSub, Nat.reduceLeDiff, Nat.reduceLT, Nat.reduceBEq, Nat.reduceBNe, Int.reduceLE, Int.reduceLT, Int.reduceToNat, Int.reduceEq, Int.reduceNe, Int.reduceNeg, Nat.reduceEqDiff, Int.reduceAdd, Int.reduceSub, Int.reduceMul, Int.cast_ofNat_Int, Int.natCast_zero, a3, Gr.c, s5, eB, s6, eC, List.length_map, t1, t2])))
        refine kloop_inv (ι := Nat) (fun i => [.bx [.sl vk vz (vs.map Vx.c), .sl ek ez (es.map Lk.c), .i .i64 last], .i .i64 (C (vs.take i) : Nat), .sl vk vz (vs.map Vx.c), .i .i64 vs.length, .i .i64 i])
          (fun i => i ≤ vs.length) (fun i => vs.length - i) 0 (by simp [hc0]) (Nat.zero_le _) ?_
        intro i hi
        by_cases hlt : i < vs.length
        · obtain ⟨x, gx⟩ := get_lt hlt
          have hw := wrap_succ (k := i) (by omega)
          have hbt : decide ((i : Int) < (vs.length : Int)) = true := decide_eq_true (by omega)
          have b1 : (0 : Int) ≤ (i : Int) := by omega
          have hcs : C (vs.take (i + 1)) = C (vs.take i) + ((O x.id []).length + (I x.id []).length) := by rw [take_get gx, hca, hc1]
          have hcl := hcnt (vs.take i)
          have hlo := lO x.id []
          have hli := lI x.id []
          have hcb : C (vs.take i) ≤ 7200 := by
            refine Nat.le_trans hcl ?_
            have : (vs.take i).length ≤ 60 := by rw [List.length_take]; omega
            exact Nat.mul_le_mul this (show 2 * es.length ≤ 120 by omega)
          have eO1 := eO x.id .nil 0 []
          have eI1 := eI x.id .nil 0 []
          obtain ⟨k1, z1, ok1, r1⟩ := rO (k := .nil) (z := 0) (l := []) x.id ⟨.inr rfl, fun _ => rfl⟩ (by simp)
          obtain ⟨k2, z2, ok2, r2⟩ := rI (k := .nil) (z := 0) (l := []) x.id ⟨.inr rfl, fun _ => rfl⟩ (by simp)
          have m1 := @mO x.id
          have m2 := @mI x.id
          obtain ⟨xid, xl, xpk, xpz, xps⟩ := x
          simp only [List.map_nil] at eO1 eI1 r1 r2 m1 m2 hcs hlo hli ok1 ok2
          generalize hO1 : O xid [] = o1 at *
          generalize hI1 : I xid [] = i1 at *
          (simp only [go_sem, Nat.add_assoc, reduceIte, reduceCtorEq, Nat.reduceEqDiff, Nat.reduceAdd, Nat.reduceMul, Nat.reduceSub, Nat.reduceLeDiff, Nat.reduceLT, Nat.reduceBEq, Nat.reduceBNe, Int.reduceLE, Int.reduceLT, Int.reduceToNat, Int.reduceEq, Int.reduceNe, Int.reduceNeg, Nat.reduceEqDiff, Int.reduceAdd, Int.reduceSub, Int.reduceMul, Int.cast_ofNat_Int, Int.natCast_zero, hbt, hv1, b1, gx, Vx.c, s8, eO1, s7, r1, List.length_map]; repeat' ((first | refine kont_next ?_ | refine kont_nextn ?_ | refine ikont_next ?_ | refine ikont_nextn ?_) <;> (try simp only [go_sem, Nat.add_assoc, reduceIte, reduceCtorEq, Nat.reduceEqDiff, Nat.reduceAdd, Nat.reduceMul, Nat.reduceSub, Nat.reduceLeDiff, Nat.reduceLT, Nat.reduceBEq, Nat.reduceBNe, Int.reduceLE, Int.reduceLT, Int.reduceToNat, Int.reduceEq, Int.reduceNe, Int.reduceNeg, Nat.reduceEqDiff, Int.reduceAdd, Int.reduceSub, Int.reduceMul, Int.cast_ofNat_Int, Int.natCast_zero, hbt, hv1, b1, gx, Vx.c, s8, eO1, s7, r1, List.length_map])))
          refine kloop_inv (ι := Nat) (fun j => [.bx [.sl vk vz (vs.map Vx.c), .sl ek ez (es.map Lk.c), .i .i64 last], .i .i64 ((C (vs.take i) + j : Nat) : Int), .bx [.i .i64 xid, .str xl, .sl xpk xpz (xps.map tagC)], .sl vk vz (vs.map Vx.c), .i .i64 vs.length, .i .i64 i, .sl k1 z1 (o1.map Lk.c), .i .i64 o1.length, .i .i64 j])
            (fun j => j ≤ o1.length) (fun j => o1.length - j) 0 rfl (Nat.zero_le _) ?_
          intro j hj
          by_cases hjt : j < o1.length
          · obtain ⟨e, ge⟩ := get_lt hjt
            obtain ⟨y, hy, rfl, hyo⟩ := m1 (List.mem_of_getElem? ge)
            have hw2 := wrap_succ (k := j) (by omega)
            have hw3 : IntKind.i64.wrap (((C (vs.take i) + j : Nat) : Int) + 1) = ((C (vs.take i) + (j + 1) : Nat) : Int) := by rw [wrap_i64] <;> omega
            have hbt2 : decide ((j : Int) < (o1.length : Int)) = true := decide_eq_true (by omega)
            have b2 : (0 : Int) ≤ (j : Int) := by omega
            have eI2 := eI y.inn .open_ 1 [y.label]
            obtain ⟨k3, z3, ok3, r3⟩ := rI (k := .open_) (z := 1) (l := [y.label]) y.inn (OkS.open_ 1 _) (by simp)
            have hc3 := con1 y.cl ok3 (Nat.le_trans (lI _ _) (by omega))
            have ha3 := aI hy
            rw [show y.cl.id = y.id from rfl, ha3] at hc3
            obtain ⟨yid, yl, yo, yn, ypk, ypz, yps⟩ := y
            simp only at hyo
            subst hyo
            simp only [Lk.c, Lk.cl, List.map_cons, List.map_nil, strC] at eI2 r3 hc3 ge
            generalize I _ [yl] = row at r3 hc3
            (simp only [go_sem, Nat.add_assoc, reduceIte, reduceCtorEq, Nat.reduceEqDiff, Nat.reduceAdd, Nat.reduceMul, Nat.reduceSub, Nat.reduceLeDiff, Nat.reduceLT, Nat.reduceBEq, Nat.reduceBNe, Int.reduceLE, Int.reduceLT, Int.reduceToNat, Int.reduceEq, Int.reduceNe, Int.reduceNeg, Nat.reduceEqDiff, Int.reduceAdd, Int.reduceSub, Int.reduceMul, Int.cast_ofNat_Int, Int.natCast_zero, hbt2, ok1.1, b2, ge, Lk.c, hw2, hw3, s10, eI2, s7, r3, s9, hc3]; repeat' ((first | refine kont_next ?_ | refine kont_nextn ?_ | refine ikont_next ?_ | refine ikont_nextn ?_) <;> (try simp only [go_sem, Nat.add_assoc, reduceIte, reduceCtorEq, Nat.reduceEqDiff, Nat.reduceAdd, Nat.reduceMul, Nat.reduceSub, Nat.reduceLeDiff, Nat.reduceLT, Nat.reduceBEq, Nat.reduceBNe, Int.reduceLE, Int.reduceLT, Int.reduceToNat, Int.reduceEq, Int.reduceNe, Int.reduceNeg, Nat.reduceEqDiff, Int.reduceAdd, Int.reduceSub, Int.reduceMul, Int.cast_ofNat_Int, Int.natCast_zero, hbt2, ok1.1, b2, ge, Lk.c, hw2, hw3, s10, eI2, s7, r3, s9, hc3])))
            exact ⟨j + 1, rfl, by omega, by omega⟩
          have hbf2 : decide ((j : Int) < (o1.length : Int)) = false := decide_eq_false (by omega)
          obtain rfl : j = o1.length := by omega
          (simp only [go_sem, Nat.add_assoc, reduceIte, reduceCtorEq, Nat.reduceEqDiff, Nat.reduceAdd, Nat.reduceMul, Nat.reduceSub, Nat.reduceLeDiff, Nat.reduceLT, Nat.reduceBEq, Nat.reduceBNe, Int.reduceLE, Int.reduceLT, Int.reduceToNat, Int.reduceEq, Int.reduceNe, Int.reduceNeg, Nat.reduceEqDiff, Int.reduceAdd, Int.reduceSub, Int.reduceMul, Int.cast_ofNat_Int, Int.natCast_zero, hbf2, s10, eI1, s7, r2, List.length_map]; repeat' ((first | refine kont_next ?_ | refine kont_nextn ?_ | refine ikont_next ?_ | refine ikont_nextn ?_) <;> (try simp only [go_sem, Nat.add_assoc, reduceIte, reduceCtorEq, Nat.reduceEqDiff, Nat.reduceAdd, Nat.reduceMul, Nat.reduceSub, Nat.reduceLeDiff, Nat.reduceLT, Nat.reduceBEq, Nat.reduceBNe, Int.reduceLE, Int.reduceLT, Int.reduceToNat, Int.reduceEq, Int.reduceNe, Int.reduceNeg, Nat.reduceEqDiff, Int.reduceAdd, Int.reduceSub, Int.reduceMul, Int.cast_ofNat_Int, Int.natCast_zero, hbf2, s10, eI1, s7, r2, List.length_map])))
          clear hbf2 hj hjt
          refine kloop_inv (ι := Nat) (fun j => [.bx [.sl vk vz (vs.map Vx.c), .sl ek ez (es.map Lk.c), .i .i64 last], .i .i64 ((C (vs.take i) + (o1.length + j) : Nat) : Int), .bx [.i .i64 xid, .str xl, .sl xpk xpz (xps.map tagC)], .sl vk vz (vs.map Vx.c), .i .i64 vs.length, .i .i64 i, .sl k2 z2 (i1.map Lk.c), .i .i64 i1.length, .i .i64 j])
            (fun j => j ≤ i1.length) (fun j => i1.length - j) 0 rfl (Nat.zero_le _) ?_
          intro j hj
          by_cases hjt : j < i1.length
          · obtain ⟨e, ge⟩ := get_lt hjt
            obtain ⟨y, hy, rfl, hyo⟩ := m2 (List.mem_of_getElem? ge)
            have hw2 := wrap_succ (k := j) (by omega)
            have hw3 : IntKind.i64.wrap (((C (vs.take i) + (o1.length + j) : Nat) : Int) + 1) = ((C (vs.take i) + (o1.length + (j + 1)) : Nat) : Int) := by rw [wrap_i64] <;> omega
            have hbt2 : decide ((j : Int) < (i1.length : Int)) = true := decide_eq_true (by omega)
            have b2 : (0 : Int) ≤ (j : Int) := by omega
            have eI2 := eO y.out .open_ 1 [y.label]
            obtain ⟨k3, z3, ok3, r3⟩ := rO (k := .open_) (z := 1) (l := [y.label]) y.out (OkS.open_ 1 _) (by simp)
            have hc3 := con2 y.cl ok3 (Nat.le_trans (lO _ _) (by omega))
            have ha3 := aO hy
            rw [show y.cl.id = y.id from rfl, ha3] at hc3
            obtain ⟨yid, yl, yo, yn, ypk, ypz, yps⟩ := y
            simp only at hyo
            subst hyo
            simp only [Lk.c, Lk.cl, List.map_cons, List.map_nil, strC] at eI2 r3 hc3 ge
            generalize O _ [yl] = row at r3 hc3
            (simp only [go_sem, Nat.add_assoc, reduceIte, reduceCtorEq, Nat.reduceEqDiff, Nat.reduceAdd, Nat.reduceMul, Nat.reduceSub, Nat.reduceLeDiff, Nat.reduceLT, Nat.reduceBEq, Nat.reduceBNe, Int.reduceLE, Int.reduceLT, Int.reduceToNat, Int.reduceEq, Int.reduceNe, Int.reduceNeg, Nat.reduceEqDiff, Int.reduceAdd, Int.reduceSub, Int.reduceMul, Int.cast_ofNat_Int, Int.natCast_zero, hbt2, ok2.1, b2, ge, Lk.c, hw2, hw3, s8, eI2, s7, r3, s9, hc3]; repeat' ((first | refine kont_next ?_ | refine kont_nextn ?_ | refine ikont_next ?_ | refine ikont_nextn ?_) <;> (try simp only [go_sem, Nat.add_assoc, reduceIte, reduceCtorEq, Nat.reduceEqDiff, Nat.reduceAdd, Nat.reduceMul, Nat.reduceSub, Nat.reduceLeDiff, Nat.reduceLT, Nat.reduceBEq, Nat.reduceBNe, Int.reduceLE, Int.reduceLT, Int.reduceToNat, Int.reduceEq, Int.reduceNe, Int.reduceNeg, Nat.reduceEqDiff, Int.reduceAdd, Int.reduceSub, Int.reduceMul, Int.cast_ofNat_Int, Int.natCast_zero, hbt2, ok2.1, b2, ge, Lk.c, hw2, hw3, s8, eI2, s7, r3, s9, hc3])))
            exact ⟨j + 1, rfl, by omega, by omega⟩
          have hbf2 : decide ((j : Int) < (i1.length : Int)) = false := decide_eq_false (by omega)
          obtain rfl : j = i1.length := by omega
          (simp only [go_sem, Nat.add_assoc, reduceIte, reduceCtorEq, Nat.reduceEqDiff, Nat.reduceAdd, Nat.reduceMul, Nat.reduceSub, Nat.reduceLeDiff, Nat.reduceLT, Nat.reduceBEq, Nat.reduceBNe, Int.reduceLE, Int.reduceLT, Int.reduceToNat, Int.reduceEq, Int.reduceNe, Int.reduceNeg, Nat.reduceEqDiff, Int.reduceAdd, Int.reduceSub, Int.reduceMul, Int.cast_ofNat_Int, Int.natCast_zero, hbf2, hw]; repeat' ((first | refine kont_next ?_ | refine kont_nextn ?_ | refine ikont_next ?_ | refine ikont_nextn ?_) <;> (try simp only [go_sem, Nat.add_assoc, reduceIte, reduceCtorEq, Nat.reduceEqDiff, Nat.reduceAdd, Nat.reduceMul, Nat.reduceSub, Nat.reduceLeDiff, Nat.reduceLT, Nat.reduceBEq, Nat.reduceBNe, Int.reduceLE, Int.reduceLT, Int.reduceToNat, Int.reduceEq, Int.reduceNe, Int.reduceNeg, Nat.reduceEqDiff, Int.reduceAdd, Int.reduceSub, Int.reduceMul, Int.cast_ofNat_Int, Int.natCast_zero, hbf2, hw])))
          exact ⟨i + 1, by rw [hcs], by omega, by omega⟩
        · have hbf : decide ((i : Int) < (vs.length : Int)) = false := decide_eq_false (by omega)
          obtain rfl : i = vs.length := by omega
          rw [List.take_length]
          (simp only [go_sem, Nat.add_assoc, reduceIte, reduceCtorEq, Nat.reduceEqDiff, Nat.reduceAdd, Nat.reduceMul, Nat.reduceSub, Nat.reduceLeDiff, Nat.reduceLT, Nat.reduceBEq, Nat.reduceBNe, Int.reduceLE, Int.reduceLT, Int.reduceToNat, Int.reduceEq, Int.reduceNe, Int.reduceNeg, Nat.reduceEqDiff, Int.reduceAdd, Int.reduceSub, Int.reduceMul, Int.cast_ofNat_Int, Int.natCast_zero, hbf]; repeat' ((first | refine kont_next ?_ | refine kont_nextn ?_ | refine ikont_next ?_ | refine ikont_nextn ?_) <;> (try simp only [go_sem, Nat.add_assoc, reduceIte, reduceCtorEq, Nat.reduceEqDiff, Nat.reduceAdd, Nat.reduceMul, Nat.reduceSub, Nat.reduceLeDiff, Nat.reduceLT, Nat.reduceBEq, Nat.reduceBNe, Int.reduceLE, Int.reduceLT, Int.reduceToNat, Int.reduceEq, Int.reduceNe, Int.reduceNeg, Nat.reduceEqDiff, Int.reduceAdd, Int.reduceSub, Int.reduceMul, Int.cast_ofNat_Int, Int.natCast_zero, hbf])))
          have hw : IntKind.i64.wrap (2 * (es.length : Int)) = 2 * (es.length : Int) := by rw [wrap_i64] <;> omega
          rw [hw, hend (by omega) (by omega), decide_eq_true (by omega)]
end Go.Proofs.YtgeaibhgaihobaaDoor
