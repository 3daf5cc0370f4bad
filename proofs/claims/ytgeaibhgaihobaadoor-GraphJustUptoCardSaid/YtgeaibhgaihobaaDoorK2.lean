import Derived.Test.YtgeaibhgaihobaaDoorK1
import Derived.Test.YtgeaibhgaihobaaDoorJ7
import Derived.Test.YtgeaibhgaihobaaDoorJ8
import Derived.Test.YtgeaibhgaihobaaDoorJ10
import Derived.Test.YtgeaibhgaihobaaDoorJ11
set_option linter.unusedSimpArgs false
set_option linter.unusedVariables false
set_option maxHeartbeats 8000000
set_option maxRecDepth 100000
namespace Go.Proofs.YtgeaibhgaihobaaDoor
open Go.Abs
theorem idxJ_map {α β : Type} {q : β → Bool} {f : α → β} : ∀ (l : List α) (k : Nat), idxJ q (l.map f) k = idxJ (fun x => q (f x)) l k
  | [], _ => rfl
  | x :: r, k => by simp only [List.map_cons, idxJ, idxJ_map r]
theorem idxJ_neg {α : Type} {q : α → Bool} : ∀ {l : List α} {k : Nat}, ¬ 0 ≤ idxJ q l k → idxJ q l k = -1
  | [], _, _ => rfl
  | x :: r, k, h => by
    simp only [idxJ] at h ⊢
    split at h
    · omega
    · rename_i hq
      rw [if_neg hq]
      exact idxJ_neg h
theorem geP_false {nm : List UInt8} {y : Pp} (h : geP nm y = false) : Op.bytesLess y.1 nm = true := by simpa [geP] using h
theorem geP_true {nm : List UInt8} {y : Pp} (h : geP nm y = true) : ¬ Op.bytesLess y.1 nm = true := by simpa [geP] using h
theorem putP_set {nm : List UInt8} {w : Vl} (v : Vl) : ∀ {ps : List Pp} {m : Nat}, ps[m]? = some (nm, w) → (∀ y ∈ ps.take m, geP nm y = false) → (ps.set m (nm, v)).map tagP = putP nm v.p (ps.map tagP)
  | [], m, h, _ => by simp at h
  | x :: r, 0, h, _ => by
    obtain rfl : x = (nm, w) := by simpa using h
    simp only [List.set_cons_zero, List.map_cons, putP, tagP]
    rw [if_neg (by rw [bl_irr]; decide), if_pos trivial]
  | x :: r, m + 1, h, hb => by
    have hx := geP_false (hb x (by simp))
    simp only [List.set_cons_succ, List.map_cons, putP]
    rw [if_pos (show Op.bytesLess (tagP x).1 nm = true from hx), putP_set v (by simpa using h) fun y hy => hb y (by simp [hy])]
theorem putP_ins {nm : List UInt8} (v : Vl) : ∀ {ps : List Pp} {m : Nat} {y : Pp}, ps[m]? = some y → geP nm y = true → ¬ y.1 = nm → (∀ y ∈ ps.take m, geP nm y = false) → (ps.take m ++ (nm, v) :: ps.drop m).map tagP = putP nm v.p (ps.map tagP)
  | [], m, _, h, _, _, _ => by simp at h
  | x :: r, 0, y, h, hg, hn, _ => by
    obtain rfl : x = y := by simpa using h
    simp only [List.take_zero, List.drop_zero, List.nil_append, List.map_cons, putP]
    rw [if_neg (show ¬ Op.bytesLess (tagP x).1 nm = true from geP_true hg), if_neg (show ¬ (tagP x).1 = nm from hn)]
    rfl
  | x :: r, m + 1, y, h, hg, hn, hb => by
    have hx := geP_false (hb x (by simp))
    simp only [List.take_succ_cons, List.drop_succ_cons, List.cons_append, List.map_cons, putP]
    rw [if_pos (show Op.bytesLess (tagP x).1 nm = true from hx), putP_ins v (by simpa using h) hg hn fun y hy => hb y (by simp [hy])]
theorem putP_end {nm : List UInt8} (v : Vl) : ∀ {ps : List Pp}, (∀ y ∈ ps, geP nm y = false) → (ps.take ps.length ++ (nm, v) :: ps.drop ps.length).map tagP = putP nm v.p (ps.map tagP)
  | [], _ => rfl
  | x :: r, hb => by
    have hx := geP_false (hb x (by simp))
    have := putP_end (nm := nm) v (ps := r) fun y hy => hb y (by simp [hy])
    simp only [List.length_cons, List.take_succ_cons, List.drop_succ_cons, List.cons_append, List.map_cons, putP]
    rw [if_pos (show Op.bytesLess (tagP x).1 nm = true from hx), this]
theorem idx_at {ps : List Pp} {nm : List UInt8} : idxJ (geP nm) ps 0 = -1 ∨ ∃ m : Nat, idxJ (geP nm) ps 0 = (m : Int) := by
  by_cases h : 0 ≤ idxJ (geP nm) ps 0
  · exact .inr ⟨(idxJ (geP nm) ps 0).toNat, by omega⟩
  · exact .inl (idxJ_neg h)
theorem place_eq (g : Gr) (kd n : Int) : placeP g.p kd n = plOf kd (idxJ (isV n) g.vs 0) (idxJ (isE n) g.es 0) := by
  unfold placeP Gr.p
  rw [idxJ_map, idxJ_map]
  rfl
theorem idx_clV (g : Gr) (n : Int) : idxJ (isV n) (g.vs.map Vx.cl) 0 = idxJ (isV n) g.vs 0 := by rw [idxJ_map]; rfl
theorem idx_clE (g : Gr) (n : Int) : idxJ (isE n) (g.es.map Lk.cl) 0 = idxJ (isE n) g.es 0 := by rw [idxJ_map]; rfl
theorem plOf_none {kd a b : Int} (h : plOf kd a b = none) : (kd = 6 → ¬ 0 ≤ a) ∧ (kd = 7 → ¬ 0 ≤ b) := by
  unfold plOf at h
  split at h
  · rename_i h6
    split at h
    · cases h
    · rename_i h0
      exact ⟨fun _ => h0, fun h7 => by omega⟩
  · rename_i h6
    split at h
    · split at h
      · cases h
      · rename_i h0
        exact ⟨fun h => absurd h h6, fun _ => h0⟩
    · rename_i h7
      exact ⟨fun h => absurd h h6, fun h => absurd h h7⟩
theorem plOf_some {kd a b : Int} {p : Pl} (h : plOf kd a b = some p) : (kd = 6 ∧ ∃ i : Nat, a = (i : Int) ∧ p = .v i) ∨ (kd = 7 ∧ ∃ i : Nat, b = (i : Int) ∧ p = .e i) := by
  unfold plOf at h
  split at h
  · rename_i h6
    split at h
    · rename_i h0
      refine .inl ⟨h6, a.toNat, by omega, ?_⟩
      simpa using h.symm
    · cases h
  · split at h
    · rename_i h7
      split at h
      · rename_i h0
        refine .inr ⟨h7, b.toNat, by omega, ?_⟩
        simpa using h.symm
      · cases h
    · cases h
theorem vl0_ok : Vl0.ok := by
  unfold Vl0 Vl.ok Vl.oks
  exact ⟨by simp, by simp, ⟨.inr rfl, fun _ => rfl⟩, trivial⟩
theorem OkS.setl {α : Type} {k : SK} {z n : Nat} {l : List α} {i : Nat} {x : α} (h : OkS k z n l) : OkS k z n (l.set i x) := by
  obtain ⟨h1, h2⟩ := h
  refine ⟨h1.imp id (fun e => by rw [e]; rfl), fun e => ?_⟩
  rw [h2 e]; rfl
noncomputable def Gr.putV (g : Gr) (i : Nat) (x : Vx) (P : List Pp) : Gr := { g.cl with vs := g.cl.vs.set i { x.cl with props := P } }
theorem putV_ok {g : Gr} (h : g.ok) {i : Nat} {x : Vx} (hx : g.vs[i]? = some x) {P : List Pp} (hP : PsOk .open_ 5 P) : (g.putV i x P).ok := by
  obtain ⟨h1, h2, h3, h4, h5, h6⟩ := Gr.cl_ok h
  have hxo := h.va x (List.mem_of_getElem? hx)
  have hl : (g.cl.vs.set i { x.cl with props := P }).length = g.cl.vs.length := List.length_set
  have hall : ∀ y ∈ g.cl.vs.set i { x.cl with props := P }, y.ok := by
    intro y hy
    rcases List.mem_or_eq_of_mem_set hy with h | rfl
    · exact h5 y h
    · exact ⟨hxo.lab, hP⟩
  exact ⟨OkS.setl h1, h2, by simp only [Gr.putV]; rw [hl]; exact h3, h4, hall, h6⟩
theorem putV_p {g : Gr} {i : Nat} {x : Vx} (hx : g.vs[i]? = some x) (P : List Pp) : (g.putV i x P).p = g.p.put (.v i) (P.map tagP) := by
  have h1 := updV_set (vs := []) { x.cl with props := P } (P.map tagP) rfl (l := g.cl.vs) (i := i) (x := x.cl) (by simp only [Gr.cl, List.getElem?_map, hx, Option.map_some]) ⟨rfl, rfl⟩
  have h2 := Gr.cl_p g
  have h3 : (g.putV i x P).p = { g.cl.p with v := (g.cl.vs.set i { x.cl with props := P }).map Vx.p } := rfl
  rw [h3, h1, show g.cl.vs.map Vx.p = g.cl.p.v from rfl, h2]
  rfl
theorem atV_p {g : Gr} {i : Nat} {x : Vx} (hx : g.vs[i]? = some x) : g.p.at (.v i) = (x.props.map clT).map tagP := by
  rw [clTs_p]
  simp only [PG.at, Gr.p, List.getElem?_map, hx, Option.map_some, Option.getD_some, Vx.p]
theorem setX_v {g : Gr} (h : g.ok) {v : Vl} (hv : v.ok) {name s : List UInt8} (hn : name.length ≤ 137438953472) {n : Int} {kk : SK} {z : Nat} {ll : List (List AV)} (hc : okG g.p = true) {i : Nat} (hi : idxJ (isV n) g.vs 0 = (i : Int)) :
    ∃ (q : Gr) (e : Int), acall S 14 [.agg g.c, .agg [.i .i64 6, .i .i64 n, .str s, .sl kk z ll], .str name, .agg v.c] = some (.tup [.agg q.c, .i .i64 e], []) ∧ q.ok ∧ (q.p, e) = setG g.p 6 n name v.p := by
  have hpl : placeP g.p 6 n = some (.v i) := by
    rw [place_eq]
    unfold plOf
    simp only [hi, Int.reduceEq, if_true, if_false, Int.natCast_nonneg, Int.toNat_natCast]
  obtain ⟨x, hx, -, -⟩ := idxJ_some' hi
  have hxo : x.ok := h.va x (List.mem_of_getElem? hx)
  have hi2 := hi
  rw [← idx_clV] at hi2
  have hat := atV_p hx
  have hbp := okG_at hc (place_has hpl)
  obtain ⟨-, hl16⟩ := badProps_iff.1 hbp
  rw [hat, List.length_map, List.length_map] at hl16
  have hps := hxo.ps.cl
  unfold setG
  rw [if_pos hc, hpl]
  simp only
  rw [hat]
  cases hq : nameB name with
  | false => exact ⟨g.cl, 100, set_name_v h hv hn hc hi2 hx hq, Gr.cl_ok h, by rw [if_neg (by decide), Gr.cl_p]⟩
  | true =>
    rw [if_pos rfl]
    cases hw : mayV v.p 0 with
    | false => exact ⟨g.cl, 20, set_val_v h hv hn hc hi2 hx hq hw, Gr.cl_ok h, by rw [if_neg (by decide), Gr.cl_p]⟩
    | true =>
      rw [if_pos rfl]
      have hnew : tagOk (name, clV v) := ⟨hn, clV_ok hv⟩
      have hvp := clV_p v
      rcases idx_at (ps := x.props.map clT) (nm := name) with hm | ⟨m, hm⟩
      · have hb := idxJ_none hm
        have he := putP_end (clV v) hb
        rw [hvp, List.length_map] at he
        have hln : (putP name v.p ((x.props.map clT).map tagP)).length = x.props.length + 1 := by
          rw [← he]
          simp only [List.length_map, List.length_append, List.length_cons, List.length_take, List.length_drop]
          omega
        by_cases h16 : 16 ≤ x.props.length
        · exact ⟨g.cl, 102, set_fulll_v h hv hn hc hi2 hx hq hw hm hxo h16, Gr.cl_ok h, by rw [if_neg (by omega), Gr.cl_p]⟩
        · refine ⟨g.putV i x ((x.props.map clT).take x.props.length ++ (name, clV v) :: (x.props.map clT).drop x.props.length), 0, set_insl_v h hv hn hc hi2 hx hq hw hm hxo (by omega), putV_ok h hx ⟨OkS.open_ 5 _, ?_, ?_⟩, ?_⟩
          · simp only [List.length_map, List.length_append, List.length_cons, List.length_take, List.length_drop]
            omega
          · intro y hy
            rcases List.mem_append.1 hy with hy | hy
            · exact hps.all y (List.mem_of_mem_take hy)
            · rcases List.mem_cons.1 hy with rfl | hy
              · exact hnew
              · exact hps.all y (List.mem_of_mem_drop hy)
          · rw [if_pos (by omega), putV_p hx, he]
      · obtain ⟨⟨nm, w⟩, hy, hg, hb⟩ := idxJ_some' hm
        by_cases hne : nm = name
        · subst hne
          have he := putP_set (clV v) hy hb
          rw [hvp] at he
          have hln : (putP nm v.p ((x.props.map clT).map tagP)).length = x.props.length := by
            rw [← he]
            simp only [List.length_map, List.length_set]
          refine ⟨g.putV i x ((x.props.map clT).set m (nm, clV v)), 0, set_rep_v h hv hn hc hi2 hx hq hw hm hy hxo, putV_ok h hx ⟨OkS.open_ 5 _, ?_, ?_⟩, ?_⟩
          · rw [List.length_set]; exact hps.len
          · intro y hy
            rcases List.mem_or_eq_of_mem_set hy with h | rfl
            · exact hps.all y h
            · exact hnew
          · rw [if_pos (by omega), putV_p hx, he]
        · have he := putP_ins (clV v) hy hg hne hb
          rw [hvp] at he
          have hml := lt_of_get hy
          rw [List.length_map] at hml
          have hln : (putP name v.p ((x.props.map clT).map tagP)).length = x.props.length + 1 := by
            rw [← he]
            simp only [List.length_map, List.length_append, List.length_cons, List.length_take, List.length_drop]
            omega
          by_cases h16 : 16 ≤ x.props.length
          · exact ⟨g.cl, 102, set_fullm_v h hv hn hc hi2 hx hq hw hm hy hne hxo h16, Gr.cl_ok h, by rw [if_neg (by omega), Gr.cl_p]⟩
          · refine ⟨g.putV i x ((x.props.map clT).take m ++ (name, clV v) :: (x.props.map clT).drop m), 0, set_insm_v h hv hn hc hi2 hx hq hw hm hy hne hxo (by omega), putV_ok h hx ⟨OkS.open_ 5 _, ?_, ?_⟩, ?_⟩
            · simp only [List.length_map, List.length_append, List.length_cons, List.length_take, List.length_drop]
              omega
            · intro y hy
              rcases List.mem_append.1 hy with hy | hy
              · exact hps.all y (List.mem_of_mem_take hy)
              · rcases List.mem_cons.1 hy with rfl | hy
                · exact hnew
                · exact hps.all y (List.mem_of_mem_drop hy)
            · rw [if_pos (by omega), putV_p hx, he]
theorem unsetX_v {g : Gr} (h : g.ok) {name s : List UInt8} {n : Int} {kk : SK} {z : Nat} {ll : List (List AV)} (hc : okG g.p = true) {i : Nat} (hi : idxJ (isV n) g.vs 0 = (i : Int)) :
    ∃ (q : Gr) (b : Bool) (e : Int), acall S 17 [.agg g.c, .agg [.i .i64 6, .i .i64 n, .str s, .sl kk z ll], .str name] = some (.tup [.agg q.c, .b b, .i .i64 e], []) ∧ q.ok ∧ (q.p, b, e) = unsetG g.p 6 n name := by
  have hpl : placeP g.p 6 n = some (.v i) := by
    rw [place_eq]
    unfold plOf
    simp only [hi, Int.reduceEq, if_true, if_false, Int.natCast_nonneg, Int.toNat_natCast]
  obtain ⟨x, hx, -, -⟩ := idxJ_some' hi
  have hxo : x.ok := h.va x (List.mem_of_getElem? hx)
  have hi2 := hi
  rw [← idx_clV] at hi2
  have hat := atV_p hx
  have hps := hxo.ps.cl
  unfold unsetG
  rw [if_pos hc, hpl]
  simp only
  rw [hat]
  have hdel : delP name ((x.props.map clT).map tagP) = ((x.props.map clT).filter fun y => !eqP name y).map tagP := by
    unfold delP
    rw [List.filter_map]
    rfl
  by_cases h0 : 0 ≤ idxJ (eqP name) (x.props.map clT) 0
  · obtain ⟨m, hm⟩ : ∃ m : Nat, idxJ (eqP name) (x.props.map clT) 0 = (m : Int) := ⟨(idxJ (eqP name) (x.props.map clT) 0).toNat, by omega⟩
    obtain ⟨y, hy, hyq, -⟩ := idxJ_some' hm
    refine ⟨g.putV i x ((x.props.map clT).filter fun y => !eqP name y), true, 0, unset_some_v h hc hi2 hx hxo hm, putV_ok h hx ⟨OkS.open_ 5 _, Nat.le_trans (List.length_filter_le ..) hps.len, fun y hy => hps.all y (List.mem_filter.1 hy).1⟩, ?_⟩
    rw [putV_p hx, hdel]
    simp only [Prod.mk.injEq, true_and, and_true, List.length_map]
    refine (decide_eq_true ?_).symm
    have := List.length_filter_lt_length_iff_exists (p := fun y => !eqP name y) (l := x.props.map clT)
    rw [List.length_map] at this
    exact this.2 ⟨y, List.mem_of_getElem? hy, by rw [hyq]; decide⟩
  · have hm := idxJ_neg h0
    have hb := idxJ_none hm
    have hf : ((x.props.map clT).filter fun y => !eqP name y) = x.props.map clT := List.filter_eq_self.2 fun y hy => by rw [hb y hy]; rfl
    refine ⟨g.putV i x (x.props.map clT), false, 0, unset_none_v h hc hi2 hx hxo hm, putV_ok h hx hps, ?_⟩
    rw [putV_p hx, hdel, hf]
    simp only [Prod.mk.injEq, true_and, and_true]
    exact (decide_eq_false (Nat.lt_irrefl _)).symm
theorem propX_v {g : Gr} (h : g.ok) {name s : List UInt8} {n : Int} {kk : SK} {z : Nat} {ll : List (List AV)} {i : Nat} (hi : idxJ (isV n) g.vs 0 = (i : Int)) :
    ∃ (w : Vl) (b : Bool), acall S 13 [.agg g.c, .agg [.i .i64 6, .i .i64 n, .str s, .sl kk z ll], .str name] = some (.tup [.agg w.c, .b b], []) ∧ w.ok ∧ (if b = true then some w.p else none) = propG g.p 6 n name := by
  have hpl : placeP g.p 6 n = some (.v i) := by
    rw [place_eq]
    unfold plOf
    simp only [hi, Int.reduceEq, if_true, if_false, Int.natCast_nonneg, Int.toNat_natCast]
  obtain ⟨x, hx, -, -⟩ := idxJ_some' hi
  have hxo : x.ok := h.va x (List.mem_of_getElem? hx)
  have e1 := prop_v h (name := name) (s := s) (kk := kk) (z := z) (ll := ll) hi hx hxo
  have hat := atV_p hx
  unfold propG
  rw [hpl]
  simp only
  rw [hat, List.find?_map, show isN name ∘ tagP = eqP name from rfl]
  unfold propV at e1
  cases hf : (x.props.map clT).find? (eqP name) with
  | none =>
    rw [hf] at e1
    exact ⟨Vl0, false, e1, vl0_ok, rfl⟩
  | some y =>
    rw [hf] at e1
    exact ⟨y.2, true, e1, (hxo.ps.cl.all y (List.mem_of_find?_eq_some hf)).2, rfl⟩
noncomputable def Gr.putE (g : Gr) (i : Nat) (x : Lk) (P : List Pp) : Gr := { g.cl with es := g.cl.es.set i { x.cl with props := P } }
theorem putE_ok {g : Gr} (h : g.ok) {i : Nat} {x : Lk} (hx : g.es[i]? = some x) {P : List Pp} (hP : PsOk .open_ 5 P) : (g.putE i x P).ok := by
  obtain ⟨h1, h2, h3, h4, h5, h6⟩ := Gr.cl_ok h
  have hxo := h.ea x (List.mem_of_getElem? hx)
  have hl : (g.cl.es.set i { x.cl with props := P }).length = g.cl.es.length := List.length_set
  have hall : ∀ y ∈ g.cl.es.set i { x.cl with props := P }, y.ok := by
    intro y hy
    rcases List.mem_or_eq_of_mem_set hy with h | rfl
    · exact h6 y h
    · exact ⟨hxo.lab, hP⟩
  exact ⟨h1, OkS.setl h2, h3, by simp only [Gr.putE]; rw [hl]; exact h4, h5, hall⟩
theorem putE_p {g : Gr} {i : Nat} {x : Lk} (hx : g.es[i]? = some x) (P : List Pp) : (g.putE i x P).p = g.p.put (.e i) (P.map tagP) := by
  have h1 := updE_set (es := []) { x.cl with props := P } (P.map tagP) rfl (l := g.cl.es) (i := i) (x := x.cl) (by simp only [Gr.cl, List.getElem?_map, hx, Option.map_some]) ⟨rfl, rfl, rfl, rfl⟩
  have h2 := Gr.cl_p g
  have h3 : (g.putE i x P).p = { g.cl.p with e := (g.cl.es.set i { x.cl with props := P }).map Lk.p } := rfl
  rw [h3, h1, show g.cl.es.map Lk.p = g.cl.p.e from rfl, h2]
  rfl
theorem atE_p {g : Gr} {i : Nat} {x : Lk} (hx : g.es[i]? = some x) : g.p.at (.e i) = (x.props.map clT).map tagP := by
  rw [clTs_p]
  simp only [PG.at, Gr.p, List.getElem?_map, hx, Option.map_some, Option.getD_some, Lk.p]
theorem setX_e {g : Gr} (h : g.ok) {v : Vl} (hv : v.ok) {name s : List UInt8} (hn : name.length ≤ 137438953472) {n : Int} {kk : SK} {z : Nat} {ll : List (List AV)} (hc : okG g.p = true) {i : Nat} (hi : idxJ (isE n) g.es 0 = (i : Int)) :
    ∃ (q : Gr) (e : Int), acall S 14 [.agg g.c, .agg [.i .i64 7, .i .i64 n, .str s, .sl kk z ll], .str name, .agg v.c] = some (.tup [.agg q.c, .i .i64 e], []) ∧ q.ok ∧ (q.p, e) = setG g.p 7 n name v.p := by
  have hpl : placeP g.p 7 n = some (.e i) := by
    rw [place_eq]
    unfold plOf
    simp only [hi, Int.reduceEq, if_true, if_false, Int.natCast_nonneg, Int.toNat_natCast]
  obtain ⟨x, hx, -, -⟩ := idxJ_some' hi
  have hxo : x.ok := h.ea x (List.mem_of_getElem? hx)
  have hi2 := hi
  rw [← idx_clE] at hi2
  have hat := atE_p hx
  have hbp := okG_at hc (place_has hpl)
  obtain ⟨-, hl16⟩ := badProps_iff.1 hbp
  rw [hat, List.length_map, List.length_map] at hl16
  have hps := hxo.ps.cl
  unfold setG
  rw [if_pos hc, hpl]
  simp only
  rw [hat]
  cases hq : nameB name with
  | false => exact ⟨g.cl, 100, set_name_e h hv hn hc hi2 hx hq, Gr.cl_ok h, by rw [if_neg (by decide), Gr.cl_p]⟩
  | true =>
    rw [if_pos rfl]
    cases hw : mayV v.p 0 with
    | false => exact ⟨g.cl, 20, set_val_e h hv hn hc hi2 hx hq hw, Gr.cl_ok h, by rw [if_neg (by decide), Gr.cl_p]⟩
    | true =>
      rw [if_pos rfl]
      have hnew : tagOk (name, clV v) := ⟨hn, clV_ok hv⟩
      have hvp := clV_p v
      rcases idx_at (ps := x.props.map clT) (nm := name) with hm | ⟨m, hm⟩
      · have hb := idxJ_none hm
        have he := putP_end (clV v) hb
        rw [hvp, List.length_map] at he
        have hln : (putP name v.p ((x.props.map clT).map tagP)).length = x.props.length + 1 := by
          rw [← he]
          simp only [List.length_map, List.length_append, List.length_cons, List.length_take, List.length_drop]
          omega
        by_cases h16 : 16 ≤ x.props.length
        · exact ⟨g.cl, 102, set_fulll_e h hv hn hc hi2 hx hq hw hm hxo h16, Gr.cl_ok h, by rw [if_neg (by omega), Gr.cl_p]⟩
        · refine ⟨g.putE i x ((x.props.map clT).take x.props.length ++ (name, clV v) :: (x.props.map clT).drop x.props.length), 0, set_insl_e h hv hn hc hi2 hx hq hw hm hxo (by omega), putE_ok h hx ⟨OkS.open_ 5 _, ?_, ?_⟩, ?_⟩
          · simp only [List.length_map, List.length_append, List.length_cons, List.length_take, List.length_drop]
            omega
          · intro y hy
            rcases List.mem_append.1 hy with hy | hy
            · exact hps.all y (List.mem_of_mem_take hy)
            · rcases List.mem_cons.1 hy with rfl | hy
              · exact hnew
              · exact hps.all y (List.mem_of_mem_drop hy)
          · rw [if_pos (by omega), putE_p hx, he]
      · obtain ⟨⟨nm, w⟩, hy, hg, hb⟩ := idxJ_some' hm
        by_cases hne : nm = name
        · subst hne
          have he := putP_set (clV v) hy hb
          rw [hvp] at he
          have hln : (putP nm v.p ((x.props.map clT).map tagP)).length = x.props.length := by
            rw [← he]
            simp only [List.length_map, List.length_set]
          refine ⟨g.putE i x ((x.props.map clT).set m (nm, clV v)), 0, set_rep_e h hv hn hc hi2 hx hq hw hm hy hxo, putE_ok h hx ⟨OkS.open_ 5 _, ?_, ?_⟩, ?_⟩
          · rw [List.length_set]; exact hps.len
          · intro y hy
            rcases List.mem_or_eq_of_mem_set hy with h | rfl
            · exact hps.all y h
            · exact hnew
          · rw [if_pos (by omega), putE_p hx, he]
        · have he := putP_ins (clV v) hy hg hne hb
          rw [hvp] at he
          have hml := lt_of_get hy
          rw [List.length_map] at hml
          have hln : (putP name v.p ((x.props.map clT).map tagP)).length = x.props.length + 1 := by
            rw [← he]
            simp only [List.length_map, List.length_append, List.length_cons, List.length_take, List.length_drop]
            omega
          by_cases h16 : 16 ≤ x.props.length
          · exact ⟨g.cl, 102, set_fullm_e h hv hn hc hi2 hx hq hw hm hy hne hxo h16, Gr.cl_ok h, by rw [if_neg (by omega), Gr.cl_p]⟩
          · refine ⟨g.putE i x ((x.props.map clT).take m ++ (name, clV v) :: (x.props.map clT).drop m), 0, set_insm_e h hv hn hc hi2 hx hq hw hm hy hne hxo (by omega), putE_ok h hx ⟨OkS.open_ 5 _, ?_, ?_⟩, ?_⟩
            · simp only [List.length_map, List.length_append, List.length_cons, List.length_take, List.length_drop]
              omega
            · intro y hy
              rcases List.mem_append.1 hy with hy | hy
              · exact hps.all y (List.mem_of_mem_take hy)
              · rcases List.mem_cons.1 hy with rfl | hy
                · exact hnew
                · exact hps.all y (List.mem_of_mem_drop hy)
            · rw [if_pos (by omega), putE_p hx, he]
theorem unsetX_e {g : Gr} (h : g.ok) {name s : List UInt8} {n : Int} {kk : SK} {z : Nat} {ll : List (List AV)} (hc : okG g.p = true) {i : Nat} (hi : idxJ (isE n) g.es 0 = (i : Int)) :
    ∃ (q : Gr) (b : Bool) (e : Int), acall S 17 [.agg g.c, .agg [.i .i64 7, .i .i64 n, .str s, .sl kk z ll], .str name] = some (.tup [.agg q.c, .b b, .i .i64 e], []) ∧ q.ok ∧ (q.p, b, e) = unsetG g.p 7 n name := by
  have hpl : placeP g.p 7 n = some (.e i) := by
    rw [place_eq]
    unfold plOf
    simp only [hi, Int.reduceEq, if_true, if_false, Int.natCast_nonneg, Int.toNat_natCast]
  obtain ⟨x, hx, -, -⟩ := idxJ_some' hi
  have hxo : x.ok := h.ea x (List.mem_of_getElem? hx)
  have hi2 := hi
  rw [← idx_clE] at hi2
  have hat := atE_p hx
  have hps := hxo.ps.cl
  unfold unsetG
  rw [if_pos hc, hpl]
  simp only
  rw [hat]
  have hdel : delP name ((x.props.map clT).map tagP) = ((x.props.map clT).filter fun y => !eqP name y).map tagP := by
    unfold delP
    rw [List.filter_map]
    rfl
  by_cases h0 : 0 ≤ idxJ (eqP name) (x.props.map clT) 0
  · obtain ⟨m, hm⟩ : ∃ m : Nat, idxJ (eqP name) (x.props.map clT) 0 = (m : Int) := ⟨(idxJ (eqP name) (x.props.map clT) 0).toNat, by omega⟩
    obtain ⟨y, hy, hyq, -⟩ := idxJ_some' hm
    refine ⟨g.putE i x ((x.props.map clT).filter fun y => !eqP name y), true, 0, unset_some_e h hc hi2 hx hxo hm, putE_ok h hx ⟨OkS.open_ 5 _, Nat.le_trans (List.length_filter_le ..) hps.len, fun y hy => hps.all y (List.mem_filter.1 hy).1⟩, ?_⟩
    rw [putE_p hx, hdel]
    simp only [Prod.mk.injEq, true_and, and_true, List.length_map]
    refine (decide_eq_true ?_).symm
    have := List.length_filter_lt_length_iff_exists (p := fun y => !eqP name y) (l := x.props.map clT)
    rw [List.length_map] at this
    exact this.2 ⟨y, List.mem_of_getElem? hy, by rw [hyq]; decide⟩
  · have hm := idxJ_neg h0
    have hb := idxJ_none hm
    have hf : ((x.props.map clT).filter fun y => !eqP name y) = x.props.map clT := List.filter_eq_self.2 fun y hy => by rw [hb y hy]; rfl
    refine ⟨g.putE i x (x.props.map clT), false, 0, unset_none_e h hc hi2 hx hxo hm, putE_ok h hx hps, ?_⟩
    rw [putE_p hx, hdel, hf]
    simp only [Prod.mk.injEq, true_and, and_true]
    exact (decide_eq_false (Nat.lt_irrefl _)).symm
theorem propX_e {g : Gr} (h : g.ok) {name s : List UInt8} {n : Int} {kk : SK} {z : Nat} {ll : List (List AV)} {i : Nat} (hi : idxJ (isE n) g.es 0 = (i : Int)) :
    ∃ (w : Vl) (b : Bool), acall S 13 [.agg g.c, .agg [.i .i64 7, .i .i64 n, .str s, .sl kk z ll], .str name] = some (.tup [.agg w.c, .b b], []) ∧ w.ok ∧ (if b = true then some w.p else none) = propG g.p 7 n name := by
  have hpl : placeP g.p 7 n = some (.e i) := by
    rw [place_eq]
    unfold plOf
    simp only [hi, Int.reduceEq, if_true, if_false, Int.natCast_nonneg, Int.toNat_natCast]
  obtain ⟨x, hx, -, -⟩ := idxJ_some' hi
  have hxo : x.ok := h.ea x (List.mem_of_getElem? hx)
  have e1 := prop_e h (name := name) (s := s) (kk := kk) (z := z) (ll := ll) hi hx hxo
  have hat := atE_p hx
  unfold propG
  rw [hpl]
  simp only
  rw [hat, List.find?_map, show isN name ∘ tagP = eqP name from rfl]
  unfold propV at e1
  cases hf : (x.props.map clT).find? (eqP name) with
  | none =>
    rw [hf] at e1
    exact ⟨Vl0, false, e1, vl0_ok, rfl⟩
  | some y =>
    rw [hf] at e1
    exact ⟨y.2, true, e1, (hxo.ps.cl.all y (List.mem_of_find?_eq_some hf)).2, rfl⟩
theorem setX {g : Gr} (h : g.ok) {ec v : Vl} (hv : v.ok) {name : List UInt8} (hn : name.length ≤ 137438953472) {kd n : Int} {s : List UInt8} {kk : SK} {z : Nat} {l : List Vl} (hec : ec = .mk kd n s kk z l) :
    ∃ (q : Gr) (e : Int), acall S 14 [.agg g.c, .agg ec.c, .str name, .agg v.c] = some (.tup [.agg q.c, .i .i64 e], []) ∧ q.ok ∧ (q.p, e) = setG g.p kd n name v.p := by
  cases hc : okG g.p with
  | false => exact ⟨g.cl, 103, set_bad h hc, Gr.cl_ok h, by unfold setG; rw [hc, if_neg (by decide), Gr.cl_p]⟩
  | true =>
    subst hec
    simp only [Vl.c]
    cases hp : placeP g.p kd n with
    | none =>
      obtain ⟨h6, h7⟩ := plOf_none ((place_eq g kd n) ▸ hp)
      exact ⟨g.cl, 101, set_nil h hc (by rw [idx_clV]; exact h6) (by rw [idx_clE]; exact h7), Gr.cl_ok h, by unfold setG; rw [hc, if_pos rfl, hp, Gr.cl_p]⟩
    | some p =>
      rcases plOf_some ((place_eq g kd n) ▸ hp) with ⟨rfl, i, hi, -⟩ | ⟨rfl, i, hi, -⟩
      · exact setX_v h hv hn hc hi
      · exact setX_e h hv hn hc hi
theorem unsetX {g : Gr} (h : g.ok) {ec : Vl} {name : List UInt8} {kd n : Int} {s : List UInt8} {kk : SK} {z : Nat} {l : List Vl} (hec : ec = .mk kd n s kk z l) :
    ∃ (q : Gr) (b : Bool) (e : Int), acall S 17 [.agg g.c, .agg ec.c, .str name] = some (.tup [.agg q.c, .b b, .i .i64 e], []) ∧ q.ok ∧ (q.p, b, e) = unsetG g.p kd n name := by
  cases hc : okG g.p with
  | false => exact ⟨g.cl, false, 103, unset_bad h hc, Gr.cl_ok h, by unfold unsetG; rw [hc, if_neg (by decide), Gr.cl_p]⟩
  | true =>
    subst hec
    simp only [Vl.c]
    cases hp : placeP g.p kd n with
    | none =>
      obtain ⟨h6, h7⟩ := plOf_none ((place_eq g kd n) ▸ hp)
      exact ⟨g.cl, false, 101, unset_nil h hc (by rw [idx_clV]; exact h6) (by rw [idx_clE]; exact h7), Gr.cl_ok h, by unfold unsetG; rw [hc, if_pos rfl, hp, Gr.cl_p]⟩
    | some p =>
      rcases plOf_some ((place_eq g kd n) ▸ hp) with ⟨rfl, i, hi, -⟩ | ⟨rfl, i, hi, -⟩
      · exact unsetX_v h hc hi
      · exact unsetX_e h hc hi
theorem propX {g : Gr} (h : g.ok) {ec : Vl} {name : List UInt8} {kd n : Int} {s : List UInt8} {kk : SK} {z : Nat} {l : List Vl} (hec : ec = .mk kd n s kk z l) :
    ∃ (w : Vl) (b : Bool), acall S 13 [.agg g.c, .agg ec.c, .str name] = some (.tup [.agg w.c, .b b], []) ∧ w.ok ∧ (if b = true then some w.p else none) = propG g.p kd n name := by
  subst hec
  simp only [Vl.c]
  cases hp : placeP g.p kd n with
  | none =>
    obtain ⟨h6, h7⟩ := plOf_none ((place_eq g kd n) ▸ hp)
    exact ⟨Vl0, false, prop_nil h h6 h7, vl0_ok, by unfold propG; rw [hp]; rfl⟩
  | some p =>
    rcases plOf_some ((place_eq g kd n) ▸ hp) with ⟨rfl, i, hi, -⟩ | ⟨rfl, i, hi, -⟩
    · exact propX_v h hi
    · exact propX_e h hi
end Go.Proofs.YtgeaibhgaihobaaDoor
