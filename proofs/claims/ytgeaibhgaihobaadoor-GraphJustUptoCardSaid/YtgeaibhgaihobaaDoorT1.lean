import Derived.Test.YtgeaibhgaihobaaDoorFd
import Derived.Test.YtgeaibhgaihobaaDoorK3
import Derived.Test.YtgeaibhgaihobaaDoorRows
set_option linter.unusedSimpArgs false
set_option linter.unusedVariables false
set_option maxHeartbeats 4000000
namespace Go.Proofs.YtgeaibhgaihobaaDoor
open Go.Abs
theorem w2 : Tryd.prog.cellsOf 2 = 1 := by kernel_rfl
theorem w3 : Tryd.prog.cellsOf 3 = 1 := by kernel_rfl
theorem w9 : Tryd.prog.cellsOf 9 = 1 := by kernel_rfl
theorem wL : Tryd.prog.cellsOf 41 = 1 := by kernel_rfl
theorem wV : Tryd.prog.cellsOf 43 = 4 := by kernel_rfl
theorem wPs : Tryd.prog.cellsOf 29 = 1 := by kernel_rfl
theorem wP : Tryd.prog.cellsOf 73 = 5 := by kernel_rfl
theorem wVx : Tryd.prog.cellsOf 31 = 3 := by kernel_rfl
theorem wVxs : Tryd.prog.cellsOf 22 = 1 := by kernel_rfl
theorem wLk : Tryd.prog.cellsOf 37 = 5 := by kernel_rfl
theorem wLks : Tryd.prog.cellsOf 23 = 1 := by kernel_rfl
theorem wGr : Tryd.prog.cellsOf 25 = 3 := by kernel_rfl
theorem laid : laidOutB Tryd.prog = true := by kernel_rfl
def tys : List TypeId := [2, 3, 9, 41, 43, 29, 73, 31, 22, 37, 23, 25]
theorem fine : fineL Tryd.prog tys = true := by kernel_rfl
theorem list3 : ∀ {l : List AV}, l.length = 3 → ∃ a0 a1 a2, l = [a0, a1, a2]
  | [a0, a1, a2], _ => ⟨a0, a1, a2, rfl⟩
theorem list4 : ∀ {l : List AV}, l.length = 4 → ∃ a0 a1 a2 a3, l = [a0, a1, a2, a3]
  | [a0, a1, a2, a3], _ => ⟨a0, a1, a2, a3, rfl⟩
theorem list5 : ∀ {l : List AV}, l.length = 5 → ∃ a0 a1 a2 a3 a4, l = [a0, a1, a2, a3, a4]
  | [a0, a1, a2, a3, a4], _ => ⟨a0, a1, a2, a3, a4, rfl⟩
theorem exists_mapP {α β : Type} {f : α → β} {Q : α → Prop} : ∀ {l : List β}, (∀ x ∈ l, ∃ a, x = f a ∧ Q a) → ∃ r : List α, l = r.map f ∧ ∀ a ∈ r, Q a
  | [], _ => ⟨[], rfl, by simp⟩
  | b :: l, h => by
    obtain ⟨a, rfl, ha⟩ := h b (by simp)
    obtain ⟨r, rfl, hr⟩ := exists_mapP (l := l) (f := f) (Q := Q) (fun x hx => h x (by simp [hx]))
    exact ⟨a :: r, rfl, fun x hx => by rcases List.mem_cons.1 hx with rfl | hx; exact ha; exact hr x hx⟩
theorem ty_slE {P : Program} {m : Nat} {t e : TypeId} {cs : List AV} {z : Nat} (h : Ty P m t cs) (hu : P.underlying t = some (.slice e)) (hz : P.cellsOf e = z) :
    ∃ (k : SK) (es : List (List AV)) (n : Nat), cs = [.sl k z es] ∧ (k = .nil → es = []) ∧ m = n + 1 ∧ ∀ x ∈ es, Ty P n e x := by
  cases m with
  | zero => exact h.elim
  | succ m =>
    unfold Ty at h
    rw [hu] at h
    subst hz
    rcases h with rfl | ⟨es, rfl, h⟩
    · exact ⟨.nil, [], m, rfl, fun _ => rfl, rfl, by simp⟩
    · exact ⟨.open_, es, m, rfl, fun h => (by cases h), rfl, h⟩
theorem bulkEs_memV {x : List AV} : ∀ {l : List (List AV)}, x ∈ l → bulkAs x ≤ bulkEs l
  | [], h => by simp at h
  | y :: r, h => by
    simp only [bulkEs]
    rcases List.mem_cons.1 h with rfl | h
    · omega
    · have := bulkEs_memV h; omega
theorem bulkEs_len {α : Type} {f : α → List AV} (hf : ∀ a, 0 < bulkAs (f a)) : ∀ l : List α, l.length ≤ bulkEs (l.map f)
  | [] => by simp
  | a :: r => by
    have := bulkEs_len hf r
    have := hf a
    simp only [List.map_cons, bulkEs, List.length_cons]; omega
theorem valc_pos (v : Vl) : 0 < bulkAs v.c := by
  obtain ⟨k, n, s, sk, z, l⟩ := v
  simp only [Vl.c, bulkAs, bulkA]; omega
theorem tagc_pos (x : List UInt8 × Vl) : 0 < bulkAs (tagC x) := by
  simp only [tagC, bulkAs, bulkA]; omega
theorem ty_val' : ∀ (M m : Nat) (cs : List AV), m ≤ M → Ty Tryd.prog m 43 cs → bulkAs cs ≤ 1048576 → ∃ v : Vl, cs = v.c ∧ v.ok
  | 0, m, cs, hm, h, hb => by
    obtain ⟨hl, n, hn, hf⟩ := h.struct Tryd.underlying43
    omega
  | M + 1, m, cs, hm, h, hb => by
    obtain ⟨hl, n, hn, hf⟩ := h.struct Tryd.underlying43
    clear h
    simp only [wV] at hl
    obtain ⟨a, b, c, d, rfl⟩ := list4 hl
    simp only [List.forall_mem_cons, List.not_mem_nil, false_implies, implies_true, and_true] at hf
    obtain ⟨h1, h2, h3, h4⟩ := hf
    simp only [w2, w3, w9, wL, List.drop_zero, List.drop_succ_cons, List.take_succ_cons, List.take_zero] at h1 h2 h3 h4
    obtain ⟨k, h1, _⟩ := h1.int Tryd.underlying3
    obtain ⟨i, h2, _⟩ := h2.int Tryd.underlying2
    obtain ⟨s, h3⟩ := h3.str Tryd.underlying9
    obtain ⟨sk, es, n', h4, hk, hn', he⟩ := ty_slE h4 Tryd.underlying41 wV
    have h1 := (List.cons.inj h1).1
    have h2 := (List.cons.inj h2).1
    have h3 := (List.cons.inj h3).1
    have h4 := (List.cons.inj h4).1
    subst h1
    subst h2
    subst h3
    subst h4
    simp only [bulkAs, bulkA] at hb
    obtain ⟨l, rfl, hlo⟩ := exists_mapP (l := es) (f := Vl.c) (Q := Vl.ok) (fun x hx => ty_val' M n' x (by omega) (he x hx) (by have := bulkEs_memV hx; omega))
    have hlen := bulkEs_len valc_pos l
    refine ⟨.mk k i s sk 4 l, by simp only [Vl.c, Vl.cs_map], by omega, by omega, ⟨.inl rfl, fun h => ?_⟩, (Vl.oks_iff l).2 hlo⟩
    have := hk h
    simpa using this
theorem ty_val (m : Nat) (cs : List AV) (h : Ty Tryd.prog m 43 cs) (hb : bulkAs cs ≤ 1048576) : ∃ v : Vl, cs = v.c ∧ v.ok := ty_val' m m cs (Nat.le_refl _) h hb
theorem ty_vals {m : Nat} {cs : List AV} (h : Ty Tryd.prog m 41 cs) (hb : bulkAs cs ≤ 1048576) : ∃ (k : SK) (l : List Vl), cs = [.sl k 4 (l.map Vl.c)] ∧ OkS k 4 4 l ∧ (∀ x ∈ l, x.ok) ∧ l.length ≤ 1048576 := by
  obtain ⟨k, es, n, rfl, hk, hn, he⟩ := ty_slE h Tryd.underlying41 wV
  simp only [bulkAs, bulkA] at hb
  obtain ⟨l, rfl, hlo⟩ := exists_mapP (l := es) (f := Vl.c) (Q := Vl.ok) (fun x hx => ty_val n x (he x hx) (by have := bulkEs_memV hx; omega))
  have hlen := bulkEs_len valc_pos l
  exact ⟨k, l, rfl, ⟨.inl rfl, fun h => by simpa using hk h⟩, hlo, by omega⟩
theorem ty_prop {m : Nat} {cs : List AV} (h : Ty Tryd.prog m 73 cs) (hb : bulkAs cs ≤ 1048576) : ∃ x : Pp, cs = tagC x ∧ tagOk x := by
  obtain ⟨hl, n, rfl, hf⟩ := h.struct Tryd.underlying73
  simp only [wP] at hl
  obtain ⟨a, b, c, d, e, rfl⟩ := list5 hl
  simp only [List.forall_mem_cons, List.not_mem_nil, false_implies, implies_true, and_true] at hf
  obtain ⟨h1, h2⟩ := hf
  simp only [w9, wV, List.drop_zero, List.drop_succ_cons, List.take_succ_cons, List.take_zero] at h1 h2
  obtain ⟨s, h1⟩ := h1.str Tryd.underlying9
  have h1 := (List.cons.inj h1).1
  subst h1
  simp only [bulkAs, bulkA] at hb
  obtain ⟨v, hv, ho⟩ := ty_val n [b, c, d, e] h2 (by simp only [bulkAs]; omega)
  exact ⟨(s, v), by simp only [tagC, ← hv], by simp only; omega, ho⟩
theorem ty_props {m : Nat} {cs : List AV} (h : Ty Tryd.prog m 29 cs) (hb : bulkAs cs ≤ 1048576) : ∃ (k : SK) (l : List Pp), cs = [.sl k 5 (l.map tagC)] ∧ PsOk k 5 l := by
  obtain ⟨k, es, n, rfl, hk, hn, he⟩ := ty_slE h Tryd.underlying29 wP
  simp only [bulkAs, bulkA] at hb
  obtain ⟨l, rfl, hlo⟩ := exists_mapP (l := es) (f := tagC) (Q := tagOk) (fun x hx => ty_prop (he x hx) (by have := bulkEs_memV hx; omega))
  have hlen := bulkEs_len tagc_pos l
  exact ⟨k, l, rfl, ⟨.inl rfl, fun h => by simpa using hk h⟩, by omega, hlo⟩
theorem ty_vx {m : Nat} {cs : List AV} (h : Ty Tryd.prog m 31 cs) (hb : bulkAs cs ≤ 1048576) : ∃ x : Vx, cs = x.c ∧ x.ok := by
  obtain ⟨hl, n, rfl, hf⟩ := h.struct Tryd.underlying31
  simp only [wVx] at hl
  obtain ⟨a, b, c, rfl⟩ := list3 hl
  simp only [List.forall_mem_cons, List.not_mem_nil, false_implies, implies_true, and_true] at hf
  obtain ⟨h1, h2, h3⟩ := hf
  simp only [w9, w2, wPs, List.drop_zero, List.drop_succ_cons, List.take_succ_cons, List.take_zero] at h1 h2 h3
  obtain ⟨i, h1, _⟩ := h1.int Tryd.underlying2
  obtain ⟨s, h2⟩ := h2.str Tryd.underlying9
  simp only [bulkAs] at hb
  obtain ⟨k, l, h3, hps⟩ := ty_props h3 (by simp only [bulkAs]; omega)
  have h1 := (List.cons.inj h1).1
  have h2 := (List.cons.inj h2).1
  have h3 := (List.cons.inj h3).1
  subst h1
  subst h2
  subst h3
  simp only [bulkA] at hb
  exact ⟨⟨i, s, k, 5, l⟩, rfl, by simp only; omega, hps⟩
theorem ty_lk {m : Nat} {cs : List AV} (h : Ty Tryd.prog m 37 cs) (hb : bulkAs cs ≤ 1048576) : ∃ x : Lk, cs = x.c ∧ x.ok := by
  obtain ⟨hl, n, rfl, hf⟩ := h.struct Tryd.underlying37
  simp only [wLk] at hl
  obtain ⟨a, b, c, d, e, rfl⟩ := list5 hl
  simp only [List.forall_mem_cons, List.not_mem_nil, false_implies, implies_true, and_true] at hf
  obtain ⟨h1, h2, h3, h4, h5⟩ := hf
  simp only [w9, w2, wPs, List.drop_zero, List.drop_succ_cons, List.take_succ_cons, List.take_zero] at h1 h2 h3 h4 h5
  obtain ⟨i, h1, _⟩ := h1.int Tryd.underlying2
  obtain ⟨s, h2⟩ := h2.str Tryd.underlying9
  obtain ⟨o, h3, _⟩ := h3.int Tryd.underlying2
  obtain ⟨n', h4, _⟩ := h4.int Tryd.underlying2
  simp only [bulkAs] at hb
  obtain ⟨k, l, h5, hps⟩ := ty_props h5 (by simp only [bulkAs]; omega)
  have h1 := (List.cons.inj h1).1
  have h2 := (List.cons.inj h2).1
  have h3 := (List.cons.inj h3).1
  have h4 := (List.cons.inj h4).1
  have h5 := (List.cons.inj h5).1
  subst h1
  subst h2
  subst h3
  subst h4
  subst h5
  simp only [bulkA] at hb
  exact ⟨⟨i, s, o, n', k, 5, l⟩, rfl, by simp only; omega, hps⟩
theorem vxc_pos (x : Vx) : 0 < bulkAs x.c := by
  simp only [Vx.c, bulkAs, bulkA]; omega
theorem lkc_pos (x : Lk) : 0 < bulkAs x.c := by
  simp only [Lk.c, bulkAs, bulkA]; omega
theorem ty_graph {m : Nat} {cs : List AV} (h : Ty Tryd.prog m 25 cs) (hb : bulkAs cs ≤ 1048576) : ∃ g : Gr, cs = g.c ∧ g.ok := by
  obtain ⟨hl, n, rfl, hf⟩ := h.struct Tryd.underlying25
  simp only [wGr] at hl
  obtain ⟨a, b, c, rfl⟩ := list3 hl
  simp only [List.forall_mem_cons, List.not_mem_nil, false_implies, implies_true, and_true] at hf
  obtain ⟨h1, h2, h3⟩ := hf
  simp only [w2, wVxs, wLks, List.drop_zero, List.drop_succ_cons, List.take_succ_cons, List.take_zero] at h1 h2 h3
  obtain ⟨k1, e1, n1, h1, hk1, _, he1⟩ := ty_slE h1 Tryd.underlying22 wVx
  obtain ⟨k2, e2, n2, h2, hk2, _, he2⟩ := ty_slE h2 Tryd.underlying23 wLk
  obtain ⟨i, h3, _⟩ := h3.int Tryd.underlying2
  have h1 := (List.cons.inj h1).1
  have h2 := (List.cons.inj h2).1
  have h3 := (List.cons.inj h3).1
  subst h1
  subst h2
  subst h3
  simp only [bulkAs, bulkA] at hb
  obtain ⟨vs, rfl, hvs⟩ := exists_mapP (l := e1) (f := Vx.c) (Q := Vx.ok) (fun x hx => ty_vx (he1 x hx) (by have := bulkEs_memV hx; omega))
  obtain ⟨es, rfl, hes⟩ := exists_mapP (l := e2) (f := Lk.c) (Q := Lk.ok) (fun x hx => ty_lk (he2 x hx) (by have := bulkEs_memV hx; omega))
  have l1 := bulkEs_len vxc_pos vs
  have l2 := bulkEs_len lkc_pos es
  exact ⟨⟨k1, 3, vs, k2, 5, es, i⟩, rfl, ⟨.inl rfl, fun h => by simpa using hk1 h⟩, ⟨.inl rfl, fun h => by simpa using hk2 h⟩, by simp only; omega, by simp only; omega, hvs, hes⟩
mutual
theorem bulk_eq {H : Type} : ∀ d : DataW H, bulkD d ≤ Rows.uptoBulk d
  | .lit l => by cases l <;> simp [bulkD, Rows.uptoBulk]
  | .nil => by simp [bulkD, Rows.uptoBulk]
  | .ptr d => by simp only [bulkD, Rows.uptoBulk]; have := bulk_eq d; omega
  | .slice a b => by simp only [bulkD, Rows.uptoBulk]; have := bulk_eqs a; have := bulk_eqs b; omega
  | .agg a => by simp only [bulkD, Rows.uptoBulk]; have := bulk_eqs a; omega
  | .iface _ d => by simp only [bulkD, Rows.uptoBulk]; have := bulk_eq d; omega
  | .map e => by simp only [bulkD, Rows.uptoBulk]; omega
  | .held _ => by simp [bulkD, Rows.uptoBulk]
theorem bulk_eqs {H : Type} : ∀ l : List (DataW H), bulkDs l ≤ Rows.uptoBulkAll l
  | [] => by simp [bulkDs, Rows.uptoBulkAll]
  | d :: r => by simp only [bulkDs, Rows.uptoBulkAll]; have := bulk_eq d; have := bulk_eqs r; omega
end
theorem own : ownKnob Tryd.prog.godebug = none := by kernel_rfl
theorem small_of {H : Type} {ds gs : List (DataW H)} (h : Rows.uptoSmall H (ds ++ gs) = true) : bulkDs ds ≤ 1048576 := by
  have h1 := bulk_eqs (ds ++ gs)
  have h2 := of_decide_eq_true h
  have h3 : bulkDs (ds ++ gs) = bulkDs ds + bulkDs gs := by
    clear h h1 h2
    induction ds with
    | nil => simp [bulkDs]
    | cons d r ih => simp only [List.cons_append, bulkDs, ih]; omega
  omega
theorem argOf_graph (l : List AV) : argOf Tryd.prog 25 l = .agg l := by
  unfold argOf
  rw [Tryd.underlying25]
theorem argOf_val (l : List AV) : argOf Tryd.prog 43 l = .agg l := by
  unfold argOf
  rw [Tryd.underlying43]
theorem argOf_str (v : AV) : argOf Tryd.prog 9 [v] = v := by
  unfold argOf
  rw [Tryd.underlying9]; rfl
end Go.Proofs.YtgeaibhgaihobaaDoor
