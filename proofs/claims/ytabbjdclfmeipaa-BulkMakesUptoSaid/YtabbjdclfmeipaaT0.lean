/-
  Readings of values: as they lie.
-/
import Derived.Test.YtabbjdclfmeipaaFd
import Derived.Test.YtabbjdclfmeipaaV1
import Derived.Test.YtabbjdclfmeipaaProg
import Derived.KernelRfl
import Derived.Test.YtabbjdclfmeipaaRows
set_option linter.unusedSimpArgs false
set_option linter.unusedVariables false
set_option maxHeartbeats 4000000
namespace Go.Proofs.Ytabbjdclfmeipaa
open Go.Abs

theorem w2 : Try.prog.cellsOf 2 = 1 := by kernel_rfl
theorem w3 : Try.prog.cellsOf 3 = 1 := by kernel_rfl
theorem w9 : Try.prog.cellsOf 9 = 1 := by kernel_rfl
theorem wL : Try.prog.cellsOf 32 = 1 := by kernel_rfl
theorem wV : Try.prog.cellsOf 34 = 4 := by kernel_rfl
theorem laid : laidOutB Try.prog = true := by kernel_rfl
theorem list4 : ∀ {l : List AV}, l.length = 4 → ∃ a0 a1 a2 a3, l = [a0, a1, a2, a3]
  | [a0, a1, a2, a3], _ => ⟨a0, a1, a2, a3, rfl⟩
theorem list5 : ∀ {l : List AV}, l.length = 5 → ∃ a0 a1 a2 a3 a4, l = [a0, a1, a2, a3, a4]
  | [a0, a1, a2, a3, a4], _ => ⟨a0, a1, a2, a3, a4, rfl⟩
theorem list7 : ∀ {l : List AV}, l.length = 7 → ∃ a0 a1 a2 a3 a4 a5 a6, l = [a0, a1, a2, a3, a4, a5, a6]
  | [a0, a1, a2, a3, a4, a5, a6], _ => ⟨a0, a1, a2, a3, a4, a5, a6, rfl⟩
theorem exists_mapP {α β : Type} {f : α → β} {Q : α → Prop} : ∀ {l : List β}, (∀ x ∈ l, ∃ a, x = f a ∧ Q a) → ∃ r : List α, l = r.map f ∧ ∀ a ∈ r, Q a
  | [], _ => ⟨[], rfl, by simp⟩
  | b :: l, h => by
    obtain ⟨a, rfl, ha⟩ := h b (by simp)
    obtain ⟨r, rfl, hr⟩ := exists_mapP (l := l) (f := f) (Q := Q) (fun x hx => h x (by simp [hx]))
    exact ⟨a :: r, rfl, fun x hx => by rcases List.mem_cons.1 hx with rfl | hx; exact ha; exact hr x hx⟩
theorem ty_slE {P : Program} {m : Nat} {t e : TypeId} {cs : List AV} {z : Nat} (h : Ty P m t cs) (hu : P.underlying t = some (.slice e)) (hz : P.cellsOf e = z) :
    ∃ (k : SK) (es : List (List AV)) (n : Nat), cs = [.sl k z es] ∧ (k = .nil → es = []) ∧ m = n + 1 ∧ ∀ x ∈ es, Ty P n e x := by
  cases m with
  | zero => exact h.elim
  | succ m =>
    unfold Ty at h
    rw [hu] at h
    subst hz
    rcases h with rfl | ⟨es, rfl, h⟩
    · exact ⟨.nil, [], m, rfl, fun _ => rfl, rfl, by simp⟩
    · exact ⟨.open_, es, m, rfl, fun h => (by cases h), rfl, h⟩
theorem bulkEs_memV {x : List AV} : ∀ {l : List (List AV)}, x ∈ l → bulkAs x ≤ bulkEs l
  | [], h => by simp at h
  | y :: r, h => by
    simp only [bulkEs]
    rcases List.mem_cons.1 h with rfl | h
    · omega
    · have := bulkEs_memV h; omega
theorem bulkEs_len {α : Type} {f : α → List AV} (hf : ∀ a, 0 < bulkAs (f a)) : ∀ l : List α, l.length ≤ bulkEs (l.map f)
  | [] => by simp
  | a :: r => by
    have := bulkEs_len hf r
    have := hf a
    simp only [List.map_cons, bulkEs, List.length_cons]; omega
theorem valc_pos (v : Vl) : 0 < bulkAs v.c := by
  obtain ⟨k, n, s, sk, z, l⟩ := v
  simp only [Vl.c, bulkAs, bulkA]; omega
theorem ty_val' : ∀ (M m : Nat) (cs : List AV), m ≤ M → Ty Try.prog m 34 cs → bulkAs cs ≤ 1048576 → ∃ v : Vl, cs = v.c ∧ v.ok
  | 0, m, cs, hm, h, hb => by
    obtain ⟨hl, n, hn, hf⟩ := h.struct Try.underlying34
    omega
  | M + 1, m, cs, hm, h, hb => by
    obtain ⟨hl, n, hn, hf⟩ := h.struct Try.underlying34
    clear h
    simp only [wV] at hl
    obtain ⟨a, b, c, d, rfl⟩ := list4 hl
    simp only [List.forall_mem_cons, List.not_mem_nil, false_implies, implies_true, and_true] at hf
    obtain ⟨h1, h2, h3, h4⟩ := hf
    simp only [w2, w3, w9, wL, List.drop_zero, List.drop_succ_cons, List.take_succ_cons, List.take_zero] at h1 h2 h3 h4
    obtain ⟨k, h1, _⟩ := h1.int Try.underlying3
    obtain ⟨i, h2, _⟩ := h2.int Try.underlying2
    obtain ⟨s, h3⟩ := h3.str Try.underlying9
    obtain ⟨sk, es, n', h4, hk, hn', he⟩ := ty_slE h4 Try.underlying32 wV
    have h1 := (List.cons.inj h1).1
    have h2 := (List.cons.inj h2).1
    have h3 := (List.cons.inj h3).1
    have h4 := (List.cons.inj h4).1
    subst h1
    subst h2
    subst h3
    subst h4
    simp only [bulkAs, bulkA] at hb
    obtain ⟨l, rfl, hlo⟩ := exists_mapP (l := es) (f := Vl.c) (Q := Vl.ok) (fun x hx => ty_val' M n' x (by omega) (he x hx) (by have := bulkEs_memV hx; omega))
    have hlen := bulkEs_len valc_pos l
    refine ⟨.mk k i s sk 4 l, by simp only [Vl.c, Vl.cs_map], by omega, by omega, ⟨.inl rfl, fun h => ?_⟩, (Vl.oks_iff l).2 hlo⟩
    have := hk h
    simpa using this
theorem ty_val (m : Nat) (cs : List AV) (h : Ty Try.prog m 34 cs) (hb : bulkAs cs ≤ 1048576) : ∃ v : Vl, cs = v.c ∧ v.ok := ty_val' m m cs (Nat.le_refl _) h hb
theorem ty_vals {m : Nat} {cs : List AV} (h : Ty Try.prog m 32 cs) (hb : bulkAs cs ≤ 1048576) : ∃ (k : SK) (l : List Vl), cs = [.sl k 4 (l.map Vl.c)] ∧ OkS k 4 4 l ∧ (∀ x ∈ l, x.ok) ∧ l.length ≤ 1048576 := by
  obtain ⟨k, es, n, rfl, hk, hn, he⟩ := ty_slE h Try.underlying32 wV
  simp only [bulkAs, bulkA] at hb
  obtain ⟨l, rfl, hlo⟩ := exists_mapP (l := es) (f := Vl.c) (Q := Vl.ok) (fun x hx => ty_val n x (he x hx) (by have := bulkEs_memV hx; omega))
  have hlen := bulkEs_len valc_pos l
  exact ⟨k, l, rfl, ⟨.inl rfl, fun h => by simpa using hk h⟩, hlo, by omega⟩
mutual
theorem bulk_eq {H : Type} : ∀ d : DataW H, bulkD d ≤ Rows.uptoBulk d
  | .lit l => by cases l <;> simp [bulkD, Rows.uptoBulk]
  | .nil => by simp [bulkD, Rows.uptoBulk]
  | .ptr d => by simp only [bulkD, Rows.uptoBulk]; have := bulk_eq d; omega
  | .slice a b => by simp only [bulkD, Rows.uptoBulk]; have := bulk_eqs a; have := bulk_eqs b; omega
  | .agg a => by simp only [bulkD, Rows.uptoBulk]; have := bulk_eqs a; omega
  | .iface _ d => by simp only [bulkD, Rows.uptoBulk]; have := bulk_eq d; omega
  | .map e => by simp only [bulkD, Rows.uptoBulk]; omega
  | .held _ => by simp [bulkD, Rows.uptoBulk]
theorem bulk_eqs {H : Type} : ∀ l : List (DataW H), bulkDs l ≤ Rows.uptoBulkAll l
  | [] => by simp [bulkDs, Rows.uptoBulkAll]
  | d :: r => by simp only [bulkDs, Rows.uptoBulkAll]; have := bulk_eq d; have := bulk_eqs r; omega
end
theorem own : ownKnob Try.prog.godebug = none := by kernel_rfl
theorem small_of {H : Type} {ds gs : List (DataW H)} (h : Rows.uptoSmall H (ds ++ gs) = true) : bulkDs ds ≤ 1048576 := by
  have h1 := bulk_eqs (ds ++ gs)
  have h2 := of_decide_eq_true h
  have h3 : bulkDs (ds ++ gs) = bulkDs ds + bulkDs gs := by
    clear h h1 h2
    induction ds with
    | nil => simp [bulkDs]
    | cons d r ih => simp only [List.cons_append, bulkDs, ih]; omega
  omega
theorem argOf_val (l : List AV) : argOf Try.prog 34 l = .agg l := by
  unfold argOf
  rw [Try.underlying34]
theorem argOf_vals (v : AV) : argOf Try.prog 32 [v] = v := by
  unfold argOf
  rw [Try.underlying32]; rfl
theorem argOf_str (v : AV) : argOf Try.prog 9 [v] = v := by
  unfold argOf
  rw [Try.underlying9]; rfl
theorem argOf_i {t : TypeId} {k : IntKind} (h : Try.prog.underlying t = some (.int k)) (v : AV) : argOf Try.prog t [v] = v := by
  unfold argOf
  rw [h]; rfl
theorem argOf_s {t e : TypeId} (h : Try.prog.underlying t = some (.slice e)) (v : AV) : argOf Try.prog t [v] = v := by
  unfold argOf
  rw [h]; rfl
theorem wf_u8 {x : Int} (h : (Lit.int .u8 x).wf = true) : 0 ≤ x ∧ x < 256 := by
  simp [Lit.wf, IntKind.min, IntKind.max, IntKind.signed, IntKind.bits] at h
  omega
theorem wf_u16 {x : Int} (h : (Lit.int .u16 x).wf = true) : 0 ≤ x ∧ x < 65536 := by
  simp [Lit.wf, IntKind.min, IntKind.max, IntKind.signed, IntKind.bits] at h
  omega
theorem wf_i64 {x : Int} (h : (Lit.int .i64 x).wf = true) : -9223372036854775808 ≤ x ∧ x < 9223372036854775808 := by
  simp [Lit.wf, IntKind.min, IntKind.max, IntKind.signed, IntKind.bits] at h
  omega
end Go.Proofs.Ytabbjdclfmeipaa
