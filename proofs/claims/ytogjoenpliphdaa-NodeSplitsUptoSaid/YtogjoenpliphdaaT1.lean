import Derived.Test.YtogjoenpliphdaaFd
import Derived.Test.YtogjoenpliphdaaF7
import Derived.Test.YtogjoenpliphdaaRows
set_option linter.unusedSimpArgs false
set_option linter.unusedVariables false
set_option maxHeartbeats 4000000
namespace Go.Proofs.Ytogjoenpliphdaa
open Go.Abs

theorem w5 : Try.prog.cellsOf 5 = 1 := by kernel_rfl
theorem w3 : Try.prog.cellsOf 3 = 1 := by kernel_rfl
theorem w4 : Try.prog.cellsOf 4 = 1 := by kernel_rfl
theorem w22 : Try.prog.cellsOf 22 = 1 := by kernel_rfl
theorem w23 : Try.prog.cellsOf 23 = 1 := by kernel_rfl
theorem w24 : Try.prog.cellsOf 24 = 1 := by kernel_rfl
theorem w26 : Try.prog.cellsOf 26 = 4 := by kernel_rfl
theorem w27 : Try.prog.cellsOf 27 = 1 := by kernel_rfl
theorem w44 : Try.prog.cellsOf 44 = 4 := by kernel_rfl
theorem laid : laidOutB Try.prog = true := by kernel_rfl
def tys : List TypeId := [3, 4, 5, 22, 23, 24, 26, 27, 44]
theorem fine : fineL Try.prog tys = true := by kernel_rfl

theorem ty_u8 {m : Nat} {cs : List AV} (h : Ty Try.prog m 5 cs) : ∃ c : UInt8, cs = [.i .u8 (c.toNat : Int)] := by
  obtain ⟨n, rfl, hw⟩ := h.int Try.underlying5
  have hx : 0 ≤ n ∧ n ≤ 255 := by simpa [Lit.wf, IntKind.min, IntKind.max, IntKind.signed, IntKind.bits] using hw
  refine ⟨UInt8.ofNat n.toNat, ?_⟩
  rw [u8_nat _ (by omega)]
  simp; omega
theorem ty_int {m : Nat} {cs : List AV} (h : Ty Try.prog m 3 cs) : ∃ n : Int, cs = [.i .i64 n] ∧ -9223372036854775808 ≤ n ∧ n < 9223372036854775808 := by
  obtain ⟨n, rfl, hw⟩ := h.int Try.underlying3
  have hx : -9223372036854775808 ≤ n ∧ n ≤ 9223372036854775807 := by simpa [Lit.wf, IntKind.min, IntKind.max, IntKind.signed, IntKind.bits] using hw
  exact ⟨n, rfl, by omega, by omega⟩
theorem ty_bytes {m : Nat} {cs : List AV} (h : Ty Try.prog m 27 cs) : ∃ b : By, cs = [b.v] := by
  obtain ⟨k, l, rfl, ok⟩ := h.sl (f := fun c : UInt8 => [AV.i .u8 (c.toNat : Int)]) Try.underlying27 w5 (fun n x _ h => ty_u8 h)
  exact ⟨⟨k, 1, l, ok⟩, rfl⟩
theorem bulk_bytes (l : List UInt8) : bulkEs (ofU8s l) = l.length := by
  induction l with
  | nil => rfl
  | cons c l ih => rw [ofU8s_cons]; simp only [bulkEs, bulkAs, bulkA, ih, List.length_cons]; omega
theorem bulk_by (b : By) : bulkA b.v = b.l.length + 1 := by
  simp only [By.v, bulkA, bulk_bytes]
theorem ty_cell {m : Nat} {cs : List AV} (h : Ty Try.prog m 44 cs) : ∃ c : Ce, cs = c.c := by
  obtain ⟨hl, n, rfl, hf⟩ := h.struct Try.underlying44
  simp only [w44] at hl
  match cs, hl with
  | [a, b, c, d], _ =>
    simp only [List.forall_mem_cons, List.not_mem_nil, false_implies, implies_true, and_true] at hf
    obtain ⟨h1, h2, h3, h4⟩ := hf
    simp only [w27, w3, List.drop_zero, List.drop_succ_cons, List.take_succ_cons, List.take_zero] at h1 h2 h3 h4
    obtain ⟨x, hx⟩ := ty_bytes h1
    obtain ⟨y, hy⟩ := ty_bytes h2
    obtain ⟨n, hn, _⟩ := ty_int h3
    obtain ⟨o, ho, _⟩ := ty_int h4
    injection hx with hx
    injection hy with hy
    injection hn with hn
    injection ho with ho
    exact ⟨⟨x, y, n, o⟩, by rw [hx, hy, hn, ho]; rfl⟩
theorem fb_le (x : List UInt8) (h : x.length < 18446744073709551616) : (fb x).length ≤ 10 + x.length := by
  have := leb_len10 h
  simp only [fb, List.length_append]; omega
theorem bulk_cell (c : Ce) : bulkAs c.c = c.key.l.length + c.val.l.length + 4 := by
  simp only [Ce.c, bulkAs, bulk_by, bulkA]; omega
theorem cell_le (c : Ce) (h : bulkAs c.c < 18446744073709551616) : (cellB c).length ≤ 40 * bulkAs c.c := by
  rw [bulk_cell] at *
  have h1 := fb_le c.key.l (by omega)
  have h2 := fb_le c.val.l (by omega)
  have h3 := leb_len10 (u64_lt c.len)
  have h4 := leb_len10 (u64_lt c.over)
  simp only [cellB, List.length_append]
  split <;> simp only [List.length_cons, List.length_append] <;> omega
theorem flat_le {α : Type} (f : α → List UInt8) (g : α → List AV) (hf : ∀ a, bulkAs (g a) < 18446744073709551616 → (f a).length ≤ 40 * bulkAs (g a)) (hg : ∀ a, 0 < bulkAs (g a)) : ∀ (l : List α), bulkEs (l.map g) < 18446744073709551616 → (l.flatMap f).length ≤ 40 * bulkEs (l.map g) ∧ l.length ≤ bulkEs (l.map g)
  | [], _ => by simp [bulkEs]
  | a :: r, h => by
    simp only [List.map_cons, bulkEs] at h ⊢
    have h1 := hf a (by omega)
    have h0 := hg a
    have h2 := flat_le f g hf hg r (by omega)
    simp only [List.flatMap_cons, List.length_append, List.length_cons]
    omega
/-- a node, read -/
theorem ty_node {m : Nat} {cs : List AV} (h : Ty Try.prog m 26 cs) : ∃ n : Nd, cs = n.cs := by
  obtain ⟨hl, n, rfl, hf⟩ := h.struct Try.underlying26
  simp only [w26] at hl
  match cs, hl with
  | [a, b, c, d], _ =>
    simp only [List.forall_mem_cons, List.not_mem_nil, false_implies, implies_true, and_true] at hf
    obtain ⟨h1, h2, h3, h4⟩ := hf
    simp only [w4, w22, w23, w24, List.drop_zero, List.drop_succ_cons, List.take_succ_cons, List.take_zero] at h1 h2 h3 h4
    obtain ⟨lf, h1⟩ := h1.bool Try.underlying4
    obtain ⟨kc, cl, h2, okc⟩ := h2.sl (f := Ce.c) Try.underlying22 w44 (fun n x _ h => ty_cell h)
    obtain ⟨kk, kl, h3, okk⟩ := h3.sl (f := byC) Try.underlying23 w27 (fun n x _ h => ty_bytes h)
    obtain ⟨ki, il, h4, oki⟩ := h4.sl (f := intC) Try.underlying24 w3 (fun n x _ h => (ty_int h).imp fun n h => h.1)
    injection h1 with h1
    injection h2 with h2
    injection h3 with h3
    injection h4 with h4
    exact ⟨⟨lf, kc, 4, cl, okc, kk, 1, kl, okk, ki, 1, il, oki⟩, by rw [h1, h2, h3, h4]; rfl⟩
theorem bulk_node (n : Nd) : bulkAs n.cs = bulkEs (n.cells.map Ce.c) + bulkEs (n.keys.map byC) + bulkEs (n.kids.map intC) + 4 := by
  simp only [Nd.cs, bulkAs, bulkA]; omega
theorem node_few (n : Nd) {B : Nat} (h : bulkAs n.cs ≤ B) (hB : B ≤ 1048576) : Few n ∧ (formB n).length ≤ 80 * B + 20 := by
  rw [bulk_node] at h
  have h1 := flat_le cellB Ce.c cell_le (fun c => by rw [bulk_cell]; omega) n.cells (by omega)
  have h2 := flat_le (fun k : By => fb k.l) byC (fun b hb => by
    simp only [byC, bulkAs, bulk_by] at hb ⊢
    have := fb_le b.l (by omega)
    omega) (fun b => by simp only [byC, bulkAs, bulk_by]; omega) n.keys (by omega)
  have h3 := flat_le (fun k : Int => leb (u64 k)) intC (fun b hb => by
    simp only [intC, bulkAs, bulkA]
    have := leb_len10 (u64_lt b)
    omega) (fun b => by simp only [intC, bulkAs, bulkA]; omega) n.kids (by omega)
  refine ⟨⟨by omega, by omega, by omega⟩, ?_⟩
  have l1 := leb_len10 (show n.cells.length < 18446744073709551616 by omega)
  have l2 := leb_len10 (show n.keys.length < 18446744073709551616 by omega)
  unfold formB
  split <;> simp only [List.length_append, List.length_cons, List.length_nil] <;> omega

theorem argOf_node (l : List AV) : argOf Try.prog 26 l = .agg l := by
  unfold argOf
  rw [Try.underlying26]
mutual
theorem bulk_eq {H : Type} : ∀ d : DataW H, bulkD d ≤ Rows.uptoBulk d
  | .lit l => by cases l <;> simp [bulkD, Rows.uptoBulk]
  | .nil => by simp [bulkD, Rows.uptoBulk]
  | .ptr d => by simp only [bulkD, Rows.uptoBulk]; have := bulk_eq d; omega
  | .slice a b => by simp only [bulkD, Rows.uptoBulk]; have := bulk_eqs a; have := bulk_eqs b; omega
  | .agg a => by simp only [bulkD, Rows.uptoBulk]; have := bulk_eqs a; omega
  | .iface _ d => by simp only [bulkD, Rows.uptoBulk]; have := bulk_eq d; omega
  | .map e => by simp only [bulkD, Rows.uptoBulk]; omega
  | .held _ => by simp [bulkD, Rows.uptoBulk]
theorem bulk_eqs {H : Type} : ∀ l : List (DataW H), bulkDs l ≤ Rows.uptoBulkAll l
  | [] => by simp [bulkDs, Rows.uptoBulkAll]
  | d :: r => by simp only [bulkDs, Rows.uptoBulkAll]; have := bulk_eq d; have := bulk_eqs r; omega
end
theorem argOf_bytes (v : AV) : argOf Try.prog 27 [v] = v := by
  unfold argOf
  rw [Try.underlying27]; rfl
theorem own : ownKnob Try.prog.godebug = none := by kernel_rfl
theorem small_of {H : Type} {ds gs : List (DataW H)} (h : Rows.uptoSmall H (ds ++ gs) = true) : bulkDs ds ≤ 1048576 := by
  have h1 := bulk_eqs (ds ++ gs)
  have h2 := of_decide_eq_true h
  have h3 : bulkDs (ds ++ gs) = bulkDs ds + bulkDs gs := by
    clear h h1 h2
    induction ds with
    | nil => simp [bulkDs]
    | cons d r ih => simp only [List.cons_append, bulkDs, ih]; omega
  omega
end Go.Proofs.Ytogjoenpliphdaa
