import Derived.Test.YtgeaibhgaihobaaGreatDoorFd
import Derived.Test.YtgeaibhgaihobaaGreatDoorB4
import Derived.Test.YtgeaibhgaihobaaGreatDoorRows
set_option maxHeartbeats 4000000
namespace Go.Proofs.YtgeaibhgaihobaaGreatDoor
open Go.Abs
theorem w2 : Tryz.prog.cellsOf 2 = 1 := by kernel_rfl
theorem w3 : Tryz.prog.cellsOf 3 = 1 := by kernel_rfl
theorem w9 : Tryz.prog.cellsOf 9 = 1 := by kernel_rfl
theorem wL : Tryz.prog.cellsOf 28 = 1 := by kernel_rfl
theorem wV : Tryz.prog.cellsOf 30 = 4 := by kernel_rfl
theorem wOp : Tryz.prog.cellsOf 32 = 12 := by kernel_rfl
theorem laid : laidOutB Tryz.prog = true := by kernel_rfl
def tys : List TypeId := [2, 3, 9, 28, 30, 41, 45, 43, 24, 47, 25, 27, 32, 22]
theorem fine : zsy Tryz.prog tys = true := by kernel_rfl
theorem list4 : ∀ {l : List AV}, l.length = 4 → ∃ a0 a1 a2 a3, l = [a0, a1, a2, a3]
 | [a0, a1, a2, a3], _ => ⟨a0, a1, a2, a3, rfl⟩
theorem list12 : ∀ {l : List AV}, l.length = 12 → ∃ a0 a1 a2 a3 a4 a5 a6 a7 a8 a9 a10 a11, l = [a0, a1, a2, a3, a4, a5, a6, a7, a8, a9, a10, a11]
 | [a0, a1, a2, a3, a4, a5, a6, a7, a8, a9, a10, a11], _ => ⟨a0, a1, a2, a3, a4, a5, a6, a7, a8, a9, a10, a11, rfl⟩
theorem zfr {α β : Type} {f : α → β} {Q : α → Prop} : ∀ {l : List β}, (∀ x ∈ l, ∃ a, x = f a ∧ Q a) → ∃ r : List α, l = r.map f ∧ ∀ a ∈ r, Q a
 | [], _ => ⟨[], rfl, by simp⟩
 | b :: l, h => by
   obtain ⟨a, rfl, ha⟩ := h b (by simp)
   obtain ⟨r, rfl, hr⟩ := zfr (l := l) (f := f) (Q := Q) (fun x hx => h x (by simp [hx]))
   exact ⟨a :: r, rfl, fun x hx => by rcases List.mem_cons.1 hx with rfl | hx; exact ha; exact hr x hx⟩
theorem ztj {P : Program} {m : Nat} {t e : TypeId} {cs : List AV} {z : Nat} (h : Ty P m t cs) (hu : P.underlying t = some (.slice e)) (hz : P.cellsOf e = z) :
   ∃ (k : SK) (es : List (List AV)) (n : Nat), cs = [.sl k z es] ∧ (k = .nil → es = []) ∧ m = n + 1 ∧ ∀ x ∈ es, Ty P n e x := by
 cases m with
 | zero => exact h.elim
 | succ m =>
   unfold Ty at h
   rw [hu] at h
   subst hz
   rcases h with rfl | ⟨es, rfl, h⟩
   · exact ⟨.nil, [], m, rfl, fun _ => rfl, rfl, by simp⟩
   · exact ⟨.open_, es, m, rfl, fun h => (by cases h), rfl, h⟩
theorem zfl {x : List AV} : ∀ {l : List (List AV)}, x ∈ l → zb1 x ≤ zec l
 | [], h => by simp at h
 | y :: r, h => by
   simp only [zec]
   rcases List.mem_cons.1 h with rfl | h
   · omega
   · have := zfl h; omega
theorem zgj {α : Type} {f : α → List AV} (hf : ∀ a, 0 < zb1 (f a)) : ∀ l : List α, l.length ≤ zec (l.map f)
 | [] => by simp
 | a :: r => by
   have := zgj hf r
   have := hf a
   simp only [List.map_cons, zec, List.length_cons]; omega
theorem zp5 (v : Vl) : 0 < zb1 v.c := by
 obtain ⟨k, n, s, sk, z, l⟩ := v
 simp only [Vl.c, zb1, zjf]; omega
theorem zso : ∀ (M m : Nat) (cs : List AV), m ≤ M → Ty Tryz.prog m 30 cs → zb1 cs ≤ 1048576 → ∃ v : Vl, cs = v.c ∧ v.ok
 | 0, m, cs, hm, h, hb => by
   obtain ⟨hl, n, hn, hf⟩ := h.struct Tryz.underlying30
   omega
 | M + 1, m, cs, hm, h, hb => by
   obtain ⟨hl, n, hn, hf⟩ := h.struct Tryz.underlying30
   clear h
   simp only [wV] at hl
   obtain ⟨a, b, c, d, rfl⟩ := list4 hl
   simp only [List.forall_mem_cons, List.not_mem_nil, false_implies, implies_true, and_true] at hf
   obtain ⟨h1, h2, h3, h4⟩ := hf
   simp only [w2, w3, w9, wL, List.drop_zero, List.drop_succ_cons, List.take_succ_cons, List.take_zero] at h1 h2 h3 h4
   obtain ⟨k, h1, _⟩ := h1.int Tryz.underlying3
   obtain ⟨i, h2, _⟩ := h2.int Tryz.underlying2
   obtain ⟨s, h3⟩ := h3.str Tryz.underlying9
   obtain ⟨sk, es, n', h4, hk, hn', he⟩ := ztj h4 Tryz.underlying28 wV
   have h1 := (List.cons.inj h1).1
   have h2 := (List.cons.inj h2).1
   have h3 := (List.cons.inj h3).1
   have h4 := (List.cons.inj h4).1
   subst h1
   subst h2
   subst h3
   subst h4
   simp only [zb1, zjf] at hb
   obtain ⟨l, rfl, hlo⟩ := zfr (l := es) (f := Vl.c) (Q := Vl.ok) (fun x hx => zso M n' x (by omega) (he x hx) (by have := zfl hx; omega))
   have hlen := zgj zp5 l
   refine ⟨.mk k i s sk 4 l, by simp only [Vl.c, Vl.cs_map], by omega, by omega, ⟨.inl rfl, fun h => ?_⟩, (Vl.oks_iff l).2 hlo⟩
   have := hk h
   simpa using this
theorem ztg (m : Nat) (cs : List AV) (h : Ty Tryz.prog m 30 cs) (hb : zb1 cs ≤ 1048576) : ∃ v : Vl, cs = v.c ∧ v.ok := zso m m cs (Nat.le_refl _) h hb
theorem ty_vals {m : Nat} {cs : List AV} (h : Ty Tryz.prog m 28 cs) (hb : zb1 cs ≤ 1048576) : ∃ (k : SK) (l : List Vl), cs = [.sl k 4 (l.map Vl.c)] ∧ OkS k 4 4 l ∧ (∀ x ∈ l, x.ok) ∧ l.length ≤ 1048576 := by
 obtain ⟨k, es, n, rfl, hk, hn, he⟩ := ztj h Tryz.underlying28 wV
 simp only [zb1, zjf] at hb
 obtain ⟨l, rfl, hlo⟩ := zfr (l := es) (f := Vl.c) (Q := Vl.ok) (fun x hx => ztg n x (he x hx) (by have := zfl hx; omega))
 have hlen := zgj zp5 l
 exact ⟨k, l, rfl, ⟨.inl rfl, fun h => by simpa using hk h⟩, hlo, by omega⟩
theorem ty_op {m : Nat} {cs : List AV} (h : Ty Tryz.prog m 32 cs) (hb : zb1 cs ≤ 1048576) : ∃ x : Opx, cs = x.c ∧ x.ok := by
 obtain ⟨hl, n, rfl, hf⟩ := h.struct Tryz.underlying32
 simp only [wOp] at hl
 obtain ⟨a0, a1, a2, a3, a4, a5, a6, a7, a8, a9, a10, a11, rfl⟩ := list12 hl
 simp only [List.forall_mem_cons, List.not_mem_nil, false_implies, implies_true, and_true] at hf
 obtain ⟨h1, h2, h3, h4, h5, h6⟩ := hf
 simp only [w2, w3, w9, wV, List.drop_zero, List.drop_succ_cons, List.take_succ_cons, List.take_zero] at h1 h2 h3 h4 h5 h6
 obtain ⟨d, h1, _⟩ := h1.int Tryz.underlying3
 obtain ⟨s, h2⟩ := h2.str Tryz.underlying9
 obtain ⟨o, h3, _⟩ := h3.int Tryz.underlying2
 obtain ⟨i, h4, _⟩ := h4.int Tryz.underlying2
 have h1 := (List.cons.inj h1).1
 have h2 := (List.cons.inj h2).1
 have h3 := (List.cons.inj h3).1
 have h4 := (List.cons.inj h4).1
 subst h1
 subst h2
 subst h3
 subst h4
 simp only [zb1, zjf] at hb
 obtain ⟨e, he, heo⟩ := ztg n [a4, a5, a6, a7] h5 (by simp only [zb1]; omega)
 obtain ⟨v, hv, hvo⟩ := ztg n [a8, a9, a10, a11] h6 (by simp only [zb1]; omega)
 exact ⟨⟨d, s, o, i, e, v⟩, by simp only [Opx.c, ← he, ← hv, List.cons_append, List.nil_append], by simp only; omega, heo, hvo⟩
theorem z0t (x : Opx) : 0 < zb1 x.c := by
 simp only [Opx.c, List.cons_append, List.nil_append, zb1, zjf]; omega
theorem z4s {m : Nat} {cs : List AV} (h : Ty Tryz.prog m 22 cs) (hb : zb1 cs ≤ 1048576) : ∃ (k : SK) (l : List Opx), cs = [.sl k 12 (l.map Opx.c)] ∧ l.length ≤ 137438953472 ∧ ∀ x ∈ l, x.ok := by
 obtain ⟨k, es, n, rfl, hk, hn, he⟩ := ztj h Tryz.underlying22 wOp
 simp only [zb1, zjf] at hb
 obtain ⟨l, rfl, hlo⟩ := zfr (l := es) (f := Opx.c) (Q := Opx.ok) (fun x hx => ty_op (he x hx) (by have := zfl hx; omega))
 have hlen := zgj z0t l
 exact ⟨k, l, rfl, by omega, hlo⟩
mutual
theorem zph {H : Type} : ∀ d : DataW H, zeb d ≤ Rows.uptoBulk d
 | .lit l => by cases l <;> simp [zeb, Rows.uptoBulk]
 | .nil => by simp [zeb, Rows.uptoBulk]
 | .ptr d => by simp only [zeb, Rows.uptoBulk]; have := zph d; omega
 | .slice a b => by simp only [zeb, Rows.uptoBulk]; have := zht a; have := zht b; omega
 | .agg a => by simp only [zeb, Rows.uptoBulk]; have := zht a; omega
 | .iface _ d => by simp only [zeb, Rows.uptoBulk]; have := zph d; omega
 | .map e => by simp only [zeb, Rows.uptoBulk]; omega
 | .held _ => by simp [zeb, Rows.uptoBulk]
theorem zht {H : Type} : ∀ l : List (DataW H), zcz l ≤ Rows.uptoBulkAll l
 | [] => by simp [zcz, Rows.uptoBulkAll]
 | d :: r => by simp only [zcz, Rows.uptoBulkAll]; have := zph d; have := zht r; omega
end
theorem own : ownKnob Tryz.prog.godebug = none := by kernel_rfl
theorem zwb {H : Type} {ds gs : List (DataW H)} (h : Rows.uptoSmall H (ds ++ gs) = true) : zcz ds ≤ 1048576 := by
 have h1 := zht (ds ++ gs)
 have h2 := of_decide_eq_true h
 have h3 : zcz (ds ++ gs) = zcz ds + zcz gs := by
   clear h h1 h2
   induction ds with
   | nil => simp [zcz]
   | cons d r ih => simp only [List.cons_append, zcz, ih]; omega
 omega
theorem zs6 (v : AV) : zla Tryz.prog 22 [v] = v := by
 unfold zla
 rw [Tryz.underlying22]; rfl
end Go.Proofs.YtgeaibhgaihobaaGreatDoor
