/-
 Own work. An abstract machine for the loaded programs, and that it is sound: many texts, merged by program.
-/
import Derived.Test.YtgeaibhgaihobaaGreatDoorFc
import Derived.RangeFuncRecord
import Derived.RangeFuncIn
set_option linter.unusedSimpArgs false
set_option linter.unusedVariables false
section
set_option linter.unusedSimpArgs false
set_option linter.unusedVariables false
namespace Go.Abs
open Go.RowKit
section
variable {cx : Cx} {it : Bool}
theorem zwi {o : AIns} {s r : IS} (h : iins cx o s = some r) : s.tr <+: r.tr := by
 unfold iins at h
 split at h
 · simp only [zaa] at h
   obtain ⟨w, hw, h⟩ := h
   cases w with
   | true =>
     simp only [way, iyield, zaa, Option.some.injEq] at h
     obtain ⟨x, hx, y, hy, rfl⟩ := h
     exact List.prefix_append _ _
   | false =>
     simp only [way, Option.some.injEq] at h
     subst h
     exact List.prefix_refl _
 · simp only [zaa, Option.some.injEq] at h
   obtain ⟨x, hx, rfl⟩ := h
   exact List.prefix_refl _
theorem zms : ∀ {l : List AIns} {s r : IS}, ireg cx l s = some r → s.tr <+: r.tr
 | [], s, r, h => by
   simp only [ireg, Option.some.injEq] at h
   subst h
   exact List.prefix_refl _
 | o :: l, s, r, h => by
   simp only [ireg, zaa] at h
   obtain ⟨x, hx, h⟩ := h
   exact (zwi hx).trans (zms h)
theorem zh8 {body : IS → IRes} (hb : ∀ s r, body s = some r → s.tr <+: r.2.tr) {keep : List (Nat × H)} : ∀ (m : Nat) (vs : List AV) (tr : List (List AV)) (md : YM) (r : AExit × IS), zde it body keep m vs tr md = some r → tr <+: r.2.tr
 | 0, _, _, _, _, h => by simp [zde] at h
 | m + 1, vs, tr, md, r, h => by
   simp only [zde, zaa] at h
   obtain ⟨⟨e, s⟩, h1, h2⟩ := h
   have p1 := hb _ _ h1
   cases e with
   | normal =>
     simp only [ziw, zaa] at h2
     obtain ⟨vs', _, h2⟩ := h2
     exact p1.trans (zh8 hb m _ _ _ _ h2)
   | exit id =>
     simp only [ziw, Option.some.injEq] at h2
     subst h2
     exact p1
   | ret =>
     simp only [ziw, Option.some.injEq] at h2
     subst h2
     exact p1
theorem zgd {body : IS → IRes} {keep : List (Nat × H)} {vs : List AV} {tr : List (List AV)} {md : YM} {r : AExit × IS} (h : iloop it body keep vs tr md = some r) : ∃ m, zde it body keep m vs tr md = some r := by
 unfold iloop at h
 split at h
 · rename_i hex
   injection h with h
   refine ⟨Classical.choose hex, ?_⟩
   rw [← h]
   exact Classical.choose_spec (Classical.choose_spec hex)
 · cases h
theorem zgl {body : IS → IRes} (hb : ∀ s r, body s = some r → s.tr <+: r.2.tr) {ps : List Nat} {keep : List (Nat × H)} : ∀ (xs : List (List AV)) (vs : List AV) (tr : List (List AV)) (md : YM) (r : AExit × IS), irange it body ps keep xs vs tr md = some r → tr <+: r.2.tr
 | [], vs, tr, md, r, h => by
   simp only [irange, Option.some.injEq] at h
   subst h
   exact List.prefix_refl _
 | x :: xs, vs, tr, md, r, h => by
   simp only [irange, zaa] at h
   obtain ⟨st, _, ⟨e, s⟩, h1, h2⟩ := h
   have p1 := hb _ _ h1
   cases e with
   | normal =>
     simp only [zdd, zaa] at h2
     obtain ⟨vs', _, h2⟩ := h2
     exact p1.trans (zgl hb xs _ _ _ _ h2)
   | exit id =>
     simp only [zdd, zaa, Option.some.injEq] at h2
     obtain ⟨vs', _, rfl⟩ := h2
     exact p1
   | ret =>
     simp only [zdd, zaa, Option.some.injEq] at h2
     obtain ⟨vs', _, rfl⟩ := h2
     exact p1
theorem zeq : ∀ (c : ACode) (s : IS) (r : AExit × IS), iexec cx it c s = some r → s.tr <+: r.2.tr := by
 intro c
 induction c with
 | skip => intro s r h; simp only [iexec, Option.some.injEq] at h; subst h; exact List.prefix_refl _
 | exit id => intro s r h; simp only [iexec, Option.some.injEq] at h; subst h; exact List.prefix_refl _
 | ret => intro s r h; simp only [iexec, Option.some.injEq] at h; subst h; exact List.prefix_refl _
 | fail => intro s r h; simp [iexec] at h
 | reg l =>
   intro s r h
   simp only [iexec, zaa, Option.some.injEq] at h
   obtain ⟨s', h1, rfl⟩ := h
   exact zms h1
 | draw l ps =>
   intro s r h
   simp only [iexec, zaa, zac, Option.some.injEq] at h
   obtain ⟨x, _, _, rfl⟩ := h
   exact List.prefix_refl _
 | seq a b iha ihb =>
   intro s r h
   simp only [iexec, zaa] at h
   obtain ⟨⟨e, s1⟩, h1, h2⟩ := h
   have p1 := iha _ _ h1
   cases e with
   | normal => exact p1.trans (ihb _ _ h2)
   | exit id => simp only [zdb, Option.some.injEq] at h2; subst h2; exact p1
   | ret => simp only [zdb, Option.some.injEq] at h2; subst h2; exact p1
 | cond c a b iha ihb =>
   intro s r h
   simp only [iexec] at h
   revert h
   generalize ev s.st.sl c = v
   intro h
   cases v <;> simp only [zj2] at h <;> try cases h
   rename_i t
   cases t with
   | true => exact iha _ _ h
   | false => exact ihb _ _ h
 | block id c ih =>
   intro s r h
   simp only [iexec, zaa] at h
   obtain ⟨⟨e, s1⟩, h1, h2⟩ := h
   have p1 := ih _ _ h1
   cases e with
   | normal => simp only [ze5, Option.some.injEq] at h2; subst h2; exact p1
   | ret => simp only [ze5, Option.some.injEq] at h2; subst h2; exact p1
   | exit id' =>
     simp only [ze5] at h2
     split at h2
     · injection h2 with h2; subst h2; exact p1
     · injection h2 with h2; subst h2; exact p1
 | loop keep c ih =>
   intro s r h
   simp only [iexec, zaa] at h
   obtain ⟨vs, _, h⟩ := h
   obtain ⟨m, h⟩ := zgd h
   exact zh8 ih m _ _ _ _ h
 | rangef t ps keep a b iha ihb =>
   intro s r h
   simp only [iexec, zaa] at h
   obtain ⟨vs, _, es, _, h⟩ := h
   refine zgl (fun s r h => ?_) _ _ _ _ _ h
   simp only [zaa] at h
   obtain ⟨⟨e, s1⟩, h1, h2⟩ := h
   have p1 := iha _ _ h1
   cases e with
   | normal => exact p1.trans (ihb _ _ h2)
   | exit id => simp [zbz] at h2
   | ret => simp [zbz] at h2
end
def XI (w : World) (Z : Nat → Prop) (hp : Hp) (g : Gm) : Nat → Prop := (Env.of w Z hp g).X
theorem Turn.refl {w : World} {Z : Nat → Prop} (h : ∀ i, Z i → i < w.heap.size) : Turn w w Z Z := ⟨Nat.le_refl _, rfl, rfl, rfl, fun _ _ h => h, fun _ _ _ => rfl, fun _ h => .inl h, h⟩
theorem Turn.trans {w w1 w2 : World} {X X1 X2 : Nat → Prop} (h : Turn w w1 X X1) (k : Turn w1 w2 X1 X2) : Turn w w2 X X2 := by
 refine ⟨Nat.le_trans h.size k.size, k.os.trans h.os, k.tape.trans h.tape, k.output.trans h.output, fun gb n hs => k.sizes _ _ (h.sizes _ _ hs), fun i hi hx => ?_, fun i hx => ?_, k.lt⟩
 · rw [k.blk i (Nat.lt_of_lt_of_le hi h.size) ?_, h.blk i hi hx]
   intro h1
   rcases h.less i h1 with h2 | h2
   · exact hx h2
   · omega
 · rcases k.less i hx with h1 | h1
   · exact h.less i h1
   · exact .inr (Nat.le_trans h.size h1)
theorem Path.turn {w w' : World} {Z : Nat → Prop} {hp hp' : Hp} {g g' : Gm} (p : Path w w' Z hp hp' g g') (hi : Inv (Env.of w' Z hp' g')) : Turn w w' (XI w Z hp g) (XI w' Z hp' g') :=
 ⟨p.size, p.os, p.tape, p.output, p.sizes, fun i h hx => p.blk i h fun hm => hx (.inr hm), p.less, fun _ hx => hi.lt hx⟩
structure Way (w w' : World) (Z : Nat → Prop) (hp hp' : Hp) (g g' : Gm) : Prop where
 less : ∀ i, (Env.of w' Z hp' g').X i → (Env.of w Z hp g).X i ∨ w.heap.size ≤ i
 os : w'.os = w.os
 tape : w'.tape = w.tape
 output : w'.output = w.output
 size : w.heap.size ≤ w'.heap.size
 sizes : ∀ gb n, zay w gb n → zay w' gb n
 blk : ∀ (i : Nat) (o : Obj), w.heap[i]? = some o → ¬ Mine hp g i → i < g.b ∨ zi0 o = true → w'.heap[i]? = some o
 yb : g'.y = g.y ∧ g'.b = g.b
theorem Path.way {w w' : World} {Z : Nat → Prop} {hp hp' : Hp} {g g' : Gm} (p : Path w w' Z hp hp' g g') : Way w w' Z hp hp' g g' :=
 ⟨p.less, p.os, p.tape, p.output, p.size, p.sizes, fun i o hi hm _ => by rw [p.blk i (za6 hi) hm]; exact hi, p.yb⟩
theorem Way.trans {w w1 w2 : World} {Z : Nat → Prop} {hp hp1 hp2 : Hp} {g g1 g2 : Gm} (h : Way w w1 Z hp hp1 g g1) (hi : Inv (Env.of w1 Z hp1 g1)) (k : Way w1 w2 Z hp1 hp2 g1 g2) : Way w w2 Z hp hp2 g g2 := by
 refine ⟨fun i hx => ?_, k.os.trans h.os, k.tape.trans h.tape, k.output.trans h.output, Nat.le_trans h.size k.size, fun gb n hs => k.sizes _ _ (h.sizes _ _ hs), fun i o hio hm ho => ?_, k.yb.1.trans h.yb.1, k.yb.2.trans h.yb.2⟩
 · rcases k.less i hx with hx | hx
   · exact h.less i hx
   · exact .inr (Nat.le_trans h.size hx)
 · refine k.blk i o (h.blk i o hio hm ho) ?_ (by rw [h.yb.2]; exact ho)
   rintro ⟨t, b, h1, h2, h3⟩
   rcases h.less i (.inr ⟨t, b, h1, h2, h3⟩) with hx | hx
   · rcases hx with hz | hx
     · exact hi.dis t b h1 h2 (by show Z (g1 t); rw [h3]; exact hz)
     · exact hm hx
   · have := za6 hio; omega
theorem Still.step {w w' : World} {Z : Nat → Prop} {hp : Hp} {g : Gm} {b : Nat} (hi : Inv (Env.of w Z hp g)) (hz : ∀ i, Z i → i < w.heap.size) (s : Still b w w') : Ext (Env.of w Z hp g) (Env.of w' Z hp g) ∧ Inv (Env.of w' Z hp g) := by
 have hE : Ext (Env.of w Z hp g) (Env.of w' Z hp g) := by
   refine ⟨⟨fun _ => Nat.le_refl _, fun k b hb _ => ⟨b, hb, rfl, rfl, rfl, fun _ => ⟨rfl, rfl, rfl⟩⟩, ⟨rfl, rfl⟩⟩, fun b hb off v hv => ⟨?_, hb⟩, fun gb n hs => ?_⟩
   · have : ∃ o, w.heap[b]? = some o ∧ zi0 o = true := by
       simp only [World.cell?] at hv
       split at hv
       · rename_i arr ty fr ho
         exact ⟨_, ho, rfl⟩
       · cases hv
     obtain ⟨o, ho, h1⟩ := this
     have e : w'.cell? ⟨b, off, none⟩ = w.cell? ⟨b, off, none⟩ := World.cell?_of_block (by rw [ho]; exact s.blk b o ho (.inr h1))
     rw [e]; exact hv
   · obtain ⟨arr, ty, fr, h1, h2⟩ := hs
     exact ⟨arr, ty, fr, s.blk gb _ h1 (.inr rfl), h2⟩
 refine ⟨hE, fun k b hb => ?_, hi.dis, hi.inj, fun i hi' => Nat.lt_of_lt_of_le (hz i hi') s.size⟩
 obtain ⟨e1, e2⟩ := hi.blk k b hb
 refine ⟨e1, e2.ext hE fun hr => ?_⟩
 have hlt := e2.lt hr
 have ho : w.heap[g k]? = some w.heap[g k] := Array.getElem?_eq_getElem hlt
 have hown : zi0 w.heap[g k] = true := by
   cases hc : zi0 w.heap[g k] with
   | true => rfl
   | false => exact absurd ⟨k, b, hb, hr, rfl⟩ (hi.not_mine ho hc)
 show w'.heap[g k]? = w.heap[g k]?
 rw [ho]
 exact s.blk _ _ ho (.inr hown)
theorem zeu {w : World} {r b : Nat} {o o' : Obj} (h : w.heap[r]? = some o) (ho : zi0 o = false) (hb : b ≤ r) : Still b w (w.putObj r o') := by
 refine ⟨by simp, rfl, rfl, rfl, fun i oi hi hc => ?_⟩
 rw [World.putObj_heap_other]
 · exact hi
 · rintro rfl
   rcases hc with hc | hc
   · omega
   · rw [h] at hi
     injection hi with hi
     subst hi
     rw [ho] at hc
     cases hc
theorem Still.way {w w' : World} {Z : Nat → Prop} {hp : Hp} {g : Gm} {b : Nat} (s : Still b w w') (hb : g.b ≤ b) (hs : ∀ gb n, zay w gb n → zay w' gb n) : Way w w' Z hp hp g g :=
 ⟨fun _ h => .inl h, s.os, s.tape, s.output, s.size, hs, fun i o hi _ hc => s.blk i o hi (hc.imp (fun h => Nat.lt_of_lt_of_le h hb) id), rfl, rfl⟩
structure Adv (w w' : World) (Z Z' : Nat → Prop) (hp hp' : Hp) (g g' : Gm) : Prop where
 turn : Turn w w' (XI w Z hp g) (XI w' Z' hp' g')
 yb : g'.y = g.y ∧ g'.b = g.b
theorem Adv.refl {w : World} {Z : Nat → Prop} {hp : Hp} {g : Gm} (hi : Inv (Env.of w Z hp g)) : Adv w w Z Z hp hp g g := ⟨Turn.refl fun _ hx => hi.lt hx, rfl, rfl⟩
theorem Adv.trans {w w1 w2 : World} {Z Z1 Z2 : Nat → Prop} {hp hp1 hp2 : Hp} {g g1 g2 : Gm} (h : Adv w w1 Z Z1 hp hp1 g g1) (k : Adv w1 w2 Z1 Z2 hp1 hp2 g1 g2) : Adv w w2 Z Z2 hp hp2 g g2 :=
 ⟨h.turn.trans k.turn, k.yb.1.trans h.yb.1, k.yb.2.trans h.yb.2⟩
theorem Path.adv {w w' : World} {Z : Nat → Prop} {hp hp' : Hp} {g g' : Gm} (p : Path w w' Z hp hp' g g') (hi : Inv (Env.of w' Z hp' g')) : Adv w w' Z Z hp hp' g g' := ⟨p.turn hi, p.yb⟩
abbrev YP := List (List AV) → YM → World → (Nat → Prop) → Hp → Gm → Prop
structure IRel (YB : YP) (n : Nat) (fxv : Nat → Option Value) (it : Bool) (s : IS) (a : Act) (w : World) (g : Gm) (Z : Nat → Prop) : Prop where
 sts : Sts n fxv w Z s.st g a
 base : ∃ w0 hp0 g0, YB s.tr s.md w0 Z hp0 g0 ∧ Way w0 w Z hp0 s.st.hp g0 g
 yl : it = true → fxv 0 = some (.func (.yield g.y) #[] #[])
def zki (P : Program) (es : List (List AV)) (YB : YP) : Prop :=
 ∀ tr md w0 Z hp0 g0 w hp g x b md' xs, YB tr md w0 Z hp0 g0 → Way w0 w Z hp0 hp g0 g → es[tr.length]? = some x → md.next = some (b, md') → (∀ i, Z i → i < w.heap.size) → flats x = true → Reps (Env.imm w Z) x xs →
   YieldAt (FR none) 0 P g.y xs.toArray w fun e w' => e = .returned (.bool b) ∧ ∃ Z', Turn w w' Z Z' ∧ ∀ hp' (g' : Gm), g'.y = g.y → g'.b = g.b → (∀ i, ¬ Mine hp' g' i) → YB (tr ++ [x]) md' w' Z' hp' g'
theorem zfb : ∀ (hp : Hp) (k : Nat), look (deads hp) k = none
 | [], k => rfl
 | (t, .live b) :: r, k => by
   show (if k = t then none else look (deads r) k) = none
   split
   · rfl
   · exact zfb r k
 | (t, .dead n) :: r, k => by
   show (if k = t then none else look (deads r) k) = none
   split
   · rfl
   · exact zfb r k
theorem zkp : ∀ (hp : Hp) (k : Nat), zad (deads hp) k = zad hp k
 | [], k => rfl
 | (t, .live b) :: r, k => by
   show (if k = t then b.ver + 1 else zad (deads r) k) = if k = t then b.ver + 1 else zad r k
   rw [zkp r k]
 | (t, .dead n) :: r, k => by
   show (if k = t then n else zad (deads r) k) = if k = t then n else zad r k
   rw [zkp r k]
theorem zir (hp : Hp) (g : Gm) (i : Nat) : ¬ Mine (deads hp) g i := by
 rintro ⟨k, b, h, _⟩
 rw [zfb] at h
 cases h
theorem Reps.imm {w w' : World} {Y Y' : Nat → Prop} : ∀ {as : List AV} {vs : List Value} (hf : flats as = true) (h : Reps (Env.imm w Y) as vs)
   (hc : ∀ b, ¬ Y b → ∀ off u, w.cell? ⟨b, off, none⟩ = some u → w'.cell? ⟨b, off, none⟩ = some u ∧ ¬ Y' b) (hs : ∀ gb n, zay w gb n → zay w' gb n), Reps (Env.imm w' Y') as vs
 | [], vs, _, h, _, _ => by simpa only [Reps] using h
 | a :: r, vs, hf, h, hc, hs => by
   simp only [Reps] at h ⊢
   simp only [flats, Bool.and_eq_true] at hf
   obtain ⟨v, vs', h1, h2, h3⟩ := h
   exact ⟨v, vs', h1, h2.imm hf.1 hc hs, Reps.imm hf.2 h3 hc hs⟩
theorem zss {w : World} {Z : Nat → Prop} {g : Gm} : ∀ (as : List AV) (vs : List Value) (hp : Hp) (x : List AV × Hp), frzs as hp = some x → Inv (Env.of w Z hp g) → Reps (Env.of w Z hp g) as vs →
   Step w w Z hp x.2 g g ∧ flats x.1 = true ∧ Reps (Env.of w Z x.2 g) x.1 vs
 | [], vs, hp, x, h, hi, hr => by
   simp only [frzs, Option.some.injEq] at h
   subst h
   exact ⟨Step.refl hi, rfl, hr⟩
 | a :: r, vs, hp, x, h, hi, hr => by
   simp only [frzs, zaa, Option.some.injEq] at h
   obtain ⟨⟨a', ks, hp1⟩, h1, y, h2, rfl⟩ := h
   simp only [Reps] at hr
   obtain ⟨v, vs', rfl, hv, hvs⟩ := hr
   obtain ⟨s1, f1, r1⟩ := zuq hi hv h1
   obtain ⟨s2, f2, r2⟩ := zss r vs' hp1 y h2 s1.inv (hvs.ext s1.ext)
   refine ⟨s1.trans s2, by simp [flats, f1, f2], ?_⟩
   simp only [Reps]
   exact ⟨v, vs', rfl, r1.ext s2.ext, r2⟩
section
variable {P : Program} {cx : Cx} {es : List (List AV)} {YB : YP}
theorem zt5 {op : Op} {x : Opd} {l : List Opd} (h : cop P op = some (.callv x l)) : ∃ c t, op = .call c ∧ c.callee = .value (.tmp t) ∧ x = .tmp t ∧ copds c.args.toList = some l := by
 cases op with
 | call c =>
   simp only [cop] at h
   unfold ccall at h
   split at h
   · split at h
     · simp only [Option.map_eq_some_iff] at h
       obtain ⟨_, _, h⟩ := h
       cases h
     · cases h
   · rename_i t ht
     simp only [Option.map_eq_some_iff] at h
     obtain ⟨l', h1, h2⟩ := h
     cases h2
     exact ⟨c, t, rfl, ht, rfl, h1⟩
   · cases h
   · cases h
   · split at h <;> (try split at h) <;> (try split at h) <;> (try split at h) <;> (try cases h)
     all_goals
       simp only [Option.map_eq_some_iff] at h
       obtain ⟨_, _, h⟩ := h
       cases h
 | makeMap t r =>
   exfalso
   cases r with
   | some x => simp [cop] at h
   | none =>
     simp only [cop] at h
     split at h
     · injection h with h
       cases h
     · cases h
 | _ =>
   exfalso
   simp only [cop] at h
   first
     | (cases h; done)
     | (simp only [Option.map_eq_some_iff] at h; obtain ⟨_, _, h⟩ := h; cases h; done)
     | (repeat' split at h) <;> (try cases h)
theorem zru {b : Nat} {op : AOp} {x : Opd} {l : List Opd} (h : ibox b op = .callv x l) : op = .callv x l := by
 match b with
 | 0 => cases op <;> exact h
 | 1 => cases op <;> simp only [ibox] at h <;> first | exact h | cases h
 | 2 => cases op <;> simp only [ibox] at h <;> first | exact h | cases h
 | 3 => cases op <;> simp only [ibox] at h <;> first | exact h | cases h
 | 4 => cases op <;> simp only [ibox] at h <;> first | exact h | cases h
 | 5 => cases op <;> simp only [ibox] at h <;> first | exact h | cases h
 | n + 6 => cases op <;> exact h
theorem zgr {sl : Sl} {op : AOp} {args : List AV} (h : zaj sl op = some args) : ∃ x l, op = .callv x l ∧ ev sl x = .yl ∧ args = evs sl l := by
 unfold zaj at h
 split at h
 · rename_i x l
   cases hx : ev sl x <;> simp only [hx, yaV] at h <;> try cases h
   exact ⟨x, l, rfl, hx, rfl⟩
 · cases h
theorem zy7 {ops : Array Oper} {n : Nat} {ok : Ok} {fxv : Nat → Option Value} {it : Bool} {ro : Option Nat} {Q : Exit → Act → World → Prop} (hcx : CxOk P cx) (hok : ze9 ok n fxv) (hY : zki P es YB) {s : IS} {a : Act} {w : World} {g : Gm} {Z : Nat → Prop} (h : IRel YB n fxv it s a w g Z)
   {i : Nat} {o : Oper} (ho : ops[i]? = some o) {r : IS} (hf : iins cx (cins P ok ops o) s = some r) (hes : r.tr <+: es) {K : Act → World → Prop}
   (hK : ∀ a' w' g' Z', IRel YB n fxv it r a' w' g' Z' → Adv w w' Z Z' s.st.hp r.st.hp g g' → K a' w') : wpOpIn (FR ro) 0 P ops Q i K a w := by
 unfold iins at hf
 split at hf
 · rename_i args hya
   obtain ⟨x, l, hop, hx, rfl⟩ := zgr hya
   have go : ∀ (b : Bool) (gd : Option (Nat × Bool)), (∀ d, o.dst = some d → ok d = true) → cins P ok ops o = { dst := o.dst, op := ibox (ok.ibAt o.dst) (copF P o.op), guard := gd } → wanted s.st.sl gd = some b → Region.wanted o (yielded ops a.tmps) = b → wpOpIn (FR ro) 0 P ops Q i K a w := by
     intro b gd hd hc hb hw
     have hds : ∀ d, o.dst = some d → d < a.tmps.size := fun d hdd => by rw [h.sts.size]; exact (hok d (hd d hdd)).1
     have hfxv : ∀ (v : Value) (t : Nat) (u : Value), fxv t = some u → (a.put o.dst v).tmps.getD t Go.undef = u := by
       intro v t u ht
       rw [Act.put_other]
       · exact h.sts.fix t u ht
       · intro hdd
         rw [(hok t (hd t hdd)).2] at ht
         cases ht
     rw [hc] at hf hop
     simp only at hf hop
     simp only [hb, zai] at hf
     unfold wpOpIn
     simp only [ho, hw]
     cases b with
     | false =>
       simp only [way, Option.some.injEq] at hf
       subst hf
       simp only [Bool.false_eq_true, if_false]
       obtain ⟨w0, hp0, g0, b1, b2⟩ := h.base
       exact ⟨fun _ _ => trivial, hK _ w g Z ⟨⟨h.sts.inv, h.sts.slots.put hds (zj3 _), by rw [Act.put_size]; exact h.sts.size, by rw [Act.put_def]; exact h.sts.defers, hfxv _⟩, ⟨w0, hp0, g0, b1, b2⟩, h.yl⟩ (Adv.refl h.sts.inv)⟩
     | true =>
       simp only [way, iyield, zaa, Option.some.injEq] at hf
       obtain ⟨y, hy, q, hq, rfl⟩ := hf
       simp only [if_true]
       have hop := zru hop
       unfold copF at hop
       cases hcop : cop P o.op with
       | none => rw [hcop] at hop; cases hop
       | some op' =>
         rw [hcop] at hop
         simp only [Option.getD_some] at hop
         subst hop
         obtain ⟨c, t, hoc, hcal, rfl, hl⟩ := zt5 hcop
         have htv : a.eval (.tmp t) = .func (.yield g.y) #[] #[] := by
           have := zah h.sts.slots (show copd (.tmp t) = some (.tmp t) from rfl)
           rw [hx] at this
           simpa only [Rep] using this
         have hargs := zc9 h.sts.slots hl
         obtain ⟨s1, f1, r1⟩ := zss _ _ _ _ hy h.sts.inv hargs
         obtain ⟨w0, hp0, g0, b1, b2⟩ := h.base
         have hnx : es[s.tr.length]? = some y.1 := by
           obtain ⟨t2, ht2⟩ := hes
           rw [← ht2]
           simp
         have hrx : Reps (Env.imm w Z) y.1 (c.args.toList.map a.eval) := Reps.flat (E := Env.of w Z y.2 g) (E' := Env.imm w Z) rfl (fun i hz => .inl ((Env.imm_X _ _ _).1 hz)) _ _ f1 r1
         obtain ⟨fn, tmps, assign, body, e1, e2⟩ := hY s.tr s.md w0 Z hp0 g0 w s.st.hp g y.1 q.1 q.2 _ b1 b2 hnx hq (fun i hz => h.sts.inv.zlt i hz) f1 hrx
         refine zg4 (by rw [hoc]; intro c h; cases h) ?_
         have hrun : (execOp a.eval o).run P w = .ok (.round g.y fn tmps assign body) w := by
           rw [← e1]
           unfold execOp
           rw [hoc]
           simp only [resolve, hcal]
           rw [htv]
           simp [Deferred.ofValue, invoke]
           congr 2
           apply Array.ext'
           rw [Array.toList_map]
         rw [hrun, Oper.uponIn_round]
         refine ⟨(fun h => by cases h), ?_⟩
         refine RoundIn.mono (show RoundIn (FR ro) 0 P g.y fn tmps assign body w _ from e2) ?_
         rintro e w' ⟨rfl, Z', T, hYB⟩
         have hE : Ext (Env.of w Z s.st.hp g) (Env.of w' Z' (deads y.2) g) := by
           refine ⟨⟨fun k => ?_, fun k b' hb _ => ?_, ⟨rfl, rfl⟩⟩, fun b hbx off v hv => ?_, T.sizes⟩
           · show zad s.st.hp k ≤ zad (deads y.2) k
             rw [zkp]
             exact s1.ext.ver k
           · exact absurd (hb : look (deads y.2) k = some b') (show ¬ look (deads y.2) k = some b' by rw [zfb]; simp)
           · have hlt := World.block_lt_of_cell? w _ hv
             have e : w'.cell? ⟨b, off, none⟩ = w.cell? ⟨b, off, none⟩ := World.cell?_of_block (T.blk b hlt fun hz => hbx (.inl hz))
             refine ⟨by rw [e]; exact hv, ?_⟩
             rintro (hz | hm)
             · rcases T.less b hz with h1 | h1
               · exact hbx (.inl h1)
               · simp only at hlt; omega
             · exact zir y.2 g b hm
         have hI : Inv (Env.of w' Z' (deads y.2) g) := by
           refine ⟨fun k b hb => ?_, fun k b hb => ?_, fun k k' b b' hb => ?_, T.lt⟩
           all_goals
             exfalso
             have := zfb y.2 k
             simp_all [Env.of]
         refine hK _ w' g Z' ⟨⟨hI, (h.sts.slots.ext hE).put hds (by simp only [Rep]), by rw [Act.put_size]; exact h.sts.size, ?_, hfxv _⟩, ⟨w', deads y.2, g, hYB _ _ rfl rfl (zir _ _), Path.refl.way⟩, h.yl⟩ ?_
         · rw [Act.put_def]
           refine h.sts.defers.keep T.size fun j hj hz => ?_
           refine ⟨by rw [T.blk j (za6 hj) hz]; exact hj, fun h1 => ?_⟩
           rcases T.less j h1 with h2 | h2
           · exact hz h2
           · have := za6 hj; omega
         · refine ⟨⟨T.size, T.os, T.tape, T.output, T.sizes, fun j hj hxj => T.blk j hj fun hz => hxj (.inl hz), fun j hj => ?_, fun j hj => hI.lt hj⟩, rfl, rfl⟩
           rcases hj with hz | hm
           · exact (T.less j hz).imp .inl id
           · exact (zir _ _ _ hm).elim
   rcases ziv (P := P) (ops := ops) (ok := ok) o with hc | ⟨hd, ⟨hg, hc⟩ | ⟨j, want, t, hg, ht, hc⟩⟩
   · rw [hc] at hop
     cases hop
   · exact go true none hd hc rfl (by simp [Region.wanted, hg])
   · have hf' := hf
     rw [hc] at hf'
     simp only [zaa] at hf'
     obtain ⟨b, hb, _⟩ := hf'
     exact go b _ hd hc hb (zkq h.sts hg ht hb)
 · simp only [zaa, Option.some.injEq] at hf
   obtain ⟨x, hx, rfl⟩ := hf
   obtain ⟨w0, hp0, g0, b1, b2⟩ := h.base
   refine zuk hcx hok h.sts ho hx fun a' w' g' h' s1 => hK a' w' g' Z ⟨h', ⟨w0, hp0, g0, b1, b2.trans h.sts.inv s1.path.way⟩, ?_⟩ (s1.path.adv h'.inv)
   intro hit
   rw [s1.ext.yb.1]
   exact h.yl hit
theorem zt7 {ops : Array Oper} {n : Nat} {ok : Ok} {fxv : Nat → Option Value} {it : Bool} {ro : Option Nat} {Q : Exit → Act → World → Prop} (hcx : CxOk P cx) (hok : ze9 ok n fxv) (hY : zki P es YB) : ∀ (l : List Oper) (k : Nat) (s r : IS) (a : Act) (w : World) (g : Gm) (Z : Nat → Prop), ops.toList.drop k = l → ireg cx (l.map (cins P ok ops)) s = some r → r.tr <+: es → IRel YB n fxv it s a w g Z →
   (∀ a' w' g' Z', IRel YB n fxv it r a' w' g' Z' → Adv w w' Z Z' s.st.hp r.st.hp g g' → Q .normal a' w') → wpOpsIn (FR ro) 0 P ops Q (List.range' k l.length) a w
 | [], k, s, r, a, w, g, Z, _, hf, _, h, hQ => by
   simp only [List.map_nil, ireg, Option.some.injEq] at hf
   subst hf
   simp only [List.length_nil, List.range'_zero, wpOpsIn]
   exact hQ a w g Z h (Adv.refl h.sts.inv)
 | o :: l, k, s, r, a, w, g, Z, hl, hf, hes, h, hQ => by
   simp only [List.map_cons, ireg, zaa] at hf
   obtain ⟨x, hr, hf⟩ := hf
   have hk : ops[k]? = some o := by
     have : (ops.toList.drop k)[0]? = some o := by rw [hl]; rfl
     simpa using this
   rw [List.length_cons, List.range'_succ, wpOpsIn_cons]
   refine zy7 hcx hok hY h hk hr ((zms hf).trans hes) fun a' w' g' Z' h' t1 => ?_
   refine zt7 hcx hok hY l (k + 1) x r a' w' g' Z' ?_ hf hes h' fun a2 w2 g2 Z2 h2 t2 => hQ a2 w2 g2 Z2 h2 (t1.trans t2)
   have : ops.toList.drop (k + 1) = (ops.toList.drop k).drop 1 := by rw [List.drop_drop]
   rw [this, hl]
   rfl
end
end Go.Abs
end
section
set_option linter.unusedSimpArgs false
set_option linter.unusedVariables false
namespace Go.Abs
open Go.RowKit
def zdn (t : Array Value) : List Nat → List Value → Array Value
 | p :: ps, v :: vs => zdn (t.setIfInBounds p v) ps vs
 | _, _ => t
theorem zk3 : ∀ (ps : List Nat) (vs : List Value) (t : Array Value), (zdn t ps vs).size = t.size
 | [], _, _ => by simp [zdn]
 | _ :: _, [], _ => by simp [zdn]
 | p :: ps, v :: vs, t => by simp only [zdn]; rw [zk3 ps vs]; simp
theorem zi9 : ∀ (ps : List Nat) (vs : List Value) (t : Array Value) (k : Nat), k ∉ ps → (zdn t ps vs).getD k Go.undef = t.getD k Go.undef
 | [], _, _, _, _ => by simp [zdn]
 | _ :: _, [], _, _, _ => by simp [zdn]
 | p :: ps, v :: vs, t, k, h => by
   simp only [List.mem_cons, not_or] at h
   simp only [zdn]
   rw [zi9 ps vs _ k h.2]
   simp only [Array.getD_eq_getD_getElem?]
   rw [Array.getElem?_setIfInBounds_ne (Ne.symm h.1)]
theorem zo7 (ps : List Nat) : ∀ (vs : List Value) (t : Array Value), (ps.zip vs).foldl (fun tmps (x : Nat × Value) => tmps.setIfInBounds x.1 x.2) t = zdn t ps vs := by
 induction ps with
 | nil => intro vs t; simp [zdn]
 | cons p ps ih =>
   intro vs t
   cases vs with
   | nil => simp [zdn]
   | cons v vs => simp only [List.zip_cons_cons, List.foldl_cons, zdn]; exact ih vs _
theorem zr4 (ps : Array Tmp) (vs : List Value) (t : Array Value) : (ps.zip vs.toArray).foldl (fun tmps (x : Nat × Value) => tmps.setIfInBounds x.1 x.2) t = zdn t ps.toList vs := by
 rw [← zo7, ← Array.foldl_toList]
 congr 1
 simp
theorem zly {E : Env} : ∀ (ps : List Nat) (x : List AV) (vs : List Value) (s : Sl) (a : Act), SlotsRep E s a → Reps E x vs → (∀ p ∈ ps, p < a.tmps.size) → SlotsRep E (zgt ps x s) { a with tmps := zdn a.tmps ps vs }
 | [], x, vs, s, a, hs, _, _ => by simpa [zgt, zdn] using hs
 | p :: ps, [], vs, s, a, hs, hx, _ => by
   simp only [Reps] at hx
   subst hx
   simpa [zgt, zdn] using hs
 | p :: ps, x :: xs, vs, s, a, hs, hx, hp => by
   simp only [Reps] at hx
   obtain ⟨v, vs', rfl, h1, h2⟩ := hx
   simp only [zgt, zdn]
   have h3 : SlotsRep E ((p, x) :: s) (a.put (some p) v) := by
     have := hs.put (dst := some p) (v := x) (u := v) (fun d hd => by injection hd with hd; subst hd; exact hp _ (by simp)) h1
     simpa [put] using this
   exact zly ps xs vs' ((p, x) :: s) { a with tmps := a.tmps.setIfInBounds p v } h3 h2 (fun q hq => by simpa using hp q (by simp [hq]))
def zey (it : Bool) (body : IS → IRes) (ps : List Nat) (keep : List (Nat × H)) : List (List AV) → List AV → List (List AV) → YM → Option Nat
 | [], _, _, _ => none
 | x :: xs, vs, tr, md => match bnd (zn3 it ps x keep vs) fun st => body ⟨st, tr, md⟩ with
   | some (.normal, s) => (match zcp keep s.st.sl s.st.hp with
     | some vs' => (zey it body ps keep xs vs' s.tr s.md).map (· + 1)
     | none => none)
   | some _ => some 0
   | none => none
def mdOf : Option Nat → YM
 | none => .go
 | some n => .cnt n
def znz : AExit → Code
 | .normal => .skip
 | .exit id => .exit id
 | .ret => .ret
theorem zoc {it : Bool} {body : IS → IRes} {ps : List Nat} {keep : List (Nat × H)} : ∀ (xs : List (List AV)) (vs : List AV) (tr : List (List AV)) (md : YM) (n : Nat), zey it body ps keep xs vs tr md = some n → n < xs.length
 | [], _, _, _, _, h => by simp [zey] at h
 | x :: xs, vs, tr, md, n, h => by
   simp only [zey] at h
   split at h
   · split at h
     · simp only [Option.map_eq_some_iff] at h
       obtain ⟨m, h1, rfl⟩ := h
       have := zoc xs _ _ _ m h1
       simp
       omega
     · cases h
   · injection h with h; subst h; simp
   · cases h
theorem zmq {keep : List (Nat × H)} {vs : List AV} : unpackY false keep vs = zar keep vs [] [] := rfl
theorem SlotsRep.unpackY {E : Env} {it : Bool} {keep : List (Nat × H)} {vs : List AV} {a : Act} (h : SlotsRep E (zar keep vs [] []).sl a) (hy : it = true → zcf a 0 = .func (.yield E.g.y) #[] #[]) : SlotsRep E (Abs.unpackY it keep vs).sl a := by
 cases it with
 | false => exact h
 | true =>
   intro t
   show Rep E (get ((0, .yl) :: (zar keep vs [] []).sl) t) _
   show Rep E (if t = 0 then .yl else get (zar keep vs [] []).sl t) _
   split
   · rename_i e
     subst e
     simp only [Rep]
     exact hy rfl
   · exact h t
section
variable {P : Program} {cx : Cx} {es : List (List AV)} {YB : YP}
theorem IRel.still {n : Nat} {fxv : Nat → Option Value} {it : Bool} {s : IS} {a : Act} {w w' : World} {g : Gm} {Z : Nat → Prop} {b : Nat} (h : IRel YB n fxv it s a w g Z) (st : Still b w w') (hb : g.b ≤ b) (hD : ∀ i, w.heap[i]? = some (.deferred (some [])) → i < w.heap.size → (∃ D, zld i ∈ a.defers ∧ D = i) → i < b) : IRel YB n fxv it s a w' g Z := by
 obtain ⟨e1, e2⟩ := st.step h.sts.inv h.sts.inv.zlt
 obtain ⟨w0, hp0, g0, b1, b2⟩ := h.base
 have hw : Way w w' Z s.st.hp s.st.hp g g := st.way hb e1.sizes
 refine ⟨⟨e2, h.sts.slots.ext e1, h.sts.size, ?_, h.sts.fix⟩, ⟨w0, hp0, g0, b1, b2.trans h.sts.inv hw⟩, h.yl⟩
 obtain ⟨Ds, h1, h2, h3, h4⟩ := h.sts.defers
 refine ⟨Ds, h1, h2, Nat.le_trans h3 st.size, fun D hD' => ⟨(h4 D hD').1, st.blk D _ (h4 D hD').2.1 (.inl (hD D (h4 D hD').2.1 (za6 (h4 D hD').2.1) ⟨D, ?_, rfl⟩)), (h4 D hD').2.2⟩⟩
 rw [h1]
 exact List.mem_map.2 ⟨D, hD', rfl⟩
theorem Turn.still {w0 w w' : World} {X0 X : Nat → Prop} {b : Nat} (t : Turn w0 w X0 X) (st : Still b w w') (hb : w0.heap.size ≤ b) (hs : ∀ gb n, zay w gb n → zay w' gb n) : Turn w0 w' X0 X := by
 refine ⟨Nat.le_trans t.size st.size, st.os.trans t.os, st.tape.trans t.tape, st.output.trans t.output, fun gb n h => hs _ _ (t.sizes _ _ h), fun i hi hx => ?_, t.less, fun i hx => Nat.lt_of_lt_of_le (t.lt i hx) st.size⟩
 have e := t.blk i hi hx
 have ho : w0.heap[i]? = some w0.heap[i] := Array.getElem?_eq_getElem hi
 rw [ho] at e ⊢
 exact st.blk i _ e (.inl (by omega))
structure RState (YB : YP) (n : Nat) (fxv : Nat → Option Value) (it : Bool) (body : IS → IRes) (ps : List Nat) (kp : List (Nat × H)) (a0 : Act) (es2 : List (List AV)) (R : AExit × IS) (rec : LoopState → Option Code → Loop) (l D : Nat) (w0 : World) (X0 : Nat → Prop) (gr : Gm)
   (tr2 : List (List AV)) (md2 : YM) (w : World) (Z2 : Nat → Prop) (vs : List AV) (tr : List (List AV)) (md : YM) (Z : Nat → Prop) (g : Gm) : Prop where
 rel : IRel YB n fxv it ⟨unpackY it kp vs, tr, md⟩ a0 w g Z
 z2 : ∀ i, Z2 i ↔ XI w Z (unpackY it kp vs).hp g i ∨ i = l
 turn : Turn w0 w X0 (XI w Z (unpackY it kp vs).hp g)
 nl : ¬ XI w Z (unpackY it kp vs).hp g l
 nd : ¬ XI w Z (unpackY it kp vs).hp g D
 low : g.b ≤ w0.heap.size
 yb : g.y = gr.y ∧ g.b = gr.b
 old : ∀ D' , zld D' ∈ a0.defers → D' < w0.heap.size
 col : w.heap[D]? = some (.deferred (some []))
 how : (w.heap[l]? = some (.loop (rec .ready none)) ∧ irange it body ps kp (es2.drop tr2.length) vs tr md = some R ∧ md2 = mdOf (zey it body ps kp (es2.drop tr2.length) vs tr md)) ∨
   (md2 = .off ∧ ∃ e, R = (e, ⟨unpackY it kp vs, tr, md⟩) ∧ e ≠ .normal ∧ w.heap[l]? = some (.loop (rec .done (some (znz e)))))
def RSt (YB : YP) (n : Nat) (fxv : Nat → Option Value) (it : Bool) (body : IS → IRes) (ps : List Nat) (kp : List (Nat × H)) (a0 : Act) (es2 : List (List AV)) (R : AExit × IS) (rec : LoopState → Option Code → Loop) (l D : Nat) (w0 : World) (X0 : Nat → Prop) (gr : Gm)
   (tr2 : List (List AV)) (md2 : YM) (w : World) (Z2 : Nat → Prop) : Prop :=
 ∃ vs tr md Z g, RState YB n fxv it body ps kp a0 es2 R rec l D w0 X0 gr tr2 md2 w Z2 vs tr md Z g
theorem RSt.still {n : Nat} {fxv : Nat → Option Value} {it : Bool} {body : IS → IRes} {ps : List Nat} {kp : List (Nat × H)} {a0 : Act} {es2 : List (List AV)} {R : AExit × IS} {rec : LoopState → Option Code → Loop} {l D : Nat} {w0 : World} {X0 : Nat → Prop} {gr : Gm}
   {tr2 : List (List AV)} {md2 : YM} {w w' : World} {Z2 : Nat → Prop} {b : Nat} (h : RSt YB n fxv it body ps kp a0 es2 R rec l D w0 X0 gr tr2 md2 w Z2) (st : Still b w w') (hb : w0.heap.size ≤ b) (hl : l < b) (hD : D < b) : RSt YB n fxv it body ps kp a0 es2 R rec l D w0 X0 gr tr2 md2 w' Z2 := by
 obtain ⟨vs, tr, md, Z, g, h⟩ := h
 have hs := (st.step h.rel.sts.inv h.rel.sts.inv.zlt).1.sizes
 refine ⟨vs, tr, md, Z, g, h.rel.still st (Nat.le_trans h.low hb) (fun i _ _ ⟨D', hm, _⟩ => Nat.lt_of_lt_of_le (h.old i hm) hb), h.z2, h.turn.still st hb hs, h.nl, h.nd, h.low, h.yb, h.old, st.blk _ _ h.col (.inl hD), ?_⟩
 rcases h.how with ⟨e1, e2, e3⟩ | ⟨e1, e, e2, e3, e4⟩
 · exact .inl ⟨st.blk _ _ e1 (.inl hl), e2, e3⟩
 · exact .inr ⟨e1, e, e2, e3, st.blk _ _ e4 (.inl hl)⟩
end
end Go.Abs
end
section
set_option linter.unusedSimpArgs false
set_option linter.unusedVariables false
namespace Go.Abs
open Go.RowKit
def zls (P : Program) (cx : Cx) (YB : YP) (es : List (List AV)) (keep : Nat → List (Nat × H)) (c : Code) : Prop :=
 ∀ (ok : Ok) (n : Nat) (fxv : Nat → Option Value) (ro : Option Nat) (it : Bool) (s : IS) (r : AExit × IS) (a : Act) (w : World) (g : Gm) (Z : Nat → Prop) (Q : Exit → Act → World → Prop), ze9 ok n fxv → (ro.isSome = true → zby c = true) →
   iexec cx it (comp P ok keep c) s = some r → r.2.tr <+: es → IRel YB n fxv it s a w g Z → (∀ a' w' g' Z', IRel YB n fxv it r.2 a' w' g' Z' → Adv w w' Z Z' s.st.hp r.2.st.hp g g' → Q (zl6 r.1) a' w') → c.wpIn (FR ro) 0 P Q a w
section
variable {P : Program} {cx : Cx} {es : List (List AV)} {YB : YP}
theorem z6b {w : World} {Z : Nat → Prop} {hp : Hp} {g : Gm} (hi : Inv (Env.of w Z hp g)) {i : Nat} {o : Obj} (h : w.heap[i]? = some o) (ho : zi0 o = false) (hz : ¬ Z i) : ¬ XI w Z hp g i := by
 rintro (h1 | h1)
 · exact hz h1
 · exact hi.not_mine h ho h1
theorem IRel.put {n : Nat} {fxv : Nat → Option Value} {it : Bool} {s : IS} {a : Act} {w : World} {g : Gm} {Z : Nat → Prop} {r : Nat} {o o' : Loop} (h : IRel YB n fxv it s a w g Z) (hr : w.heap[r]? = some (.loop o)) (hb : g.b ≤ r) : IRel YB n fxv it s a (w.putObj r (.loop o')) g Z := by
 have st : Still g.b w (w.putObj r (.loop o')) := zeu hr rfl hb
 obtain ⟨e1, e2⟩ := st.step h.sts.inv h.sts.inv.zlt
 obtain ⟨w0, hp0, g0, b1, b2⟩ := h.base
 have hw : Way w (w.putObj r (.loop o')) Z s.st.hp s.st.hp g g := st.way (Nat.le_refl _) e1.sizes
 refine ⟨⟨e2, h.sts.slots.ext e1, h.sts.size, ?_, h.sts.fix⟩, ⟨w0, hp0, g0, b1, b2.trans h.sts.inv hw⟩, h.yl⟩
 obtain ⟨Ds, h1, h2, h3, h4⟩ := h.sts.defers
 refine ⟨Ds, h1, h2, Nat.le_trans h3 st.size, fun D hD => ⟨(h4 D hD).1, ?_, (h4 D hD).2.2⟩⟩
 rw [World.putObj_heap_other]
 · exact (h4 D hD).2.1
 · rintro rfl
   have := (h4 D hD).2.1
   rw [hr] at this
   cases this
theorem zkr {w : World} {r : Nat} {o o' : Loop} (hr : w.heap[r]? = some (.loop o)) (gb n : Nat) (h : zay w gb n) : zay (w.putObj r (.loop o')) gb n := by
 obtain ⟨arr, ty, fr, h1, h2⟩ := h
 refine ⟨arr, ty, fr, ?_, h2⟩
 rw [World.putObj_heap_other]
 · exact h1
 · rintro rfl
   rw [hr] at h1
   cases h1
theorem Reps.flat' {w : World} {Z Z2 : Nat → Prop} {hp : Hp} {g : Gm} (h2 : ∀ i, XI w Z hp g i → Z2 i) {x : List AV} {xs : List Value} (hf : flats x = true) (h : Reps (Env.imm w Z2) x xs) : Reps (Env.of w Z hp g) x xs :=
 Reps.flat (E := Env.imm w Z2) (E' := Env.of w Z hp g) rfl (fun i hi => (Env.imm_X _ _ _).2 (h2 i hi)) _ _ hf h
theorem zv9 {keep : Nat → List (Nat × H)} {A B : Code} (ihA : zls P cx YB es keep A) (ihB : zls P cx YB es keep B) {ok : Ok} {n : Nat} {fxv : Nat → Option Value} {it : Bool} {kp : List (Nat × H)} {psA : Array Tmp} (hok : ze9 ok n fxv)
   (hps : ∀ d ∈ psA.toList, ok d = true ∧ (kp.any fun p => p.1 == d) = false) (hnA : zby A = true) (hnB : zby B = true) {body : IS → IRes}
   (hbody : body = fun s => bnd (iexec cx it (comp P ⟨fun d => ok d && !(kp.any fun p => p.1 == d), ok.ib⟩ keep A) s) (zbz (iexec cx it (comp P ⟨fun d => ok d && !(kp.any fun p => p.1 == d), ok.ib⟩ keep B))))
   {a0 : Act} {es2 : List (List AV)} {R : AExit × IS} {fn : FuncId} {rec : LoopState → Option Code → Loop} {l D : Nat} {w0 : World} {X0 : Nat → Prop} {gr : Gm} (hrec : rec = fun st pe => { state := st, pending := pe, fn, tmps := a0.tmps, params := psA, assign := A, body := B, defers := D })
   (hl : w0.heap.size ≤ l) (hD : w0.heap.size ≤ D) (hR : R.2.tr <+: es) {tr2 : List (List AV)} {md2 : YM} {w : World} {Z2 : Nat → Prop} (hst : RSt YB n fxv it body psA.toList kp a0 es2 R rec l D w0 X0 gr tr2 md2 w Z2)
   {x : List AV} {b : Bool} {md2' : YM} {xs : List Value} (hx : es2[tr2.length]? = some x) (hn : md2.next = some (b, md2')) (hfx : flats x = true) (hxs : Reps (Env.imm w Z2) x xs) :
   YieldAt (FR none) 0 P l xs.toArray w fun e w' => e = .returned (.bool b) ∧ ∃ Z', Turn w w' Z2 Z' ∧ RSt YB n fxv it body psA.toList kp a0 es2 R rec l D w0 X0 gr (tr2 ++ [x]) md2' w' Z' := by
 obtain ⟨vs, tr, md, Z, g, hst⟩ := hst
 rcases hst.how with ⟨hrl, hir, hmd⟩ | ⟨hoff, _⟩
 rotate_left
 · rw [hoff] at hn
   cases hn
 -- what comes
 have hlt := (List.getElem?_eq_some_iff.1 hx).1
 have hdrop : es2.drop tr2.length = x :: es2.drop (tr2 ++ [x]).length := by
   rw [List.drop_eq_getElem_cons hlt]
   have := (List.getElem?_eq_some_iff.1 hx).2
   rw [this]
   simp
 rw [hdrop] at hir hmd
 simp only [irange, zaa] at hir
 obtain ⟨stx, hbind, ⟨e1, s1⟩, hbd, hgo⟩ := hir
 have hbind' := hbind
 simp only [zn3, zac, Option.some.injEq] at hbind
 obtain ⟨hlen, rfl⟩ := hbind
 have hbd' := hbd
 rw [hbody] at hbd
 simp only [zaa] at hbd
 obtain ⟨⟨eA, sA⟩, hA, hB⟩ := hbd
 have heA : eA = .normal := by
   cases eA with
   | normal => rfl
   | exit id => simp [zbz] at hB
   | ret => simp [zbz] at hB
 subst heA
 simp only [zbz] at hB
 have hxl : xs.length = psA.size := by rw [hxs.length, ← hlen]; simp
 have hy := run_yield (P := P) (args := xs.toArray) hrl (by rw [hrec]; simpa using hxl)
 rw [hrec] at hy
 -- the round's frame
 obtain ⟨fx', hfx'⟩ : ∃ fx' : Nat → Option Value, fx' = fun t => if (kp.any fun p => p.1 == t) = true then some (zcf a0 t) else fxv t := ⟨_, rfl⟩
 obtain ⟨ok', hok'⟩ : ∃ ok' : Ok, ok' = ⟨fun d => ok d && !(kp.any fun p => p.1 == d), ok.ib⟩ := ⟨_, rfl⟩
 rw [← hok'] at hA hB
 have hokf : ze9 ok' n fx' := by
   intro d hd
   rw [hok'] at hd
   simp only [Bool.and_eq_true, Bool.not_eq_true'] at hd
   obtain ⟨h1, h2⟩ := hok d hd.1
   refine ⟨h1, ?_⟩
   rw [hfx']
   simp only [hd.2, Bool.false_eq_true, if_false]
   exact h2
 have hpsn : ∀ d ∈ psA.toList, fx' d = none := by
   intro d hd
   obtain ⟨h1, h2⟩ := hps d hd
   rw [hfx']
   simp only [h2, Bool.false_eq_true, if_false]
   exact (hok d h1).2
 have hkfix : ∀ p ∈ kp, fx' p.1 = some (zcf a0 p.1) := by
   intro p hp
   rw [hfx']
   simp only
   rw [if_pos]
   simp only [List.any_eq_true, beq_iff_eq]
   exact ⟨p, hp, rfl⟩
 have hfold : ∀ t v, fx' t = some v → zcf a0 t = v := by
   intro t v hv
   rw [hfx'] at hv
   simp only at hv
   split at hv
   · injection hv
   · exact hst.rel.sts.fix t v hv
 obtain ⟨ar, har⟩ : ∃ ar : Act, ar = { tmps := zdn a0.tmps psA.toList xs, defers := [] } := ⟨_, rfl⟩
 have hXl : ¬ XI w Z (unpackY it kp vs).hp g l := hst.nl
 have hrel0 : IRel YB n fx' it ⟨{ sl := zgt psA.toList x (unpackY it kp vs).sl, hp := (unpackY it kp vs).hp }, tr, md⟩ ar w g Z := by
   refine ⟨⟨hst.rel.sts.inv, ?_, by rw [har]; simp only [zk3]; exact hst.rel.sts.size, ?_, fun t v hv => ?_⟩, hst.rel.base, fun hit => ?_⟩
   · rw [har]
     have := zly psA.toList x xs (unpackY it kp vs).sl a0 hst.rel.sts.slots (Reps.flat' (fun i hi => (hst.z2 i).2 (.inl hi)) hfx hxs) (fun p hp => by rw [hst.rel.sts.size]; exact (hok p (hps p hp).1).1)
     exact fun t => this t
   · rw [har]
     obtain ⟨_, _, _, h3, _⟩ := hst.rel.sts.defers
     exact ⟨[], rfl, List.nodup_nil, h3, fun D hD => by simp at hD⟩
   · rw [har]
     simp only
     rw [zi9]
     · exact hfold t v hv
     · intro hm
       rw [hpsn t hm] at hv
       cases hv
   · have := hst.rel.yl hit
     rw [hfx']
     simp only
     split
     · have h1 := hst.rel.sts.fix 0 _ this
       exact congrArg some h1
     · exact this
 have hesA : sA.tr <+: es := (zeq _ _ _ hB).trans (by
   have hp : ∀ (q : AExit × IS), zdd it (irange it body psA.toList kp (es2.drop (tr2 ++ [x]).length)) kp (e1, s1) = some q → s1.tr <+: q.2.tr := by
     intro q hq
     have hbp : ∀ s r, body s = some r → s.tr <+: r.2.tr := by
       intro s r hs
       rw [hbody] at hs
       simp only [zaa] at hs
       obtain ⟨⟨e2, s2⟩, k1, k2⟩ := hs
       have p1 := zeq _ _ _ k1
       cases e2 with
       | normal => exact p1.trans (zeq _ _ _ k2)
       | exit id => simp [zbz] at k2
       | ret => simp [zbz] at k2
     cases e1 with
     | normal =>
       simp only [zdd, zaa] at hq
       obtain ⟨vs', _, hq⟩ := hq
       exact zgl hbp _ _ _ _ _ hq
     | exit id =>
       simp only [zdd, zaa, Option.some.injEq] at hq
       obtain ⟨vs', _, rfl⟩ := hq
       exact List.prefix_refl _
     | ret =>
       simp only [zdd, zaa, Option.some.injEq] at hq
       obtain ⟨vs', _, rfl⟩ := hq
       exact List.prefix_refl _
   exact (hp R hgo).trans hR)
 have hesB : s1.tr <+: es := by
   cases e1 with
   | normal =>
     simp only [zdd, zaa] at hgo
     obtain ⟨vs', _, hq⟩ := hgo
     refine (zgl (fun s r hs => ?_) _ _ _ _ _ hq).trans hR
     rw [hbody] at hs
     simp only [zaa] at hs
     obtain ⟨⟨e2, s2⟩, k1, k2⟩ := hs
     have p1 := zeq _ _ _ k1
     cases e2 with
     | normal => exact p1.trans (zeq _ _ _ k2)
     | exit id => simp [zbz] at k2
     | ret => simp [zbz] at k2
   | exit id =>
     simp only [zdd, zaa, Option.some.injEq] at hgo
     obtain ⟨vs', _, rfl⟩ := hgo
     exact hR
   | ret =>
     simp only [zdd, zaa, Option.some.injEq] at hgo
     obtain ⟨vs', _, rfl⟩ := hgo
     exact hR
 -- the end of a round
 have fin : ∀ (jump : Option Code) (vs' : List AV) (a2 : Act) (w3 : World) (g2 : Gm) (Z3 : Nat → Prop) (lw : Loop), zcp kp s1.st.sl s1.st.hp = some vs' → IRel YB n fx' it s1 a2 w3 g2 Z3 → w3.heap[l]? = some (.loop lw) →
     Turn w w3 (fun i => XI w Z (unpackY it kp vs).hp g i ∨ i = l) (fun i => XI w3 Z3 s1.st.hp g2 i ∨ i = l) → ¬ XI w3 Z3 s1.st.hp g2 l → (g2.y = g.y ∧ g2.b = g.b) → lw = rec .busy none →
     (Instr.endRound l jump).run P w3 = .ok (.bool jump.isNone) (w3.putObj l (.loop (rec (if jump.isNone then .ready else .done) jump))) ∧
     (∀ md', ((jump = none ∧ irange it body psA.toList kp (es2.drop (tr2 ++ [x]).length) vs' s1.tr s1.md = some R ∧ md' = mdOf (zey it body psA.toList kp (es2.drop (tr2 ++ [x]).length) vs' s1.tr s1.md)) ∨
         (md' = .off ∧ ∃ e, R = (e, ⟨unpackY it kp vs', s1.tr, s1.md⟩) ∧ e ≠ .normal ∧ jump = some (znz e))) →
       ∃ Z', Turn w (w3.putObj l (.loop (rec (if jump.isNone then .ready else .done) jump))) Z2 Z' ∧
         RSt YB n fxv it body psA.toList kp a0 es2 R rec l D w0 X0 gr (tr2 ++ [x]) md' (w3.putObj l (.loop (rec (if jump.isNone then .ready else .done) jump))) Z') := by
   intro jump vs' a2 w3 g2 Z3 lw hpk hrel2 hl3 t13 hX3l hyb hlw
   have her := run_endRound (P := P) jump hl3
   rw [hlw, hrec] at her
   refine ⟨by rw [hrec]; exact her, fun md' hmd' => ?_⟩
   obtain ⟨w4, hw4⟩ : ∃ w4, w4 = w3.putObj l (.loop (rec (if jump.isNone then .ready else .done) jump)) := ⟨_, rfl⟩
   rw [← hw4]
   have hlow : g.b ≤ l := Nat.le_trans hst.low hl
   have hrel4 : IRel YB n fx' it s1 a2 w4 g2 Z3 := by rw [hw4]; exact hrel2.put hl3 (by rw [hyb.2]; exact hlow)
   have hsz4 : ∀ gb m, zay w3 gb m → zay w4 gb m := by rw [hw4]; exact fun gb m => zkr hl3 gb m
   have hst4 : Still w0.heap.size w3 w4 := by rw [hw4]; exact zeu hl3 rfl hl
   obtain ⟨g', k1, k2, k3⟩ := zk2 (a2 := a0) hrel4.sts hpk (fun p hp => (hrel4.sts.fix p.1 _ (hkfix p hp)).symm)
   have hltl : l < w.heap.size := za6 hrl
   have hX4 : ∀ i, XI w4 Z3 (unpackY it kp vs').hp g' i → XI w Z (unpackY it kp vs).hp g i ∨ w.heap.size ≤ i := by
     intro i hi
     rcases k3.less i hi with h | h
     · rcases t13.less i (.inl h) with (h1 | rfl) | h1
       · exact .inl h1
       · exact absurd h hX3l
       · exact .inr h1
     · exact .inr (Nat.le_trans (Nat.le_trans t13.size hst4.size) h)
   have hyg : g'.y = g.y := k3.yb.1.trans hyb.1
   have hbg : g'.b = g.b := k3.yb.2.trans hyb.2
   have hsame : ∀ i, i < w.heap.size → ¬ XI w Z (unpackY it kp vs).hp g i → i ≠ l → w4.heap[i]? = w.heap[i]? := by
     intro i hi hxi hil
     rw [hw4, World.putObj_heap_other hil]
     exact t13.blk i hi (fun h => h.elim hxi hil)
   have hlt4 : ∀ i, XI w4 Z3 (unpackY it kp vs').hp g' i → i < w4.heap.size := fun i hi => k1.lt hi
   have hos : w4.os = w.os := by rw [hw4]; exact t13.os
   have htape : w4.tape = w.tape := by rw [hw4]; exact t13.tape
   have hout : w4.output = w.output := by rw [hw4]; exact t13.output
   have hszle : w.heap.size ≤ w4.heap.size := Nat.le_trans t13.size hst4.size
   have hszs : ∀ gb m, zay w gb m → zay w4 gb m := fun gb m h => hsz4 _ _ (t13.sizes _ _ h)
   refine ⟨fun i => XI w4 Z3 (unpackY it kp vs').hp g' i ∨ i = l, ?_, ?_⟩
   · refine ⟨hszle, hos, htape, hout, hszs, fun i hi hz => hsame i hi (fun h => hz ((hst.z2 i).2 (.inl h))) (fun h => hz ((hst.z2 i).2 (.inr h))), fun i hi => ?_, fun i hi => ?_⟩
     · rcases hi with hi | rfl
       · exact (hX4 i hi).imp (fun h => (hst.z2 i).2 (.inl h)) id
       · exact .inl ((hst.z2 i).2 (.inr rfl))
     · rcases hi with hi | rfl
       · exact hlt4 i hi
       · omega
   · have hyl0 : it = true → zcf a0 0 = .func (.yield g'.y) #[] #[] := fun hit => by
       rw [hyg]
       exact hst.rel.sts.fix 0 _ (hst.rel.yl hit)
     obtain ⟨w00, hp00, g00, b1, b2⟩ := hrel4.base
     refine ⟨vs', s1.tr, s1.md, Z3, g', ⟨⟨⟨k1, k2.unpackY hyl0, hst.rel.sts.size, ?_, hst.rel.sts.fix⟩, ⟨w00, hp00, g00, b1, b2.trans hrel4.sts.inv k3.way⟩, fun hit => by rw [hyg]; exact hst.rel.yl hit⟩, fun i => Iff.rfl, ?_, ?_, ?_, ?_, ⟨hyg.trans hst.yb.1, hbg.trans hst.yb.2⟩, hst.old, ?_, ?_⟩⟩
     · rw [hbg]
       refine hst.rel.sts.defers.keep hszle fun i hio hz => ?_
       have hxi := z6b hst.rel.sts.inv hio rfl hz
       by_cases hil : i = l
       · subst hil
         rw [hrl] at hio
         cases hio
       · exact ⟨by rw [hsame i (za6 hio) hxi hil]; exact hio, fun h1 => (hX4 i (.inl h1)).elim hxi fun h2 => by have := za6 hio; omega⟩
     · refine ⟨Nat.le_trans hst.turn.size hszle, hos.trans hst.turn.os, htape.trans hst.turn.tape, hout.trans hst.turn.output, fun gb m h => hszs _ _ (hst.turn.sizes _ _ h), fun i hi hxi => ?_, fun i hi => ?_, hlt4⟩
       · have h1 := hst.turn.blk i hi hxi
         rw [hsame i (Nat.lt_of_lt_of_le hi hst.turn.size) ?_ (by omega)]
         · exact h1
         · intro h2
           rcases hst.turn.less i h2 with h3 | h3
           · exact hxi h3
           · omega
       · rcases hX4 i hi with h | h
         · exact hst.turn.less i h
         · exact .inr (Nat.le_trans hst.turn.size h)
     · intro h
       rcases hX4 l h with h | h
       · exact hXl h
       · omega
     · intro h
       rcases hX4 D h with h | h
       · exact hst.nd h
       · have := za6 hst.col; omega
     · rw [hbg]; exact hst.low
     · have hDl : D ≠ l := by
         rintro rfl
         have := hst.col
         rw [hrl] at this
         cases this
       rw [hsame D (za6 hst.col) hst.nd hDl]
       exact hst.col
     · have hl4 : w4.heap[l]? = some (.loop (rec (if jump.isNone then .ready else .done) jump)) := by
         rw [hw4]
         exact World.putObj_heap_same (za6 hl3)
       rcases hmd' with ⟨rfl, h1, h2⟩ | ⟨h1, e, h2, h3, rfl⟩
       · exact .inl ⟨hl4, h1, h2⟩
       · exact .inr ⟨h1, e, h2, h3, hl4⟩
 refine ⟨fn, _, A, B, hy, roundIn_of_wpIn (F := FR none) trivial ?_⟩
 show A.wpIn (FR (some l)) 0 P _ _ w
 have hframe : ({ tmps := (psA.zip xs.toArray).foldl (fun tmps (x : Tmp × Value) => tmps.setIfInBounds x.1 x.2) a0.tmps, defers := [] } : Act) = ar := by
   rw [har, zr4]
 have hfr2 : ({ tmps := (psA.zip xs.toArray).foldl (fun tmps x => match x with | (t, a) => tmps.setIfInBounds t a) a0.tmps, defers := [] } : Act) = ar := hframe
 rw [hfr2]
 refine ihA ok' n fx' (some l) it _ (.normal, sA) ar w g Z _ hokf (fun _ => hnA) hA hesA hrel0 fun a1 w1 g1 Z1 rel1 adv1 => ?_
 have t1 := adv1.turn
 have hl1 : w1.heap[l]? = some (.loop (rec .ready none)) := by rw [t1.blk l (za6 hrl) hXl]; exact hrl
 have hlow : g.b ≤ l := Nat.le_trans hst.low hl
 show ∃ w₂, (Instr.beginRound l).run P w1 = .ok () w₂ ∧ B.wpIn (FR (some l)) 0 P _ a1 w₂
 refine ⟨w1.putObj l (.loop (rec .busy none)), ?_, ?_⟩
 · have := run_beginRound (P := P) hl1 (by rw [hrec])
   rw [hrec] at this ⊢
   exact this
 have rel1' : IRel YB n fx' it sA a1 (w1.putObj l (.loop (rec .busy none))) g1 Z1 := rel1.put hl1 (by rw [adv1.yb.2]; exact hlow)
 have hl1b : (w1.putObj l (.loop (rec .busy none))).heap[l]? = some (.loop (rec .busy none)) := World.putObj_heap_same (za6 hl1)
 have hX1 : ¬ XI w1 Z1 sA.st.hp g1 l := by
   intro h
   rcases t1.less l h with h | h
   · exact hXl h
   · have := za6 hrl; omega
 refine ihB ok' n fx' (some l) it sA (e1, s1) a1 _ g1 Z1 _ hokf (fun _ => hnB) hB hesB rel1' fun a2 w3 g2 Z3 rel2 adv2 => ?_
 have t2 := adv2.turn
 have hl3 : w3.heap[l]? = some (.loop (rec .busy none)) := by rw [t2.blk l (za6 hl1b) hX1]; exact hl1b
 have t13 : Turn w w3 (fun i => XI w Z (unpackY it kp vs).hp g i ∨ i = l) (fun i => XI w3 Z3 s1.st.hp g2 i ∨ i = l) := by
   have z1 := t1.size
   have z2 := t2.size
   simp at z2
   have hlw := za6 hrl
   refine ⟨by omega, t2.os.trans t1.os, t2.tape.trans t1.tape, t2.output.trans t1.output, fun gb m h => t2.sizes _ _ (zkr hl1 _ _ (t1.sizes _ _ h)), fun i hi hxi => ?_, fun i hi => ?_, fun i hi => ?_⟩
   · have hil : i ≠ l := fun h => hxi (.inr h)
     rw [t2.blk i (by simp; omega) ?_, World.putObj_heap_other hil]
     · exact t1.blk i hi fun h => hxi (.inl h)
     · intro h
       rcases t1.less i h with h | h
       · exact hxi (.inl h)
       · omega
   · rcases hi with hi | rfl
     · rcases t2.less i hi with h | h
       · exact (t1.less i h).imp .inl id
       · right
         simp at h
         omega
     · exact .inl (.inr rfl)
   · rcases hi with hi | rfl
     · exact t2.lt i hi
     · omega
 have hX3 : ¬ XI w3 Z3 s1.st.hp g2 l := by
   intro h
   rcases t2.less l h with h | h
   · exact hX1 h
   · have := za6 hl1
     simp at h
     omega
 have hyb : g2.y = g.y ∧ g2.b = g.b := ⟨adv2.yb.1.trans adv1.yb.1, adv2.yb.2.trans adv1.yb.2⟩
 have hstop : bnd (zn3 it psA.toList x kp vs) (fun st => body ⟨st, tr, md⟩) = some (e1, s1) := by
   rw [hbind', zai]
   exact hbd'
 simp only [zey, hstop] at hmd
 cases e1 with
 | normal =>
   simp only [zdd, zaa] at hgo
   obtain ⟨vs', hpk, hgo⟩ := hgo
   obtain ⟨h1, h2⟩ := fin none vs' a2 w3 g2 Z3 _ hpk rel2 hl3 t13 hX3 hyb rfl
   simp only [hpk] at hmd
   have hb : b = true ∧ md2' = mdOf (zey it body psA.toList kp (es2.drop (tr2 ++ [x]).length) vs' s1.tr s1.md) := by
     rw [hmd] at hn
     revert hn
     cases zey it body psA.toList kp (es2.drop (tr2 ++ [x]).length) vs' s1.tr s1.md with
     | none => simp only [Option.map_none, mdOf, YM.next, Option.some.injEq, Prod.mk.injEq]; exact fun h => ⟨h.1.symm, h.2.symm⟩
     | some m => simp only [Option.map_some, mdOf, YM.next, Option.some.injEq, Prod.mk.injEq]; exact fun h => ⟨h.1.symm, h.2.symm⟩
   obtain ⟨rfl, rfl⟩ := hb
   exact ⟨_, _, h1, rfl, h2 _ (.inl ⟨rfl, hgo, rfl⟩)⟩
 | exit id =>
   simp only [zdd, zaa, Option.some.injEq] at hgo
   obtain ⟨vs', hpk, hgo⟩ := hgo
   obtain ⟨h1, h2⟩ := fin (some (.exit id)) vs' a2 w3 g2 Z3 _ hpk rel2 hl3 t13 hX3 hyb rfl
   rw [hmd] at hn
   simp only [mdOf, YM.next, Option.some.injEq, Prod.mk.injEq] at hn
   obtain ⟨rfl, rfl⟩ := hn
   exact ⟨_, _, h1, rfl, h2 _ (.inr ⟨rfl, .exit id, hgo.symm, by simp, rfl⟩)⟩
 | ret =>
   simp only [zdd, zaa, Option.some.injEq] at hgo
   obtain ⟨vs', hpk, hgo⟩ := hgo
   obtain ⟨h1, h2⟩ := fin (some .ret) vs' a2 w3 g2 Z3 _ hpk rel2 hl3 t13 hX3 hyb rfl
   rw [hmd] at hn
   simp only [mdOf, YM.next, Option.some.injEq, Prod.mk.injEq] at hn
   obtain ⟨rfl, rfl⟩ := hn
   exact ⟨_, _, h1, rfl, h2 _ (.inr ⟨rfl, .ret, hgo.symm, by simp, rfl⟩)⟩
end
end Go.Abs
end
section
set_option linter.unusedSimpArgs false
set_option linter.unusedVariables false
namespace Go.Abs
open Go.RowKit
section
variable {P : Program} {cx : Cx} {es : List (List AV)} {YB : YP}
theorem IRel.path {n : Nat} {fxv : Nat → Option Value} {it : Bool} {s s' : IS} {a a' : Act} {w w' : World} {g g' : Gm} {Z : Nat → Prop} (h : IRel YB n fxv it s a w g Z) (h1 : Sts n fxv w' Z s'.st g' a') (p : Path w w' Z s.st.hp s'.st.hp g g') (ht : s'.tr = s.tr) (hm : s'.md = s.md) : IRel YB n fxv it s' a' w' g' Z := by
 obtain ⟨w0, hp0, g0, b1, b2⟩ := h.base
 refine ⟨h1, ⟨w0, hp0, g0, by rw [ht, hm]; exact b1, b2.trans h.sts.inv p.way⟩, fun hit => ?_⟩
 rw [p.yb.1]
 exact h.yl hit
theorem zl3 (w : World) (b : Nat) (o : Obj) : Still b w (w.alloc o) :=
 ⟨by simp, rfl, rfl, rfl, fun i oi hi _ => by rw [heap_alloc_old w o (za6 hi)]; exact hi⟩
theorem Still.trans {b : Nat} {w w1 w2 : World} (h : Still b w w1) (k : Still b w1 w2) : Still b w w2 :=
 ⟨Nat.le_trans h.size k.size, k.os.trans h.os, k.tape.trans h.tape, k.output.trans h.output, fun i o hi hc => k.blk i o (h.blk i o hi hc) hc⟩
theorem zwh {keep : Nat → List (Nat × H)} {A B : Code} (hcx : CxOk P cx) (ihA : zls P cx YB es keep A) (ihB : zls P cx YB es keep B) (gop : Operand) (ps : Array Tmp) : zls P cx YB es keep (.rangeFunc gop ps A B) := by
 intro ok n fxv ro it s r a w g Z Q hok hro h hes hrel hQ
 have hro' : ro = none := by
   cases ro with
   | none => rfl
   | some l => have := hro rfl; simp [zby] at this
 subst hro'
 simp only [comp] at h
 split at h
 rotate_left
 · simp [iexec] at h
 rename_i t hcop
 have hgop : gop = .tmp t := by
   cases gop with
   | tmp t' => simp only [copd, Option.some.injEq, Opd.tmp.injEq] at hcop; rw [hcop]
   | const v =>
     simp only [copd, Option.map_eq_some_iff] at hcop
     obtain ⟨_, _, hc⟩ := hcop
     cases hc
   | func f => simp [copd] at hcop
   | global i => simp [copd] at hcop
 subst hgop
 split at h
 rotate_left
 · simp [iexec] at h
 rename_i hcond
 simp only [Bool.and_eq_true] at hcond
 obtain ⟨⟨⟨hkt, hpsall⟩, hnA⟩, hnB⟩ := hcond
 generalize hkp : keep (zic A B) = kp at *
 simp only [iexec, zaa] at h
 obtain ⟨vs, hpk, es2, hseq, hir⟩ := h
 obtain ⟨body, hbody⟩ : ∃ body : IS → IRes, body = fun s => bnd (iexec cx it (comp P ⟨fun d => ok d && !(kp.any fun p => p.1 == d), ok.ib⟩ keep A) s) (zbz (iexec cx it (comp P ⟨fun d => ok d && !(kp.any fun p => p.1 == d), ok.ib⟩ keep B))) := ⟨_, rfl⟩
 rw [← hbody] at hir
 have hps : ∀ d ∈ ps.toList, ok d = true ∧ (kp.any fun p => p.1 == d) = false := by
   intro d hd
   have := List.all_eq_true.1 hpsall d hd
   simpa only [Bool.and_eq_true, Bool.not_eq_true'] using this
 -- what is kept, laid anew
 obtain ⟨g', k1, k2, k3⟩ := zk2 (a2 := a) hrel.sts hpk (fun _ _ => rfl)
 have hyl0 : it = true → zcf a 0 = .func (.yield g'.y) #[] #[] := fun hit => by
   rw [k3.yb.1]
   exact hrel.sts.fix 0 _ (hrel.yl hit)
 have hsts1 : Sts n fxv w Z (unpackY it kp vs) g' a := ⟨k1, k2.unpackY hyl0, hrel.sts.size, by rw [k3.yb.2]; exact hrel.sts.defers, hrel.sts.fix⟩
 have hrel1 : IRel YB n fxv it ⟨unpackY it kp vs, s.tr, s.md⟩ a w g' Z := hrel.path (s' := ⟨unpackY it kp vs, s.tr, s.md⟩) hsts1 k3 rfl rfl
 -- the function
 have hfv := k2 t
 obtain ⟨f, caps, hgt, hit2, q, hcall, hel⟩ : ∃ f caps, get (zar kp vs [] []).sl t = .fn f caps ∧ (cx.spec f).it = true ∧ ∃ q, cx.call f (.yq :: caps) = some q ∧ elemsOf q = some es2 := by
   revert hseq
   cases hv : get (zar kp vs [] []).sl t <;> simp only [zh2] <;> intro hseq <;> try cases hseq
   rename_i f caps
   simp only [zac, zaa] at hseq
   obtain ⟨h1, q, h2, h3⟩ := hseq
   exact ⟨f, caps, rfl, h1, q, h2, h3⟩
 obtain ⟨caps', kk, sz, es3, hargs, hr2, hfc, hgives⟩ := (hcx.call f _ q hcall).2 hit2
 injection hargs with _ hargs
 subst hargs
 rw [hr2] at hel
 simp only [elemsOf, Option.some.injEq] at hel
 subst hel
 rw [hgt] at hfv
 simp only [Rep] at hfv
 obtain ⟨cv, hfv, hcaps⟩ := hfv
 refine wpIn_rangeFunc ?_
 intro fn _
 obtain ⟨rec, hrec⟩ : ∃ rec : LoopState → Option Code → Loop, rec = fun st pe => { state := st, pending := pe, fn, tmps := a.tmps, params := ps, assign := A, body := B, defers := w.heap.size } := ⟨_, rfl⟩
 obtain ⟨w1, hw1⟩ : ∃ w1, w1 = (w.alloc (.deferred (some []))).alloc (.loop (rec .ready none)) := ⟨_, rfl⟩
 have hst1 : ∀ b, Still b w w1 := fun b => by rw [hw1]; exact (zl3 w b _).trans (zl3 _ b _)
 have hsz1 : w1.heap.size = w.heap.size + 2 := by rw [hw1]; simp
 have hL1 : w1.heap[w.heap.size + 1]? = some (.loop (rec .ready none)) := by
   rw [hw1]; have := World.alloc_heap_new (w.alloc (.deferred (some []))) (.loop (rec .ready none)); rwa [World.size_alloc] at this
 have hD1 : w1.heap[w.heap.size]? = some (.deferred (some [])) := by
   rw [hw1, heap_alloc_old _ _ (by simp)]
   exact World.alloc_heap_new w _
 have hblow : g'.b ≤ w.heap.size := by obtain ⟨_, _, _, h3, _⟩ := hsts1.defers; exact h3
 have hold : ∀ D', zld D' ∈ a.defers → D' < w.heap.size := by
   intro D' hm
   obtain ⟨Ds, h1, _, _, h4⟩ := hsts1.defers
   rw [h1] at hm
   obtain ⟨D2, hD2, he⟩ := List.mem_map.1 hm
   simp only [zld, Deferred.mk.injEq, Target.collected.injEq, and_true] at he
   subst he
   exact za6 (h4 D2 hD2).2.1
 have hXlt : ∀ i, XI w Z (unpackY it kp vs).hp g' i → i < w.heap.size := fun i hi => k1.lt hi
 have hrelw1 : IRel YB n fxv it ⟨unpackY it kp vs, s.tr, s.md⟩ a w1 g' Z := hrel1.still (hst1 w.heap.size) hblow (fun i _ _ ⟨D', hm, _⟩ => hold i hm)
 have hsizes1 : ∀ gb m, zay w gb m → zay w1 gb m := ((hst1 0).step k1 k1.zlt).1.sizes
 obtain ⟨X0, hX0⟩ : ∃ X0, X0 = XI w Z s.st.hp g := ⟨_, rfl⟩
 have hturn0 : Turn w w1 X0 (XI w1 Z (unpackY it kp vs).hp g') := by
   rw [hX0]
   exact (k3.turn k1).still (hst1 w.heap.size) (Nat.le_refl _) hsizes1
 have hR0 : RSt YB n fxv it body ps.toList kp a es3 r rec (w.heap.size + 1) w.heap.size w X0 g [] (mdOf (zey it body ps.toList kp es3 vs s.tr s.md)) w1 (fun i => XI w1 Z (unpackY it kp vs).hp g' i ∨ i = w.heap.size + 1) := by
   refine ⟨vs, s.tr, s.md, Z, g', ⟨hrelw1, fun i => Iff.rfl, hturn0, fun h => ?_, fun h => ?_, hblow, k3.yb, hold, hD1, .inl ⟨hL1, ?_, ?_⟩⟩⟩
   · have := hXlt _ h; omega
   · have := hXlt _ h; omega
   · simpa using hir
   · simp
 have hcv : Reps (Env.imm w1 (fun i => XI w1 Z (unpackY it kp vs).hp g' i ∨ i = w.heap.size + 1)) caps cv.toList := by
   have h1 : Reps (Env.of w1 Z (zar kp vs [] []).hp g') caps cv.toList := hcaps.ext ((hst1 0).step k1 k1.zlt).1
   refine Reps.imm (w := w1) (Y := XI w1 Z (unpackY it kp vs).hp g') hfc (Reps.flat (E := Env.of w1 Z (zar kp vs [] []).hp g') (E' := Env.imm w1 (XI w1 Z (unpackY it kp vs).hp g')) rfl (fun i hi => (Env.imm_X _ _ _).1 hi) _ _ hfc h1) (fun b hb off u hu => ⟨hu, ?_⟩) (fun _ _ h => h)
   rintro (h2 | rfl)
   · exact hb h2
   · simp [World.cell?, hL1] at hu
 obtain ⟨hthere, hgv⟩ := hgives
 have hcalls := hgv (w.heap.size + 1) w1 _ cv.toList (RSt YB n fxv it body ps.toList kp a es3 r rec (w.heap.size + 1) w.heap.size w X0 g) (mdOf (zey it body ps.toList kp es3 vs s.tr s.md))
   (by
     rintro i (hi | rfl)
     · have := hXlt i hi; omega
     · omega) hcv
   (by
     cases hs : zey it body ps.toList kp es3 vs s.tr s.md with
     | none => exact .inl rfl
     | some m => exact .inr ⟨m, zoc _ _ _ _ _ hs, rfl⟩)
   (fun tr2 md2 w2 Z2 w3 hy hst => hy.still hst (by omega) (by omega) (by omega))
   (fun tr2 x md2 b md2' w2 Z2 xs hy hx hn _ hfx hxs => zv9 ihA ihB hok hps hnA hnB hbody hrec (by omega) (Nat.le_refl _) hes hy hx hn hfx hxs)
   hR0
 have hle : ((.func (.func (real f)) #[] cv : Value)) = .func (.func (real f)) #[] cv := rfl
 refine ⟨w.heap.size + 1, [zld w.heap.size], w1, { target := .fn (.func (real f)) cv, args := #[.func (.yield (w.heap.size + 1)) #[] #[]] }, w1, real f, #[.func (.yield (w.heap.size + 1)) #[] #[]] ++ cv, w1, ?_, ?_, fun _ _ => trivial, ?_, (fun h => by cases h), zd1.2 ?_⟩
 · rw [hw1, hrec]
   exact run_enterLoop_outer _ _ _ _ _
 · have htv : a.eval (.tmp t) = .func (.func (real f)) #[] cv := hfv
   simp only [resolve]
   rw [htv]
   simp [Deferred.ofValue, Act.eval]
 · have := zhl (P := P) (f := real f) hthere (#[.func (.yield (w.heap.size + 1)) #[] #[]] ++ cv) w1
   simpa [invoke] using this
 · refine Calls.mono hcalls ?_
   rintro e w' ⟨⟨v, rfl⟩, Z', hfin⟩
   -- behind the iterator
   have done : ∀ (vs' : List AV) (tr' : List (List AV)) (md' : YM) (Z3 : Nat → Prop) (g3 : Gm) (lw : Loop) (e3 : AExit), r = (e3, ⟨unpackY it kp vs', tr', md'⟩) → IRel YB n fxv it ⟨unpackY it kp vs', tr', md'⟩ a w' g3 Z3 → Turn w w' X0 (XI w' Z3 (unpackY it kp vs').hp g3) → ¬ XI w' Z3 (unpackY it kp vs').hp g3 w.heap.size → g3.b ≤ w.heap.size →
       w'.heap[w.heap.size + 1]? = some (.loop lw) → w'.heap[w.heap.size]? = some (.deferred (some [])) → (g3.y = g.y ∧ g3.b = g.b) → Q (zl6 e3) { a with defers := [zld w.heap.size] ++ a.defers } (w'.putObj (w.heap.size + 1) (.loop { lw with state := .exhausted })) := by
     intro vs' tr' md' Z3 g3 lw e3 hre hrel3 ht3 hnd3 hb3 hl3 hd3 hyb3
     have hrel4 := hrel3.put (o' := { lw with state := .exhausted }) hl3 (by omega)
     have hnd4 := hnd3
     obtain ⟨w4, hw4⟩ : ∃ w4, w4 = w'.putObj (w.heap.size + 1) (.loop { lw with state := .exhausted }) := ⟨_, rfl⟩
     rw [← hw4] at hrel4 ⊢
     have hd4 : w4.heap[w.heap.size]? = some (.deferred (some [])) := by rw [hw4, World.putObj_heap_other (by omega)]; exact hd3
     have hst4 : Still w.heap.size w' w4 := by rw [hw4]; exact zeu hl3 rfl (by omega)
     have hs4 : ∀ gb m, zay w' gb m → zay w4 gb m := by rw [hw4]; exact fun gb m => zkr hl3 gb m
     rw [hre] at hQ
     refine hQ _ w4 g3 Z3 ⟨⟨hrel4.sts.inv, hrel4.sts.slots, hrel4.sts.size, ?_, hrel4.sts.fix⟩, hrel4.base, hrel4.yl⟩ ⟨?_, hyb3⟩
     · obtain ⟨Ds, h1, h2, h3, h4⟩ := hrel4.sts.defers
       refine ⟨w.heap.size :: Ds, by rw [h1]; rfl, ?_, h3, fun D' hD' => ?_⟩
       · refine List.nodup_cons.2 ⟨fun hm => ?_, h2⟩
         have := hold w.heap.size (by rw [h1]; exact List.mem_map.2 ⟨_, hm, rfl⟩)
         omega
       · rcases List.mem_cons.1 hD' with rfl | hD'
         · exact ⟨hb3, hd4, fun hz => hnd3 (.inl hz)⟩
         · exact h4 D' hD'
     · rw [← hX0]
       exact ht3.still hst4 (Nat.le_refl _) hs4
   have hgb : ∀ (vs' : List AV) (tr' : List (List AV)) (md' : YM) (Z3 : Nat → Prop) (g3 : Gm), IRel YB n fxv it ⟨unpackY it kp vs', tr', md'⟩ a w' g3 Z3 → True := fun _ _ _ _ _ _ => trivial
   generalize hmd2 : mdOf (zey it body ps.toList kp es3 vs s.tr s.md) = md2 at hfin
   cases md2 with
   | go =>
     obtain ⟨vs', tr', md', Z3, g3, hs3⟩ := hfin
     rcases hs3.how with ⟨h1, h2, h3⟩ | ⟨h1, _⟩
     · have hend : (Instr.endLoop (w.heap.size + 1)).run P w' = .ok none (w'.putObj (w.heap.size + 1) (.loop { rec .ready none with state := .exhausted })) := by
         have := run_endLoop (P := P) h1 (by rw [hrec]; simp)
         rw [hrec] at this ⊢
         exact this
       simp only [List.drop_length, irange, Option.some.injEq] at h2
       exact ⟨none, _, hend, done vs' tr' md' Z3 g3 (rec .ready none) .normal h2.symm hs3.rel hs3.turn hs3.nd hs3.low h1 hs3.col hs3.yb⟩
     · cases h1
   | cnt m =>
     obtain ⟨vs', tr', md', Z3, g3, hs3⟩ := hfin
     rcases hs3.how with ⟨h1, h2, h3⟩ | ⟨h1, e3, h2, h3, h4⟩
     · exfalso
       revert h3
       cases zey it body ps.toList kp (es3.drop (es3.take (m + 1)).length) vs' tr' md' <;> simp [mdOf]
     · have hend : (Instr.endLoop (w.heap.size + 1)).run P w' = .ok (some (znz e3)) (w'.putObj (w.heap.size + 1) (.loop { rec .done (some (znz e3)) with state := .exhausted })) := by
         have := run_endLoop (P := P) h4 (by rw [hrec]; simp)
         rw [hrec] at this ⊢
         exact this
       have := done vs' tr' md' Z3 g3 _ e3 h2 hs3.rel hs3.turn hs3.nd hs3.low h4 hs3.col hs3.yb
       refine ⟨some (znz e3), _, hend, ?_⟩
       cases e3 with
       | normal => exact absurd rfl h3
       | exit id => exact wpIn_exit this
       | ret => exact wpIn_ret this
   | off => exact hfin.elim
end
end Go.Abs
end
section
set_option linter.unusedSimpArgs false
set_option linter.unusedVariables false
namespace Go.Abs
open Go.RowKit
section
variable {P : Program} {cx : Cx} {es : List (List AV)} {YB : YP}
theorem zqw (hcx : CxOk P cx) (hd : ∀ ok n fxv Z, ze9 ok n fxv → zl9 P cx ok n fxv Z) (hY : zki P es YB) (keep : Nat → List (Nat × H)) : ∀ c : Code, zls P cx YB es keep c := by
 intro c
 induction c with
 | skip =>
   intro ok n fxv ro it s r a w g Z Q hok hro h hes hs hQ
   simp only [comp, iexec, Option.some.injEq] at h
   subst h
   exact wpIn_skip (hQ a w g Z hs (Adv.refl hs.sts.inv))
 | exit id =>
   intro ok n fxv ro it s r a w g Z Q hok hro h hes hs hQ
   simp only [comp, iexec, Option.some.injEq] at h
   subst h
   exact wpIn_exit (hQ a w g Z hs (Adv.refl hs.sts.inv))
 | ret =>
   intro ok n fxv ro it s r a w g Z Q hok hro h hes hs hQ
   simp only [comp, iexec, Option.some.injEq] at h
   subst h
   exact wpIn_ret (hQ a w g Z hs (Adv.refl hs.sts.inv))
 | region id ops draw =>
   intro ok n fxv ro it s r a w g Z Q hok hro h hes hs hQ
   cases draw with
   | true =>
     simp only [comp, if_true] at h
     split at h
     · rename_i hdo
       simp only [iexec, zaa, zac, Option.some.injEq] at h
       obtain ⟨x, hx, hap, rfl⟩ := h
       exact hd ok n fxv Z hok ro ops s.st x a w g id Q hdo hx hap hs.sts fun a' w' g' h1 h2 => hQ a' w' g' Z (hs.path (s' := s.at x.1) h1 h2 rfl rfl) (h2.adv h1.inv)
     · simp [iexec] at h
   | false =>
     simp only [comp, Bool.false_eq_true, if_false, iexec, zaa, Option.some.injEq] at h
     obtain ⟨s', hx, rfl⟩ := h
     refine wpIn_region ?_
     have := zt7 (ops := ops) (Q := Q) (ro := ro) hcx hok hY ops.toList 0 s s' a w g Z rfl hx hes hs (fun a' w' g' Z' h1 h2 => hQ a' w' g' Z' h1 h2)
     rwa [Array.length_toList, ← List.range_eq_range'] at this
 | seq x y ihx ihy =>
   intro ok n fxv ro it s r a w g Z Q hok hro h hes hs hQ
   have hrx : ro.isSome = true → zby x = true := fun h => by have := hro h; simp only [zby, Bool.and_eq_true] at this; exact this.1
   have hry : ro.isSome = true → zby y = true := fun h => by have := hro h; simp only [zby, Bool.and_eq_true] at this; exact this.2
   simp only [comp, iexec, zaa] at h
   obtain ⟨⟨e, s1⟩, h1, h2⟩ := h
   have hes1 : s1.tr <+: es := by
     cases e with
     | normal => exact (zeq _ _ _ h2).trans hes
     | exit id => simp only [zdb, Option.some.injEq] at h2; subst h2; exact hes
     | ret => simp only [zdb, Option.some.injEq] at h2; subst h2; exact hes
   refine wpIn_seq (ihx ok n fxv ro it s (e, s1) a w g Z _ hok hrx h1 hes1 hs fun a' w' g' Z' hs' hp' => ?_)
   cases e with
   | normal =>
     simp only [zdb] at h2
     exact ihy ok n fxv ro it s1 r a' w' g' Z' Q hok hry h2 hes hs' fun a2 w2 g2 Z2 hs2 hp2 => hQ a2 w2 g2 Z2 hs2 (hp'.trans hp2)
   | exit id =>
     simp only [zdb, Option.some.injEq] at h2
     subst h2
     exact hQ a' w' g' Z' hs' hp'
   | ret =>
     simp only [zdb, Option.some.injEq] at h2
     subst h2
     exact hQ a' w' g' Z' hs' hp'
 | cond c x y ihx ihy =>
   intro ok n fxv ro it s r a w g Z Q hok hro h hes hs hQ
   have hrx : ro.isSome = true → zby x = true := fun h => by have := hro h; simp only [zby, Bool.and_eq_true] at this; exact this.1
   have hry : ro.isSome = true → zby y = true := fun h => by have := hro h; simp only [zby, Bool.and_eq_true] at this; exact this.2
   simp only [comp] at h
   split at h
   · rename_i c' hc
     simp only [iexec] at h
     have hr := zah hs.sts.slots hc
     unfold zj2 at h
     split at h
     · rename_i b heq
       rw [heq] at hr
       simp only [Rep] at hr
       refine wpIn_cond hr ?_
       cases b with
       | true => exact ihx ok n fxv ro it s r a w g Z Q hok hrx h hes hs hQ
       | false => exact ihy ok n fxv ro it s r a w g Z Q hok hry h hes hs hQ
     · cases h
   · simp [iexec] at h
 | block id c ih =>
   intro ok n fxv ro it s r a w g Z Q hok hro h hes hs hQ
   have hrc : ro.isSome = true → zby c = true := fun h => by have := hro h; simpa only [zby] using this
   simp only [comp, iexec, zaa] at h
   obtain ⟨⟨e, s1⟩, h1, h2⟩ := h
   have hes1 : s1.tr <+: es := by
     cases e with
     | normal => simp only [ze5, Option.some.injEq] at h2; subst h2; exact hes
     | ret => simp only [ze5, Option.some.injEq] at h2; subst h2; exact hes
     | exit id' =>
       simp only [ze5] at h2
       split at h2
       · injection h2 with h2; subst h2; exact hes
       · injection h2 with h2; subst h2; exact hes
   refine wpIn_block (ih ok n fxv ro it s (e, s1) a w g Z _ hok hrc h1 hes1 hs fun a' w' g' Z' hs' hp' => ?_)
   cases e with
   | normal =>
     simp only [ze5, Option.some.injEq] at h2
     subst h2
     exact hQ a' w' g' Z' hs' hp'
   | ret =>
     simp only [ze5, Option.some.injEq] at h2
     subst h2
     exact hQ a' w' g' Z' hs' hp'
   | exit id' =>
     simp only [ze5] at h2
     show (if id' = id then _ else _)
     split at h2
     · rename_i e
       injection h2 with h2
       subst h2
       rw [if_pos e]
       exact hQ a' w' g' Z' hs' hp'
     · rename_i e
       injection h2 with h2
       subst h2
       rw [if_neg e]
       exact hQ a' w' g' Z' hs' hp'
 | loop c ih =>
   intro ok n fxv ro it s r a w g Z Q hok hro h hes hs hQ
   have hrc : ro.isSome = true → zby c = true := fun h => by have := hro h; simpa only [zby] using this
   simp only [comp, iexec, zaa] at h
   obtain ⟨vs, hpk, h⟩ := h
   obtain ⟨m, h⟩ := zgd h
   refine wpIn_loop_rounds m ?_
   have key : ∀ (m : Nat) (st : St) (vs : List AV) (tr : List (List AV)) (md : YM) (a : Act) (w : World) (g : Gm) (Z : Nat → Prop), IRel YB n fxv it ⟨st, tr, md⟩ a w g Z → zcp (keep (zbn c)) st.sl st.hp = some vs → zde it (iexec cx it (comp P ok keep c)) (keep (zbn c)) m vs tr md = some r →
       (∀ a' w' g' Z', IRel YB n fxv it r.2 a' w' g' Z' → Adv w w' Z Z' st.hp r.2.st.hp g g' → Q (zl6 r.1) a' w') → Code.roundsIn (FR ro) 0 P c Q m a w := by
     intro m
     induction m with
     | zero => intro st vs tr md a w g Z _ _ h _; simp [zde] at h
     | succ m ihm =>
       intro st vs tr md a w g Z hs hpk h hQ
       simp only [zde, zaa] at h
       obtain ⟨⟨e, s1⟩, h1, h2⟩ := h
       obtain ⟨g', k1, k2, k3⟩ := zk2 (a2 := a) hs.sts hpk (fun _ _ => rfl)
       have hyl0 : it = true → zcf a 0 = .func (.yield g'.y) #[] #[] := fun hit => by
         rw [k3.yb.1]
         exact hs.sts.fix 0 _ (hs.yl hit)
       have hsts1 : Sts n fxv w Z (unpackY it (keep (zbn c)) vs) g' a := ⟨k1, k2.unpackY hyl0, hs.sts.size, by rw [k3.yb.2]; exact hs.sts.defers, hs.sts.fix⟩
       have hrel1 := hs.path (s' := ⟨unpackY it (keep (zbn c)) vs, tr, md⟩) hsts1 k3 rfl rfl
       have hadv0 : Adv w w Z Z st.hp (unpackY it (keep (zbn c)) vs).hp g g' := k3.adv k1
       have hes1 : s1.tr <+: es := by
         cases e with
         | normal =>
           simp only [ziw, zaa] at h2
           obtain ⟨vs', _, h2⟩ := h2
           exact (zh8 (fun s r h => zeq _ _ _ h) _ _ _ _ _ h2).trans hes
         | exit id => simp only [ziw, Option.some.injEq] at h2; subst h2; exact hes
         | ret => simp only [ziw, Option.some.injEq] at h2; subst h2; exact hes
       rw [roundsIn_succ]
       refine ih ok n fxv ro it _ (e, s1) a w g' Z _ hok hrc h1 hes1 hrel1 fun a' w' g2 Z2 hs' hp' => ?_
       cases e with
       | normal =>
         simp only [ziw, zaa] at h2
         obtain ⟨vs', hpk', h2⟩ := h2
         exact ihm s1.st vs' s1.tr s1.md a' w' g2 Z2 hs' hpk' h2 fun a3 w3 g3 Z3 hs3 hp3 => hQ a3 w3 g3 Z3 hs3 (hadv0.trans (hp'.trans hp3))
       | exit id =>
         simp only [ziw, Option.some.injEq] at h2
         subst h2
         exact hQ a' w' g2 Z2 hs' (hadv0.trans hp')
       | ret =>
         simp only [ziw, Option.some.injEq] at h2
         subst h2
         exact hQ a' w' g2 Z2 hs' (hadv0.trans hp')
   exact key m s.st vs s.tr s.md a w g Z hs hpk h hQ
 | rangeFunc gop ps A B ihA ihB => exact zwh hcx ihA ihB gop ps
 | _ =>
   intro ok n fxv ro it s r a w g Z Q hok hro h hes hs hQ
   simp [comp, iexec] at h
end
section
variable {cx : Cx}
theorem zu7 {o : AIns} {st : St} {r : St × List Nat × List Nat} {tr : List (List AV)} {md : YM} (h : ains cx o st = some r) : iins cx o ⟨st, tr, md⟩ = some ⟨r.1, tr, md⟩ := by
 unfold iins
 split
 · rename_i args hya
   obtain ⟨x, l, hop, hx, rfl⟩ := zgr hya
   simp only at hx
   unfold ains at h
   simp only [zaa] at h
   obtain ⟨w, hw, h⟩ := h
   cases w with
   | true =>
     exfalso
     rw [hop] at h
     simp [way, aop, hx, zn6, bnd] at h
   | false =>
     simp only [way, Option.some.injEq] at h
     subst h
     simp only [hw, zai, way]
 · rw [h]
   rfl
theorem zn5 : ∀ {l : List AIns} {st r : St} {tr : List (List AV)} {md : YM}, areg cx l st = some r → ireg cx l ⟨st, tr, md⟩ = some ⟨r, tr, md⟩
 | [], st, r, tr, md, h => by
   simp only [areg, Option.some.injEq] at h
   subst h
   rfl
 | o :: l, st, r, tr, md, h => by
   simp only [areg, zaa] at h
   obtain ⟨x, hx, h⟩ := h
   simp only [ireg, zu7 hx, zai]
   exact zn5 h
theorem zhf {it : Bool} {body : IS → IRes} {keep : List (Nat × H)} : ∀ {m : Nat} {vs : List AV} {tr : List (List AV)} {md : YM} {r : AExit × IS}, zde it body keep m vs tr md = some r → ∀ {m' : Nat}, m ≤ m' → zde it body keep m' vs tr md = some r
 | 0, _, _, _, _, e, _, _ => by simp [zde] at e
 | m + 1, vs, tr, md, r, e, 0, h => by omega
 | m + 1, vs, tr, md, r, e, m' + 1, h => by
   simp only [zde, zaa] at e ⊢
   obtain ⟨x, hx, e⟩ := e
   refine ⟨x, hx, ?_⟩
   obtain ⟨ex, st⟩ := x
   cases ex <;> simp only [ziw] at e ⊢ <;> try exact e
   simp only [zaa] at e ⊢
   obtain ⟨vs', hv, e⟩ := e
   exact ⟨vs', hv, zhf e (by omega)⟩
theorem zm3 {it : Bool} {body : IS → IRes} {keep : List (Nat × H)} {m : Nat} {vs : List AV} {tr : List (List AV)} {md : YM} {r : AExit × IS} (e : zde it body keep m vs tr md = some r) : iloop it body keep vs tr md = some r := by
 cases h : iloop it body keep vs tr md with
 | none =>
   unfold iloop at h
   rw [dif_pos ⟨m, r, e⟩] at h
   cases h
 | some r' =>
   obtain ⟨m', e'⟩ := zgd h
   have h1 := zhf e (Nat.le_max_left m m')
   have h2 := zhf e' (Nat.le_max_right m m')
   rw [h1] at h2
   exact h2.symm
theorem zpx : ∀ {c : ACode} {st : St} {r : AExit × St} {tr : List (List AV)} {md : YM}, aexec cx c st = some r → iexec cx false c ⟨st, tr, md⟩ = some (r.1, ⟨r.2, tr, md⟩) := by
 intro c
 induction c with
 | skip => intro st r tr md h; simp only [aexec, Option.some.injEq] at h; subst h; rfl
 | exit id => intro st r tr md h; simp only [aexec, Option.some.injEq] at h; subst h; rfl
 | ret => intro st r tr md h; simp only [aexec, Option.some.injEq] at h; subst h; rfl
 | fail => intro st r tr md h; simp [aexec] at h
 | reg l =>
   intro st r tr md h
   simp only [aexec, zaa, Option.some.injEq] at h
   obtain ⟨st', h1, rfl⟩ := h
   simp only [iexec, zn5 h1, zai]
 | draw l ps =>
   intro st r tr md h
   simp only [aexec, zaa, zac, Option.some.injEq] at h
   obtain ⟨x, h1, h2, rfl⟩ := h
   simp only [iexec, zaa, zac, Option.some.injEq]
   exact ⟨x, h1, h2, rfl⟩
 | seq a b iha ihb =>
   intro st r tr md h
   simp only [aexec, zaa] at h
   obtain ⟨⟨e, s1⟩, h1, h2⟩ := h
   simp only [iexec, iha h1, zai]
   cases e with
   | normal => exact ihb h2
   | exit id => simp only [andThen, Option.some.injEq] at h2; subst h2; rfl
   | ret => simp only [andThen, Option.some.injEq] at h2; subst h2; rfl
 | cond c a b iha ihb =>
   intro st r tr md h
   simp only [aexec] at h
   simp only [iexec]
   revert h
   generalize ev st.sl c = v
   intro h
   cases v <;> simp only [zib] at h <;> try cases h
   rename_i t
   cases t with
   | true => exact iha h
   | false => exact ihb h
 | block id c ih =>
   intro st r tr md h
   simp only [aexec, zaa] at h
   obtain ⟨⟨e, s1⟩, h1, h2⟩ := h
   simp only [iexec, ih h1, zai]
   cases e with
   | normal => simp only [outOf, Option.some.injEq] at h2; subst h2; rfl
   | ret => simp only [outOf, Option.some.injEq] at h2; subst h2; rfl
   | exit id' =>
     simp only [outOf] at h2
     simp only [ze5]
     split at h2
     · rename_i e; injection h2 with h2; subst h2; rw [if_pos e]
     · rename_i e; injection h2 with h2; subst h2; rw [if_neg e]
 | loop keep c ih =>
   intro st r tr md h
   simp only [aexec, zaa] at h
   obtain ⟨vs, hpk, h⟩ := h
   obtain ⟨m, h'⟩ := zfd h
   simp only [iexec, hpk, zai]
   refine zm3 (m := m) ?_
   clear hpk
   replace h := h'
   clear h'
   induction m generalizing vs with
   | zero => simp [zc7] at h
   | succ m ihm =>
     simp only [zc7, zaa] at h
     obtain ⟨⟨e, s1⟩, h1, h2⟩ := h
     simp only [zde]
     rw [zmq, ih h1, zai]
     cases e with
     | normal =>
       simp only [goOn, zaa] at h2
       obtain ⟨vs', hpk', h2⟩ := h2
       simp only [ziw, hpk', zai]
       exact ihm vs' h2
     | exit id => simp only [goOn, Option.some.injEq] at h2; subst h2; rfl
     | ret => simp only [goOn, Option.some.injEq] at h2; subst h2; rfl
 | rangef t ps keep a b iha ihb =>
   intro st r tr md h
   simp only [aexec, zaa] at h
   obtain ⟨vs, hpk, es, hs, h⟩ := h
   simp only [iexec, hpk, hs, zai]
   clear hpk hs
   induction es generalizing vs with
   | nil =>
     simp only [arange, Option.some.injEq] at h
     subst h
     rfl
   | cons x xs ihx =>
     simp only [arange, zaa] at h
     obtain ⟨stx, hb, ⟨e, s1⟩, ⟨⟨e0, s0⟩, h0, h1⟩, h2⟩ := h
     have he0 : e0 = .normal := by
       cases e0 with
       | normal => rfl
       | exit id => simp [zc0] at h1
       | ret => simp [zc0] at h1
     subst he0
     simp only [zc0] at h1
     simp only [irange]
     have hb' : zn3 false ps x keep vs = some stx := hb
     rw [hb', zai, iha h0, zai]
     simp only [zbz]
     rw [ihb h1, zai]
     cases e with
     | normal =>
       simp only [znc, zaa] at h2
       obtain ⟨vs', hpk', h2⟩ := h2
       simp only [zdd, hpk', zai]
       exact ihx vs' h2
     | exit id =>
       simp only [znc, zaa, Option.some.injEq] at h2
       obtain ⟨vs', hpk', rfl⟩ := h2
       simp only [zdd, hpk', zai]
       rfl
     | ret =>
       simp only [znc, zaa, Option.some.injEq] at h2
       obtain ⟨vs', hpk', rfl⟩ := h2
       simp only [zdd, hpk', zai]
       rfl
end
section
variable {P : Program} {cx : Cx} {Z : Nat → Prop}
theorem z09 (hcx : CxOk P cx) (hd : ∀ ok n fxv Z, ze9 ok n fxv → zl9 P cx ok n fxv Z) (keep : Nat → List (Nat × H)) {ok : Ok} {n : Nat} {fxv : Nat → Option Value} (hok : ze9 ok n fxv) (c : Code) (st : St) (r : AExit × St) (a : Act) (w : World) (g : Gm) (Q : Exit → Act → World → Prop) (h : aexec cx (comp P ok keep c) st = some r) (hs : Sts n fxv w Z st g a)
   (hQ : ∀ a' w' g', Sts n fxv w' Z r.2 g' a' → Way w w' Z st.hp r.2.hp g g' → Q (zl6 r.1) a' w') : c.wpIn (FR none) 0 P Q a w := by
 obtain ⟨YB, hYB⟩ : ∃ YB : YP, YB = fun tr md w0 Z' hp0 g0 => md = .off ∧ w0 = w ∧ Z' = Z ∧ hp0 = st.hp ∧ g0 = g := ⟨_, rfl⟩
 have hY : zki P [] YB := by
   intro tr md w0 Z' hp0 g0 w1 hp g1 x b md' xs hb _ _ hn
   rw [hYB] at hb
   rw [hb.1] at hn
   cases hn
 refine zqw hcx hd hY keep c ok n fxv none false ⟨st, [], .off⟩ (r.1, ⟨r.2, [], .off⟩) a w g Z Q hok (fun h => by cases h) (zpx h) (List.prefix_refl _) ⟨hs, ⟨w, st.hp, g, by rw [hYB]; exact ⟨rfl, rfl, rfl, rfl, rfl⟩, Path.refl.way⟩, fun h => by cases h⟩ ?_
 rintro a' w' g' Z' hrel _
 obtain ⟨w0, hp0, g0, b1, b2⟩ := hrel.base
 rw [hYB] at b1
 obtain ⟨_, rfl, rfl, rfl, rfl⟩ := b1
 exact hQ a' w' g' hrel.sts b2
theorem zkg {fn : Func} {tmps : Array Value} {R : Ending → World → Prop} {b : Nat} : ∀ (Ds : List Nat) (w : World), Ds.Nodup → (∀ D ∈ Ds, b ≤ D ∧ w.heap[D]? = some (.deferred (some []))) →
   (∀ w', Still b w w' → ∃ v, (results fn tmps).run P w' = .ok v w' ∧ R (.returned v) w') → LeavesInM (FR none) 0 P fn tmps R (Ds.map zld) .returning w
 | [], w, _, _, h => by
   obtain ⟨v, h1, h2⟩ := h w ⟨Nat.le_refl _, rfl, rfl, rfl, fun _ _ h _ => h⟩
   exact ⟨v, h1, h2⟩
 | D :: Ds, w, hn, hD, h => by
   obtain ⟨h1, h2⟩ := hD D (by simp)
   have hst : Still b w (w.putObj D (.deferred none)) := zeu h2 rfl h1
   refine ⟨(fun h => by cases h), .inl ⟨D, w.putObj D (.deferred none), rfl, run_takeDeferred h2, ?_⟩⟩
   refine zkg Ds _ (List.nodup_cons.1 hn).2 (fun D' hD' => ⟨(hD D' (by simp [hD'])).1, ?_⟩) fun w' hw' => h w' (hst.trans hw')
   rw [World.putObj_heap_other]
   · exact (hD D' (by simp [hD'])).2
   · rintro rfl
     exact (List.nodup_cons.1 hn).1 hD'
end
end Go.Abs
end
section
set_option linter.unusedSimpArgs false
set_option linter.unusedVariables false
namespace Go.Abs
theorem zmu {P : Program} {t : TypeId} {pv v : Value} {w w' : World} (h : (Instr.loadAt t pv).run P w = .ok v w') : (do loadVar t (← asAddr pv) : Sem Value).run P w = .ok v w' := by
 cases pv <;> simp only [Instr.loadAt, Instr.sureAddr] at h
 case pointer x =>
   cases x with
   | none => simp only [Sem.run_bind] at h; simp [stuck, Sem.run] at h
   | some a => simpa only [asAddr, Sem.run_bind, Sem.run_pure, Result.andThen_ok] using h
 all_goals
   simp only [Sem.run_bind] at h
   simp [stuck, Sem.run] at h
theorem zs7 {E : Env} : ∀ {a : AV} {v : Value}, Rep E a v → Rep E (zwm a) v
 | .ip cs, v, h => by
   simp only [Rep] at h
   obtain ⟨b, off, vs, h1, -⟩ := h
   simp only [zwm, Rep]
   exact ⟨b, off, [], h1, rfl, rfl, fun j v hj => by simp at hj, by simp [Reps]⟩
 | .i .., _, h | .b _, _, h | .str _, _, h | .agg _, _, h | .tup _, _, h | .sl .., _, h | .ms .., _, h | .pt .., _, h | .fn .., _, h
 | .nilp, _, h | .nilf, _, h | .mr .., _, h | .junk, _, h | .ow .., _, h | .bx _, _, h | .yl, _, h | .yq, _, h => h
theorem zvw {E : Env} (nn : Bool) {a : AV} {v : Value} (h : Rep E a v) : Rep E (weak nn a) v := by
 cases nn with
 | true => exact zs7 h
 | false => exact h
def zok (tmps : Array Value) : ResultVar → Sem Value
 | .tmp t => pure (tmps.getD t Go.undef)
 | .cell a t => do loadVar t (← asAddr (tmps.getD a Go.undef))
theorem zim {P : Program} {w : World} {Z : Nat → Prop} {st : St} {g : Gm} {a : Act} (hi : Inv (Env.of w Z st.hp g)) (hs : SlotsRep (Env.of w Z st.hp g) st.sl a) : ∀ (l : List ResultVar) (l' : List ARes) (vs : List AV), cres P l = some l' → zc3 st l' = some vs →
   ∃ us, (l.mapM (zok a.tmps)).run P w = .ok us w ∧ Reps (Env.of w Z st.hp g) vs us
 | [], l', vs, h, hv => by
   simp only [cres, Option.some.injEq] at h
   subst h
   simp only [zc3, Option.some.injEq] at hv
   subst hv
   exact ⟨[], by simp, by simp only [Reps]⟩
 | .tmp t :: l, l', vs, h, hv => by
   simp only [cres] at h
   split at h
   · rename_i r hr
     injection h with h
     subst h
     simp only [zc3, zml, zaa, Option.some.injEq] at hv
     obtain ⟨v, rfl, r', hr', rfl⟩ := hv
     obtain ⟨us, e1, e2⟩ := zim hi hs l r r' hr hr'
     refine ⟨a.tmps.getD t Go.undef :: us, ?_, ?_⟩
     · simp only [List.mapM_cons, Sem.run_bind, e1, Result.andThen_ok, Sem.run_pure]
       simp only [zok, Sem.run_pure, Result.andThen_ok, e1]
     · simp only [Reps]
       exact ⟨_, _, rfl, hs t, e2⟩
   · cases h
 | .cell t ty :: l, l', vs, h, hv => by
   simp only [cres] at h
   split at h
   · rename_i r sz c hr hsz hc
     split at h
     · rename_i h1
       injection h with h
       subst h
       simp only [zc3, zml, zaa, Option.some.injEq] at hv
       obtain ⟨v, ⟨fx, hfx, rfl⟩, r', hr', rfl⟩ := hv
       obtain ⟨us, e1, e2⟩ := zim hi hs l r r' hr hr'
       obtain ⟨_, u, h3, h4⟩ := zq2 hc hsz h1 hi (hs t) hfx
       refine ⟨u :: us, ?_, ?_⟩
       · have := zmu h3
         simp only [List.mapM_cons, Sem.run_bind]
         rw [show (zok a.tmps (.cell t ty)).run P w = .ok u w from this]
         simp only [Result.andThen_ok, e1, Sem.run_pure]
       · simp only [Reps]
         exact ⟨_, _, rfl, h4, e2⟩
     · cases h
   · cases h
theorem zii {P : Program} {w : World} {Z : Nat → Prop} {st : St} {g : Gm} {a : Act} (hi : Inv (Env.of w Z st.hp g)) (hs : SlotsRep (Env.of w Z st.hp g) st.sl a) {fn : Func} {l' : List ARes} {vs : List AV} (hc : cres P fn.results.toList = some l') (hv : zc3 st l' = some vs) :
   ∃ v, (results fn a.tmps).run P w = .ok v w ∧ Rep (Env.of w Z st.hp g) (one vs) v := by
 obtain ⟨us, e1, e2⟩ := zim hi hs _ _ _ hc hv
 have hm : (fn.results.mapM (zok a.tmps)).run P w = .ok us.toArray w := by
   rw [Array.mapM_eq_mapM_toList]
   simp [e1]
 have hres : results fn a.tmps = (do let vs ← fn.results.mapM (zok a.tmps); pure (if h : vs.size = 1 then vs[0] else .tuple vs)) := by
   unfold results
   congr 1
 refine ⟨if h : us.toArray.size = 1 then us.toArray[0] else .tuple us.toArray, by rw [hres]; simp only [Sem.run_bind, hm, Result.andThen_ok, Sem.run_pure], ?_⟩
 cases vs with
 | nil =>
   simp only [Reps] at e2
   subst e2
   simp [one, Rep, Reps]
 | cons v r =>
   cases r with
   | nil =>
     simp only [Reps] at e2
     obtain ⟨u, us', rfl, h1, rfl⟩ := e2
     simpa [one] using h1
   | cons v2 r =>
     have hl := e2.length
     have : ¬ us.toArray.size = 1 := by simp at hl ⊢; omega
     rw [dif_neg this]
     simp only [one, Rep]
     exact ⟨_, rfl, e2⟩
theorem zmz {w : World} {g : Gm} {s : Sl} {a : Act} : ∀ (n t : Nat) (pm : List PM) (us : List Value) (hp : Hp) (Z : Nat → Prop) (os : List AV), outs s t n pm hp = some os → us.length = n → (∀ j u, us[j]? = some u → isIo pm j = true → zcf a (t + j) = u) → Inv (Env.of w Z hp g) → SlotsRep (Env.of w Z hp g) s a →
   ∃ F hp', PackOk w Z g hp hp' F ∧ RepPs w (Zp Z F) os (zd6 pm us) F
 | 0, t, pm, us, hp, Z, os, h, hl, hu, hi, hs => by
   have e0 : outs s t 0 pm hp = some [] := by unfold outs; rfl
   rw [e0] at h
   injection h with h
   subst h
   have hu0 : us = [] := List.length_eq_zero_iff.1 hl
   subst hu0
   refine ⟨[], hp, PackOk.refl hi, ?_⟩
   have : zd6 pm [] = [] := by cases pm with | nil => rfl | cons p r => cases p <;> rfl
   rw [this]
   simp only [RepPs]
   exact ⟨trivial, trivial⟩
 | n + 1, t, [], us, hp, Z, os, h, hl, hu, hi, hs => by
   have e0 : outs s t (n + 1) [] hp = some [] := by unfold outs; rfl
   rw [e0] at h
   injection h with h
   subst h
   refine ⟨[], hp, PackOk.refl hi, ?_⟩
   have : zd6 [] us = [] := by cases us <;> rfl
   rw [this]
   simp only [RepPs]
   exact ⟨trivial, trivial⟩
 | n + 1, t, .inout hh :: pm, us, hp, Z, os, h, hl, hu, hi, hs => by
   cases us with
   | nil => simp at hl
   | cons u us =>
     rw [outs] at h
     simp only [zaa, Option.some.injEq] at h
     obtain ⟨⟨v, ks, hp1⟩, h1, vs, h2, rfl⟩ := h
     obtain ⟨F1, p1, q1, _, _⟩ := zfa _ _ Z _ _ _ _ _ _ _ h1 hi (hs t)
     obtain ⟨e1, i1⟩ := p1.others hi
     obtain ⟨F2, hp2, p2, q2⟩ := zmz n (t + 1) pm us hp1 (Zp Z F1) vs h2 (by simpa using hl) (fun j u' hj hio => by rw [Nat.add_right_comm, Nat.add_assoc]; exact hu (j + 1) u' (by simpa using hj) (by simpa [isIo] using hio)) i1 (hs.ext e1)
     have h0 : zcf a t = u := by simpa using hu 0 u rfl rfl
     have q1' : RepP w (YF w Z hp1 g F1) v u F1 := by rw [← h0]; exact q1
     refine ⟨F1 ++ F2, hp2, p1.trans p2, ?_⟩
     simp only [zd6, RepPs]
     refine ⟨u, _, F1, F2, rfl, rfl, q1'.less ?_, q2.less ?_⟩
     · rintro i (hz | hm)
       · exact .inl (.inl hz)
       · rcases List.mem_append.1 hm with hm | hm
         · exact .inr hm
         · have ho := p2.out i hm
           rcases X_Zp.1 ho.1 with h | h
           · exact .inl h
           · exact absurd (.inr h) ho.2.1
     · rintro i (hz | hm)
       · exact .inl (.inl hz)
       · rcases List.mem_append.1 hm with hm | hm
         · exact .inl (.inr hm)
         · exact .inr hm
 | n + 1, t, .borrow :: pm, us, hp, Z, os, h, hl, hu, hi, hs => by
   cases us with
   | nil => simp at hl
   | cons u us =>
     rw [outs] at h
     obtain ⟨F, hp', p1, q1⟩ := zmz n (t + 1) pm us hp Z os h (by simpa using hl) (fun j u' hj hio => by rw [Nat.add_right_comm, Nat.add_assoc]; exact hu (j + 1) u' (by simpa using hj) (by simpa [isIo] using hio)) hi hs
     exact ⟨F, hp', p1, by simp only [zd6]; exact q1⟩
 | n + 1, t, .give hh :: pm, us, hp, Z, os, h, hl, hu, hi, hs => by
   cases us with
   | nil => simp at hl
   | cons u us =>
     rw [outs] at h
     obtain ⟨F, hp', p1, q1⟩ := zmz n (t + 1) pm us hp Z os h (by simpa using hl) (fun j u' hj hio => by rw [Nat.add_right_comm, Nat.add_assoc]; exact hu (j + 1) u' (by simpa using hj) (by simpa [isIo] using hio)) hi hs
     exact ⟨F, hp', p1, by simp only [zd6]; exact q1⟩
def z56 (P : Program) (n : Nat) (fx : Nat → Option Value) (Z : Nat → Prop) (c : Code) (st : St) (g : Gm) (a : Act) (w : World) (r : AExit × St → Prop) : Prop :=
 ∀ Q : Exit → Act → World → Prop, (∀ x a' w' g', r x → Sts n fx w' Z x.2 g' a' → Way w w' Z st.hp x.2.hp g g' → Q (zl6 x.1) a' w') → c.wpIn (FR none) 0 P Q a w
theorem ztf {P : Program} {f : FuncId} {func : Func} {np : Nat} {l : List ARes} {c : Code} {fs : FSpec} (hf : P.funcs[f]? = some func) (hb : func.body = some c) (hres : cres P func.results.toList = some l)
   (hcond : func.params.size + func.nfree ≤ func.ntmps ∧ (func.name == "runtime.NumGoroutine") = false) (hnp : np = func.params.size + func.nfree) {args : List AV} {r : AV × List AV} (hl : args.length = np)
   (hrun : ∀ (w : World) (Z : Nat → Prop) (vs : List Value) (g : Gm) (a : Act), (∀ j u, vs[j]? = some u → zcf a j = u) → Sts func.ntmps (fun t => if isIo fs.pm t = true then some (zcf a t) else none) w Z (zae 0 args [] []) g a →
     z56 P func.ntmps (fun t => if isIo fs.pm t = true then some (zcf a t) else none) Z c (zae 0 args [] []) g a w (fun x => ∃ st, zc1 x = some st ∧ answer fs np l st = some r)) :
   There P f ∧ Owes P f fs.pm args r := by
 subst hnp
 · · ·
       refine ⟨⟨func, hf, hcond.2, by rw [hb]; rfl⟩, ?_⟩
       intro w Z vs F hz hr hnd hZ
       have hvl := hr.length
       obtain ⟨a0, ha0⟩ : ∃ a0 : Act, a0 = { tmps := vs.toArray ++ Array.replicate (func.ntmps - vs.toArray.size) Go.undef, defers := [] } := ⟨_, rfl⟩
       have hslot : ∀ j u, vs[j]? = some u → zcf a0 (0 + j) = u := by
         intro j u hj
         have hlt := (List.getElem?_eq_some_iff.1 hj).1
         unfold zcf
         rw [ha0]
         simp only [Nat.zero_add, Array.getD_eq_getD_getElem?]
         rw [Array.getElem?_append_left (by simpa using hlt)]
         simp [hj]
       have hX0 : ∀ (g : Gm) i, ¬ ∃ k b, look ([] : Hp) k = some b ∧ Real b ∧ g k = i := by
         rintro g i ⟨k, b, h, _⟩
         simp [look] at h
       have hi0 : Inv (Env.of w (Zp Z F) [] ⟨id, 0, w.heap.size⟩) := by
         refine ⟨fun k b hb => by simp [look] at hb, fun k b hb => by simp [look] at hb, fun k k' b b' hb => by simp [look] at hb, fun i hz' => ?_⟩
         rcases hz' with hz' | hz'
         · exact hz i hz'
         · exact RepPs.mem _ _ _ hr i hz'
       obtain ⟨g0, k1, k2, k3, k4⟩ := zll args vs 0 [] [] ⟨id, 0, w.heap.size⟩ F hr hslot hi0 (fun t => by simp [get, Rep]) hnd hZ (fun i hx => by
         rcases hx with (hz | hx) | hx
         · exact .inl hz
         · exact (hX0 ⟨id, 0, w.heap.size⟩ i hx).elim
         · exact .inr hx)
       have hXF : ∀ i, (Env.of w Z (zae 0 args [] []).hp g0).X i → Z i ∨ i ∈ F := by
         intro i hx
         rcases k3 i hx with (hz | hx) | hx
         · exact .inl hz
         · exact (hX0 ⟨id, 0, w.heap.size⟩ i hx).elim
         · exact .inr hx
       have hsts : Sts func.ntmps (fun t => if isIo fs.pm t = true then some (zcf a0 t) else none) w Z (zae 0 args [] []) g0 a0 := by
         refine ⟨k1, k2, ?_, by rw [ha0, k4.2]; exact ⟨[], rfl, List.nodup_nil, Nat.le_refl _, fun D hD => by simp at hD⟩, fun t v hv => ?_⟩
         · rw [ha0]
           simp only [Array.size_append, List.size_toArray, Array.size_replicate]
           omega
         · split at hv
           · injection hv
           · cases hv
       refine zd1.1 (callsIn_of_wp_marks (F := FR none) (n := 0) hf hb trivial ?_)
       rw [← ha0]
       refine hrun w Z vs g0 a0 (fun j u hj => by have := hslot j u hj; rwa [Nat.zero_add] at this) hsts _ fun x a' w1 g' hx hs1 hp1 => ?_
       obtain ⟨st, hst, hans⟩ := hx
       unfold answer at hans
       simp only [zaa, Option.some.injEq] at hans
       obtain ⟨rv, hrv, ⟨pv, ks, hp1'⟩, hpk, os, hos, rfl⟩ := hans
       have hst' : x.2 = st := by
         revert hst
         obtain ⟨e, s⟩ := x
         cases e <;> simp [zc1]
       rw [hst'] at hs1 hp1
       obtain ⟨Ds, hDs, hDn, hDb, hDa⟩ := hs1.defers
       have hgb : g'.b = w.heap.size := hp1.yb.2.trans k4.2
       -- behind the leaving
       have main : LeavesInM (FR none) 0 P func a'.tmps (fun | .returned v, w' => ∃ F', Brings w Z F (zd6 fs.pm vs) (pv, os) v F' w' | _, _ => False) (Ds.map zld) .returning w1 := by
         refine zkg (b := g'.b) Ds w1 hDn (fun D hD => ⟨(hDa D hD).1, (hDa D hD).2.1⟩) fun w' hst4 => ?_
         obtain ⟨x4, i4⟩ := hst4.step hs1.inv hs1.inv.zlt
         have s4 := hs1.slots.ext x4
         have hp' : Way w w' Z (zae 0 args [] []).hp st.hp g0 g' := hp1.trans hs1.inv (hst4.way (Nat.le_refl _) x4.sizes)
         -- the results
         obtain ⟨v, e1, e2⟩ := zii i4 s4 hres hrv
         refine ⟨v, e1, ?_⟩
         obtain ⟨F1, p1, q1, _, _⟩ := zfa _ _ Z _ _ _ _ _ _ _ hpk i4 (zvw fs.nn e2)
         obtain ⟨x1, i1⟩ := p1.others i4
         obtain ⟨F2, hp2, p2, q2⟩ := zmz (w := w') (g := g') (s := st.sl) (a := a') _ 0 fs.pm vs hp1' (Zp Z F1) os hos (by omega) (fun j u hj hio => by
           have h1 := hs1.fix (0 + j) (zcf a0 (0 + j)) (by rw [Nat.zero_add, if_pos hio])
           unfold zcf at h1 ⊢
           rw [h1]
           exact hslot j u hj) i1 (s4.ext x1)
         have pt := p1.trans p2
         refine ⟨F1 ++ F2, ?_, pt.nd, fun i hm => ?_, hp'.size, hp'.os, hp'.tape, hp'.output, hp'.sizes, fun i hlt hnF => ?_⟩
         · simp only [RepPs]
           refine ⟨v, _, F1, F2, rfl, rfl, q1.less ?_, q2.less ?_⟩
           · rintro i (hz | hm)
             · exact .inl (.inl hz)
             · rcases List.mem_append.1 hm with hm | hm
               · exact .inr hm
               · have ho := p2.out i hm
                 rcases X_Zp.1 ho.1 with h | h
                 · exact .inl h
                 · exact absurd (.inr h) ho.2.1
           · rintro i (hz | hm)
             · exact .inl (.inl hz)
             · rcases List.mem_append.1 hm with hm | hm
               · exact .inl (.inr hm)
               · exact .inr hm
         · obtain ⟨o1, o2, _⟩ := pt.out i hm
           refine ⟨?_, o2⟩
           rcases hp'.less i o1 with h | h
           · rcases hXF i h with h | h
             · exact absurd h o2
             · exact .inl h
           · exact .inr h
         · have ho : w.heap[i]? = some w.heap[i] := Array.getElem?_eq_getElem hlt
           rw [ho]
           refine hp'.blk i _ ho ?_ (.inl (by rw [k4.2]; exact hlt))
           rintro ⟨k, b, h1, h2, h3⟩
           have hx : (Env.of w Z (zae 0 args [] []).hp g0).X i := .inr ⟨k, b, h1, h2, h3⟩
           rcases hXF i hx with h | h
           · exact k1.dis k b h1 h2 (by show Z (g0 k); rw [h3]; exact h)
           · exact hnF h
       rw [← hDs] at main
       obtain ⟨e, s⟩ := x
       simp only at hst'
       cases e with
       | exit id => simp [zc1] at hst
       | normal => exact main
       | ret => exact main
theorem zj9 {P : Program} {cx : Cx} (hcx : CxOk P cx) (hdr : ∀ ok n fxv Z, ze9 ok n fxv → zl9 P cx ok n fxv Z) {f : FuncId} {func : Func} {fn : AFun} {keep : Nat → List (Nat × H)} {fs : FSpec} (hf : P.funcs[f]? = some func) (hcf : zal P keep fs.pm func = some fn) {args : List AV} {r : AV × List AV} (hl : args.length = fn.nparams) (h : abody cx fs fn args = some r) :
   There P f ∧ Owes P f fs.pm args r := by
 unfold zal at hcf
 split at hcf
 · rename_i c hb
   split at hcf
   · rename_i l hres
     split at hcf
     · rename_i hcond
       injection hcf with hcf
       subst hcf
       simp only at hl
       unfold abody at h
       simp only [zaa] at h
       obtain ⟨x, hx, st, hst, hans⟩ := h
       refine ztf hf hb hres hcond rfl hl fun w Z vs g a hslot hsts Q hQ => ?_
       have hok : ze9 ⟨okD func.ntmps fs.pm, ibK keep⟩ func.ntmps (fun t => if isIo fs.pm t = true then some (zcf a t) else none) := by
         intro d hd
         simp only [okD, Bool.and_eq_true, decide_eq_true_eq, Bool.not_eq_true'] at hd
         exact ⟨hd.1, by simp [hd.2]⟩
       exact z09 hcx hdr keep hok c _ x a w g _ hx hsts fun a' w' g' h1 h2 => hQ x a' w' g' ⟨st, hst, hans⟩ h1 h2
     · cases hcf
   · cases hcf
 · cases hcf
end Go.Abs
end
section
set_option linter.unusedSimpArgs false
set_option linter.unusedVariables false
namespace Go.Abs
section
variable {P : Program} {cx : Cx} {ops : Array Oper} {Z : Nat → Prop} {n : Nat} {ok : Ok} {fxv : Nat → Option Value} {Q : Exit → Act → World → Prop} {ro : Option Nat}
theorem zwp (hcx : CxOk P cx) (hok : ze9 ok n fxv) {st : St} {a : Act} {w : World} {g : Gm} (h : Sts n fxv w Z st g a) {i : Nat} {o : Oper} (ho : ops[i]? = some o) {r : St} (hf : zhb cx (cins P ok ops o) st = some r) {K : Act → World → Prop}
   (hK : ∀ a' w' g', Sts n fxv w' Z r g' a' → a'.defers = a.defers → Step w w' Z st.hp r.hp g g' → K a' w') : wpOpIn (FR ro) 0 P ops Q i K a w := by
 have go : ∀ (b : Bool) (gd : Option (Nat × Bool)), (∀ d, o.dst = some d → ok d = true) → cins P ok ops o = { dst := o.dst, op := ibox (ok.ibAt o.dst) (copF P o.op), guard := gd } → wanted st.sl gd = some b → Region.wanted o (yielded ops a.tmps) = b → wpOpIn (FR ro) 0 P ops Q i K a w := by
   intro b gd hd hc hb hw
   have hds : ∀ d, o.dst = some d → d < a.tmps.size := fun d hdd => by rw [h.size]; exact (hok d (hd d hdd)).1
   have hfxv : ∀ (v : Value) (t : Nat) (u : Value), fxv t = some u → (a.put o.dst v).tmps.getD t Go.undef = u := by
     intro v t u ht
     rw [Act.put_other]
     · exact h.fix t u ht
     · intro hdd
       rw [(hok t (hd t hdd)).2] at ht
       cases ht
   rw [hc] at hf
   unfold zhb at hf
   simp only [hb, zai] at hf
   unfold wpOpIn
   simp only [ho, hw]
   cases b with
   | true =>
     simp only [way, zaa, Option.some.injEq] at hf
     obtain ⟨fx, hfx, rfl⟩ := hf
     simp only [if_true]
     exact z5s hcx h.inv (by obtain ⟨_, _, _, hb, _⟩ := h.defers; exact hb) h.slots hfx fun v w' g' s1 s2 => hK _ w' g' ⟨s1.inv, (h.slots.ext s1.ext).put hds s2, by rw [Act.put_size]; exact h.size, by rw [Act.put_def]; exact h.defers.step h.inv s1, hfxv _⟩ (Act.put_def _ _ _) s1
   | false =>
     simp only [way, Option.some.injEq] at hf
     subst hf
     simp only [Bool.false_eq_true, if_false]
     exact ⟨fun _ _ => trivial, hK _ w g ⟨h.inv, h.slots.put hds (zj3 _), by rw [Act.put_size]; exact h.size, by rw [Act.put_def]; exact h.defers, hfxv _⟩ (Act.put_def _ _ _) (Step.refl h.inv)⟩
 rcases ziv (P := P) (ops := ops) (ok := ok) o with hc | ⟨hd, ⟨hg, hc⟩ | ⟨j, want, t, hg, ht, hc⟩⟩
 · rw [hc] at hf
   simp [zhb, wanted, aop, way] at hf
 · exact go true none hd hc rfl (by simp [Region.wanted, hg])
 · have hf' := hf
   rw [hc] at hf'
   unfold zhb at hf'
   simp only [zaa] at hf'
   obtain ⟨b, hb, _⟩ := hf'
   exact go b _ hd hc hb (zkq h hg ht hb)
theorem zra (hcx : CxOk P cx) (hok : ze9 ok n fxv) : ∀ (l : List Oper) (k : Nat) (st st' : St) (a : Act) (w : World) (g : Gm), ops.toList.drop k = l → zf9 cx (l.map (cins P ok ops)) st = some st' → Sts n fxv w Z st g a →
   (∀ a' w' g', Sts n fxv w' Z st' g' a' → a'.defers = a.defers → Step w w' Z st.hp st'.hp g g' → Q .normal a' w') → wpOpsIn (FR ro) 0 P ops Q (List.range' k l.length) a w
 | [], k, st, st', a, w, g, _, hf, h, hQ => by
   simp only [List.map_nil, zf9, Option.some.injEq] at hf
   subst hf
   simp only [List.length_nil, List.range'_zero, wpOpsIn]
   exact hQ a w g h rfl (Step.refl h.inv)
 | o :: l, k, st, st', a, w, g, hl, hf, h, hQ => by
   simp only [List.map_cons, zf9, zaa] at hf
   obtain ⟨r, hr, hf⟩ := hf
   have hk : ops[k]? = some o := by
     have : (ops.toList.drop k)[0]? = some o := by rw [hl]; rfl
     simpa using this
   rw [List.length_cons, List.range'_succ, wpOpsIn_cons]
   refine zwp hcx hok h hk hr fun a' w' g' h' d1 s1 => ?_
   refine zra hcx hok l (k + 1) r st' a' w' g' ?_ hf h' fun a2 w2 g2 h2 d2 s2 => hQ a2 w2 g2 h2 (d2.trans d1) (s1.trans s2)
   have : ops.toList.drop (k + 1) = (ops.toList.drop k).drop 1 := by rw [List.drop_drop]
   rw [this, hl]
   rfl
end
section
variable {P : Program} {cx : Cx} {Z : Nat → Prop} {n : Nat} {ok : Ok} {fxv : Nat → Option Value}
theorem zwd (hcx : CxOk P cx) (hok : ze9 ok n fxv) (keep : Nat → List (Nat × H)) : ∀ (c : Code) (st : St) (r : AExit × St) (a : Act) (w : World) (g : Gm) (Q : Exit → Act → World → Prop), za5 cx (comp P ok keep c) st = some r → Sts n fxv w Z st g a →
   (∀ a' w' g', Sts n fxv w' Z r.2 g' a' → a'.defers = a.defers → Step w w' Z st.hp r.2.hp g g' → Q (zl6 r.1) a' w') → c.wpIn (FR none) 0 P Q a w := by
 intro c
 induction c with
 | skip =>
   intro st r a w g Q h hs hQ
   simp only [comp, za5, Option.some.injEq] at h
   subst h
   exact wpIn_skip (hQ a w g hs rfl (Step.refl hs.inv))
 | exit id =>
   intro st r a w g Q h hs hQ
   simp only [comp, za5, Option.some.injEq] at h
   subst h
   exact wpIn_exit (hQ a w g hs rfl (Step.refl hs.inv))
 | ret =>
   intro st r a w g Q h hs hQ
   simp only [comp, za5, Option.some.injEq] at h
   subst h
   exact wpIn_ret (hQ a w g hs rfl (Step.refl hs.inv))
 | region id ops draw =>
   intro st r a w g Q h hs hQ
   cases draw with
   | true =>
     simp only [comp, if_true] at h
     split at h <;> simp [za5] at h
   | false =>
     simp only [comp, Bool.false_eq_true, if_false, za5, zaa, Option.some.injEq] at h
     obtain ⟨s', hx, rfl⟩ := h
     refine wpIn_region ?_
     have := zra (ops := ops) (Q := Q) (ro := none) hcx hok ops.toList 0 st s' a w g rfl hx hs (fun a' w' g' h1 h2 h3 => hQ a' w' g' h1 h2 h3)
     rwa [Array.length_toList, ← List.range_eq_range'] at this
 | seq x y ihx ihy =>
   intro st r a w g Q h hs hQ
   simp only [comp, za5, zaa] at h
   obtain ⟨⟨e, s1⟩, h1, h2⟩ := h
   refine wpIn_seq (ihx st (e, s1) a w g _ h1 hs fun a' w' g' hs' d1 hp' => ?_)
   cases e with
   | normal =>
     simp only [andThen] at h2
     exact ihy s1 r a' w' g' Q h2 hs' fun a2 w2 g2 hs2 d2 hp2 => hQ a2 w2 g2 hs2 (d2.trans d1) (hp'.trans hp2)
   | exit id =>
     simp only [andThen, Option.some.injEq] at h2
     subst h2
     exact hQ a' w' g' hs' d1 hp'
   | ret =>
     simp only [andThen, Option.some.injEq] at h2
     subst h2
     exact hQ a' w' g' hs' d1 hp'
 | cond c x y ihx ihy =>
   intro st r a w g Q h hs hQ
   simp only [comp] at h
   split at h
   · rename_i c' hc
     simp only [za5] at h
     have hr := zah hs.slots hc
     unfold zib at h
     split at h
     · rename_i b heq
       rw [heq] at hr
       simp only [Rep] at hr
       refine wpIn_cond hr ?_
       cases b with
       | true => exact ihx st r a w g Q h hs hQ
       | false => exact ihy st r a w g Q h hs hQ
     · cases h
   · simp [za5] at h
 | block id c ih =>
   intro st r a w g Q h hs hQ
   simp only [comp, za5, zaa] at h
   obtain ⟨⟨e, s1⟩, h1, h2⟩ := h
   refine wpIn_block (ih st (e, s1) a w g _ h1 hs fun a' w' g' hs' d1 hp' => ?_)
   cases e with
   | normal =>
     simp only [outOf, Option.some.injEq] at h2
     subst h2
     exact hQ a' w' g' hs' d1 hp'
   | ret =>
     simp only [outOf, Option.some.injEq] at h2
     subst h2
     exact hQ a' w' g' hs' d1 hp'
   | exit id' =>
     simp only [outOf] at h2
     show (if id' = id then _ else _)
     split at h2
     · rename_i e
       injection h2 with h2
       subst h2
       rw [if_pos e]
       exact hQ a' w' g' hs' d1 hp'
     · rename_i e
       injection h2 with h2
       subst h2
       rw [if_neg e]
       exact hQ a' w' g' hs' d1 hp'
 | _ =>
   intro st r a w g Q h hs hQ
   simp only [comp] at h
   first
     | (simp [za5] at h; done)
     | ((repeat' split at h) <;> simp [za5] at h)
end
theorem zi5 {E : Env} {a : Act} : ∀ (args : List AV) (vs : List Value) (t : Nat) (s : Sl), Reps E args vs → (∀ j u, vs[j]? = some u → zcf a (t + j) = u) → SlotsRep E s a → SlotsRep E (zfz t args s) a
 | [], vs, t, s, hr, hu, hs => by simp only [zfz]; exact hs
 | v :: r, vs, t, s, hr, hu, hs => by
   simp only [Reps] at hr
   obtain ⟨u, us, rfl, h1, h2⟩ := hr
   simp only [zfz]
   refine zi5 r us (t + 1) _ h2 (fun j u' hj => by rw [Nat.add_right_comm, Nat.add_assoc]; exact hu (j + 1) u' (by simpa using hj)) fun t' => ?_
   have h0 : zcf a t = u := by simpa using hu 0 u rfl
   show Rep E (if t' = t then v else get s t') (zcf a t')
   by_cases e : t' = t
   · subst e
     rw [if_pos rfl, h0]
     exact h1
   · rw [if_neg e]
     exact hs t'
theorem zv5 {P : Program} {cx : Cx} (hcx : CxOk P cx) {f : FuncId} {func : Func} {fn : AFun} {keep : Nat → List (Nat × H)} (hf : P.funcs[f]? = some func) (hcf : zal P keep [] func = some fn) {args : List AV} {hp : Hp} {r : AV × Hp} (hl : args.length = fn.nparams)
   (h : (bnd (za5 cx fn.body ⟨zfz 0 args [], hp⟩) fun x => bnd (zc1 x) fun st => bnd (zc3 st fn.res) fun vs => some (one vs, st.hp)) = some r) : z35 P f args hp r := by
 unfold zal at hcf
 split at hcf
 · rename_i c hb
   split at hcf
   · rename_i l hres
     split at hcf
     · rename_i hcond
       injection hcf with hcf
       subst hcf
       simp only at hl
       simp only [zaa, Option.some.injEq] at h
       obtain ⟨x, hx, st, hst, rs, hrs, rfl⟩ := h
       intro w Z g vs hi hgb hr
       refine ⟨⟨func, hf, hcond.2, by rw [hb]; rfl⟩, ?_⟩
       have hvl := hr.length
       obtain ⟨a0, ha0⟩ : ∃ a0 : Act, a0 = { tmps := vs.toArray ++ Array.replicate (func.ntmps - vs.toArray.size) Go.undef, defers := [] } := ⟨_, rfl⟩
       have hslot : ∀ j u, vs[j]? = some u → zcf a0 (0 + j) = u := by
         intro j u hj
         have hlt := (List.getElem?_eq_some_iff.1 hj).1
         unfold zcf
         rw [ha0]
         simp only [Nat.zero_add, Array.getD_eq_getD_getElem?]
         rw [Array.getElem?_append_left (by simpa using hlt)]
         simp [hj]
       have hsl : SlotsRep (Env.of w Z hp g) (zfz 0 args []) a0 := zi5 args vs 0 [] hr hslot (fun t => by simp [get, Rep])
       have hsts : Sts func.ntmps (fun t => if isIo [] t = true then some (zcf a0 t) else none) w Z ⟨zfz 0 args [], hp⟩ g a0 := by
         refine ⟨hi, hsl, ?_, by rw [ha0]; exact ⟨[], rfl, List.nodup_nil, hgb, fun D hD => by simp at hD⟩, fun t v hv => ?_⟩
         · rw [ha0]
           simp only [Array.size_append, List.size_toArray, Array.size_replicate]
           omega
         · split at hv
           · injection hv
           · cases hv
       have hok : ze9 ⟨okD func.ntmps [], ibK keep⟩ func.ntmps (fun t => if isIo [] t = true then some (zcf a0 t) else none) := by
         intro d hd
         simp only [okD, Bool.and_eq_true, decide_eq_true_eq, Bool.not_eq_true'] at hd
         exact ⟨hd.1, by simp [hd.2]⟩
       refine zd1.1 (callsIn_of_wp_marks (F := FR none) (n := 0) hf hb trivial ?_)
       rw [← ha0]
       refine zwd hcx hok keep c _ x a0 w g _ hx hsts fun a' w1 g' hs1 hd1 hp1 => ?_
       have hd0 : a'.defers = [] := by rw [hd1, ha0]
       have hst' : x.2 = st := by
         revert hst
         obtain ⟨e, s⟩ := x
         cases e <;> simp [zc1]
       rw [hst'] at hs1 hp1
       obtain ⟨v, e1, e2⟩ := zii hs1.inv hs1.slots hres hrs
       have main : LeavesInM (FR none) 0 P func a'.tmps (fun | .returned v, w' => ∃ g', Step w w' Z hp st.hp g g' ∧ Rep (Env.of w' Z st.hp g') (one rs) v | _, _ => False) a'.defers .returning w1 := by
         rw [hd0]
         exact ⟨v, e1, g', hp1, e2⟩
       obtain ⟨e, s⟩ := x
       simp only at hst'
       cases e with
       | exit id => simp [zc1] at hst
       | normal => exact main
       | ret => exact main
     · cases hcf
   · cases hcf
 · cases hcf
end Go.Abs
end
section
set_option linter.unusedSimpArgs false
set_option linter.unusedVariables false
namespace Go.Abs
open Go.RowKit
mutual
theorem zhd : ∀ (v : AV) (k : Nat) (hp : Hp), flat v = true → unpack v k hp = (v, k, hp)
 | .ow .., _, _, h => by simp [flat] at h
 | .bx _, _, _, h => by simp [flat] at h
 | .om _, _, _, h => by simp [flat] at h
 | .agg cs, k, hp, h => by simp only [flat] at h; simp only [unpack, zgc cs k hp h]
 | .tup cs, k, hp, h => by simp only [flat] at h; simp only [unpack, zgc cs k hp h]
 | .i .., _, _, _ => by simp only [unpack]
 | .b _, _, _, _ => by simp only [unpack]
 | .str _, _, _, _ => by simp only [unpack]
 | .sl .., _, _, _ => by simp only [unpack]
 | .ip _, _, _, _ => by simp only [unpack]
 | .fn .., _, _, _ => by simp only [unpack]
 | .nilp, _, _, _ => by simp only [unpack]
 | .nilf, _, _, _ => by simp only [unpack]
 | .junk, _, _, _ => by simp only [unpack]
 | .ms .., _, _, h => by simp [flat] at h
 | .pt .., _, _, h => by simp [flat] at h
 | .mr .., _, _, h => by simp [flat] at h
 | .yl, _, _, h => by simp [flat] at h
 | .yq, _, _, h => by simp [flat] at h
theorem zgc : ∀ (l : List AV) (k : Nat) (hp : Hp), flats l = true → unpacks l k hp = (l, k, hp)
 | [], _, _, _ => by simp only [unpacks]
 | v :: r, k, hp, h => by
   simp only [flats, Bool.and_eq_true] at h
   simp only [unpacks, zhd v k hp h.1, zgc r k hp h.2]
end
theorem zi7 : ∀ (vs : List AV) (t : Nat) (s : Sl) (hp : Hp), flats vs = true → (zae t vs s hp).hp = hp
 | [], _, _, _, _ => by simp only [zae]
 | v :: r, t, s, hp, h => by
   simp only [flats, Bool.and_eq_true] at h
   simp only [zae, zhd v _ hp h.1]
   exact zi7 r _ _ _ h.2
theorem zhr {E : Env} {a : Act} : ∀ (vs : List AV) (us : List Value) (t : Nat) (s : Sl) (hp : Hp), flats vs = true → Reps E vs us → (∀ j u, us[j]? = some u → zcf a (t + j) = u) → SlotsRep E s a → SlotsRep E (zae t vs s hp).sl a
 | [], us, t, s, hp, _, _, _, hs => by simpa only [zae] using hs
 | v :: r, us, t, s, hp, hf, hr, hu, hs => by
   simp only [flats, Bool.and_eq_true] at hf
   simp only [Reps] at hr
   obtain ⟨u, us', rfl, h1, h2⟩ := hr
   simp only [zae, zhd v _ hp hf.1]
   refine zhr r us' (t + 1) _ _ hf.2 h2 (fun j u' hj => by rw [Nat.add_right_comm, Nat.add_assoc]; exact hu (j + 1) u' (by simpa using hj)) fun t' => ?_
   show Rep E (if t' = t then v else get s t') _
   split
   · rename_i e
     subst e
     have := hu 0 u rfl
     rw [Nat.add_zero] at this
     rw [show a.tmps.getD t' Go.undef = u from this]
     exact h1
   · exact hs t'
theorem zk4 {x : IRes} {s : IS} (h : ifin x = some s) : ∃ e, x = some (e, s) ∧ (∀ id, e ≠ .exit id) := by
 cases x with
 | none => simp [ifin] at h
 | some p =>
   obtain ⟨e, s'⟩ := p
   cases e with
   | exit id => simp [ifin] at h
   | normal => simp only [ifin, Option.some.injEq] at h; subst h; exact ⟨_, rfl, fun _ h => by cases h⟩
   | ret => simp only [ifin, Option.some.injEq] at h; subst h; exact ⟨_, rfl, fun _ h => by cases h⟩
theorem z3s {pm : List PM} (h : io0 pm = true) : isIo pm 0 = true := by
 cases pm with
 | nil => simp [io0] at h
 | cons p r => cases p <;> simp_all [io0, isIo]
theorem zv4 {P : Program} {cx : Cx} (hcx : CxOk P cx) (hdr : ∀ ok n fxv Z, ze9 ok n fxv → zl9 P cx ok n fxv Z) {f : FuncId} {func : Func} {fn : AFun} {keep : Nat → List (Nat × H)} {fs : FSpec} (hf : P.funcs[f]? = some func) (hcf : zal P keep fs.pm func = some fn) {args : List AV} {r : AV × List AV} (hl : args.length = fn.nparams) (h : igive cx fs fn args = some r) : znt P f args r := by
 unfold igive at h
 split at h
 rotate_left
 · cases h
 rename_i caps
 simp only [zaa, zac, Option.some.injEq] at h
 obtain ⟨s, hs, ⟨hres0, hgo, hio, hfc, hstop⟩, rfl⟩ := h
 refine ⟨caps, .open_, 0, s.tr, rfl, rfl, hfc, ?_⟩
 unfold zal at hcf
 split at hcf
 rotate_left
 · cases hcf
 rename_i c hb
 split at hcf
 rotate_left
 · cases hcf
 rename_i rl hres
 split at hcf
 rotate_left
 · cases hcf
 rename_i hcond
 injection hcf with hcf
 subst hcf
 simp only at hl hres0
 have hrl : rl = [] := by simpa using hres0
 subst hrl
 refine ⟨⟨func, hf, hcond.2, by rw [hb]; rfl⟩, ?_⟩
 intro l w Z cvs Y md hz hr hmd hstill hyield hY0
 -- the run
 obtain ⟨s', hs', htr, hmdf⟩ : ∃ s', irun cx { nparams := func.params.size + func.nfree, body := comp P ⟨okD func.ntmps fs.pm, ibK keep⟩ keep c, res := [] } caps md = some s' ∧ s'.tr <+: s.tr ∧ ∀ w' Z', Y s'.tr s'.md w' Z' → endY Y s.tr w' Z' md := by
   rcases hmd with rfl | ⟨n, hn, rfl⟩
   · refine ⟨s, hs, List.prefix_refl _, fun w' Z' h => ?_⟩
     cases hm : s.md with
     | go => rw [hm] at h; exact h
     | cnt n => rw [hm] at hgo; simp [YM.isGo] at hgo
     | off => rw [hm] at hgo; simp [YM.isGo] at hgo
   · obtain ⟨s2, h1, h2, h3⟩ := hstop n hn
     refine ⟨s2, h1, by rw [h2]; exact List.take_prefix _ _, fun w' Z' h => ?_⟩
     cases hm : s2.md with
     | off => rw [hm, h2] at h; exact h
     | go => rw [hm] at h3; simp [YM.isOff] at h3
     | cnt n => rw [hm] at h3; simp [YM.isOff] at h3
 unfold irun at hs'
 obtain ⟨e, hx, hne⟩ := zk4 hs'
 have hcl := hr.length
 obtain ⟨us, hus⟩ : ∃ us : List Value, us = .func (.yield l) #[] #[] :: cvs := ⟨_, rfl⟩
 have husa : (#[.func (.yield l) #[] #[]] ++ cvs.toArray : Array Value) = us.toArray := by rw [hus]; simp
 have husl : us.length = func.params.size + func.nfree := by rw [hus, ← hl]; simp [hcl]
 rw [husa]
 obtain ⟨a0, ha0⟩ : ∃ a0 : Act, a0 = { tmps := us.toArray ++ Array.replicate (func.ntmps - us.toArray.size) Go.undef, defers := [] } := ⟨_, rfl⟩
 have hslot : ∀ j u, us[j]? = some u → zcf a0 (0 + j) = u := by
   intro j u hj
   have hlt := (List.getElem?_eq_some_iff.1 hj).1
   unfold zcf
   rw [ha0]
   simp only [Nat.zero_add, Array.getD_eq_getD_getElem?]
   rw [Array.getElem?_append_left (by simpa using hlt)]
   simp [hj]
 obtain ⟨g0, hg0⟩ : ∃ g0 : Gm, g0 = ⟨id, l, w.heap.size⟩ := ⟨_, rfl⟩
 have hX0 : ∀ i, ¬ Mine ([] : Hp) g0 i := by
   rintro i ⟨k, b, h, _⟩
   simp [look] at h
 have hi0 : Inv (Env.of w Z [] g0) := ⟨fun k b hb => by simp [look] at hb, fun k b hb => by simp [look] at hb, fun k k' b b' hb => by simp [look] at hb, hz⟩
 have hst0 : (zae 0 (.yl :: caps) [] []).hp = [] := by
   simp only [zae, unpack]
   exact zi7 caps _ _ _ hfc
 have hcr : Reps (Env.of w Z [] g0) caps cvs := Reps.flat' (Z := Z) (hp := []) (g := g0) (fun i hi => by
   rcases hi with hi | hi
   · exact hi
   · exact (hX0 i hi).elim) hfc hr
 have hslots : SlotsRep (Env.of w Z [] g0) (zae 0 (.yl :: caps) [] []).sl a0 := by
   simp only [zae, unpack]
   refine zhr caps cvs 1 _ _ hfc hcr (fun j u hj => by
     have := hslot (j + 1) u (by rw [hus]; simpa using hj)
     rwa [Nat.zero_add, Nat.add_comm] at this) fun t => ?_
   show Rep _ (if t = 0 then .yl else get [] t) _
   split
   · rename_i e
     subst e
     have := hslot 0 (.func (.yield l) #[] #[]) (by rw [hus]; rfl)
     simp only [Rep]
     rw [hg0]
     exact this
   · simp [get, Rep]
 have hsts : Sts func.ntmps (fun t => if isIo fs.pm t = true then some (zcf a0 t) else none) w Z (zae 0 (.yl :: caps) [] []) g0 a0 := by
   refine ⟨by rw [hst0]; exact hi0, by rw [hst0]; exact hslots, ?_, by rw [ha0, hg0]; exact ⟨[], rfl, List.nodup_nil, Nat.le_refl _, fun D hD => by simp at hD⟩, fun t v hv => ?_⟩
   · rw [ha0]
     simp only [Array.size_append, List.size_toArray, Array.size_replicate]
     omega
   · split at hv
     · injection hv
     · cases hv
 have hok : ze9 ⟨okD func.ntmps fs.pm, ibK keep⟩ func.ntmps (fun t => if isIo fs.pm t = true then some (zcf a0 t) else none) := by
   intro d hd
   simp only [okD, Bool.and_eq_true, decide_eq_true_eq, Bool.not_eq_true'] at hd
   exact ⟨hd.1, by simp [hd.2]⟩
 obtain ⟨YB, hYB⟩ : ∃ YB : YP, YB = fun tr md w0 Z' hp0 g1 => Y tr md w0 Z' ∧ (∀ i, ¬ Mine hp0 g1 i) ∧ g1.y = l ∧ g1.b = w.heap.size := ⟨_, rfl⟩
 have hstillOf : ∀ {w0 w1 : World} {Z1 : Nat → Prop} {hp0 hp1 : Hp} {g1 g2 : Gm}, Way w0 w1 Z1 hp0 hp1 g1 g2 → (∀ i, ¬ Mine hp0 g1 i) → g1.b = w.heap.size → Still w.heap.size w0 w1 := by
   intro w0 w1 Z1 hp0 hp1 g1 g2 hw hm hb2
   exact ⟨hw.size, hw.os, hw.tape, hw.output, fun i o hi hc => hw.blk i o hi (hm i) (by rw [hb2]; exact hc)⟩
 have hYok : zki P s.tr YB := by
   intro tr md w0 Z' hp0 g1 w1 hp1 g2 x b md' xs hyb hway hx2 hn hzl hfx hxs
   rw [hYB] at hyb ⊢
   obtain ⟨y1, y2, y3, y4⟩ := hyb
   have hy1 := hstill tr md w0 Z' w1 y1 (hstillOf hway y2 y4)
   have hgy : g2.y = l := hway.yb.1.trans y3
   have hgb : g2.b = w.heap.size := hway.yb.2.trans y4
   rw [hgy]
   obtain ⟨fn2, tmps, assign, body, e1, e2⟩ := hyield tr x md b md' w1 Z' xs hy1 hx2 hn hzl hfx hxs
   refine ⟨fn2, tmps, assign, body, e1, e2.mono ?_⟩
   rintro e w' ⟨rfl, Z'', ht, hy2⟩
   exact ⟨rfl, Z'', ht, fun hp' g' q1 q1' q2 => ⟨hy2, q2, q1, q1'.trans hgb⟩⟩
 refine zd1.1 (callsIn_of_wp_marks (F := FR none) (n := 0) hf hb trivial ?_)
 rw [← ha0]
 refine zqw hcx hdr hYok keep c _ _ _ none true _ (e, s') a0 w g0 Z _ hok (fun h => by cases h) hx htr ⟨hsts, ⟨w, [], g0, by rw [hYB]; exact ⟨hY0, hX0, by rw [hg0], by rw [hg0]⟩, ?_⟩, fun _ => ?_⟩ fun a' w1 g' Z' hrel _ => ?_
 · show Way w w Z [] (zae 0 (.yl :: caps) [] []).hp g0 g0
   rw [hst0]
   exact Path.refl.way
 · simp only [z3s hio, if_true]
   have := hslot 0 (.func (.yield l) #[] #[]) (by rw [hus]; rfl)
   rw [hg0]
   exact congrArg some this
 · obtain ⟨w0, hp0, g1, b1, b2⟩ := hrel.base
   rw [hYB] at b1
   obtain ⟨y1, y2, y3, y4⟩ := b1
   have hy1 := hstill _ _ _ _ _ y1 (hstillOf b2 y2 y4)
   have hgb : g'.b = w.heap.size := b2.yb.2.trans y4
   obtain ⟨Ds, hDs, hDn, hDb, hDa⟩ := hrel.sts.defers
   have main : LeavesInM (FR none) 0 P func a'.tmps (fun e w' => (∃ v, e = .returned v) ∧ ∃ Z', endY Y s.tr w' Z' md) (Ds.map zld) .returning w1 := by
     refine zkg (b := g'.b) Ds w1 hDn (fun D hD => ⟨(hDa D hD).1, (hDa D hD).2.1⟩) fun w' hst4 => ?_
     obtain ⟨x4, i4⟩ := hst4.step hrel.sts.inv hrel.sts.inv.zlt
     obtain ⟨v, e1, _⟩ := zii i4 (hrel.sts.slots.ext x4) hres (vs := []) (by simp only [zc3])
     rw [hgb] at hst4
     exact ⟨v, e1, ⟨v, rfl⟩, Z', hmdf w' Z' (hstill _ _ _ _ _ hy1 hst4)⟩
   rw [← hDs] at main
   cases e with
   | exit id => exact absurd rfl (hne id)
   | normal => exact main
   | ret => exact main
end Go.Abs
end
section
set_option linter.unusedSimpArgs false
set_option linter.unusedVariables false
namespace Go.Abs
structure SysOk (P : Program) (S : Sys) : Prop where
 mixed : P.follows .mixedOrders = true
 fs : ∀ f fn, S.fs f = some fn → ∃ keep func, P.funcs[real f]? = some func ∧ zal P keep (S.spec f).pm func = some fn
 prim : ∀ f p, S.prim f = some p → ∀ args r, p args = some r → Meets P (real f) (S.spec f).pm args r
abbrev cx0 (S : Sys) (call : Nat → List AV → Option (AV × List AV)) : Cx := { call, spec := S.spec, inl := fun _ _ _ => none }
theorem ztl {P : Program} {S : Sys} (h : SysOk P S) {call : Nat → List AV → Option (AV × List AV)} (hc : ∀ f args r, call f args = some r → Meets P (real f) (S.spec f).pm args r ∧ ((S.spec f).it = true → znt P (real f) args r)) : CxOk P (cxOf S call) := by
 refine ⟨hc, fun f args hp r e => ?_⟩
 have h0 : CxOk P (cx0 S call) := ⟨hc, fun _ _ _ _ e => by cases e⟩
 simp only [inlF] at e
 rw [zaa] at e
 obtain ⟨fn, hfn, e⟩ := e
 rw [zac] at e
 obtain ⟨⟨hl, hpm⟩, e⟩ := e
 obtain ⟨keep, func, h1, h2⟩ := h.fs f fn hfn
 rw [hpm] at h2
 exact zv5 h0 h1 h2 hl e
theorem ziy {P : Program} {S : Sys} (h : SysOk P S) : ∀ n f args r, zc6 S n f args = some r → Meets P (real f) (S.spec f).pm args r ∧ ((S.spec f).it = true → znt P (real f) args r)
 | 0, f, args, r, e => by simp [zc6] at e
 | n + 1, f, args, r, e => by
   have hcx : CxOk P (cxOf S (zc6 S n)) := ztl h fun f args r e => ziy h n f args r e
   have hdr : ∀ ok n fxv Z, ze9 ok n fxv → zl9 P _ ok n fxv Z := fun ok n fxv Z hok => zpm hcx h.mixed ok n fxv Z hok
   simp only [zc6, zh4] at e
   split at e
   · simp only [zaa, zac] at e
     obtain ⟨fn, hfn, hl, e⟩ := e
     obtain ⟨keep, func, h1, h2⟩ := h.fs f fn hfn
     have hg := zv4 hcx hdr h1 h2 hl e
     exact ⟨.inr (.inr hg), fun _ => hg⟩
   · rename_i hit
     split at e
     · rename_i p hp
       exact ⟨h.prim f p hp args r e, fun h => by rw [hit] at h; cases h⟩
     · simp only [zaa, zac] at e
       obtain ⟨fn, hfn, hl, e⟩ := e
       obtain ⟨keep, func, h1, h2⟩ := h.fs f fn hfn
       exact ⟨.inl (zj9 hcx hdr h1 h2 hl e), fun h => by rw [hit] at h; cases h⟩
theorem znh {S : Sys} {f : Nat} {args : List AV} {r : AV × List AV} (h : acall S f args = some r) : ∃ n, zc6 S n f args = some r := by
 unfold acall at h
 split at h
 · rename_i hex
   injection h with h
   refine ⟨Classical.choose hex, ?_⟩
   rw [← h]
   exact Classical.choose_spec (Classical.choose_spec hex)
 · cases h
theorem zsf {P : Program} {S : Sys} (h : SysOk P S) {f : Nat} {args : List AV} {r : AV × List AV} (hit : (S.spec f).it = false) (hp : S.prim f = none) (e : acall S f args = some r) : There P (real f) ∧ Owes P (real f) (S.spec f).pm args r := by
 obtain ⟨n, hn⟩ := znh e
 cases n with
 | zero => simp [zc6] at hn
 | succ n =>
   have hcx : CxOk P (cxOf S (zc6 S n)) := ztl h fun f args r e => ziy h n f args r e
   simp only [zc6, zh4, hit, hp, zaa, zac] at hn
   obtain ⟨fn, hfn, hl, hn⟩ := hn
   obtain ⟨keep, func, h1, h2⟩ := h.fs f fn hfn
   exact zj9 hcx (fun ok n fxv Z hok => zpm hcx h.mixed ok n fxv Z hok) h1 h2 hl hn
abbrev CallF := Nat → List AV → Option (AV × List AV)
def CFLe (c c' : CallF) : Prop := ∀ f args r, c f args = some r → c' f args = some r
theorem CFLe.refl (c : CallF) : CFLe c c := fun _ _ _ h => h
structure CLe (c c' : Cx) : Prop where
 spec : c'.spec = c.spec
 call : ∀ f args r, c.call f args = some r → c'.call f args = some r
 inl : ∀ f args hp r, c.inl f args hp = some r → c'.inl f args hp = some r
section
theorem zny {c c' : Cx} (h : CLe c c') {f : Nat} {args : List AV} {dst : Nat} {hp : Hp} {fx : Fx} (e : zed c f args dst hp = some fx) : zed c' f args dst hp = some fx := by
 unfold zed at e ⊢
 rw [h.spec]
 simp only [zaa, zac] at e ⊢
 obtain ⟨x, hx, ha, r, hr, y⟩ := e
 exact ⟨x, hx, ha, r, h.call _ _ _ hr, y⟩
theorem zsi {c c' : Cx} (h : CLe c c') {f : Nat} {args : List AV} {dst : Nat} {hp : Hp} {fx : Fx} (e : zd0 c f args dst hp = some fx) : zd0 c' f args dst hp = some fx := by
 unfold zd0 at e ⊢
 rw [h.spec]
 simp only [zaa, zac] at e ⊢
 obtain ⟨x, hx, ha, r, hr, y⟩ := e
 exact ⟨x, hx, ha, r, h.call _ _ _ hr, y⟩
theorem zrp {c c' : Cx} (h : CLe c c') {f : Nat} {args : List AV} {dst : Nat} {hp : Hp} {fx : Fx} (e : zeo c f args dst hp = some fx) : zeo c' f args dst hp = some fx := by
 unfold zeo at e ⊢
 rw [h.spec]
 simp only [zaa, zac] at e ⊢
 obtain ⟨x, hx, ha, r, hr, y⟩ := e
 exact ⟨x, hx, ha, r, h.call _ _ _ hr, y⟩
theorem zyk {c c' : Cx} (h : CLe c c') {op : AOp} {dst : Nat} {s : Sl} {hp : Hp} {fx : Fx} (e : aop c op dst s hp = some fx) : aop c' op dst s hp = some fx := by
 cases op <;> simp only [aop] at e ⊢ <;> try exact e
 · exact zny h e
 · revert e
   generalize ev s _ = v
   intro e
   cases v <;> simp only [zn6] at e ⊢ <;> try cases e
   exact zny h e
 · split at e
   · rename_i hlt
     rw [if_pos hlt]
     exact zsi h e
   · rename_i hlt
     rw [if_neg hlt]
     exact zrp h e
 · simp only [zaa, Option.some.injEq] at e ⊢
   obtain ⟨x, hx, e⟩ := e
   exact ⟨x, h.inl _ _ _ _ hx, e⟩
theorem zjv {c c' : Cx} (h : CLe c c') {x : AIns} {st : St} {r : St × List Nat × List Nat} (e : ains c x st = some r) : ains c' x st = some r := by
 unfold ains at e ⊢
 simp only [zaa] at e ⊢
 obtain ⟨w, hw, e⟩ := e
 refine ⟨w, hw, ?_⟩
 cases w with
 | false => exact e
 | true =>
   simp only [way, zaa] at e ⊢
   obtain ⟨fx, hf, e⟩ := e
   exact ⟨fx, zyk h hf, e⟩
theorem zo6 {c c' : Cx} (h : CLe c c') : ∀ {l : List AIns} {st r : St}, areg c l st = some r → areg c' l st = some r
 | [], _, _, e => e
 | o :: l, st, r, e => by
   simp only [areg, zaa] at e ⊢
   obtain ⟨x, hx, e⟩ := e
   exact ⟨x, zjv h hx, zo6 h e⟩
theorem zji {c c' : Cx} (h : CLe c c') : ∀ {l : List AIns} {acc : List (List Nat × List Nat)} {st : St} {r : St × List (List Nat × List Nat)}, adraw c l acc st = some r → adraw c' l acc st = some r
 | [], _, _, _, e => e
 | o :: l, acc, st, r, e => by
   simp only [adraw, zac, zaa] at e ⊢
   obtain ⟨hc, x, hx, e⟩ := e
   exact ⟨hc, x, zjv h hx, zji h e⟩
theorem zgz {body : St → Res} {keep : List (Nat × H)} : ∀ {m : Nat} {vs : List AV} {r : AExit × St}, zc7 body keep m vs = some r → ∀ {m' : Nat}, m ≤ m' → zc7 body keep m' vs = some r
 | 0, _, _, e, _, _ => by simp [zc7] at e
 | m + 1, vs, r, e, 0, h => by omega
 | m + 1, vs, r, e, m' + 1, h => by
   simp only [zc7, zaa] at e ⊢
   obtain ⟨x, hx, e⟩ := e
   refine ⟨x, hx, ?_⟩
   obtain ⟨ex, st⟩ := x
   cases ex <;> simp only [goOn] at e ⊢ <;> try exact e
   simp only [zaa] at e ⊢
   obtain ⟨vs', hv, e⟩ := e
   exact ⟨vs', hv, zgz e (by omega)⟩
theorem zhh {body : St → Res} {keep : List (Nat × H)} {m : Nat} {vs : List AV} {r : AExit × St} (e : zc7 body keep m vs = some r) : aloop body keep vs = some r := by
 cases h : aloop body keep vs with
 | none =>
   unfold aloop at h
   rw [dif_pos ⟨m, r, e⟩] at h
   cases h
 | some r' =>
   obtain ⟨m', e'⟩ := zfd h
   have h1 := zgz e (Nat.le_max_left m m')
   have h2 := zgz e' (Nat.le_max_right m m')
   rw [h1] at h2
   exact h2.symm
theorem zfp {b b' : St → Res} (h : ∀ st r, b st = some r → b' st = some r) {keep : List (Nat × H)} : ∀ {m : Nat} {vs : List AV} {r : AExit × St}, zc7 b keep m vs = some r → zc7 b' keep m vs = some r
 | 0, _, _, e => by simp [zc7] at e
 | m + 1, vs, r, e => by
   simp only [zc7, zaa] at e ⊢
   obtain ⟨x, hx, e⟩ := e
   refine ⟨x, h _ _ hx, ?_⟩
   obtain ⟨ex, st⟩ := x
   cases ex <;> simp only [goOn] at e ⊢ <;> try exact e
   simp only [zaa] at e ⊢
   obtain ⟨vs', hv, e⟩ := e
   exact ⟨vs', hv, zfp h e⟩
theorem zm9 {c c' : Cx} (h : CLe c c') {v : AV} {es : List (List AV)} (e : zh2 c v = some es) : zh2 c' v = some es := by
 cases v <;> simp only [zh2] at e ⊢ <;> try cases e
 simp only [zac, zaa] at e ⊢
 obtain ⟨h1, q, h2, h3⟩ := e
 exact ⟨by rw [h.spec]; exact h1, q, h.call _ _ _ h2, h3⟩
theorem zer {b b' : St → Res} (h : ∀ st r, b st = some r → b' st = some r) {ps : List Nat} {keep : List (Nat × H)} : ∀ {es : List (List AV)} {vs : List AV} {r : AExit × St}, arange b ps keep es vs = some r → arange b' ps keep es vs = some r
 | [], _, _, e => e
 | x :: xs, vs, r, e => by
   simp only [arange, zaa] at e ⊢
   obtain ⟨st, hs, ⟨ex, s1⟩, h1, e⟩ := e
   refine ⟨st, hs, _, h _ _ h1, ?_⟩
   cases ex <;> simp only [znc] at e ⊢ <;> try exact e
   simp only [zaa] at e ⊢
   obtain ⟨vs', hv, e⟩ := e
   exact ⟨vs', hv, zer h e⟩
theorem zds {c c' : Cx} (h : CLe c c') : ∀ {k : ACode} {st : St} {r : AExit × St}, aexec c k st = some r → aexec c' k st = some r := by
 intro k
 induction k with
 | reg l =>
   intro st r e
   simp only [aexec, zaa] at e ⊢
   obtain ⟨x, hx, e⟩ := e
   exact ⟨x, zo6 h hx, e⟩
 | draw l ps =>
   intro st r e
   simp only [aexec, zaa] at e ⊢
   obtain ⟨x, hx, e⟩ := e
   exact ⟨x, zji h hx, e⟩
 | seq a b iha ihb =>
   intro st r e
   simp only [aexec, zaa] at e ⊢
   obtain ⟨x, hx, e⟩ := e
   refine ⟨x, iha hx, ?_⟩
   obtain ⟨ex, st⟩ := x
   cases ex <;> simp only [andThen] at e ⊢ <;> try exact e
   exact ihb e
 | cond cc a b iha ihb =>
   intro st r e
   simp only [aexec] at e ⊢
   revert e
   generalize ev st.sl cc = v
   intro e
   cases v <;> simp only [zib] at e ⊢ <;> try exact e
   rename_i t
   cases t with
   | true => exact iha e
   | false => exact ihb e
 | block id a iha =>
   intro st r e
   simp only [aexec, zaa] at e ⊢
   obtain ⟨x, hx, e⟩ := e
   exact ⟨x, iha hx, e⟩
 | loop keep a iha =>
   intro st r e
   simp only [aexec, zaa] at e ⊢
   obtain ⟨vs, hv, e⟩ := e
   obtain ⟨m, e⟩ := zfd e
   exact ⟨vs, hv, zhh (zfp (fun st r e => iha e) e)⟩
 | rangef t ps keep a b iha ihb =>
   intro st r e
   simp only [aexec, zaa] at e ⊢
   obtain ⟨vs, hv, es, hs, e⟩ := e
   refine ⟨vs, hv, es, zm9 h hs, zer (fun st r e => ?_) e⟩
   simp only [zaa] at e ⊢
   obtain ⟨⟨ex, s1⟩, h1, e⟩ := e
   refine ⟨_, iha h1, ?_⟩
   cases ex <;> simp only [zc0] at e ⊢ <;> try exact e
   exact ihb e
 | _ => intro st r e; exact e
theorem zq8 {c c' : Cx} (h : CLe c c') {x : AIns} {st r : St} (e : zhb c x st = some r) : zhb c' x st = some r := by
 unfold zhb at e ⊢
 simp only [zaa] at e ⊢
 obtain ⟨w, hw, e⟩ := e
 refine ⟨w, hw, ?_⟩
 cases w with
 | false => exact e
 | true =>
   simp only [way, zaa] at e ⊢
   obtain ⟨fx, hf, e⟩ := e
   exact ⟨fx, zyk h hf, e⟩
theorem zm0 {c c' : Cx} (h : CLe c c') : ∀ {l : List AIns} {st r : St}, zf9 c l st = some r → zf9 c' l st = some r
 | [], _, _, e => e
 | o :: l, st, r, e => by
   simp only [zf9, zaa] at e ⊢
   obtain ⟨x, hx, e⟩ := e
   exact ⟨x, zq8 h hx, zm0 h e⟩
theorem zj0 {c c' : Cx} (h : CLe c c') : ∀ {k : ACode} {st : St} {r : AExit × St}, za5 c k st = some r → za5 c' k st = some r := by
 intro k
 induction k with
 | reg l =>
   intro st r e
   simp only [za5, zaa] at e ⊢
   obtain ⟨x, hx, e⟩ := e
   exact ⟨x, zm0 h hx, e⟩
 | seq a b iha ihb =>
   intro st r e
   simp only [za5, zaa] at e ⊢
   obtain ⟨x, hx, e⟩ := e
   refine ⟨x, iha hx, ?_⟩
   obtain ⟨ex, st⟩ := x
   cases ex <;> simp only [andThen] at e ⊢ <;> try exact e
   exact ihb e
 | cond cc a b iha ihb =>
   intro st r e
   simp only [za5] at e ⊢
   revert e
   generalize ev st.sl cc = v
   intro e
   cases v <;> simp only [zib] at e ⊢ <;> try exact e
   rename_i t
   cases t with
   | true => exact iha e
   | false => exact ihb e
 | block id a iha =>
   intro st r e
   simp only [za5, zaa] at e ⊢
   obtain ⟨x, hx, e⟩ := e
   exact ⟨x, iha hx, e⟩
 | _ => intro st r e; simp only [za5] at e ⊢; first | exact e | cases e
theorem zy6 {c c' : Cx} (h : CLe c c') {x : AIns} {s r : IS} (e : iins c x s = some r) : iins c' x s = some r := by
 unfold iins at e ⊢
 split at e
 · rename_i args hya
   simp only [hya]
   exact e
 · rename_i hya
   simp only [hya, zaa] at e ⊢
   obtain ⟨y, h1, e⟩ := e
   exact ⟨y, zjv h h1, e⟩
theorem zvg {c c' : Cx} (h : CLe c c') : ∀ {l : List AIns} {s r : IS}, ireg c l s = some r → ireg c' l s = some r
 | [], _, _, e => e
 | o :: l, s, r, e => by
   simp only [ireg, zaa] at e ⊢
   obtain ⟨x, hx, e⟩ := e
   exact ⟨x, zy6 h hx, zvg h e⟩
theorem zhc {it : Bool} {b b' : IS → IRes} (h : ∀ st r, b st = some r → b' st = some r) {keep : List (Nat × H)} : ∀ {m : Nat} {vs : List AV} {tr : List (List AV)} {md : YM} {r : AExit × IS}, zde it b keep m vs tr md = some r → zde it b' keep m vs tr md = some r
 | 0, _, _, _, _, e => by simp [zde] at e
 | m + 1, vs, tr, md, r, e => by
   simp only [zde, zaa] at e ⊢
   obtain ⟨⟨ex, s1⟩, h1, e⟩ := e
   refine ⟨_, h _ _ h1, ?_⟩
   cases ex <;> simp only [ziw] at e ⊢ <;> try exact e
   simp only [zaa] at e ⊢
   obtain ⟨vs', hv, e⟩ := e
   exact ⟨vs', hv, zhc h e⟩
theorem zg6 {it : Bool} {b b' : IS → IRes} (h : ∀ st r, b st = some r → b' st = some r) {ps : List Nat} {keep : List (Nat × H)} : ∀ {es : List (List AV)} {vs : List AV} {tr : List (List AV)} {md : YM} {r : AExit × IS}, irange it b ps keep es vs tr md = some r → irange it b' ps keep es vs tr md = some r
 | [], _, _, _, _, e => e
 | x :: xs, vs, tr, md, r, e => by
   simp only [irange, zaa] at e ⊢
   obtain ⟨st, hs, ⟨ex, s1⟩, h1, e⟩ := e
   refine ⟨st, hs, _, h _ _ h1, ?_⟩
   cases ex <;> simp only [zdd] at e ⊢ <;> try exact e
   simp only [zaa] at e ⊢
   obtain ⟨vs', hv, e⟩ := e
   exact ⟨vs', hv, zg6 h e⟩
theorem zw4 {c c' : Cx} (h : CLe c c') {it : Bool} : ∀ {k : ACode} {s : IS} {r : AExit × IS}, iexec c it k s = some r → iexec c' it k s = some r := by
 intro k
 induction k with
 | reg l =>
   intro st r e
   simp only [iexec, zaa] at e ⊢
   obtain ⟨x, hx, e⟩ := e
   exact ⟨x, zvg h hx, e⟩
 | draw l ps =>
   intro st r e
   simp only [iexec, zaa] at e ⊢
   obtain ⟨x, hx, e⟩ := e
   exact ⟨x, zji h hx, e⟩
 | seq a b iha ihb =>
   intro st r e
   simp only [iexec, zaa] at e ⊢
   obtain ⟨⟨ex, s1⟩, hx, e⟩ := e
   refine ⟨_, iha hx, ?_⟩
   cases ex <;> simp only [zdb] at e ⊢ <;> try exact e
   exact ihb e
 | cond cc a b iha ihb =>
   intro st r e
   simp only [iexec] at e ⊢
   revert e
   generalize ev st.st.sl cc = v
   intro e
   cases v <;> simp only [zj2] at e ⊢ <;> try exact e
   rename_i t
   cases t with
   | true => exact iha e
   | false => exact ihb e
 | block id a iha =>
   intro st r e
   simp only [iexec, zaa] at e ⊢
   obtain ⟨x, hx, e⟩ := e
   exact ⟨x, iha hx, e⟩
 | loop keep a iha =>
   intro st r e
   simp only [iexec, zaa] at e ⊢
   obtain ⟨vs, hv, e⟩ := e
   obtain ⟨m, e⟩ := zgd e
   exact ⟨vs, hv, zm3 (zhc (fun st r e => iha e) e)⟩
 | rangef t ps keep a b iha ihb =>
   intro st r e
   simp only [iexec, zaa] at e ⊢
   obtain ⟨vs, hv, es, hs, e⟩ := e
   refine ⟨vs, hv, es, zm9 h hs, zg6 (fun st r e => ?_) e⟩
   simp only [zaa] at e ⊢
   obtain ⟨⟨ex, s1⟩, h1, e⟩ := e
   refine ⟨_, iha h1, ?_⟩
   cases ex <;> simp only [zbz] at e ⊢ <;> try exact e
   exact ihb e
 | _ => intro st r e; exact e
theorem zs1 {c c' : Cx} (h : CLe c c') {fn : AFun} {caps : List AV} {md : YM} {s : IS} (e : irun c fn caps md = some s) : irun c' fn caps md = some s := by
 unfold irun at e ⊢
 obtain ⟨ex, hx, hne⟩ := zk4 e
 rw [zw4 h hx]
 rw [hx] at e
 exact e
theorem zxd {c c' : Cx} (h : CLe c c') {fs : FSpec} {fn : AFun} {args : List AV} {r : AV × List AV} (e : igive c fs fn args = some r) : igive c' fs fn args = some r := by
 unfold igive at e
 split at e
 · unfold igive
   simp only [zaa, zac] at e ⊢
   obtain ⟨s, hs, ⟨h1, h2, h3, h4, h5⟩, hr⟩ := e
   refine ⟨s, zs1 h hs, ⟨h1, h2, h3, h4, fun n hn => ?_⟩, hr⟩
   obtain ⟨s2, q1, q2⟩ := h5 n hn
   exact ⟨s2, zs1 h q1, q2⟩
 · cases e
theorem zxp {c c' : Cx} (h : CLe c c') {fs : FSpec} {f : AFun} {args : List AV} {r : AV × List AV} (e : abody c fs f args = some r) : abody c' fs f args = some r := by
 unfold abody at e ⊢
 simp only [zaa] at e ⊢
 obtain ⟨x, hx, e⟩ := e
 exact ⟨x, zds h hx, e⟩
theorem zy2 {S : Sys} {c c' : CallF} (h : CFLe c c') : CLe (cx0 S c) (cx0 S c') := ⟨rfl, h, fun _ _ _ _ e => by cases e⟩
theorem zud {S : Sys} {c c' : CallF} (h : CFLe c c') : CLe (cxOf S c) (cxOf S c') := by
 refine ⟨rfl, h, fun f args hp r e => ?_⟩
 simp only [inlF, zaa, zac] at e ⊢
 obtain ⟨fn, hf, hl, x, hx, e⟩ := e
 exact ⟨fn, hf, hl, x, zj0 (zy2 (S := S) h) hx, e⟩
theorem zol {S : Sys} {c c' : CallF} (h0 : CFLe c c') : CFLe (zh4 S c) (zh4 S c') := by
 have h := zud (S := S) h0
 intro f args r e
 unfold zh4 at e ⊢
 cases hit : (S.spec f).it with
 | true =>
   simp only [hit, zaa, zac] at e ⊢
   obtain ⟨fn, hf, hl, e⟩ := e
   exact ⟨fn, hf, hl, zxd h e⟩
 | false =>
   simp only [hit] at e ⊢
   split
   · rename_i p hp
     rw [hp] at e
     exact e
   · rename_i hp
     rw [hp] at e
     simp only [zaa, zac] at e ⊢
     obtain ⟨fn, hf, hl, e⟩ := e
     exact ⟨fn, hf, hl, zxp h e⟩
theorem zjy (S : Sys) : ∀ n, CFLe (zc6 S n) (zc6 S (n + 1))
 | 0 => fun f args r e => by simp [zc6] at e
 | n + 1 => by
   have := zol (S := S) (zjy S n)
   exact this
theorem zfi (S : Sys) {n m : Nat} (h : n ≤ m) : CFLe (zc6 S n) (zc6 S m) := by
 induction m with
 | zero => have : n = 0 := by omega
           subst this; exact CFLe.refl _
 | succ m ih =>
   by_cases e : n = m + 1
   · subst e; exact CFLe.refl _
   · exact fun f args r hr => zjy S m f args r (ih (by omega) f args r hr)
theorem zig {S : Sys} {n f : Nat} {args : List AV} {r : AV × List AV} (h : zc6 S n f args = some r) : acall S f args = some r := by
 cases e : acall S f args with
 | none =>
   unfold acall at e
   rw [dif_pos ⟨n, r, h⟩] at e
   cases e
 | some r' =>
   obtain ⟨m, hm⟩ := znh e
   have h1 := zfi S (Nat.le_max_left n m) f args r h
   have h2 := zfi S (Nat.le_max_right n m) f args r' hm
   rw [h1] at h2
   exact h2.symm
structure Lim (X : Nat → Cx) (C : Cx) : Prop where
 spec : ∀ n, C.spec = (X n).spec
 more : ∀ n m, n ≤ m → CLe (X n) (X m)
 call : ∀ f args r, C.call f args = some r → ∃ n, (X n).call f args = some r
 inl : ∀ f args hp r, C.inl f args hp = some r → ∃ n, (X n).inl f args hp = some r
section
variable {X : Nat → Cx} {C : Cx}
theorem zmc (L : Lim X C) {f : Nat} {args : List AV} {dst : Nat} {hp : Hp} {fx : Fx} (e : zed C f args dst hp = some fx) : ∃ n, zed (X (n)) f args dst hp = some fx := by
 unfold zed at e ⊢
 simp only [zaa, zac] at e ⊢
 obtain ⟨x, hx, ha, r, hr, y⟩ := e
 obtain ⟨n, hn⟩ := L.call _ _ _ hr
 exact ⟨n, x, by rw [← L.spec n]; exact hx, ha, r, hn, y⟩
theorem zpp (L : Lim X C) {f : Nat} {args : List AV} {dst : Nat} {hp : Hp} {fx : Fx} (e : zd0 C f args dst hp = some fx) : ∃ n, zd0 (X n) f args dst hp = some fx := by
 unfold zd0 at e ⊢
 simp only [zaa, zac] at e ⊢
 obtain ⟨x, hx, ha, r, hr, y⟩ := e
 obtain ⟨n, hn⟩ := L.call _ _ _ hr
 exact ⟨n, x, by rw [← L.spec n]; exact hx, ha, r, hn, y⟩
theorem zpi (L : Lim X C) {f : Nat} {args : List AV} {dst : Nat} {hp : Hp} {fx : Fx} (e : zeo C f args dst hp = some fx) : ∃ n, zeo (X n) f args dst hp = some fx := by
 unfold zeo at e ⊢
 simp only [zaa, zac] at e ⊢
 obtain ⟨x, hx, ha, r, hr, y⟩ := e
 obtain ⟨n, hn⟩ := L.call _ _ _ hr
 exact ⟨n, x, by rw [← L.spec n]; exact hx, ha, r, hn, y⟩
theorem ztv (L : Lim X C) {op : AOp} {dst : Nat} {s : Sl} {hp : Hp} {fx : Fx} (e : aop C op dst s hp = some fx) : ∃ n, aop (X (n)) op dst s hp = some fx := by
 cases op <;> simp only [aop] at e ⊢ <;> try exact ⟨0, e⟩
 · exact zmc L e
 · revert e
   generalize ev s _ = v
   intro e
   cases v <;> simp only [zn6] at e ⊢ <;> try cases e
   exact zmc L e
 · split at e
   · rename_i hlt
     obtain ⟨n, hn⟩ := zpp L e
     exact ⟨n, by rw [if_pos hlt]; exact hn⟩
   · rename_i hlt
     obtain ⟨n, hn⟩ := zpi L e
     exact ⟨n, by rw [if_neg hlt]; exact hn⟩
 · simp only [zaa, Option.some.injEq] at e ⊢
   obtain ⟨x, hx, e⟩ := e
   obtain ⟨n, hn⟩ := L.inl _ _ _ _ hx
   exact ⟨n, x, hn, e⟩
theorem zpz (L : Lim X C) {x : AIns} {st : St} {r : St × List Nat × List Nat} (e : ains C x st = some r) : ∃ n, ains (X (n)) x st = some r := by
 unfold ains at e ⊢
 simp only [zaa] at e ⊢
 obtain ⟨w, hw, e⟩ := e
 cases w with
 | false => exact ⟨0, false, hw, e⟩
 | true =>
   simp only [way, zaa] at e
   obtain ⟨fx, hf, e⟩ := e
   obtain ⟨n, hn⟩ := ztv L hf
   refine ⟨n, true, hw, ?_⟩
   simp only [way, zaa]
   exact ⟨fx, hn, e⟩
theorem zqb (L : Lim X C) : ∀ {l : List AIns} {st r : St}, areg C l st = some r → ∃ n, areg (X (n)) l st = some r
 | [], _, _, e => ⟨0, e⟩
 | o :: l, st, r, e => by
   simp only [areg, zaa] at e ⊢
   obtain ⟨x, hx, e⟩ := e
   obtain ⟨n, hn⟩ := zpz L hx
   obtain ⟨m, hm⟩ := zqb L e
   exact ⟨max n m, x, zjv (L.more _ _ (Nat.le_max_left n m)) hn, zo6 (L.more _ _ (Nat.le_max_right n m)) hm⟩
theorem zn7 (L : Lim X C) : ∀ {l : List AIns} {acc : List (List Nat × List Nat)} {st : St} {r : St × List (List Nat × List Nat)}, adraw C l acc st = some r → ∃ n, adraw (X (n)) l acc st = some r
 | [], _, _, _, e => ⟨0, e⟩
 | o :: l, acc, st, r, e => by
   simp only [adraw, zac, zaa] at e ⊢
   obtain ⟨hc, x, hx, e⟩ := e
   obtain ⟨n, hn⟩ := zpz L hx
   obtain ⟨m, hm⟩ := zn7 L e
   exact ⟨max n m, hc, x, zjv (L.more _ _ (Nat.le_max_left n m)) hn, zji (L.more _ _ (Nat.le_max_right n m)) hm⟩
theorem zuf (L : Lim X C) {v : AV} {es : List (List AV)} (e : zh2 C v = some es) : ∃ n, zh2 (X (n)) v = some es := by
 cases v <;> simp only [zh2] at e ⊢ <;> try cases e
 simp only [zac, zaa] at e ⊢
 obtain ⟨h1, q, h2, h3⟩ := e
 obtain ⟨n, hn⟩ := L.call _ _ _ h2
 exact ⟨n, by rw [← L.spec n]; exact h1, q, hn, h3⟩
theorem ztp (L : Lim X C) : ∀ {k : ACode} {st : St} {r : AExit × St}, aexec C k st = some r → ∃ n, aexec (X (n)) k st = some r := by
 intro k
 induction k with
 | reg l =>
   intro st r e
   simp only [aexec, zaa] at e ⊢
   obtain ⟨x, hx, e⟩ := e
   obtain ⟨n, hn⟩ := zqb L hx
   exact ⟨n, x, hn, e⟩
 | draw l ps =>
   intro st r e
   simp only [aexec, zaa] at e ⊢
   obtain ⟨x, hx, e⟩ := e
   obtain ⟨n, hn⟩ := zn7 L hx
   exact ⟨n, x, hn, e⟩
 | seq a b iha ihb =>
   intro st r e
   simp only [aexec, zaa] at e ⊢
   obtain ⟨x, hx, e⟩ := e
   obtain ⟨n, hn⟩ := iha hx
   obtain ⟨ex, st⟩ := x
   cases ex <;> simp only [andThen] at e
   · obtain ⟨m, hm⟩ := ihb e
     exact ⟨max n m, _, zds (L.more _ _ (Nat.le_max_left n m)) hn, zds (L.more _ _ (Nat.le_max_right n m)) hm⟩
   · exact ⟨n, _, hn, e⟩
   · exact ⟨n, _, hn, e⟩
 | cond cc a b iha ihb =>
   intro st r e
   simp only [aexec] at e ⊢
   revert e
   generalize ev st.sl cc = v
   intro e
   cases v <;> simp only [zib] at e ⊢ <;> try exact ⟨0, e⟩
   rename_i t
   cases t with
   | true => exact iha e
   | false => exact ihb e
 | block id a iha =>
   intro st r e
   simp only [aexec, zaa] at e ⊢
   obtain ⟨x, hx, e⟩ := e
   obtain ⟨n, hn⟩ := iha hx
   exact ⟨n, x, hn, e⟩
 | loop keep a iha =>
   intro st r e
   simp only [aexec, zaa] at e ⊢
   obtain ⟨vs, hv, e⟩ := e
   obtain ⟨m, e⟩ := zfd e
   have go : ∀ (m : Nat) (vs : List AV), zc7 (aexec C a) keep m vs = some r → ∃ n, zc7 (aexec (X (n)) a) keep m vs = some r := by
     intro m
     induction m with
     | zero => intro vs e; simp [zc7] at e
     | succ m ih =>
       intro vs e
       simp only [zc7, zaa] at e ⊢
       obtain ⟨x, hx, e⟩ := e
       obtain ⟨n, hn⟩ := iha hx
       obtain ⟨ex, st⟩ := x
       cases ex <;> simp only [goOn] at e
       · simp only [zaa] at e
         obtain ⟨vs', hv', e⟩ := e
         obtain ⟨k, hk⟩ := ih vs' e
         refine ⟨max n k, _, zds (L.more _ _ (Nat.le_max_left n k)) hn, ?_⟩
         simp only [goOn, zaa]
         exact ⟨vs', hv', zfp (fun st r h => zds (L.more _ _ (Nat.le_max_right n k)) h) hk⟩
       · exact ⟨n, _, hn, e⟩
       · exact ⟨n, _, hn, e⟩
   obtain ⟨n, hn⟩ := go m vs e
   exact ⟨n, vs, hv, zhh hn⟩
 | rangef t ps keep a b iha ihb =>
   intro st r e
   simp only [aexec, zaa] at e ⊢
   obtain ⟨vs, hv, es, hs, e⟩ := e
   obtain ⟨n0, hs⟩ := zuf L hs
   have go : ∀ (es : List (List AV)) (vs : List AV), arange (fun st => bnd (aexec C a st) (zc0 (aexec C b))) ps keep es vs = some r → ∃ n, arange (fun st => bnd (aexec (X (n)) a st) (zc0 (aexec (X (n)) b))) ps keep es vs = some r := by
     intro es
     induction es with
     | nil => intro vs e; exact ⟨0, e⟩
     | cons x xs ih =>
       intro vs e
       simp only [arange, zaa] at e
       obtain ⟨stx, hb, ⟨ex, s1⟩, ⟨⟨e0, s0⟩, h0, h1⟩, h2⟩ := e
       obtain ⟨n1, k1⟩ := iha h0
       cases e0 <;> simp only [zc0] at h1 <;> try cases h1
       obtain ⟨n2, k2⟩ := ihb h1
       have hbody : ∀ n, n1 ≤ n → n2 ≤ n → bnd (aexec (X (n)) a stx) (zc0 (aexec (X (n)) b)) = some (ex, s1) := by
         intro n h3 h4
         rw [zds (L.more _ _ h3) k1, zai]
         exact zds (L.more _ _ h4) k2
       cases ex with
       | normal =>
         simp only [znc, zaa] at h2
         obtain ⟨vs', hv', h2⟩ := h2
         obtain ⟨n3, k3⟩ := ih vs' h2
         refine ⟨max n1 (max n2 n3), ?_⟩
         simp only [arange, zaa]
         refine ⟨stx, hb, _, (by have := hbody (max n1 (max n2 n3)) (by omega) (by omega); simpa only [zaa] using this), ?_⟩
         simp only [znc, zaa]
         refine ⟨vs', hv', zer (fun st r e => ?_) k3⟩
         simp only [zaa] at e ⊢
         obtain ⟨⟨ex, s1⟩, h1, e⟩ := e
         refine ⟨_, zds (L.more _ _ (by omega)) h1, ?_⟩
         cases ex <;> simp only [zc0] at e ⊢ <;> try exact e
         exact zds (L.more _ _ (by omega)) e
       | exit id =>
         refine ⟨max n1 n2, ?_⟩
         simp only [arange, zaa]
         exact ⟨stx, hb, _, (by have := hbody (max n1 n2) (by omega) (by omega); simpa only [zaa] using this), (by simp only [znc, zdd] at h2 ⊢; exact h2)⟩
       | ret =>
         refine ⟨max n1 n2, ?_⟩
         simp only [arange, zaa]
         exact ⟨stx, hb, _, (by have := hbody (max n1 n2) (by omega) (by omega); simpa only [zaa] using this), (by simp only [znc, zdd] at h2 ⊢; exact h2)⟩
   obtain ⟨n, hn⟩ := go es vs e
   refine ⟨max n0 n, vs, hv, es, zm9 (L.more _ _ (Nat.le_max_left n0 n)) hs, zer (fun st r e => ?_) hn⟩
   simp only [zaa] at e ⊢
   obtain ⟨⟨ex, s1⟩, h1, e⟩ := e
   refine ⟨_, zds (L.more _ _ (Nat.le_max_right n0 n)) h1, ?_⟩
   cases ex <;> simp only [zc0] at e ⊢ <;> try exact e
   exact zds (L.more _ _ (Nat.le_max_right n0 n)) e
 | _ => intro st r e; exact ⟨0, e⟩
theorem zs3 (L : Lim X C) {x : AIns} {st r : St} (e : zhb C x st = some r) : ∃ n, zhb (X (n)) x st = some r := by
 unfold zhb at e ⊢
 simp only [zaa] at e ⊢
 obtain ⟨w, hw, e⟩ := e
 cases w with
 | false => exact ⟨0, false, hw, e⟩
 | true =>
   simp only [way, zaa] at e
   obtain ⟨fx, hf, e⟩ := e
   obtain ⟨n, hn⟩ := ztv L hf
   refine ⟨n, true, hw, ?_⟩
   simp only [way, zaa]
   exact ⟨fx, hn, e⟩
theorem zow (L : Lim X C) : ∀ {l : List AIns} {st r : St}, zf9 C l st = some r → ∃ n, zf9 (X (n)) l st = some r
 | [], _, _, e => ⟨0, e⟩
 | o :: l, st, r, e => by
   simp only [zf9, zaa] at e ⊢
   obtain ⟨x, hx, e⟩ := e
   obtain ⟨n, hn⟩ := zs3 L hx
   obtain ⟨m, hm⟩ := zow L e
   exact ⟨max n m, x, zq8 (L.more _ _ (Nat.le_max_left n m)) hn, zm0 (L.more _ _ (Nat.le_max_right n m)) hm⟩
theorem zr6 (L : Lim X C) : ∀ {k : ACode} {st : St} {r : AExit × St}, za5 C k st = some r → ∃ n, za5 (X (n)) k st = some r := by
 intro k
 induction k with
 | reg l =>
   intro st r e
   simp only [za5, zaa] at e ⊢
   obtain ⟨x, hx, e⟩ := e
   obtain ⟨n, hn⟩ := zow L hx
   exact ⟨n, x, hn, e⟩
 | seq a b iha ihb =>
   intro st r e
   simp only [za5, zaa] at e ⊢
   obtain ⟨x, hx, e⟩ := e
   obtain ⟨n, hn⟩ := iha hx
   obtain ⟨ex, st⟩ := x
   cases ex <;> simp only [andThen] at e
   · obtain ⟨m, hm⟩ := ihb e
     exact ⟨max n m, _, zj0 (L.more _ _ (Nat.le_max_left n m)) hn, zj0 (L.more _ _ (Nat.le_max_right n m)) hm⟩
   · exact ⟨n, _, hn, e⟩
   · exact ⟨n, _, hn, e⟩
 | cond cc a b iha ihb =>
   intro st r e
   simp only [za5] at e ⊢
   revert e
   generalize ev st.sl cc = v
   intro e
   cases v <;> simp only [zib] at e ⊢ <;> try exact ⟨0, e⟩
   rename_i t
   cases t with
   | true => exact iha e
   | false => exact ihb e
 | block id a iha =>
   intro st r e
   simp only [za5, zaa] at e ⊢
   obtain ⟨x, hx, e⟩ := e
   obtain ⟨n, hn⟩ := iha hx
   exact ⟨n, x, hn, e⟩
 | _ => intro st r e; simp only [za5] at e; first | exact ⟨0, e⟩ | cases e
end
theorem lim0 (S : Sys) : Lim (fun n => cx0 S (zc6 S n)) (cx0 S (acall S)) :=
 ⟨fun _ => rfl, fun n m h => zy2 (zfi S h), fun _ _ _ e => znh e, fun _ _ _ _ e => by cases e⟩
theorem limS (S : Sys) : Lim (fun n => cxOf S (zc6 S n)) (cxOf S (acall S)) := by
 refine ⟨fun _ => rfl, fun n m h => zud (zfi S h), fun _ _ _ e => znh e, fun f args hp r e => ?_⟩
 simp only [inlF, zaa, zac] at e ⊢
 obtain ⟨fn, hf, hl, x, hx, e⟩ := e
 obtain ⟨n, hn⟩ := zr6 (lim0 S) hx
 exact ⟨n, fn, hf, hl, x, hn, e⟩
end
theorem zr2 {S : Sys} {f : Nat} {fn : AFun} {args : List AV} {r : AV × List AV} (hit : (S.spec f).it = false) (hp : S.prim f = none) (hf : S.fs f = some fn) (hl : args.length = fn.nparams) (h : abody (cxOf S (acall S)) (S.spec f) fn args = some r) : acall S f args = some r := by
 unfold abody at h
 simp only [zaa] at h
 obtain ⟨x, hx, h⟩ := h
 obtain ⟨n, hn⟩ := ztp (limS S) hx
 refine zig (n := n + 1) ?_
 simp only [zc6, zh4, hit, hp, zaa, zac]
 refine ⟨fn, hf, hl, ?_⟩
 unfold abody
 simp only [zaa]
 exact ⟨x, hn, h⟩
theorem zei {S : Sys} {f : Nat} {p : List AV → Option (AV × List AV)} {args : List AV} {r : AV × List AV} (hit : (S.spec f).it = false) (hp : S.prim f = some p) (h : p args = some r) : acall S f args = some r := by
 refine zig (n := 1) ?_
 simp only [zc6, zh4, hit, hp]
 exact h
theorem z6x {S : Sys} {f : Nat} {fn : AFun} {args : List AV} {hp : Hp} (hf : S.fs f = some fn) (hpm : (S.spec f).pm = []) (hl : args.length = fn.nparams) :
   inlF S (acall S) f args hp = bnd (za5 (cx0 S (acall S)) fn.body ⟨zfz 0 args [], hp⟩) fun x => bnd (zc1 x) fun st => bnd (zc3 st fn.res) fun vs => some (one vs, st.hp) := by
 unfold inlF
 rw [hf, zai, ze1 _ ⟨hl, hpm⟩]
end Go.Abs
end
