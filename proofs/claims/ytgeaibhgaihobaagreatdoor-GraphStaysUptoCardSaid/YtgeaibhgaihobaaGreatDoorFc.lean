/-
 Own work. An abstract machine for the loaded programs, and that it is sound: many texts, merged by program.
-/
import Derived.Test.YtgeaibhgaihobaaGreatDoorFb
import Derived.RangeFuncSeq
import Derived.OrdersIn
import Derived.LoopNIn
set_option linter.unusedSimpArgs false
set_option linter.unusedVariables false
section
set_option linter.unusedSimpArgs false
set_option linter.unusedVariables false
namespace Go.Abs
def zd6 : List PM → List Value → List Value
 | .inout _ :: r, v :: vs => v :: zd6 r vs
 | .borrow :: r, _ :: vs => zd6 r vs
 | .give _ :: r, _ :: vs => zd6 r vs
 | _, _ => []
def There (P : Program) (f : FuncId) : Prop := ∃ fn, P.funcs[f]? = some fn ∧ (fn.name == "runtime.NumGoroutine") = false ∧ fn.body.isSome = true
structure Brings (w : World) (Z : Nat → Prop) (F : List Nat) (io : List Value) (r : AV × List AV) (v : Value) (F' : List Nat) (w' : World) : Prop where
 rep : RepPs w' (Zp Z F') (r.1 :: r.2) (v :: io) F'
 nd : F'.Nodup
 sub : ∀ i ∈ F', (i ∈ F ∨ w.heap.size ≤ i) ∧ ¬ Z i
 size : w.heap.size ≤ w'.heap.size
 os : w'.os = w.os
 tape : w'.tape = w.tape
 output : w'.output = w.output
 sizes : ∀ gb n, zay w gb n → zay w' gb n
 frame : ∀ i, i < w.heap.size → i ∉ F → w'.heap[i]? = w.heap[i]?
def Owes (P : Program) (f : FuncId) (pm : List PM) (args : List AV) (r : AV × List AV) : Prop :=
 ∀ (w : World) (Z : Nat → Prop) (vs : List Value) (F : List Nat), (∀ i, Z i → i < w.heap.size) → RepPs w (Zp Z F) args vs F → F.Nodup → (∀ i ∈ F, ¬ Z i) →
   Calls P f vs.toArray w fun
     | .returned v, w' => ∃ F', Brings w Z F (zd6 pm vs) r v F' w'
     | _, _ => False
def Quick (P : Program) (f : FuncId) (pm : List PM) (args : List AV) (r : AV × List AV) : Prop :=
 ∀ (w : World) (Z : Nat → Prop) (vs : List Value) (F : List Nat), (∀ i, Z i → i < w.heap.size) → RepPs w (Zp Z F) args vs F → F.Nodup → (∀ i ∈ F, ¬ Z i) →
   ∃ v w' F', (callFunc f vs.toArray).run P w = .ok (.value v) w' ∧ Brings w Z F (zd6 pm vs) r v F' w'
abbrev FR (r : Option Nat) : Fence := { Fence.wide with round := r }
def zi0 : Obj → Bool
 | .cells .. => true
 | .map .. => true
 | _ => false
structure Still (b : Nat) (w w' : World) : Prop where
 size : w.heap.size ≤ w'.heap.size
 os : w'.os = w.os
 tape : w'.tape = w.tape
 output : w'.output = w.output
 blk : ∀ (i : Nat) (o : Obj), w.heap[i]? = some o → i < b ∨ zi0 o = true → w'.heap[i]? = some o
structure Turn (w w' : World) (Z Z' : Nat → Prop) : Prop where
 size : w.heap.size ≤ w'.heap.size
 os : w'.os = w.os
 tape : w'.tape = w.tape
 output : w'.output = w.output
 sizes : ∀ gb n, zay w gb n → zay w' gb n
 blk : ∀ i, i < w.heap.size → ¬ Z i → w'.heap[i]? = w.heap[i]?
 less : ∀ i, Z' i → Z i ∨ w.heap.size ≤ i
 lt : ∀ i, Z' i → i < w'.heap.size
def endY (Y : List (List AV) → YM → World → (Nat → Prop) → Prop) (es : List (List AV)) (w : World) (Z : Nat → Prop) : YM → Prop
 | .go => Y es .go w Z
 | .cnt n => Y (es.take (n + 1)) .off w Z
 | .off => False
def Gives (P : Program) (f : FuncId) (caps : List AV) (es : List (List AV)) : Prop :=
 There P f ∧ ∀ (l : Nat) (w : World) (Z : Nat → Prop) (cvs : List Value) (Y : List (List AV) → YM → World → (Nat → Prop) → Prop) (md : YM),
   (∀ i, Z i → i < w.heap.size) → Reps (Env.imm w Z) caps cvs → (md = .go ∨ ∃ n, n < es.length ∧ md = .cnt n) →
   (∀ tr md w1 Z1 w', Y tr md w1 Z1 → Still w.heap.size w1 w' → Y tr md w' Z1) →
   (∀ tr x md b md' w Z xs, Y tr md w Z → es[tr.length]? = some x → md.next = some (b, md') → (∀ i, Z i → i < w.heap.size) → flats x = true → Reps (Env.imm w Z) x xs →
     YieldAt (FR none) 0 P l xs.toArray w fun e w' => e = .returned (.bool b) ∧ ∃ Z', Turn w w' Z Z' ∧ Y (tr ++ [x]) md' w' Z') →
   Y [] md w Z →
   Calls P f (#[.func (.yield l) #[] #[]] ++ cvs.toArray) w fun e w' => (∃ v, e = .returned v) ∧ ∃ Z', endY Y es w' Z' md
def znt (P : Program) (f : FuncId) (args : List AV) (r : AV × List AV) : Prop := ∃ caps k sz es, args = .yq :: caps ∧ r = (.sl k sz es, []) ∧ flats caps = true ∧ Gives P f caps es
def Meets (P : Program) (f : FuncId) (pm : List PM) (args : List AV) (r : AV × List AV) : Prop :=
 (There P f ∧ Owes P f pm args r) ∨ Quick P f pm args r ∨ znt P f args r
def z35 (P : Program) (f : FuncId) (args : List AV) (hp : Hp) (r : AV × Hp) : Prop :=
 ∀ (w : World) (Z : Nat → Prop) (g : Gm) (vs : List Value), Inv (Env.of w Z hp g) → g.b ≤ w.heap.size → Reps (Env.of w Z hp g) args vs →
   There P f ∧ Calls P f vs.toArray w fun
     | .returned v, w' => ∃ g', Step w w' Z hp r.2 g g' ∧ Rep (Env.of w' Z r.2 g') r.1 v
     | _, _ => False
structure CxOk (P : Program) (cx : Cx) : Prop where
 call : ∀ f args r, cx.call f args = some r → Meets P (real f) (cx.spec f).pm args r ∧ ((cx.spec f).it = true → znt P (real f) args r)
 inl : ∀ f args hp r, cx.inl f args hp = some r → z35 P (real f) args hp r
theorem zsc {f : Nat} (h : real f = f) : real (f + 1000000) = f := by
 unfold real at *
 omega
theorem zmf : ∀ (as : List AV) (pms : List PM) (hp : Hp) (h : Handed), hand pms as hp = some h → ∀ k, k ∉ h.wr → look h.hp k = look hp k
 | [], pms, hp, h, e, k, _ => by
   have e0 : hand pms [] hp = some { args := [], rd := [], io := [], wr := [], hp } := by unfold hand; rfl
   rw [e0] at e
   injection e with e
   rw [← e]
 | v :: r, pms, hp, h, e, k, hk => by
   simp only [hand, zaa, Option.some.injEq] at e
   obtain ⟨x, h1, y, h2, rfl⟩ := e
   simp only [List.mem_append, not_or] at hk
   rw [zmf r pms.tail x.hp y h2 k hk.2]
   unfold hand1 at h1
   split at h1
   · simp only [zaa, Option.some.injEq] at h1
     obtain ⟨_, _, rfl⟩ := h1
     rfl
   · simp only [zaa, Option.some.injEq] at h1
     obtain ⟨⟨a', ks, hp'⟩, h3, rfl⟩ := h1
     exact zin _ _ _ _ _ _ _ _ h3 hk.1
   · simp only [zaa, Option.some.injEq] at h1
     obtain ⟨p, _, ⟨a', ks, hp'⟩, h3, rfl⟩ := h1
     exact zin _ _ _ _ _ _ _ _ h3 hk.1
theorem zo4 {pms : List PM} {v : Value} {vs : List Value} : zd6 pms (v :: vs) = (match pms.headD .borrow with | .inout _ => [v] | _ => []) ++ zd6 pms.tail vs := by
 cases pms with
 | nil =>
   simp only [List.headD_nil, List.tail_nil, List.nil_append]
   simp [zd6]
 | cons p r => cases p <;> simp [zd6]
theorem PlacesOk.append {hp : Hp} {g : Gm} : ∀ {ps qs : List Place} {us vs : List Value}, PlacesOk hp g ps us → PlacesOk hp g qs vs → PlacesOk hp g (ps ++ qs) (us ++ vs)
 | [], qs, us, vs, h, k => by simp only [PlacesOk] at h; subst h; simpa using k
 | p :: r, qs, us, vs, h, k => by
   simp only [PlacesOk] at h
   obtain ⟨u, us', rfl, h1, h2⟩ := h
   simp only [List.cons_append, PlacesOk]
   exact ⟨u, us' ++ vs, rfl, h1, h2.append k⟩
theorem zpu {w : World} {g : Gm} : ∀ (as : List AV) (pms : List PM) (Z : Nat → Prop) (vs : List Value) (hp : Hp) (h : Handed), hand pms as hp = some h → Inv (Env.of w Z hp g) → Reps (Env.of w Z hp g) as vs → (∀ k ∈ h.rd, k ∉ h.wr) →
   ∃ F, PackOk w Z g hp h.hp F ∧ RepPs w (Zp ((Env.of w Z h.hp g).but h.rd) F) h.args vs F ∧ PlacesOk hp g h.io (zd6 pms vs)
 | [], pms, Z, vs, hp, h, e, hi, hr, _ => by
   have e0 : hand pms [] hp = some { args := [], rd := [], io := [], wr := [], hp } := by unfold hand; rfl
   rw [e0] at e
   injection e with e
   subst e
   simp only [Reps] at hr
   subst hr
   refine ⟨[], PackOk.refl hi, by simp only [RepPs]; exact ⟨trivial, trivial⟩, ?_⟩
   simp only [PlacesOk]
   cases pms with
   | nil => rfl
   | cons p r => cases p <;> rfl
 | a :: r, pms, Z, vs, hp, h, e, hi, hr, hap => by
   simp only [hand, zaa, Option.some.injEq] at e
   obtain ⟨x, h1, y, h2, rfl⟩ := e
   simp only [Reps] at hr
   obtain ⟨v, vs', rfl, hv, hvs⟩ := hr
   rw [zo4]
   have hap1 : ∀ k ∈ y.rd, k ∉ y.wr := fun k hk hw => hap k (by simp [hk]) (by simp [hw])
   -- the first one
   obtain ⟨F1, p1, q1⟩ : ∃ F1, PackOk w Z g hp x.hp F1 ∧ ((F1 = [] ∧ x.hp = hp ∧ ∃ a', x.args = [a'] ∧ flat a' = true ∧ Rep (Env.imm w ((Env.of w Z hp g).but x.rd)) a' v ∧ x.io = [] ∧ (match pms.headD .borrow with | .inout _ => [v] | _ => []) = []) ∨
       (x.rd = [] ∧ ∃ a', x.args = [a'] ∧ RepP w (YF w Z x.hp g F1) a' v F1 ∧ PlacesOk hp g x.io (match pms.headD .borrow with | .inout _ => [v] | _ => []))) := by
     unfold hand1 at h1
     split at h1
     · rename_i hb
       simp only [zaa, Option.some.injEq] at h1
       obtain ⟨⟨a', ks⟩, h3, rfl⟩ := h1
       obtain ⟨s1, _, s3⟩ := zvc hi _ _ _ _ _ h3 hv
       exact ⟨[], PackOk.refl hi, .inl ⟨rfl, rfl, a', rfl, s1, s3, rfl, by rw [hb]⟩⟩
     · rename_i hh hb
       simp only [zaa, Option.some.injEq] at h1
       obtain ⟨⟨a', ks, hp'⟩, h3, rfl⟩ := h1
       obtain ⟨F, p1, p2, _, _⟩ := zfa _ _ Z _ _ _ _ _ _ _ h3 hi hv
       exact ⟨F, p1, .inr ⟨rfl, a', rfl, p2, by rw [hb]; simp only [PlacesOk]⟩⟩
     · rename_i hh hb
       simp only [zaa, Option.some.injEq] at h1
       obtain ⟨p, hp1, ⟨a', ks, hp'⟩, h3, rfl⟩ := h1
       obtain ⟨F, p1, p2, _, _⟩ := zfa _ _ Z _ _ _ _ _ _ _ h3 hi hv
       exact ⟨F, p1, .inr ⟨rfl, a', rfl, p2, by rw [hb]; simp only [PlacesOk]; exact ⟨v, [], rfl, zxg hi hp1 hv, rfl⟩⟩⟩
   obtain ⟨e1, i1⟩ := p1.others hi
   obtain ⟨F2, p2, q2, q3⟩ := zpu r pms.tail (Zp Z F1) vs' x.hp y h2 i1 (hvs.ext e1) hap1
   have pt := p1.trans p2
   refine ⟨F1 ++ F2, pt, ?_, ?_⟩
   · have hkeep : ∀ k ∈ x.rd ++ y.rd, look y.hp k = look x.hp k := fun k hk => zmf r pms.tail x.hp y h2 k (fun hw => hap k (by simpa using hk) (by simp [hw]))
     have tailY : ∀ i, Zp ((Env.of w Z y.hp g).but (x.rd ++ y.rd)) (F1 ++ F2) i → Zp ((Env.of w (Zp Z F1) y.hp g).but y.rd) F2 i := by
       rintro i (⟨hx, hb⟩ | hx)
       · exact .inl ⟨X_Zp.2 (.inl hx), fun k hk => hb k (by simp [hk])⟩
       · rcases List.mem_append.1 hx with hx | hx
         · refine .inl ⟨.inl (.inr hx), fun k hk b hb hre he => ?_⟩
           exact p2.inv.dis k b hb hre (.inr (by show g k ∈ F1; rw [show g k = i from he]; exact hx))
         · exact .inr hx
     have tail := q2.less tailY
     rcases q1 with ⟨rfl, hxh, a', ha, hf, hrep, _, _⟩ | ⟨hrd, a', ha, hrep, _⟩
     · have hY1 : ∀ i, Zp ((Env.of w Z y.hp g).but (x.rd ++ y.rd)) ([] ++ F2) i → (Env.of w Z hp g).but x.rd i := by
         intro i hx
         have hno : ∀ k ∈ x.rd, ∀ b, look hp k = some b → Real b → g k = i → ((Env.of w Z y.hp g).X i) := by
           intro k hk b hb hre he
           refine .inr ⟨k, b, ?_, hre, he⟩
           show look y.hp k = some b
           rw [hkeep k (by simp [hk]), hxh]
           exact hb
         rcases hx with ⟨hx, hb⟩ | hx
         · refine ⟨?_, fun k hk b hbk hre he => hb k (by simp [hk]) b ?_ hre he⟩
           · exact pt.less i hx
           · show look y.hp k = some b
             rw [hkeep k (by simp [hk]), hxh]
             exact hbk
         · have ho := pt.out i hx
           exact ⟨ho.1, fun k hk b hbk hre he => ho.2.2 (hno k hk b hbk hre he)⟩
       have hfl : Rep (Env.imm w (Zp ((Env.of w Z y.hp g).but (x.rd ++ y.rd)) ([] ++ F2))) a' v :=
         Rep.flat (E := Env.imm w ((Env.of w Z hp g).but x.rd)) (E' := Env.imm w (Zp ((Env.of w Z y.hp g).but (x.rd ++ y.rd)) ([] ++ F2))) rfl (fun i hx => (Env.imm_X _ _ _).2 (hY1 i ((Env.imm_X _ _ _).1 hx))) _ _ hf hrep
       have head := RepP.of_flat a' v hf hfl
       rw [ha]
       simp only [List.cons_append, List.nil_append, RepPs]
       exact ⟨v, vs', [], F2, rfl, rfl, head, tail⟩
     · have hY1 : ∀ i, Zp ((Env.of w Z y.hp g).but (x.rd ++ y.rd)) (F1 ++ F2) i → YF w Z x.hp g F1 i := by
         rintro i (⟨hx, _⟩ | hx)
         · left
           rcases X_Zp.1 (p2.less i (X_Zp.2 (.inl hx))) with h | h
           · exact h
           · exact absurd h fun h => (pt.out i (by simp [h])).2.2 hx
         · rcases List.mem_append.1 hx with hx | hx
           · exact .inr hx
           · have ho := p2.out i hx
             rcases X_Zp.1 ho.1 with h | h
             · exact .inl h
             · exact absurd (.inr h) ho.2.1
       rw [ha]
       simp only [List.cons_append, List.nil_append, RepPs]
       exact ⟨v, vs', F1, F2, rfl, rfl, hrep.less hY1, tail⟩
   · refine PlacesOk.append ?_ (q3.mono p1.sub)
     rcases q1 with ⟨_, _, a', _, _, _, hio, hm⟩ | ⟨_, a', _, _, hpl⟩
     · rw [hio, hm]; simp only [PlacesOk]
     · exact hpl
end Go.Abs
end
section
set_option linter.unusedSimpArgs false
set_option linter.unusedVariables false
namespace Go.Abs
theorem zit : ∀ (ks : List Nat) (hp : Hp) (t : Nat), look (drops ks hp) t = if t ∈ ks then none else look hp t
 | [], hp, t => by simp [drops]
 | k :: r, hp, t => by
   rw [drops, zit r (drop hp k) t, zbl]
   by_cases h1 : t ∈ r
   · simp [h1]
   · by_cases h2 : t = k <;> simp [h1, h2]
theorem zh5 : ∀ (ks : List Nat) (hp : Hp) (t : Nat), zad (drops ks hp) t = zad hp t
 | [], hp, t => rfl
 | k :: r, hp, t => by rw [drops, zh5 r (drop hp k) t, zea]
mutual
theorem zmh : ∀ a : AV, plain a = true → flat a = true
 | .i .., _ => rfl
 | .b _, _ => rfl
 | .str _, _ => rfl
 | .agg cs, h => by simp only [plain, flat] at h ⊢; exact zg0 cs h
 | .tup cs, h => by simp only [plain, flat] at h ⊢; exact zg0 cs h
 | .sl .., h => by simp [plain] at h
 | .ms .., h => by simp [plain] at h
 | .pt .., h => by simp [plain] at h
 | .ip cs, h => by
   simp only [plain, List.isEmpty_iff] at h
   subst h
   rfl
 | .fn .., h => by simp [plain] at h
 | .nilp, _ => rfl
 | .nilf, h => by simp [plain] at h
 | .junk, h => by simp [plain] at h
 | .ow .., h => by simp [plain] at h
 | .bx _, h => by simp [plain] at h
theorem zg0 : ∀ as : List AV, plains as = true → flats as = true
 | [], _ => rfl
 | a :: r, h => by
   simp only [plains, flats, Bool.and_eq_true] at h ⊢
   exact ⟨zmh a h.1, zg0 r h.2⟩
end
mutual
theorem zns {E E' : Env} : ∀ (a : AV) (v : Value), plain a = true → Rep E a v → Rep E' a v
 | .i .., _, _, h => by simpa only [Rep] using h
 | .b _, _, _, h => by simpa only [Rep] using h
 | .str _, _, _, h => by simpa only [Rep] using h
 | .agg cs, v, h, hr => by
   simp only [Rep] at hr ⊢
   obtain ⟨a, h1, h2, h3⟩ := hr
   exact ⟨a, h1, h2, zio cs _ (by simpa only [plain] using h) h3⟩
 | .tup cs, v, h, hr => by
   simp only [Rep] at hr ⊢
   obtain ⟨a, h1, h3⟩ := hr
   exact ⟨a, h1, zio cs _ (by simpa only [plain] using h) h3⟩
 | .sl .., _, h, _ => by simp [plain] at h
 | .ms .., _, h, _ => by simp [plain] at h
 | .pt .., _, h, _ => by simp [plain] at h
 | .ip cs, v, h, hr => by
   simp only [plain, List.isEmpty_iff] at h
   subst h
   simp only [Rep] at hr ⊢
   obtain ⟨b, off, vs, h1, h2, h3, h4, h5⟩ := hr
   cases vs with
   | nil => exact ⟨b, off, [], h1, h2, h3, fun j v hj => by simp at hj, by simp [Reps]⟩
   | cons x r => simp [Reps] at h5
 | .fn .., _, h, _ => by simp [plain] at h
 | .nilp, _, _, h => by simpa only [Rep] using h
 | .nilf, _, h, _ => by simp [plain] at h
 | .junk, _, h, _ => by simp [plain] at h
 | .ow .., _, h, _ => by simp [plain] at h
 | .bx _, _, h, _ => by simp [plain] at h
theorem zio {E E' : Env} : ∀ (as : List AV) (vs : List Value), plains as = true → Reps E as vs → Reps E' as vs
 | [], _, _, h => by simpa only [Reps] using h
 | a :: r, vs, h, hr => by
   simp only [plains, Bool.and_eq_true] at h
   simp only [Reps] at hr ⊢
   obtain ⟨v, vs', h1, h2, h3⟩ := hr
   exact ⟨v, vs', h1, zns a v h.1 h2, zio r vs' h.2 h3⟩
end
theorem zne {w : World} {Z : Nat → Prop} {hp : Hp} {g : Gm} (hi : Inv (Env.of w Z hp g)) {h : Handed} {F : List Nat} (pk : PackOk w Z g hp h.hp F) {ios : List Value} (hpl : PlacesOk hp g h.io ios) {r : AV × List AV} {v : Value} {F' : List Nat} {w' : World}
   (B : Brings w ((Env.of w Z h.hp g).but h.rd) F ios r v F' w') {dst : Nat} {x : Nat × Hp} (hb : back h.io r.2 (keyOf dst + 32) (if plain r.1 && h.io.isEmpty then h.hp else drops h.rd h.hp) = some x) :
   ∃ g', Step w w' Z hp (took h dst r.1 x.1 x.2).hp g g' ∧ Rep (Env.of w' Z (took h dst r.1 x.1 x.2).hp g') (took h dst r.1 x.1 x.2).val v := by
 obtain ⟨hpm, hpmdef⟩ : ∃ hpm, hpm = (if plain r.1 && h.io.isEmpty then h.hp else drops h.rd h.hp) := ⟨_, rfl⟩
 rw [← hpmdef] at hb
 have hsub : ∀ t b, look hpm t = some b → look h.hp t = some b := by
   intro t b hl
   rw [hpmdef] at hl
   split at hl
   · exact hl
   · rw [zit] at hl
     split at hl
     · cases hl
     · exact hl
 have hver : ∀ t, zad hpm t = zad hp t := by
   intro t
   rw [hpmdef]
   split
   · exact pk.vers t
   · rw [zh5]; exact pk.vers t
 have hX : ∀ i, (Env.of w' Z hpm g).X i → (Env.of w Z h.hp g).X i := by
   rintro i (hz | ⟨t, b, h1, h2, h3⟩)
   · exact .inl hz
   · exact .inr ⟨t, b, hsub t b h1, h2, h3⟩
 have hFX : ∀ i ∈ F', (i ∈ F ∧ (Env.of w Z hp g).X i) ∨ w.heap.size ≤ i := by
   intro i hm
   rcases (B.sub i hm).1 with hm | hm
   · exact .inl ⟨hm, (pk.out i hm).1⟩
   · exact .inr hm
 have hFn : ∀ i ∈ F', ¬ (Env.of w Z h.hp g).X i := by
   intro i hm hx
   rcases hFX i hm with ⟨hm, _⟩ | hm
   · exact (pk.out i hm).2.2 hx
   · have := pk.inv.lt hx
     simp only at this
     omega
 have hheap : ∀ t b, look hpm t = some b → Real b → w'.heap[g t]? = w.heap[g t]? := by
   intro t b hl hr
   have hx : (Env.of w Z h.hp g).X (g t) := .inr ⟨t, b, hsub t b hl, hr, rfl⟩
   exact B.frame _ (pk.inv.lt hx) (fun hm => (pk.out _ hm).2.2 hx)
 have hsub0 : ∀ t b, look hpm t = some b → look hp t = some b := fun t b hl => pk.sub t b (hsub t b hl)
 have S : Side w Z hp hpm g w' := ⟨hi, hsub0, hver, hheap⟩
 have hrep := B.rep
 simp only [RepPs] at hrep
 obtain ⟨v0, vs0, F1, F2, he, hF, hr1, hr2⟩ := hrep
 injection he with he1 he2
 subst he1
 subst he2
 -- what the answer is packed against
 have hY : RepP w' (fun i => (Env.of w' Z hpm g).X i ∨ i ∈ F') r.1 v F1 ∧ RepPs w' (fun i => (Env.of w' Z hpm g).X i ∨ i ∈ F') r.2 ios F2 := by
   by_cases hc : (plain r.1 && h.io.isEmpty) = true
   · simp only [Bool.and_eq_true, List.isEmpty_iff] at hc
     have hos : r.2 = [] := by
       rw [hc.2] at hb
       cases hr : r.2 with
       | nil => rfl
       | cons _ _ => rw [hr] at hb; simp [back] at hb
     have hfl := zmh _ hc.1
     obtain ⟨k1, k2⟩ := RepP.to_flat _ _ _ hfl hr1
     subst k2
     refine ⟨RepP.of_flat _ _ hfl (zns _ _ hc.1 k1), ?_⟩
     rw [hos] at hr2 ⊢
     simp only [RepPs] at hr2 ⊢
     exact hr2
   · have hY1 : ∀ i, (Env.of w' Z hpm g).X i ∨ i ∈ F' → Zp ((Env.of w Z h.hp g).but h.rd) F' i := by
       rintro i (hx | hm)
       · refine .inl ⟨hX i hx, fun k hk b hb2 hre he => ?_⟩
         rcases hx with hz | ⟨t, b', h1, h2, h3⟩
         · exact pk.inv.dis k b hb2 hre (by show Z (g k); rw [show g k = i from he]; exact hz)
         · have hkt := pk.inv.inj k t b b' hb2 (hsub t b' h1) hre h2 (by show g k = g t; rw [show g k = i from he]; exact h3.symm)
           subst hkt
           rw [hpmdef, if_neg hc] at h1
           simp only [zit] at h1
           rw [if_pos hk] at h1
           cases h1
       · exact .inr hm
     exact ⟨hr1.less hY1, hr2.less hY1⟩
 have hnd : (F2 ++ F1).Nodup := by
   have := B.nd
   rw [hF] at this
   exact (List.perm_append_comm.nodup_iff).1 this
 have hmem : ∀ i, i ∈ F2 ++ F1 ↔ i ∈ F' := by
   intro i
   rw [hF]
   simp only [List.mem_append]
   exact Or.comm
 have hE : Ext (Env.of w Z hp g) (Env.of w' (Zp Z (F2 ++ F1)) hpm g) := by
   refine ⟨⟨fun t => by simp only [hver t]; exact Nat.le_refl _, fun t b hl _ => ⟨b, hsub0 t b hl, rfl, rfl, rfl, fun _ => ⟨rfl, rfl, rfl⟩⟩, ⟨rfl, rfl⟩⟩, fun b hbx off u hu => ?_, B.sizes⟩
   have hlt := World.block_lt_of_cell? w _ hu
   have hnF : b ∉ F := fun hm => hbx (pk.out b hm).1
   have e : w'.cell? ⟨b, off, none⟩ = w.cell? ⟨b, off, none⟩ := World.cell?_of_block (B.frame b hlt hnF)
   refine ⟨by rw [e]; exact hu, fun hx => ?_⟩
   rcases X_Zp.1 hx with hx | hx
   · exact hbx (pk.less b (hX b hx))
   · rcases hFX b ((hmem b).1 hx) with h | h
     · exact hbx h.2
     · simp only at hlt; omega
 have B0 : Back w hp hpm g w' Z hpm g (F2 ++ F1) := by
   refine ⟨hE, ⟨fun t b hl => ?_, fun t b hl hr => ?_, fun t t' b1 b2 h1 h2 h3 h4 h5 => pk.inv.inj t t' b1 b2 (hsub _ _ h1) (hsub _ _ h2) h3 h4 h5, fun i hz => ?_⟩, fun t b hl => .inl ⟨hl, rfl⟩, fun t => Nat.le_refl _, hnd, fun i hm => fun hz => ?_⟩
   · obtain ⟨k1, k2⟩ := hi.blk t b (hsub0 t b hl)
     exact ⟨by simp only [hver t]; exact k1, k2.ext hE fun hr => hheap t b hl hr⟩
   · rintro (hz | hz)
     · exact pk.inv.dis t b (hsub _ _ hl) hr hz
     · exact hFn (g t) ((hmem _).1 hz) (.inr ⟨t, b, hsub t b hl, hr, rfl⟩)
   · rcases hz with hz | hz
     · exact Nat.lt_of_lt_of_le (hi.zlt i hz) B.size
     · exact RepPs.mem _ _ _ B.rep i ((hmem i).1 hz)
   · have := (hmem i).1 hm
     exact hFn i this (.inl hz)
 obtain ⟨g1, B1, x1⟩ := zu3 S _ _ _ _ _ _ _ _ _ hb B0 hpl hY.2 (fun i hx => hx.imp id (hmem i).1)
 have B1' : Back w hp hpm g w' Z x.2 g1 (F1 ++ []) := by rw [List.append_nil]; exact B1
 obtain ⟨g2, B2, u1, _, _, x2⟩ := B1'.unpacks (as := [r.1]) (vs := [v]) (by simp only [RepPs]; exact ⟨v, [], F1, [], rfl, by simp, hY.1, rfl, rfl⟩) (fun i hx => by
   rcases hx with hx | hx
   · rcases x1 i hx with h | h
     · exact .inl h
     · exact .inr ((hmem i).1 (by simp [h]))
   · exact .inr ((hmem i).1 (by simp at hx; simp [hx]))) (keyOf dst)
 have hzn := zep Z
 have e1 : (unpacks [r.1] (keyOf dst) x.2).2.2 = (took h dst r.1 x.1 x.2).hp := by simp [unpacks, took]
 have e2 : (unpacks [r.1] (keyOf dst) x.2).1 = [(took h dst r.1 x.1 x.2).val] := by simp [unpacks, took]
 rw [e1] at B2 u1 x2
 rw [e2] at u1
 have hext := B2.ext
 have hinv := B2.inv
 rw [hzn] at hext hinv u1
 refine ⟨g2, ⟨hext, hinv, fun i hx => ?_, B.os, B.tape, B.output, B.size, fun i hlt hm => ?_⟩, ?_⟩
 · have back1 : i ∈ F' → (Env.of w Z hp g).X i ∨ w.heap.size ≤ i := fun hm => (hFX i hm).imp (fun h => h.2) id
   rcases x2 i hx with h | h
   · rcases x1 i h with h | h
     · exact .inl (pk.less i (hX i h))
     · exact back1 ((hmem i).1 (by simp [h]))
   · exact back1 ((hmem i).1 (by simp [h]))
 · refine B.frame i hlt fun hmF => hm ?_
   obtain ⟨h1, h2, _⟩ := pk.out i hmF
   rcases h1 with h1 | h1
   · exact absurd h1 h2
   · exact h1
 · simp only [Reps] at u1
   obtain ⟨v1, vs1, he, hr, _⟩ := u1
   injection he with he
   subst he
   exact hr
end Go.Abs
end
section
set_option linter.unusedSimpArgs false
set_option linter.unusedVariables false
namespace Go.Abs
theorem zhl {P : Program} {f : FuncId} (h : There P f) (args : Array Value) (w : World) : (callFunc f args).run P w = .ok (.enter f args) w := by
 obtain ⟨fn, h1, h2, h3⟩ := h
 have hb : fn.body.isNone = false := by cases hb : fn.body <;> simp_all
 simp only [callFunc, Sem.run_bind, run_program, Result.andThen_ok, h1, h2, hb]
 rfl
section
variable {P : Program} {a : Act} {w : World} {Z : Nat → Prop} {hp : Hp} {g : Gm} {s : Sl} {cx : Cx} {d : Nat} {fx : Fx} {o : Oper} {next : Act → World → Prop} {Q : Exit → Act → World → Prop} {ro : Option Nat}
theorem zd1 {n : Nat} {f : FuncId} {args : Array Value} {R : Ending → World → Prop} : CallsIn (FR ro) n P f args w R ↔ Calls P f args w R := callsIn_wide (n := n)
theorem zg4 {o : Oper} (hd : ∀ c, o.op ≠ .defer c) (h : o.uponIn (FR ro) 0 P a next Q ((execOp a.eval o).run P w)) : o.wpIn (FR ro) 0 P a w next Q :=
 ⟨fun _ _ => trivial, by rw [Oper.semAt_eq _ _ _ hd]; exact h⟩
theorem zmk (hcx : CxOk P cx) (hi : Inv (Env.of w Z hp g)) {f : Nat} {as : List AV} {vs : List Value} (hr : Reps (Env.of w Z hp g) as vs) (hf : zd0 cx f as d hp = some fx)
   (hd : ∀ c, o.op ≠ .defer c) (hrun : (execOp a.eval o).run P w = (callFunc (real f) vs.toArray).run P w)
   (K : ∀ v w' g', Step w w' Z hp fx.hp g g' → Rep (Env.of w' Z fx.hp g') fx.val v → next (a.put o.dst v) w') : o.wpIn (FR ro) 0 P a w next Q := by
 unfold zd0 at hf
 simp only [zaa, zac, Option.some.injEq] at hf
 obtain ⟨h, hh, hap, r, hc, x, hb, rfl⟩ := hf
 have hm := (hcx.call f h.args r hc).1
 have hap' : ∀ k ∈ h.rd, k ∉ h.wr := by
   intro k hk hw
   simp only [zbx, List.all_eq_true] at hap
   have := hap k hk
   simp [hw] at this
 obtain ⟨F, pk, hreps, hpl⟩ := zpu as _ Z vs hp h hh hi hr hap'
 refine zg4 hd ?_
 rw [hrun]
 rcases hm with ⟨ht, ho⟩ | hq | ⟨caps, k, sz, es, ha, _⟩
 rotate_left
 · obtain ⟨v, w', F', e1, B⟩ := hq w ((Env.of w Z h.hp g).but h.rd) vs F (fun i hx => pk.inv.lt hx.1) hreps pk.nd (fun i hm hx => (pk.out i hm).2.2 hx.1)
   rw [e1, Oper.uponIn_value]
   obtain ⟨g', s1, s2⟩ := zne hi pk hpl B hb
   exact K v w' g' s1 s2
 · exfalso
   rw [ha] at hreps
   simp only [RepPs, RepP] at hreps
   obtain ⟨_, _, _, _, _, _, h, _⟩ := hreps
   exact h
 rw [zhl ht, Oper.uponIn_enter]
 refine ⟨(fun h => by cases h), zd1.2 ?_⟩
 refine (ho w ((Env.of w Z h.hp g).but h.rd) vs F (fun i hx => pk.inv.lt hx.1) hreps pk.nd (fun i hm hx => (pk.out i hm).2.2 hx.1)).mono fun e w' he => ?_
 cases e with
 | returned v =>
   obtain ⟨F', B⟩ := he
   obtain ⟨g', s1, s2⟩ := zne hi pk hpl B hb
   exact K v w' g' s1 s2
 | panicked c => exact he.elim
 | outgrown => exact he.elim
theorem zug {E E' : Env} {k m : Nat} (hk : E'.L k = none) (hm : m < E'.N k) : ∀ {a x : AV} {v : Value}, wkC k m a = some x → Rep E a v → Rep E' x v ∧ oneA x = true := by
 intro a x v h hr
 cases a <;> simp only [wkC, Option.some.injEq] at h <;> try cases h
 case i => simp only [Rep] at hr ⊢; exact ⟨hr, rfl⟩
 case b => simp only [Rep] at hr ⊢; exact ⟨hr, rfl⟩
 case str => simp only [Rep] at hr ⊢; exact ⟨hr, rfl⟩
 case nilp => simp only [Rep] at hr ⊢; exact ⟨hr, rfl⟩
 case sl =>
   simp only [Rep] at hr ⊢
   obtain ⟨A, c, h1, _⟩ := hr
   exact ⟨⟨hm, A, c, h1, fun b hb => by rw [hk] at hb; cases hb⟩, rfl⟩
theorem zqf {E E' : Env} {k m : Nat} (hk : E'.L k = none) (hm : m < E'.N k) : ∀ {as xs : List AV} {vs : List Value}, wkCs k m as = some xs → Reps E as vs → Reps E' xs vs ∧ ones xs = true
 | [], xs, vs, h, hr => by
   simp only [wkCs, Option.some.injEq] at h
   subst h
   simp only [Reps] at hr ⊢
   exact ⟨hr, rfl⟩
 | a :: r, xs, vs, h, hr => by
   simp only [wkCs, zaa, Option.some.injEq] at h
   obtain ⟨x, h1, y, h2, rfl⟩ := h
   simp only [Reps] at hr ⊢
   obtain ⟨v, vs', rfl, hv, hvs⟩ := hr
   obtain ⟨k1, k2⟩ := zug hk hm h1 hv
   obtain ⟨k3, k4⟩ := zqf hk hm h2 hvs
   exact ⟨⟨v, vs', rfl, k1, k3⟩, by simp only [ones, k2, k4, Bool.and_self]⟩
theorem zuu {E E' : Env} {k m : Nat} (hk : E'.L k = none) (hm : m < E'.N k) {a x : AV} {v : Value} (h : wkT k m a = some x) (hr : Rep E a v) : Rep E' x v := by
 unfold wkT at h
 split at h
 · simp only [zaa, Option.some.injEq] at h
   obtain ⟨y, h1, rfl⟩ := h
   simp only [Rep] at hr ⊢
   obtain ⟨b, rfl, _, h3⟩ := hr
   obtain ⟨k1, k2⟩ := zqf hk hm h1 h3
   exact ⟨b, rfl, k2, k1⟩
 · exact (zug hk hm h hr).1
theorem zq4 {E E' : Env} {k m : Nat} (hk : E'.L k = none) (hm : m < E'.N k) : ∀ {as xs : List AV} {vs : List Value}, wkTs k m as = some xs → Reps E as vs → Reps E' xs vs
 | [], xs, vs, h, hr => by
   simp only [wkTs, Option.some.injEq] at h
   subst h
   simp only [Reps] at hr ⊢
   exact hr
 | a :: r, xs, vs, h, hr => by
   simp only [wkTs, zaa, Option.some.injEq] at h
   obtain ⟨x, h1, y, h2, rfl⟩ := h
   simp only [Reps] at hr ⊢
   obtain ⟨v, vs', rfl, hv, hvs⟩ := hr
   exact ⟨v, vs', rfl, zuu hk hm h1 hv, zq4 hk hm h2 hvs⟩
theorem zzq {E E' : Env} {k m : Nat} (hk : E'.L k = none) (hm : m < E'.N k) {a x : AV} {v : Value} (h : wkn k m a = some x) (hr : Rep E a v) : Rep E' x v := by
 unfold wkn at h
 split at h
 · simp only [zaa, Option.some.injEq] at h
   obtain ⟨y, h1, rfl⟩ := h
   simp only [Rep] at hr ⊢
   obtain ⟨b, rfl, h3⟩ := hr
   exact ⟨b, rfl, zq4 hk hm h1 h3⟩
 · exact zuu hk hm h hr
theorem zl1 {w : World} {Z : Nat → Prop} {hp : Hp} {g : Gm} (hi : Inv (Env.of w Z hp g)) {h : Handed} {F : List Nat} (pk : PackOk w Z g hp h.hp F) {ios : List Value} (hpl : PlacesOk hp g h.io ios) {r : AV × List AV} {v : Value} {F' : List Nat} {w' : World}
   (B : Brings w ((Env.of w Z h.hp g).but h.rd) F ios r v F' w') (hio : h.io = []) (hr2 : r.2 = []) {dst : Nat} {x : AV} (hx : wkn (keyOf dst) (zad h.hp (keyOf dst)) r.1 = some x) (hfl : flat r.1 = true) :
   ∃ g', Step w w' Z hp ((keyOf dst, .dead (zad h.hp (keyOf dst) + 1)) :: h.hp) g g' ∧ Rep (Env.of w' Z ((keyOf dst, .dead (zad h.hp (keyOf dst) + 1)) :: h.hp) g') x v := by
 have hrep := B.rep
 rw [hr2] at hrep
 simp only [RepPs] at hrep
 obtain ⟨v0, vs0, F1, F2, he, hF, hr1, hr0, _⟩ := hrep
 injection he with he1 he2
 subst he1
 subst he2
 subst hr0
 obtain ⟨k1, _⟩ := RepP.to_flat _ _ _ hfl hr1
 have B0 : Brings w ((Env.of w Z h.hp g).but h.rd) F [] (.i .i64 0, []) (.int .i64 0) [] w' :=
   ⟨by simp only [RepPs, RepP, Rep]; exact ⟨_, [], [], [], rfl, rfl, ⟨rfl, rfl⟩, rfl, rfl⟩, List.nodup_nil, fun i hi => by simp at hi, B.size, B.os, B.tape, B.output, B.sizes, B.frame⟩
 have hb : back h.io ([] : List AV) (keyOf dst + 32) (if plain (.i .i64 0) && h.io.isEmpty then h.hp else drops h.rd h.hp) = some (keyOf dst + 32, h.hp) := by
   rw [hio]
   simp [plain, back]
 obtain ⟨g', s1, _⟩ := zne hi pk hpl B0 hb
 have e1 : (took h dst (.i .i64 0) (keyOf dst + 32) h.hp).hp = h.hp := by simp [took, unpack]
 rw [e1] at s1
 have hlook : ∀ t b, look ((keyOf dst, Ent.dead (zad h.hp (keyOf dst) + 1)) :: h.hp) t = some b → look h.hp t = some b := by
   intro t b hb
   simp only [look] at hb
   split at hb
   · cases hb
   · exact hb
 obtain ⟨x1, x2, x3⟩ := Env.less (E := Env.of w' Z h.hp g') (E' := Env.of w' Z ((keyOf dst, .dead (zad h.hp (keyOf dst) + 1)) :: h.hp) g') rfl (fun _ h => h) (fun t => by
   simp only [zad]
   split
   · rename_i ht; rw [ht]; omega
   · exact Nat.le_refl _) rfl hlook
 have s2 : Step w' w' Z h.hp ((keyOf dst, .dead (zad h.hp (keyOf dst) + 1)) :: h.hp) g' g' := ⟨x1, x2 s1.inv, fun i hx => .inl (x3 i hx), rfl, rfl, rfl, Nat.le_refl _, fun _ _ _ => rfl⟩
 refine ⟨g', s1.trans s2, zzq ?_ ?_ hx k1⟩
 · simp only [look, if_true]
 · simp only [zad, if_true]; omega
theorem zsd (hcx : CxOk P cx) (hi : Inv (Env.of w Z hp g)) {f : Nat} {as : List AV} {vs : List Value} (hr : Reps (Env.of w Z hp g) as vs) (hf : zeo cx f as d hp = some fx)
   (hd : ∀ c, o.op ≠ .defer c) (hrun : (execOp a.eval o).run P w = (callFunc (real f) vs.toArray).run P w)
   (K : ∀ v w' g', Step w w' Z hp fx.hp g g' → Rep (Env.of w' Z fx.hp g') fx.val v → next (a.put o.dst v) w') : o.wpIn (FR ro) 0 P a w next Q := by
 unfold zeo at hf
 simp only [zaa, zac, Option.some.injEq] at hf
 obtain ⟨h, hh, ⟨hap, hio⟩, r, hc, hr2, x, ⟨hfl, hx⟩, rfl⟩ := hf
 simp only [List.isEmpty_iff] at hio hr2
 have hm := (hcx.call f h.args r hc).1
 have hap' : ∀ k ∈ h.rd, k ∉ h.wr := by
   intro k hk hw
   simp only [zbx, List.all_eq_true] at hap
   have := hap k hk
   simp [hw] at this
 obtain ⟨F, pk, hreps, hpl⟩ := zpu as _ Z vs hp h hh hi hr hap'
 refine zg4 hd ?_
 rw [hrun]
 rcases hm with ⟨ht, ho⟩ | hq | ⟨caps, k, sz, es, ha, _⟩
 rotate_left
 · obtain ⟨v, w', F', e1, B⟩ := hq w ((Env.of w Z h.hp g).but h.rd) vs F (fun i hx => pk.inv.lt hx.1) hreps pk.nd (fun i hm hx => (pk.out i hm).2.2 hx.1)
   rw [e1, Oper.uponIn_value]
   obtain ⟨g', s1, s2⟩ := zl1 hi pk hpl B hio hr2 hx hfl
   exact K v w' g' s1 s2
 · exfalso
   rw [ha] at hreps
   simp only [RepPs, RepP] at hreps
   obtain ⟨_, _, _, _, _, _, h, _⟩ := hreps
   exact h
 rw [zhl ht, Oper.uponIn_enter]
 refine ⟨(fun h => by cases h), zd1.2 ?_⟩
 refine (ho w ((Env.of w Z h.hp g).but h.rd) vs F (fun i hx => pk.inv.lt hx.1) hreps pk.nd (fun i hm hx => (pk.out i hm).2.2 hx.1)).mono fun e w' he => ?_
 cases e with
 | returned v =>
   obtain ⟨F', B⟩ := he
   obtain ⟨g', s1, s2⟩ := zl1 hi pk hpl B hio hr2 hx hfl
   exact K v w' g' s1 s2
 | panicked c => exact he.elim
 | outgrown => exact he.elim
theorem zv0 {cx : Cx} {f : Nat} {as : List AV} {d : Nat} {hp : Hp} {fx : Fx} (hf : zed cx f as d hp = some fx) : zd0 cx f as d hp = some fx := by
 unfold zed at hf
 unfold zd0
 simp only [zaa, zac, Option.some.injEq] at hf ⊢
 obtain ⟨h, hh, hap, r, hc, _, x, hb, rfl⟩ := hf
 exact ⟨h, hh, hap, r, hc, x, hb, rfl⟩
theorem znw (hcx : CxOk P cx) (hi : Inv (Env.of w Z hp g)) {f : Nat} {as : List AV} {vs : List Value} (hr : Reps (Env.of w Z hp g) as vs) (hf : zed cx f as d hp = some fx)
   (hd : ∀ c, o.op ≠ .defer c) (hrun : (execOp a.eval o).run P w = (callFunc (real f) vs.toArray).run P w)
   (K : ∀ v w' g', Step w w' Z hp fx.hp g g' → Rep (Env.of w' Z fx.hp g') fx.val v → next (a.put o.dst v) w') : o.wpIn (FR ro) 0 P a w next Q :=
 zmk hcx hi hr (zv0 hf) hd hrun K
theorem z4u (hcx : CxOk P cx) (hi : Inv (Env.of w Z hp g)) (hb : g.b ≤ w.heap.size) {f : Nat} {as : List AV} {vs : List Value} (hr : Reps (Env.of w Z hp g) as vs) {x : AV × Hp} (hf : cx.inl f as hp = some x)
   (hd : ∀ c, o.op ≠ .defer c) (hrun : (execOp a.eval o).run P w = (callFunc (real f) vs.toArray).run P w)
   (K : ∀ v w' g', Step w w' Z hp x.2 g g' → Rep (Env.of w' Z x.2 g') x.1 v → next (a.put o.dst v) w') : o.wpIn (FR ro) 0 P a w next Q := by
 obtain ⟨ht, hc⟩ := hcx.inl f as hp x hf w Z g vs hi hb hr
 refine zg4 hd ?_
 rw [hrun, zhl ht, Oper.uponIn_enter]
 refine ⟨(fun h => by cases h), zd1.2 (hc.mono fun e w' he => ?_)⟩
 cases e with
 | returned v =>
   obtain ⟨g', s1, s2⟩ := he
   exact K v w' g' s1 s2
 | panicked c => exact he.elim
 | outgrown => exact he.elim
theorem zqg {c : Call} {f : FuncId} (ho : o.op = .call c) (hcal : c.callee = .value (.func f)) : (execOp a.eval o).run P w = (callFunc f (c.args.toList.map a.eval).toArray).run P w := by
 unfold execOp
 rw [ho]
 simp only [resolve, hcal]
 have : a.eval (.func f) = .func (.func f) #[] #[] := rfl
 rw [this]
 simp [Deferred.ofValue, invoke]
 congr 2
 apply Array.ext'
 rw [Array.toList_map]
theorem zz2 (hcx : CxOk P cx) (hi : Inv (Env.of w Z hp g)) (hs : SlotsRep (Env.of w Z hp g) s a) {c : Call} {op' : AOp} (ho : o.op = .call c) (hc : ccall P c = some op') (hn : zqp op' = false) (hf : aop cx op' d s hp = some fx)
   (K : ∀ v w' g', Step w w' Z hp fx.hp g g' → Rep (Env.of w' Z fx.hp g') fx.val v → next (a.put o.dst v) w') : o.wpIn (FR ro) 0 P a w next Q := by
 unfold ccall at hc
 split at hc
 · rename_i f hcal
   split at hc <;> try cases hc
   rename_i hrf
   simp only [Option.map_eq_some_iff] at hc
   obtain ⟨l, hl, rfl⟩ := hc
   simp only [aop] at hf
   refine znw hcx hi (zc9 hs hl) hf (by rw [ho]; intro c h; cases h) ?_ K
   rw [hrf]
   exact zqg ho hcal
 · rename_i t hcal
   simp only [Option.map_eq_some_iff] at hc
   obtain ⟨l, hl, rfl⟩ := hc
   simp only [aop] at hf
   have ht := zah hs (show copd (.tmp t) = some (.tmp t) from rfl)
   revert hf ht
   cases ev s (.tmp t) <;> simp only [zn6] <;> intro hf ht <;> try cases hf
   rename_i f caps
   simp only [Rep] at ht
   obtain ⟨cv, htv, hcr⟩ := ht
   refine znw hcx hi ((zc9 hs hl).append hcr) hf (by rw [ho]; intro c h; cases h) ?_ K
   unfold execOp
   rw [ho]
   simp only [resolve, hcal]
   rw [htv]
   simp [Deferred.ofValue, invoke]
   congr 2
   apply Array.ext'
   simp
 · cases hc
 · cases hc
 · split at hc <;> (try split at hc) <;> (try split at hc) <;> (try split at hc) <;> (try cases hc) <;> (try cases hn)
   all_goals
     simp only [Option.map_eq_some_iff] at hc
     obtain ⟨_, _, rfl⟩ := hc
     cases hn
theorem zy9 {op : Op} {y : Opd} (h : cop P op = some (.box y)) : ∃ ty x, op = .box ty x := by
 cases op with
 | box ty x => exact ⟨ty, x, rfl⟩
 | call c =>
   exfalso
   simp only [cop] at h
   unfold ccall at h
   split at h
   · split at h
     · simp only [Option.map_eq_some_iff] at h
       obtain ⟨_, _, h⟩ := h
       cases h
     · cases h
   · simp only [Option.map_eq_some_iff] at h
     obtain ⟨_, _, h⟩ := h
     cases h
   · cases h
   · cases h
   · split at h <;> (try split at h) <;> (try split at h) <;> (try split at h) <;> (try cases h)
     all_goals
       simp only [Option.map_eq_some_iff] at h
       obtain ⟨_, _, h⟩ := h
       cases h
 | makeMap t r =>
   exfalso
   cases r with
   | some x => simp [cop] at h
   | none =>
     simp only [cop] at h
     split at h <;> cases h
 | _ =>
   exfalso
   simp only [cop] at h
   first
     | cases h
     | (simp only [Option.map_eq_some_iff] at h; obtain ⟨_, _, h⟩ := h; cases h)
     | (split at h <;> (try split at h) <;> (try split at h) <;> (try split at h) <;> (try split at h) <;> (try split at h) <;> first | cases h | (simp only [Option.map_eq_some_iff] at h; obtain ⟨_, _, h⟩ := h; cases h))
theorem zxa {op : Op} {f : Nat} {l : List Opd} (h : cop P op = some (.call f l)) : ∃ c, op = .call c ∧ c.callee = .value (.func f) ∧ copds c.args.toList = some l ∧ real f = f := by
 cases op with
 | call c =>
   simp only [cop] at h
   unfold ccall at h
   split at h
   · rename_i f' hcal
     split at h
     · rename_i hrf
       simp only [Option.map_eq_some_iff] at h
       obtain ⟨l', hl, h⟩ := h
       injection h with h1 h2
       subst h1
       subst h2
       exact ⟨c, rfl, hcal, hl, hrf⟩
     · cases h
   · simp only [Option.map_eq_some_iff] at h
     obtain ⟨_, _, h⟩ := h
     cases h
   · cases h
   · cases h
   · split at h <;> (try split at h) <;> (try split at h) <;> (try split at h) <;> (try cases h)
     all_goals
       simp only [Option.map_eq_some_iff] at h
       obtain ⟨_, _, h⟩ := h
       cases h
 | makeMap t r =>
   exfalso
   cases r with
   | some x => simp [cop] at h
   | none =>
     simp only [cop] at h
     split at h <;> cases h
 | _ =>
   exfalso
   simp only [cop] at h
   first
     | cases h
     | (simp only [Option.map_eq_some_iff] at h; obtain ⟨_, _, h⟩ := h; cases h)
     | (split at h <;> (try split at h) <;> (try split at h) <;> (try split at h) <;> (try split at h) <;> (try split at h) <;> first | cases h | (simp only [Option.map_eq_some_iff] at h; obtain ⟨_, _, h⟩ := h; cases h))
theorem zwo {f : Nat} (h : real f = f) : f + 1000000 < 2000000 := by
 unfold real at h
 omega
theorem z0c (f : Nat) : ¬ f + 2000000 < 2000000 := by omega
theorem zrm (P : Program) (b : Nat) (op : Op) : ibox b (copF P op) = copF P op ∨ (∃ ty x x', op = .box ty x ∧ copd x = some x' ∧ ibox b (copF P op) = .boxi x') ∨ (b = 2 ∧ ibox 2 (copF P op) ≠ copF P op) ∨
   (∃ c f l, op = .call c ∧ c.callee = .value (.func f) ∧ copds c.args.toList = some l ∧ real f = f ∧ (ibox b (copF P op) = .calld (f + 1000000) l ∨ ibox b (copF P op) = .inl (f + 1000000) l ∨ ibox b (copF P op) = .calld (f + 2000000) l)) := by
 have calls : ∀ f l, copF P op = .call f l → ∃ c, op = .call c ∧ c.callee = .value (.func f) ∧ copds c.args.toList = some l ∧ real f = f := by
   intro f l h
   unfold copF at h
   cases h2 : cop P op with
   | none => rw [h2] at h; cases h
   | some o' =>
     rw [h2] at h
     simp only [Option.getD_some] at h
     subst h
     exact zxa h2
 match b with
 | 0 => exact .inl (by cases copF P op <;> rfl)
 | n + 6 => exact .inl (by cases copF P op <;> rfl)
 | 3 =>
   cases hc : copF P op
   case call f l =>
     obtain ⟨c, h1, h2, h3, h4⟩ := calls f l hc
     exact .inr (.inr (.inr ⟨c, f, l, h1, h2, h3, h4, .inl rfl⟩))
   all_goals exact .inl rfl
 | 4 =>
   cases hc : copF P op
   case call f l =>
     obtain ⟨c, h1, h2, h3, h4⟩ := calls f l hc
     exact .inr (.inr (.inr ⟨c, f, l, h1, h2, h3, h4, .inr (.inl rfl)⟩))
   all_goals exact .inl rfl
 | 5 =>
   cases hc : copF P op
   case call f l =>
     obtain ⟨c, h1, h2, h3, h4⟩ := calls f l hc
     exact .inr (.inr (.inr ⟨c, f, l, h1, h2, h3, h4, .inr (.inr rfl)⟩))
   all_goals exact .inl rfl
 | 2 =>
   by_cases h : ibox 2 (copF P op) = copF P op
   · exact .inl h
   · exact .inr (.inr (.inl ⟨rfl, h⟩))
 | 1 =>
   by_cases h : ∃ ty x, op = .box ty x
   · obtain ⟨ty, x, rfl⟩ := h
     unfold copF
     simp only [cop]
     cases hx : copd x with
     | none => exact .inl rfl
     | some x' => exact .inr (.inl ⟨ty, x, x', rfl, hx, rfl⟩)
   · refine .inl ?_
     cases hc : copF P op <;> try rfl
     exfalso
     unfold copF at hc
     cases h2 : cop P op with
     | none => rw [h2] at hc; cases hc
     | some o' =>
       rw [h2] at hc
       simp only [Option.getD_some] at hc
       subst hc
       exact h (zy9 h2)
theorem z5s (hcx : CxOk P cx) (hi : Inv (Env.of w Z hp g)) (hb : g.b ≤ w.heap.size) (hs : SlotsRep (Env.of w Z hp g) s a) {ib : Nat} (hf : aop cx (ibox ib (copF P o.op)) d s hp = some fx)
   (K : ∀ v w' g', Step w w' Z hp fx.hp g g' → Rep (Env.of w' Z fx.hp g') fx.val v → next (a.put o.dst v) w') : o.wpIn (FR ro) 0 P a w next Q := by
 rcases zrm P ib o.op with hib | ⟨ty, x, x', hop, hx, hib⟩ | ⟨rfl, hib⟩ | ⟨c, f, l, hop, hcal, hl, hrf, hib⟩
 rotate_left
 · rw [hib] at hf
   obtain ⟨v, w', g', h1, h2, h3⟩ := z0a hi hs hx hop hf
   refine zg4 (by intro c h; rw [h] at hop; cases hop) ?_
   rcases h1 with h1 | ⟨h1, rfl⟩
   · rw [h1]; exact K v w' g' h2 h3
   · rw [h1]; exact K _ w' g' h2 h3
 · cases hc : cop P o.op with
   | none =>
     exfalso
     unfold copF at hib
     rw [hc] at hib
     exact hib rfl
   | some op' =>
     unfold copF at hf hib
     rw [hc] at hf hib
     simp only [Option.getD_some] at hf hib
     obtain ⟨v, w', g', h1, h2, h3⟩ := zzy hi hs hc hib hf
     refine zg4 (by intro c h; rw [h] at hc; simp [cop] at hc) ?_
     rcases h1 with h1 | ⟨h1, rfl⟩
     · rw [h1]; exact K v w' g' h2 h3
     · rw [h1]; exact K _ w' g' h2 h3
 · have hrun := zqg (P := P) (w := w) (a := a) hop hcal
   have hrun0 := hrun
   rw [← zsc hrf] at hrun
   rcases hib with hib | hib | hib
   · rw [hib] at hf
     simp only [aop] at hf
     rw [if_pos (zwo hrf)] at hf
     exact zmk hcx hi (zc9 hs hl) hf (by rw [hop]; intro c h; cases h) hrun K
   · rw [hib] at hf
     simp only [aop, zaa, Option.some.injEq] at hf
     obtain ⟨x, hx, rfl⟩ := hf
     exact z4u hcx hi hb (zc9 hs hl) hx (by rw [hop]; intro c h; cases h) hrun K
   · rw [hib] at hf
     simp only [aop] at hf
     rw [if_neg (z0c f), Nat.add_sub_cancel] at hf
     exact zsd hcx hi (zc9 hs hl) hf (by rw [hop]; intro c h; cases h) (by rw [hrf]; exact hrun0) K
 rw [hib] at hf
 unfold copF at hf
 cases hc : cop P o.op with
 | none => rw [hc] at hf; cases hf
 | some op' =>
   rw [hc] at hf
   simp only [Option.getD_some] at hf
   cases hn : zqp op' with
   | true =>
     obtain ⟨v, w', g', h1, h2, h3⟩ := op_ok hi hs hc hn hf
     refine zg4 (by intro c h; rw [h] at hc; simp [cop] at hc) ?_
     rcases h1 with h1 | ⟨h1, rfl⟩
     · rw [h1]; exact K v w' g' h2 h3
     · rw [h1]; exact K _ w' g' h2 h3
   | false =>
     cases hop : o.op with
     | call c =>
       rw [hop] at hc
       exact zz2 hcx hi hs hop hc hn hf K
     | makeMap t r =>
       exfalso
       rw [hop] at hc
       cases r with
       | some x => simp [cop] at hc
       | none =>
         simp only [cop] at hc
         split at hc
         · injection hc with hc
           subst hc
           cases hn
         · cases hc
     | _ =>
       exfalso
       rw [hop] at hc
       simp only [cop] at hc
       first
         | (cases hc; done)
         | (simp only [Option.map_eq_some_iff] at hc; obtain ⟨_, _, rfl⟩ := hc; cases hn; done)
         | (repeat' split at hc) <;> (try cases hc) <;> (try cases hn)
end
end Go.Abs
end
section
set_option linter.unusedSimpArgs false
set_option linter.unusedVariables false
namespace Go.Abs
theorem Inv.not_mine {w : World} {Z : Nat → Prop} {hp : Hp} {g : Gm} (hi : Inv (Env.of w Z hp g)) {i : Nat} {o : Obj} (h : w.heap[i]? = some o) (ho : zi0 o = false) : ¬ Mine hp g i := by
 rintro ⟨k, b, h1, h2, rfl⟩
 have hb := (hi.blk k b h1).2
 have hb1 := hb.1
 have hb2 := hb.2.1
 have hb3 := hb.2.2
 by_cases hr : b.row = true
 · have hne : b.es ≠ [] := by
     rcases h2 with h2 | h2
     · rw [hr] at h2; cases h2
     · exact h2
   obtain ⟨arr, vs, rest, e1, _⟩ := (hb1 hr).2.2 hne
   rw [show w.heap[g k]? = some (.cells arr b.ty (0, 0)) from e1] at h
   injection h with h; subst h; cases ho
 · by_cases hm : b.mp = true
   · obtain ⟨arr, clock, _, e1, _⟩ := hb3 (by simpa using hr) hm
     rw [show w.heap[g k]? = some (.map arr clock) from e1] at h
     injection h with h; subst h; cases ho
   · obtain ⟨cs, arr, ty, _, _, e1, _⟩ := hb2 (by simpa using hr) (by simpa using hm)
     rw [show w.heap[g k]? = some (.cells arr ty (0, 0)) from e1] at h
     injection h with h; subst h; cases ho
def zld (D : Nat) : Deferred := { target := .collected D, args := #[] }
def DfOk (b : Nat) (w : World) (Z : Nat → Prop) (ds : List Deferred) : Prop := ∃ Ds : List Nat, ds = Ds.map zld ∧ Ds.Nodup ∧ b ≤ w.heap.size ∧ ∀ D ∈ Ds, b ≤ D ∧ w.heap[D]? = some (.deferred (some [])) ∧ ¬ Z D
theorem DfOk.keep {b : Nat} {w w' : World} {Z Z' : Nat → Prop} {ds : List Deferred} (h : DfOk b w Z ds) (hs : w.heap.size ≤ w'.heap.size) (hk : ∀ i, w.heap[i]? = some (.deferred (some [])) → ¬ Z i → w'.heap[i]? = some (.deferred (some [])) ∧ ¬ Z' i) : DfOk b w' Z' ds := by
 obtain ⟨Ds, h1, h2, h3, h4⟩ := h
 exact ⟨Ds, h1, h2, Nat.le_trans h3 hs, fun D hD => ⟨(h4 D hD).1, hk D (h4 D hD).2.1 (h4 D hD).2.2⟩⟩
theorem DfOk.step {w w' : World} {Z : Nat → Prop} {hp hp' : Hp} {g g' : Gm} {ds : List Deferred} (h : DfOk g.b w Z ds) (hi : Inv (Env.of w Z hp g)) (s : Step w w' Z hp hp' g g') : DfOk g'.b w' Z ds := by
 have e : g'.b = g.b := s.ext.yb.2
 rw [e]
 exact h.keep s.size fun i hio hz => ⟨by rw [s.blk i (za6 hio) (hi.not_mine hio rfl)]; exact hio, hz⟩
structure Sts (n : Nat) (fx : Nat → Option Value) (w : World) (Z : Nat → Prop) (st : St) (g : Gm) (a : Act) : Prop where
 inv : Inv (Env.of w Z st.hp g)
 slots : SlotsRep (Env.of w Z st.hp g) st.sl a
 size : a.tmps.size = n
 defers : DfOk g.b w Z a.defers
 fix : ∀ t v, fx t = some v → a.tmps.getD t Go.undef = v
def ze9 (ok : Ok) (n : Nat) (fx : Nat → Option Value) : Prop := ∀ d, ok d = true → d < n ∧ fx d = none
theorem Act.put_size (a : Act) (d : Option Tmp) (v : Value) : (a.put d v).tmps.size = a.tmps.size := by cases d <;> simp [Act.put]
theorem Act.put_other (a : Act) (d : Option Tmp) (v : Value) {t : Nat} (h : d ≠ some t) : (a.put d v).tmps.getD t Go.undef = a.tmps.getD t Go.undef := by
 cases d with
 | none => rfl
 | some d =>
   simp only [Act.put, Array.getD_eq_getD_getElem?]
   rw [Array.getElem?_setIfInBounds_ne (fun e => h (by rw [e]))]
theorem Act.put_def (a : Act) (d : Option Tmp) (v : Value) : (a.put d v).defers = a.defers := by cases d <;> simp [Act.put]
section
variable {P : Program} {cx : Cx} {ops : Array Oper} {Z : Nat → Prop} {n : Nat} {ok : Ok} {fxv : Nat → Option Value} {Q : Exit → Act → World → Prop} {ro : Option Nat}
theorem ziv (o : Oper) : cins P ok ops o = { dst := o.dst, op := .fail, guard := none } ∨ ((∀ d, o.dst = some d → ok d = true) ∧ ((o.guard = none ∧ cins P ok ops o = { dst := o.dst, op := ibox (ok.ibAt o.dst) (copF P o.op), guard := none }) ∨
   ∃ j want t, o.guard = some (j, want) ∧ (ops[j]?).bind (·.dst) = some t ∧ cins P ok ops o = { dst := o.dst, op := ibox (ok.ibAt o.dst) (copF P o.op), guard := some (t, want) })) := by
 unfold cins
 by_cases hc : zy8 ok o.dst = false
 · rw [if_pos hc]
   exact .inl rfl
 · rw [if_neg hc]
   have hd : ∀ d, o.dst = some d → ok d = true := by
     intro d hd
     rw [hd] at hc
     simpa [zy8] using hc
   cases hg : o.guard with
   | none => exact .inr ⟨hd, .inl ⟨rfl, rfl⟩⟩
   | some p =>
     obtain ⟨j, want⟩ := p
     simp only
     cases ht : (ops[j]?).bind (·.dst) with
     | none => exact .inl rfl
     | some t => exact .inr ⟨hd, .inr ⟨j, want, t, rfl, ht, rfl⟩⟩
theorem zkq {st : St} {a : Act} {w : World} {g : Gm} (h : Sts n fxv w Z st g a) {o : Oper} {j : Nat} {want : Bool} {t : Tmp} (hg : o.guard = some (j, want)) (ht : (ops[j]?).bind (·.dst) = some t) {b : Bool} (hw : wanted st.sl (some (t, want)) = some b) : Region.wanted o (yielded ops a.tmps) = b := by
 simp only [wanted] at hw
 have hr := h.slots t
 simp only [Region.wanted, hg, yielded, ht, Option.bind_some]
 have hget : a.tmps.getD t Go.undef = (a.tmps[t]?).getD Go.undef := by simp
 rw [hget] at hr
 revert hw hr
 unfold zfo
 split
 · rename_i x heq
   intro hw hr
   rw [heq] at hr
   injection hw with hw
   subst hw
   simp only [Rep] at hr
   cases hx : a.tmps[t]? with
   | none => rw [hx] at hr; simp [Go.undef] at hr
   | some u =>
     rw [hx] at hr
     simp only [Option.getD_some] at hr
     subst hr
     cases x <;> cases want <;> rfl
 · rename_i heq
   intro hw hr
   rw [heq] at hr
   injection hw with hw
   subst hw
   simp only [Rep, Reps] at hr
   obtain ⟨u, hu, hu2⟩ := hr
   cases hx : a.tmps[t]? with
   | none => cases want <;> rfl
   | some v =>
     rw [hx] at hu
     simp only [Option.getD_some] at hu
     subst hu
     cases want <;> rfl
 · intro hw; cases hw
theorem zj3 (E : Env) : Rep E Abs.undef Go.undef := by simp [Rep, Abs.undef, Go.undef, Reps]
theorem zuk (hcx : CxOk P cx) (hok : ze9 ok n fxv) {st : St} {a : Act} {w : World} {g : Gm} (h : Sts n fxv w Z st g a) {i : Nat} {o : Oper} (ho : ops[i]? = some o) {r : St × List Nat × List Nat} (hf : ains cx (cins P ok ops o) st = some r) {K : Act → World → Prop}
   (hK : ∀ a' w' g', Sts n fxv w' Z r.1 g' a' → Step w w' Z st.hp r.1.hp g g' → K a' w') : wpOpIn (FR ro) 0 P ops Q i K a w := by
 have go : ∀ (b : Bool) (gd : Option (Nat × Bool)), (∀ d, o.dst = some d → ok d = true) → cins P ok ops o = { dst := o.dst, op := ibox (ok.ibAt o.dst) (copF P o.op), guard := gd } → wanted st.sl gd = some b → Region.wanted o (yielded ops a.tmps) = b → wpOpIn (FR ro) 0 P ops Q i K a w := by
   intro b gd hd hc hb hw
   have hds : ∀ d, o.dst = some d → d < a.tmps.size := fun d hdd => by rw [h.size]; exact (hok d (hd d hdd)).1
   have hfxv : ∀ (v : Value) (t : Nat) (u : Value), fxv t = some u → (a.put o.dst v).tmps.getD t Go.undef = u := by
     intro v t u ht
     rw [Act.put_other]
     · exact h.fix t u ht
     · intro hdd
       rw [(hok t (hd t hdd)).2] at ht
       cases ht
   rw [hc] at hf
   unfold ains at hf
   simp only [hb, zai] at hf
   unfold wpOpIn
   simp only [ho, hw]
   cases b with
   | true =>
     simp only [way, zaa, Option.some.injEq] at hf
     obtain ⟨fx, hfx, rfl⟩ := hf
     simp only [if_true]
     exact z5s hcx h.inv (by obtain ⟨_, _, _, hb, _⟩ := h.defers; exact hb) h.slots hfx fun v w' g' s1 s2 => hK _ w' g' ⟨s1.inv, (h.slots.ext s1.ext).put hds s2, by rw [Act.put_size]; exact h.size, by rw [Act.put_def]; exact h.defers.step h.inv s1, hfxv _⟩ s1
   | false =>
     simp only [way, Option.some.injEq] at hf
     subst hf
     simp only [Bool.false_eq_true, if_false]
     exact ⟨fun _ _ => trivial, hK _ w g ⟨h.inv, h.slots.put hds (zj3 _), by rw [Act.put_size]; exact h.size, by rw [Act.put_def]; exact h.defers, hfxv _⟩ (Step.refl h.inv)⟩
 rcases ziv (P := P) (ops := ops) (ok := ok) o with hc | ⟨hd, ⟨hg, hc⟩ | ⟨j, want, t, hg, ht, hc⟩⟩
 · rw [hc] at hf
   simp [ains, wanted, aop, way] at hf
 · exact go true none hd hc rfl (by simp [Region.wanted, hg])
 · have hf' := hf
   rw [hc] at hf'
   unfold ains at hf'
   simp only [zaa] at hf'
   obtain ⟨b, hb, _⟩ := hf'
   exact go b _ hd hc hb (zkq h hg ht hb)
end
end Go.Abs
end
section
set_option linter.unusedSimpArgs false
set_option linter.unusedVariables false
namespace Go.Abs
def zcf (a : Act) (t : Nat) : Value := a.tmps.getD t Go.undef
def RepOs (w : World) (Y : Nat → Prop) (a : Act) : List (Nat × H) → List (Option AV) → List Nat → Prop
 | [], [], F => F = []
 | p :: r, some v :: vs, F => ∃ F1 F2, F = F1 ++ F2 ∧ RepP w Y v (zcf a p.1) F1 ∧ RepOs w Y a r vs F2
 | p :: r, none :: vs, F => RepOs w Y a r vs F
 | _, _, _ => False
theorem RepOs.less {w : World} {Y Y' : Nat → Prop} {a : Act} (hY : ∀ i, Y' i → Y i) : ∀ {ks : List (Nat × H)} {vs : List (Option AV)} {F : List Nat}, RepOs w Y a ks vs F → RepOs w Y' a ks vs F
 | [], [], F, h => h
 | p :: r, some v :: vs, F, h => by
   simp only [RepOs] at h ⊢
   obtain ⟨F1, F2, h1, h2, h3⟩ := h
   exact ⟨F1, F2, h1, h2.less hY, RepOs.less hY h3⟩
 | p :: r, none :: vs, F, h => by
   simp only [RepOs] at h ⊢
   exact RepOs.less hY h
 | [], _ :: _, _, h => h.elim
 | _ :: _, [], _, h => h.elim
theorem zh9 {w : World} {g : Gm} {a : Act} : ∀ (keep : List (Nat × H)) (s : Sl) (hp : Hp) (Z : Nat → Prop) (r : List (Option AV) × Hp), zes keep s hp = some r → Inv (Env.of w Z hp g) → SlotsRep (Env.of w Z hp g) s a →
   ∃ F, PackOk w Z g hp r.2 F ∧ RepOs w (Zp Z F) a keep r.1 F
 | [], s, hp, Z, r, h, hi, hs => by
   simp only [zes, Option.some.injEq] at h
   subst h
   exact ⟨[], PackOk.refl hi, rfl⟩
 | p :: keep, s, hp, Z, r, h, hi, hs => by
   simp only [zes] at h
   cases hk : zcy p.2 (get s p.1) with
   | true =>
     rw [hk] at h
     simp only [way, zaa, Option.some.injEq] at h
     obtain ⟨⟨v, ks, hp1⟩, h1, y, h2, rfl⟩ := h
     obtain ⟨F1, p1, q1, _, _⟩ := zfa _ _ Z _ _ _ _ _ _ _ h1 hi (hs p.1)
     obtain ⟨e1, i1⟩ := p1.others hi
     obtain ⟨F2, p2, q2⟩ := zh9 keep s hp1 (Zp Z F1) y h2 i1 (hs.ext e1)
     have pt := p1.trans p2
     refine ⟨F1 ++ F2, pt, ?_⟩
     simp only [RepOs]
     refine ⟨F1, F2, rfl, q1.less ?_, q2.less ?_⟩
     · rintro i (hz | hm)
       · exact .inl (.inl hz)
       · rcases List.mem_append.1 hm with hm | hm
         · exact .inr hm
         · have ho := p2.out i hm
           rcases X_Zp.1 ho.1 with h | h
           · exact .inl h
           · exact absurd (.inr h) ho.2.1
     · rintro i (hz | hm)
       · exact .inl (.inl hz)
       · rcases List.mem_append.1 hm with hm | hm
         · exact .inl (.inr hm)
         · exact .inr hm
   | false =>
     rw [hk] at h
     simp only [way, zaa, Option.some.injEq] at h
     obtain ⟨y, h2, rfl⟩ := h
     obtain ⟨F, p2, q2⟩ := zh9 keep s hp Z y h2 hi hs
     exact ⟨F, p2, by simp only [RepOs]; exact q2⟩
theorem zgy {w : World} {g : Gm} {a : Act} {Z : Nat → Prop} {G : List Nat} {s : Sl} {hp : Hp} (hi : Inv (Env.of w (Zp Z G) hp g)) (hs : SlotsRep (Env.of w (Zp Z G) hp g) s a) : ∀ (keep : List (Nat × H)) (ovs : List (Option AV)) (F : List Nat) (vs : List AV), zb6 keep ovs s hp = some vs → RepOs w (Zp Z G) a keep ovs F →
   RepPs w (Zp Z G) vs (keep.map fun p => zcf a p.1) F
 | [], [], F, vs, h, hr => by
   simp only [zb6, Option.some.injEq] at h
   subst h
   simp only [RepOs] at hr
   simp only [List.map_nil, RepPs]
   exact ⟨trivial, hr⟩
 | p :: keep, some v :: ovs, F, vs, h, hr => by
   simp only [zb6, zaa, Option.some.injEq] at h
   obtain ⟨l, h1, rfl⟩ := h
   simp only [RepOs] at hr
   obtain ⟨F1, F2, rfl, h2, h3⟩ := hr
   simp only [List.map_cons, RepPs]
   exact ⟨_, _, F1, F2, rfl, rfl, h2, zgy hi hs keep ovs F2 l h1 h3⟩
 | p :: keep, none :: ovs, F, vs, h, hr => by
   simp only [zb6, zaa, Option.some.injEq] at h
   obtain ⟨x, h0, l, h1, rfl⟩ := h
   simp only [RepOs] at hr
   obtain ⟨s1, _, s3⟩ := zvc hi _ _ _ _ _ h0 (hs p.1)
   have hY : ∀ i, Zp Z G i → (Env.of w (Zp Z G) hp g).but x.2 i := fun i hz => ⟨.inl hz, fun k _ b hb hre he => hi.dis k b hb hre (by show Zp Z G (g k); rw [show g k = i from he]; exact hz)⟩
   have hfl : Rep (Env.imm w (Zp Z G)) x.1 (zcf a p.1) :=
     Rep.flat (E := Env.imm w ((Env.of w (Zp Z G) hp g).but x.2)) (E' := Env.imm w (Zp Z G)) rfl (fun i hx => (Env.imm_X _ _ _).2 (hY i ((Env.imm_X _ _ _).1 hx))) _ _ s1 s3
   simp only [List.map_cons, RepPs]
   exact ⟨_, _, [], F, rfl, rfl, RepP.of_flat _ _ s1 hfl, zgy hi hs keep ovs F l h1 hr⟩
 | [], _ :: _, _, _, h, _ => by simp [zb6] at h
 | _ :: _, [], _, _, h, _ => by simp [zb6] at h
theorem zvy {w : World} {g : Gm} {a : Act} {Z : Nat → Prop} {keep : List (Nat × H)} {s : Sl} {hp : Hp} {vs : List AV} (h : zcp keep s hp = some vs) (hi : Inv (Env.of w Z hp g)) (hs : SlotsRep (Env.of w Z hp g) s a) :
   ∃ F, RepPs w (Zp Z F) vs (keep.map fun p => zcf a p.1) F ∧ F.Nodup ∧ (∀ i ∈ F, (Env.of w Z hp g).X i ∧ ¬ Z i) := by
 simp only [zcp, zaa] at h
 obtain ⟨r, h1, h2⟩ := h
 obtain ⟨F, pk, q⟩ := zh9 keep s hp Z r h1 hi hs
 obtain ⟨e1, i1⟩ := pk.others hi
 exact ⟨F, zgy i1 (hs.ext e1) keep r.1 F vs h2 q, pk.nd, fun i hm => ⟨(pk.out i hm).1, (pk.out i hm).2.1⟩⟩
theorem zp7 {w : World} {Z : Nat → Prop} {hp : Hp} {g : Gm} {s : Sl} {a : Act} {F1 F2 : List Nat} (hi : Inv (Env.of w (Zp Z (F1 ++ F2)) hp g)) (hs : SlotsRep (Env.of w (Zp Z (F1 ++ F2)) hp g) s a) (hnd : (F1 ++ F2).Nodup) (hZ : ∀ i ∈ F1 ++ F2, ¬ Z i) {t : Nat} {v : AV} {Y : Nat → Prop} (hr : RepP w Y v (zcf a t) F1)
   (hY : ∀ i, (Env.of w Z hp g).X i ∨ i ∈ F1 ++ F2 → Y i) (k : Nat) : ∃ g', Inv (Env.of w (Zp Z F2) (unpack v k hp).2.2 g') ∧ SlotsRep (Env.of w (Zp Z F2) (unpack v k hp).2.2 g') ((t, (unpack v k hp).1) :: s) a ∧ (∀ i, (Env.of w Z (unpack v k hp).2.2 g').X i → (Env.of w Z hp g).X i ∨ i ∈ F1) ∧ (g'.y = g.y ∧ g'.b = g.b) := by
 have hn := List.nodup_append.1 hnd
 obtain ⟨g', u1, u2, _⟩ := zor (w := w) (Y := Y) v (Zp Z F2) (zcf a t) F1 k hp g hr (by rw [zfx]; exact hi) hn.1 (fun i h1 hz => by
     rcases hz with hz | hz
     · exact hZ i (by simp [h1]) hz
     · exact hn.2.2 i h1 i hz rfl)
   (fun i hx => hY i (by
     rcases hx with hx | hx
     · rcases X_Zp.1 hx with hx | hx
       · exact .inl hx
       · exact .inr (by simp [hx])
     · exact .inr (by simp [hx])))
 refine ⟨g', u1.inv, fun t' => ?_, fun i hx => ?_, u1.ext.yb⟩
 · have hs' := (hs.ext (by have := u1.ext; rw [zfx] at this; exact this)) t'
   show Rep _ (if t' = t then _ else _) _
   by_cases e : t' = t
   · subst e; rw [if_pos rfl]; exact u2
   · rw [if_neg e]; exact hs'
 · rcases u1.less i (X_Zp.2 (.inl hx)) with hx' | hx'
   · rcases X_Zp.1 hx' with h | h
     · exact .inl h
     · rcases hx with hz | ⟨t, b, h1, h2, h3⟩
       · exact .inl (.inl hz)
       · exact absurd (.inr (by show g' t ∈ F2; rw [show g' t = i from h3]; exact h)) (u1.inv.dis t b h1 h2)
   · exact .inr hx'
theorem zl4 {w : World} {Z : Nat → Prop} {a : Act} {Y : Nat → Prop} : ∀ (keep : List (Nat × H)) (vs : List AV) (s : Sl) (hp : Hp) (g : Gm) (F : List Nat), RepPs w Y vs (keep.map fun p => zcf a p.1) F → Inv (Env.of w (Zp Z F) hp g) → SlotsRep (Env.of w (Zp Z F) hp g) s a → F.Nodup → (∀ i ∈ F, ¬ Z i) →
   (∀ i, (Env.of w Z hp g).X i ∨ i ∈ F → Y i) → ∃ g', Inv (Env.of w Z (zar keep vs s hp).hp g') ∧ SlotsRep (Env.of w Z (zar keep vs s hp).hp g') (zar keep vs s hp).sl a ∧ (∀ i, (Env.of w Z (zar keep vs s hp).hp g').X i → (Env.of w Z hp g).X i ∨ i ∈ F) ∧ (g'.y = g.y ∧ g'.b = g.b)
 | [], vs, s, hp, g, F, hr, hi, hs, hn, hZ, hY => by
   cases vs with
   | nil =>
     simp only [List.map_nil, RepPs] at hr
     obtain ⟨_, rfl⟩ := hr
     rw [zep] at hi hs
     simp only [zar]
     exact ⟨g, hi, hs, fun i hx => .inl hx, rfl, rfl⟩
   | cons v r => simp [RepPs] at hr
 | p :: keep, [], s, hp, g, F, hr, _, _, _, _, _ => by simp [RepPs] at hr
 | p :: keep, v :: vs, s, hp, g, F, hr, hi, hs, hn, hZ, hY => by
   simp only [List.map_cons, RepPs] at hr
   obtain ⟨u, us, F1, F2, he, rfl, h1, h2⟩ := hr
   injection he with he1 he2
   subst he1
   subst he2
   obtain ⟨g1, i1, s1, x1, y1⟩ := zp7 hi hs hn hZ h1 hY (keyOf p.1)
   obtain ⟨g2, i2, s2, x2, y2⟩ := zl4 keep vs _ _ g1 F2 h2 i1 s1 (List.nodup_append.1 hn).2.1 (fun i h => hZ i (by simp [h])) (fun i hx => hY i (by
     rcases hx with hx | hx
     · rcases x1 i hx with h | h
       · exact .inl h
       · exact .inr (by simp [h])
     · exact .inr (by simp [hx])))
   refine ⟨g2, i2, s2, fun i hx => ?_, y2.1.trans y1.1, y2.2.trans y1.2⟩
   rcases x2 i hx with h | h
   · rcases x1 i h with h | h
     · exact .inl h
     · exact .inr (by simp [h])
   · exact .inr (by simp [h])
theorem zll {w : World} {Z : Nat → Prop} {a : Act} {Y : Nat → Prop} : ∀ (vs : List AV) (us : List Value) (t : Nat) (s : Sl) (hp : Hp) (g : Gm) (F : List Nat), RepPs w Y vs us F → (∀ j u, us[j]? = some u → zcf a (t + j) = u) → Inv (Env.of w (Zp Z F) hp g) → SlotsRep (Env.of w (Zp Z F) hp g) s a → F.Nodup → (∀ i ∈ F, ¬ Z i) →
   (∀ i, (Env.of w Z hp g).X i ∨ i ∈ F → Y i) → ∃ g', Inv (Env.of w Z (zae t vs s hp).hp g') ∧ SlotsRep (Env.of w Z (zae t vs s hp).hp g') (zae t vs s hp).sl a ∧ (∀ i, (Env.of w Z (zae t vs s hp).hp g').X i → (Env.of w Z hp g).X i ∨ i ∈ F) ∧ (g'.y = g.y ∧ g'.b = g.b)
 | [], us, t, s, hp, g, F, hr, hu, hi, hs, hn, hZ, hY => by
   simp only [RepPs] at hr
   obtain ⟨_, rfl⟩ := hr
   rw [zep] at hi hs
   simp only [zae]
   exact ⟨g, hi, hs, fun i hx => .inl hx, rfl, rfl⟩
 | v :: vs, us, t, s, hp, g, F, hr, hu, hi, hs, hn, hZ, hY => by
   simp only [RepPs] at hr
   obtain ⟨u, us', F1, F2, rfl, rfl, h1, h2⟩ := hr
   have h0 : zcf a t = u := by simpa using hu 0 u rfl
   rw [← h0] at h1
   obtain ⟨g1, i1, s1, x1, y1⟩ := zp7 hi hs hn hZ h1 hY (keyOf t)
   obtain ⟨g2, i2, s2, x2, y2⟩ := zll vs us' (t + 1) _ _ g1 F2 h2 (fun j u' hj => by rw [Nat.add_right_comm, Nat.add_assoc]; exact hu (j + 1) u' (by simpa using hj)) i1 s1 (List.nodup_append.1 hn).2.1 (fun i h => hZ i (by simp [h])) (fun i hx => hY i (by
     rcases hx with hx | hx
     · rcases x1 i hx with h | h
       · exact .inl h
       · exact .inr (by simp [h])
     · exact .inr (by simp [hx])))
   refine ⟨g2, i2, s2, fun i hx => ?_, y2.1.trans y1.1, y2.2.trans y1.2⟩
   rcases x2 i hx with h | h
   · rcases x1 i h with h | h
     · exact .inl h
     · exact .inr (by simp [h])
   · exact .inr (by simp [h])
end Go.Abs
end
section
set_option linter.unusedSimpArgs false
set_option linter.unusedVariables false
namespace Go.Abs
structure Path (w w' : World) (Z : Nat → Prop) (hp hp' : Hp) (g g' : Gm) : Prop where
 less : ∀ i, (Env.of w' Z hp' g').X i → (Env.of w Z hp g).X i ∨ w.heap.size ≤ i
 os : w'.os = w.os
 tape : w'.tape = w.tape
 output : w'.output = w.output
 size : w.heap.size ≤ w'.heap.size
 sizes : ∀ gb n, zay w gb n → zay w' gb n
 blk : ∀ i, i < w.heap.size → ¬ Mine hp g i → w'.heap[i]? = w.heap[i]?
 yb : g'.y = g.y ∧ g'.b = g.b
theorem Step.path {w w' : World} {Z : Nat → Prop} {hp hp' : Hp} {g g' : Gm} (h : Step w w' Z hp hp' g g') : Path w w' Z hp hp' g g' :=
 ⟨h.less, h.os, h.tape, h.output, h.size, h.ext.sizes, h.blk, h.ext.yb⟩
theorem Path.refl {w : World} {Z : Nat → Prop} {hp : Hp} {g : Gm} : Path w w Z hp hp g g :=
 ⟨fun _ h => .inl h, rfl, rfl, rfl, Nat.le_refl _, fun _ _ h => h, fun _ _ _ => rfl, rfl, rfl⟩
theorem Path.trans {w w1 w2 : World} {Z : Nat → Prop} {hp hp1 hp2 : Hp} {g g1 g2 : Gm} (h : Path w w1 Z hp hp1 g g1) (hi : Inv (Env.of w1 Z hp1 g1)) (k : Path w1 w2 Z hp1 hp2 g1 g2) : Path w w2 Z hp hp2 g g2 := by
 refine ⟨fun i hx => ?_, k.os.trans h.os, k.tape.trans h.tape, k.output.trans h.output, Nat.le_trans h.size k.size, fun gb n hs => k.sizes _ _ (h.sizes _ _ hs), fun i hi' hm => ?_, k.yb.1.trans h.yb.1, k.yb.2.trans h.yb.2⟩
 · rcases k.less i hx with hx | hx
   · exact h.less i hx
   · exact .inr (Nat.le_trans h.size hx)
 · rw [k.blk i (Nat.lt_of_lt_of_le hi' h.size) ?_, h.blk i hi' hm]
   rintro ⟨t, b, h1, h2, h3⟩
   rcases h.less i (.inr ⟨t, b, h1, h2, h3⟩) with hx | hx
   · rcases hx with hz | hx
     · exact hi.dis t b h1 h2 (by show Z (g1 t); rw [h3]; exact hz)
     · exact hm hx
   · omega
def zl6 : AExit → Exit
 | .normal => .normal
 | .exit id => .exit id
 | .ret => .ret
def zl9 (P : Program) (cx : Cx) (ok : Ok) (n : Nat) (fxv : Nat → Option Value) (Z : Nat → Prop) : Prop :=
 ∀ (ro : Option Nat) (ops : Array Oper) (st : St) (r : St × List (List Nat × List Nat)) (a : Act) (w : World) (g : Gm) (id : Nat) (Q : Exit → Act → World → Prop), zqz ops (ops.toList.map (cins P ok ops)) = true → adraw cx (ops.toList.map (cins P ok ops)) [] st = some r → zci r.2 (zkj ops (ops.toList.map (cins P ok ops))) = true →
   Sts n fxv w Z st g a → (∀ a' w' g', Sts n fxv w' Z r.1 g' a' → Path w w' Z st.hp r.1.hp g g' → Q .normal a' w') → (Code.region id ops true).wpIn (FR ro) 0 P Q a w
theorem zk2 {n : Nat} {fxv : Nat → Option Value} {w : World} {Z : Nat → Prop} {st : St} {g : Gm} {a a2 : Act} (h : Sts n fxv w Z st g a) {keep : List (Nat × H)} {vs : List AV} (hp : zcp keep st.sl st.hp = some vs) (hk : ∀ p ∈ keep, zcf a2 p.1 = zcf a p.1) :
   ∃ g', Inv (Env.of w Z (zar keep vs [] []).hp g') ∧ SlotsRep (Env.of w Z (zar keep vs [] []).hp g') (zar keep vs [] []).sl a2 ∧ Path w w Z st.hp (zar keep vs [] []).hp g g' := by
 obtain ⟨F, q1, q2, q3⟩ := zvy hp h.inv h.slots
 rw [show keep.map (fun p => zcf a p.1) = keep.map (fun p => zcf a2 p.1) from List.map_congr_left fun p hp => (hk p hp).symm] at q1
 have hX0 : ∀ i, ¬ ∃ k b, look ([] : Hp) k = some b ∧ Real b ∧ g k = i := by
   rintro i ⟨k, b, h, _⟩
   simp [look] at h
 have hi0 : Inv (Env.of w (Zp Z F) [] g) := by
   refine ⟨fun k b hb => by simp [look] at hb, fun k b hb => by simp [look] at hb, fun k k' b b' hb => by simp [look] at hb, fun i hz => ?_⟩
   rcases hz with hz | hz
   · exact h.inv.zlt i hz
   · exact h.inv.lt (q3 i hz).1
 obtain ⟨g', k1, k2, k3, k4⟩ := zl4 keep vs [] [] g F q1 hi0 (fun t => by simp [get, Rep]) q2 (fun i hm => (q3 i hm).2) (fun i hx => by
   rcases hx with (hz | hx) | hx
   · exact .inl hz
   · exact (hX0 i hx).elim
   · exact .inr hx)
 refine ⟨g', k1, k2, ⟨fun i hx => .inl ?_, rfl, rfl, rfl, Nat.le_refl _, fun _ _ h => h, fun _ _ _ => rfl, k4⟩⟩
 rcases k3 i hx with (hz | hx) | hx
 · exact .inl hz
 · exact (hX0 i hx).elim
 · exact (q3 i hx).1
theorem zfd {body : St → Res} {keep : List (Nat × H)} {vs : List AV} {r : AExit × St} (h : aloop body keep vs = some r) : ∃ m, zc7 body keep m vs = some r := by
 unfold aloop at h
 split at h
 · rename_i hex
   injection h with h
   refine ⟨Classical.choose hex, ?_⟩
   rw [← h]
   exact Classical.choose_spec (Classical.choose_spec hex)
 · cases h
end Go.Abs
end
section
set_option linter.unusedSimpArgs false
set_option linter.unusedVariables false
namespace Go.Abs
def Eqk (hp hp' : Hp) (k : Nat) : Prop := look hp' k = look hp k ∧ zad hp' k = zad hp k
theorem Eqk.refl (hp : Hp) (k : Nat) : Eqk hp hp k := ⟨rfl, rfl⟩
theorem Eqk.symm {hp hp' : Hp} {k : Nat} (h : Eqk hp hp' k) : Eqk hp' hp k := ⟨h.1.symm, h.2.symm⟩
theorem Eqk.trans {a b c : Hp} {k : Nat} (h : Eqk a b k) (h' : Eqk b c k) : Eqk a c k := ⟨h'.1.trans h.1, h'.2.trans h.2⟩
structure LocAt (hp hp2 hp' hp2' : Hp) (wr : List Nat) : Prop where
 w : ∀ k ∈ wr, Eqk hp' hp2' k
 n : ∀ k, k ∉ wr → Eqk hp2 hp2' k
 f : ∀ k, k ∉ wr → Eqk hp hp' k
theorem LocAt.refl (hp hp2 : Hp) : LocAt hp hp2 hp hp2 [] := ⟨fun _ h => by simp at h, fun k _ => Eqk.refl _ k, fun k _ => Eqk.refl _ k⟩
theorem LocAt.after {hp hp2 h1 h1' : Hp} {ks1 : List Nat} (h : LocAt hp hp2 h1 h1' ks1) {k : Nat} (he : Eqk hp hp2 k) : Eqk h1 h1' k := by
 by_cases hk : k ∈ ks1
 · exact h.w k hk
 · exact (h.f k hk).symm.trans (he.trans (h.n k hk))
theorem LocAt.trans {hp hp2 h1 h1' h2 h2' : Hp} {ks1 ks2 : List Nat} (h : LocAt hp hp2 h1 h1' ks1) (k : LocAt h1 h1' h2 h2' ks2) : LocAt hp hp2 h2 h2' (ks1 ++ ks2) := by
 refine ⟨fun t ht => ?_, fun t ht => ?_, fun t ht => ?_⟩
 · by_cases h2 : t ∈ ks2
   · exact k.w t h2
   · have h1 : t ∈ ks1 := by simpa [h2] using ht
     exact (k.f t h2).symm.trans ((h.w t h1).trans (k.n t h2))
 · simp only [List.mem_append, not_or] at ht
   exact (h.n t ht.1).trans (k.n t ht.2)
 · simp only [List.mem_append, not_or] at ht
   exact (h.f t ht.1).trans (k.f t ht.2)
theorem LocAt.perm {hp hp2 h1 h1' : Hp} {ks ks' : List Nat} (h : LocAt hp hp2 h1 h1' ks) (e : ∀ k, k ∈ ks ↔ k ∈ ks') : LocAt hp hp2 h1 h1' ks' :=
 ⟨fun k hk => h.w k ((e k).2 hk), fun k hk => h.n k fun x => hk ((e k).1 x), fun k hk => h.f k fun x => hk ((e k).1 x)⟩
theorem zjn (k : Nat) (e : Ent) (hp : Hp) (t : Nat) : look ((k, e) :: hp) t = if t = k then (match e with | .live b => some b | .dead _ => none) else look hp t := by cases e <;> rfl
theorem zgb (k : Nat) (e : Ent) (hp : Hp) (t : Nat) : zad ((k, e) :: hp) t = if t = k then (match e with | .live b => b.ver + 1 | .dead n => n) else zad hp t := by cases e <;> rfl
theorem LocAt.lay (hp hp2 : Hp) (k : Nat) (e : Ent) : LocAt hp hp2 ((k, e) :: hp) ((k, e) :: hp2) [k] := by
 refine ⟨fun t ht => ?_, fun t ht => ?_, fun t ht => ?_⟩
 · simp at ht
   subst ht
   exact ⟨by rw [zjn, zjn, if_pos rfl, if_pos rfl], by rw [zgb, zgb, if_pos rfl, if_pos rfl]⟩
 all_goals
   simp at ht
   exact ⟨by rw [zjn, if_neg ht], by rw [zgb, if_neg ht]⟩
def LocW {α : Type} (f : Hp → Option (α × List Nat × Hp)) : Prop := ∀ hp hp2 a ks hp', f hp = some (a, ks, hp') → (∀ k ∈ ks, Eqk hp hp2 k) → ∃ hp2', f hp2 = some (a, ks, hp2') ∧ LocAt hp hp2 hp' hp2' ks
def LocR {α : Type} (f : Hp → Option (α × List Nat)) : Prop := ∀ hp hp2 r, f hp = some r → (∀ k ∈ r.2, Eqk hp hp2 k) → f hp2 = some r
def LocF (f : Hp → Option Fx) : Prop := ∀ hp hp2 fx, f hp = some fx → (∀ k ∈ fx.rd ++ fx.wr, Eqk hp hp2 k) → ∃ hp2', f hp2 = some { fx with hp := hp2' } ∧ LocAt hp hp2 fx.hp hp2' fx.wr
theorem zbf {hp hp2 : Hp} {k : Nat} (h : Eqk hp hp2 k) (v : Nat) : zb2 hp2 k v = zb2 hp k v := by unfold zb2; rw [h.1]
theorem zdy {f : Hp → AV → Option (AV × List Nat)} (hf : ∀ v, LocR fun hp => f hp v) : ∀ as, LocR fun hp => zbm (f hp) as
 | [] => by
   intro hp hp2 r h _
   simpa only [zbm] using h
 | v :: l => by
   intro hp hp2 r h hk
   simp only [zbm, zaa, Option.some.injEq] at h ⊢
   obtain ⟨x, h1, y, h2, rfl⟩ := h
   exact ⟨x, hf v hp hp2 x h1 fun k hm => hk k (by simp [hm]), y, zdy hf l hp hp2 y h2 fun k hm => hk k (by simp [hm]), rfl⟩
theorem zhn {f : Hp → AV → Option (AV × List Nat)} (hf : ∀ v, LocR fun hp => f hp v) : ∀ es, LocR fun hp => zb3 (f hp) es
 | [] => by
   intro hp hp2 r h _
   simpa only [zb3] using h
 | e :: l => by
   intro hp hp2 r h hk
   simp only [zb3, zaa, Option.some.injEq] at h ⊢
   obtain ⟨x, h1, y, h2, rfl⟩ := h
   exact ⟨x, zdy hf e hp hp2 x h1 fun k hm => hk k (by simp [hm]), y, zhn hf l hp hp2 y h2 fun k hm => hk k (by simp [hm]), rfl⟩
theorem zgn : ∀ n v, LocR fun hp => snap hp n v
 | 0, v => by intro hp hp2 r h; simp [snap] at h
 | n + 1, v => by
   intro hp hp2 r h hk
   cases v with
   | ms key ver off len =>
     simp only [snap, zaa, zac] at h ⊢
     obtain ⟨b, hb, hc, h⟩ := h
     cases hd : b.dp with
     | false =>
       simp only [hd, zbk, Option.some.injEq] at h
       subst h
       exact ⟨b, by rw [zbf (hk key (by simp))]; exact hb, hc, by simp only [hd, zbk]⟩
     | true =>
       simp only [hd, zbu, zaa, Option.some.injEq] at h
       obtain ⟨y, hy, rfl⟩ := h
       refine ⟨b, by rw [zbf (hk key (by simp))]; exact hb, hc, ?_⟩
       simp only [hd, zbu, zaa, Option.some.injEq]
       exact ⟨y, zhn (f := fun hp => snap hp n) (zgn n) _ hp hp2 y hy (fun k hm => hk k (by simp [hm])), rfl⟩
   | pt key ver el off =>
     simp only [snap, zaa, zac, Option.some.injEq] at h ⊢
     obtain ⟨b, hb, hc, cs, hcs, y, hy, rfl⟩ := h
     exact ⟨b, by rw [zbf (hk key (by simp))]; exact hb, hc, cs, hcs, y, zdy (f := fun hp => snap hp n) (zgn n) _ hp hp2 y hy (fun k hm => hk k (by simp [hm])), rfl⟩
   | agg cs =>
     simp only [snap, zaa, Option.some.injEq] at h ⊢
     obtain ⟨y, hy, rfl⟩ := h
     exact ⟨y, zdy (f := fun hp => snap hp n) (zgn n) _ hp hp2 y hy hk, rfl⟩
   | tup cs =>
     simp only [snap, zaa, Option.some.injEq] at h ⊢
     obtain ⟨y, hy, rfl⟩ := h
     exact ⟨y, zdy (f := fun hp => snap hp n) (zgn n) _ hp hp2 y hy hk, rfl⟩
   | fn f cs =>
     simp only [snap, zaa, Option.some.injEq] at h ⊢
     obtain ⟨y, hy, rfl⟩ := h
     exact ⟨y, zdy (f := fun hp => snap hp n) (zgn n) _ hp hp2 y hy hk, rfl⟩
   | _ => simpa only [snap] using h
theorem zdx {f : H → AV → Hp → Option (AV × List Nat × Hp)} (hf : ∀ h v, LocW (f h v)) : ∀ as hs, LocW (zax f hs as)
 | [], hs => by
   intro hp hp2 a ks hp' h _
   have e0 : ∀ hp, zax f hs [] hp = some ([], [], hp) := fun hp => by unfold zax; rfl
   rw [e0] at h ⊢
   simp only [Option.some.injEq, Prod.mk.injEq] at h
   obtain ⟨rfl, rfl, rfl⟩ := h
   exact ⟨hp2, rfl, LocAt.refl _ _⟩
 | v :: l, hs => by
   intro hp hp2 a ks hp' h hk
   simp only [zax, zaa, Option.some.injEq, Prod.mk.injEq] at h ⊢
   obtain ⟨⟨a1, k1, h1⟩, e1, ⟨a2, k2, h2⟩, e2, rfl, rfl, rfl⟩ := h
   obtain ⟨p1, q1, r1⟩ := hf _ v hp hp2 a1 k1 h1 e1 fun k hm => hk k (by simp [hm])
   obtain ⟨p2, q2, r2⟩ := zdx hf l hs.tail h1 p1 a2 k2 h2 e2 fun k hm => r1.after (hk k (by simp [hm]))
   exact ⟨p2, ⟨(a1, k1, p1), q1, (a2, k2, p2), q2, rfl, rfl, rfl⟩, r1.trans r2⟩
theorem zfn {f : H → AV → Hp → Option (AV × List Nat × Hp)} (hf : ∀ h v, LocW (f h v)) : ∀ es, LocW (zaf f es)
 | [] => by
   intro hp hp2 a ks hp' h _
   simp only [zaf, Option.some.injEq, Prod.mk.injEq] at h ⊢
   obtain ⟨rfl, rfl, rfl⟩ := h
   exact ⟨hp2, ⟨rfl, rfl, rfl⟩, LocAt.refl _ _⟩
 | e :: l => by
   intro hp hp2 a ks hp' h hk
   simp only [zaf, zaa, Option.some.injEq, Prod.mk.injEq] at h ⊢
   obtain ⟨⟨a1, k1, h1⟩, e1, ⟨a2, k2, h2⟩, e2, rfl, rfl, rfl⟩ := h
   obtain ⟨p1, q1, r1⟩ := zdx hf e [] hp hp2 a1 k1 h1 e1 fun k hm => hk k (by simp [hm])
   obtain ⟨p2, q2, r2⟩ := zfn hf l h1 p1 a2 k2 h2 e2 fun k hm => r1.after (hk k (by simp [hm]))
   exact ⟨p2, ⟨(a1, k1, p1), q1, (a2, k2, p2), q2, rfl, rfl, rfl⟩, r1.trans r2⟩
theorem zef : ∀ n own h v, LocW (pack own n h v)
 | 0, own, h, v => by intro hp hp2 a ks hp' e; simp [pack] at e
 | n + 1, own, h, v => by
   intro hp hp2 a ks hp' e hk
   cases v with
   | ms key ver off len =>
     simp only [pack, zaa, zac] at e ⊢
     obtain ⟨b, hb, hc, e⟩ := e
     cases hd : b.dp with
     | false =>
       simp only [hd, zbk, Option.some.injEq, Prod.mk.injEq] at e
       obtain ⟨rfl, rfl, rfl⟩ := e
       have hkk := hk key (by simp)
       refine ⟨drop hp2 key, ⟨b, by rw [zbf hkk]; exact hb, hc, by simp only [hd, zbk]⟩, ?_⟩
       unfold drop
       rw [hkk.2]
       exact LocAt.lay _ _ _ _
     | true =>
       cases hcc : (own && decide (off = 0 ∧ len = b.es.length)) with
       | true =>
         simp only [hd, hcc, zbu, zaa, Option.some.injEq, Prod.mk.injEq] at e
         obtain ⟨⟨a1, k1, h1⟩, e1, rfl, rfl, rfl⟩ := e
         have hkk := hk key (by simp)
         have hdr : LocAt hp hp2 (drop hp key) (drop hp2 key) [key] := by
           unfold drop
           rw [hkk.2]
           exact LocAt.lay _ _ _ _
         obtain ⟨p2, q2, r2⟩ := zfn (zef n true) b.es (drop hp key) (drop hp2 key) a1 k1 h1 e1 fun k hm => hdr.after (hk k (by simp [hm]))
         refine ⟨p2, ⟨b, by rw [zbf hkk]; exact hb, hc, ?_⟩, hdr.trans r2⟩
         simp only [hd, hcc, zbu, zaa, Option.some.injEq, Prod.mk.injEq]
         exact ⟨(a1, k1, p2), q2, rfl, rfl, rfl⟩
       | false =>
         simp only [hd, hcc, zbu, zbk, zaa, Option.some.injEq, Prod.mk.injEq] at e
         obtain ⟨⟨a1, k1, h1⟩, e1, rfl, rfl, rfl⟩ := e
         have hkk := hk key (by simp)
         have hdr : LocAt hp hp2 (drop hp key) (drop hp2 key) [key] := by
           unfold drop
           rw [hkk.2]
           exact LocAt.lay _ _ _ _
         obtain ⟨p2, q2, r2⟩ := zfn (zef n false) _ (drop hp key) (drop hp2 key) a1 k1 h1 e1 fun k hm => hdr.after (hk k (by simp [hm]))
         refine ⟨p2, ⟨b, by rw [zbf hkk]; exact hb, hc, ?_⟩, hdr.trans r2⟩
         simp only [hd, hcc, zbu, zbk, zaa, Option.some.injEq, Prod.mk.injEq]
         exact ⟨(a1, k1, p2), q2, rfl, rfl, rfl⟩
   | pt key ver el off =>
     simp only [pack, zaa, zac, Option.some.injEq, Prod.mk.injEq] at e ⊢
     obtain ⟨b, hb, hc, cs, hcs, ⟨a1, k1, h1⟩, e1, rfl, rfl, rfl⟩ := e
     have hkk := hk key (by simp)
     have hd : LocAt hp hp2 (drop hp key) (drop hp2 key) [key] := by
       unfold drop
       rw [hkk.2]
       exact LocAt.lay _ _ _ _
     obtain ⟨p2, q2, r2⟩ := zdx (zef n own) cs h.kids (drop hp key) (drop hp2 key) a1 k1 h1 e1 fun k hm => hd.after (hk k (by simp [hm]))
     exact ⟨p2, ⟨b, by rw [zbf hkk]; exact hb, hc, cs, hcs, (a1, k1, p2), q2, rfl, rfl, rfl⟩, hd.trans r2⟩
   | agg cs =>
     simp only [pack, zaa, Option.some.injEq, Prod.mk.injEq] at e ⊢
     obtain ⟨⟨a1, k1, h1⟩, e1, rfl, rfl, rfl⟩ := e
     obtain ⟨p2, q2, r2⟩ := zdx (zef n own) cs h.kids hp hp2 a1 k1 h1 e1 hk
     exact ⟨p2, ⟨(a1, k1, p2), q2, rfl, rfl, rfl⟩, r2⟩
   | tup cs =>
     simp only [pack, zaa, Option.some.injEq, Prod.mk.injEq] at e ⊢
     obtain ⟨⟨a1, k1, h1⟩, e1, rfl, rfl, rfl⟩ := e
     obtain ⟨p2, q2, r2⟩ := zdx (zef n own) cs h.kids hp hp2 a1 k1 h1 e1 hk
     exact ⟨p2, ⟨(a1, k1, p2), q2, rfl, rfl, rfl⟩, r2⟩
   | fn f cs =>
     simp only [pack, zaa, Option.some.injEq, Prod.mk.injEq] at e ⊢
     obtain ⟨⟨a1, k1, h1⟩, e1, rfl, rfl, rfl⟩ := e
     obtain ⟨p2, q2, r2⟩ := zdx (zef n false) cs [] hp hp2 a1 k1 h1 e1 hk
     exact ⟨p2, ⟨(a1, k1, p2), q2, rfl, rfl, rfl⟩, r2⟩
   | ow _ _ _ _ => simp [pack] at e
   | om _ => simp [pack] at e
   | od _ _ _ _ => simp [pack] at e
   | yl => simp [pack] at e
   | yq => simp [pack] at e
   | mr key ver =>
     simp only [pack, zaa, zac, Option.some.injEq, Prod.mk.injEq] at e ⊢
     obtain ⟨b, hb, hc, rfl, rfl, rfl⟩ := e
     have hkk := hk key (by simp)
     refine ⟨drop hp2 key, ⟨b, by rw [zbf hkk]; exact hb, hc, rfl, rfl, rfl⟩, ?_⟩
     unfold drop
     rw [hkk.2]
     exact LocAt.lay _ _ _ _
   | bx _ => simp [pack] at e
   | sl s z es =>
     cases s <;> cases es <;> simp only [pack, Option.some.injEq, Prod.mk.injEq] at e ⊢ <;> obtain ⟨rfl, rfl, rfl⟩ := e <;> exact ⟨hp2, ⟨rfl, rfl, rfl⟩, LocAt.refl _ _⟩
   | _ =>
     simp only [pack, Option.some.injEq, Prod.mk.injEq] at e ⊢
     obtain ⟨rfl, rfl, rfl⟩ := e
     exact ⟨hp2, ⟨rfl, rfl, rfl⟩, LocAt.refl _ _⟩
theorem zty (v : AV) : LocW (frz v) := by
 intro hp hp2 a ks hp' e hk
 unfold frz at e ⊢
 cases hf : flat v with
 | true =>
   rw [hf] at e
   simp only [way, Option.some.injEq, Prod.mk.injEq] at e ⊢
   obtain ⟨rfl, rfl, rfl⟩ := e
   exact ⟨hp2, ⟨rfl, rfl, rfl⟩, LocAt.refl _ _⟩
 | false =>
   rw [hf] at e
   simp only [way] at e ⊢
   exact zef FUEL false .none v hp hp2 a ks hp' e hk
theorem zha (sz : Nat) (v : AV) : LocR fun hp => content sz hp v := by
 intro hp hp2 r h hk
 cases v <;> simp only [content] at h ⊢ <;> try exact h
 simp only [zaa, zac, Option.some.injEq] at h ⊢
 obtain ⟨b, hb, hc, rfl⟩ := h
 exact ⟨b, by rw [zbf (hk _ (by simp))]; exact hb, hc, rfl⟩
theorem znx (sz : Nat) (v : AV) : LocR fun hp => zfj sz hp v := by
 intro hp hp2 r h hk
 cases v <;> simp only [zfj] at h ⊢ <;> try exact h
 simp only [zaa, zac, Option.some.injEq] at h ⊢
 obtain ⟨b, hb, hc, rfl⟩ := h
 exact ⟨b, by rw [zbf (hk _ (by simp))]; exact hb, hc, rfl⟩
theorem zt4 (k : NK) (v : AV) : LocR fun hp => isNil hp k v := by
 intro hp hp2 r h hk
 cases k <;> cases v <;> simp only [isNil] at h ⊢ <;> try exact h
 simp only [zaa, zac, Option.some.injEq] at h ⊢
 obtain ⟨b, hb, hc, rfl⟩ := h
 exact ⟨b, by rw [zbf (hk _ (by simp))]; exact hb, hc, rfl⟩
theorem zz9 (sz : Nat) (lo hi mx : Option AV) (v : AV) : LocR fun hp => cut sz lo hi mx hp v := by
 intro hp hp2 r h hk
 cases v <;> simp only [cut] at h ⊢ <;> try exact h
 simp only [zaa, zac, Option.some.injEq] at h ⊢
 obtain ⟨h0, b, hb, hc, l, hl, h, hh, hc2, rfl⟩ := h
 exact ⟨h0, b, by rw [zbf (hk _ (by simp))]; exact hb, hc, l, hl, h, hh, hc2, rfl⟩
theorem LocF.quiet (o : Option AV) : LocF fun hp => bnd o fun v => Abs.quiet v hp := by
 intro hp hp2 fx h hk
 simp only [zaa, Abs.quiet, Option.some.injEq] at h ⊢
 obtain ⟨v, rfl, rfl⟩ := h
 exact ⟨hp2, ⟨v, rfl, rfl⟩, LocAt.refl _ _⟩
theorem LocF.quiet1 (v : AV) : LocF fun hp => Abs.quiet v hp := by
 intro hp hp2 fx h hk
 simp only [Abs.quiet, Option.some.injEq] at h ⊢
 subst h
 exact ⟨hp2, rfl, LocAt.refl _ _⟩
theorem LocF.none : LocF fun _ => none := by intro hp hp2 fx h; cases h
theorem LocF.lay {key : Nat} {rd ks : List Nat} {val : Nat → AV} {ent : Nat → Ent} (hp hp2 h1 h1' : Hp) (hl : LocAt hp hp2 h1 h1' ks) (hk : ∀ k ∈ rd ++ (key :: ks), Eqk hp hp2 k) :
   ∃ hp2', ({ val := val (zad h1' key), hp := (key, ent (zad h1' key)) :: h1', rd, wr := key :: ks } : Fx) = { ({ val := val (zad h1 key), hp := (key, ent (zad h1 key)) :: h1, rd, wr := key :: ks } : Fx) with hp := hp2' } ∧ LocAt hp hp2 ((key, ent (zad h1 key)) :: h1) hp2' (key :: ks) := by
 have he := hl.after (hk key (by simp))
 rw [he.2]
 exact ⟨_, rfl, (hl.trans (LocAt.lay h1 h1' key _)).perm fun k => by simp [or_comm]⟩
theorem zlh (ty sz key : Nat) (es : List (List AV)) {hp hp2 h1 h1' : Hp} {ks : List Nat} (hl : LocAt hp hp2 h1 h1' ks) {fx : Fx} (h : newRow ty sz key es h1 ks = some fx) (hk : ∀ k ∈ fx.rd ++ fx.wr, Eqk hp hp2 k) : ∃ hp2', newRow ty sz key es h1' ks = some { fx with hp := hp2' } ∧ LocAt hp hp2 fx.hp hp2' fx.wr := by
 unfold newRow at h ⊢
 simp only [Option.some.injEq] at h
 subst h
 obtain ⟨hp2', e1, e2⟩ := LocF.lay (key := key) (rd := []) (ks := ks) (val := fun n => .ms key n 0 es.length) (ent := fun n => .live { ver := n, row := true, nl := false, ty, sz, es }) hp hp2 h1 h1' hl hk
 exact ⟨hp2', by rw [e1], e2⟩
theorem zpw (ty sz key : Nat) (es : List (List AV)) : LocF fun hp => zhe ty sz key es hp := by
 intro hp hp2 fx h hk
 simp only [zhe, Option.some.injEq] at h ⊢
 subst h
 obtain ⟨hp2', e1, e2⟩ := LocF.lay (key := key) (rd := []) (ks := []) (val := fun n => .ms key n 0 es.length) (ent := fun n => .live { ver := n, row := true, nl := false, ty, sz, es, dp := true }) hp hp2 hp hp2 (LocAt.refl _ _) (fun k hm => hk k (by simpa using hm))
 exact ⟨hp2', by rw [e1], e2⟩
theorem zlk (key : Nat) (cs : List AV) : LocF fun hp => zhs key cs hp := by
 intro hp hp2 fx h hk
 simp only [zhs, Option.some.injEq] at h ⊢
 subst h
 obtain ⟨hp2', e1, e2⟩ := LocF.lay (key := key) (rd := []) (ks := []) (val := fun n => .pt key n 0 0) (ent := fun n => .live { ver := n, row := false, nl := false, ty := 0, sz := cs.length, es := [cs] }) hp hp2 hp hp2 (LocAt.refl _ _) hk
 exact ⟨hp2', by rw [e1], e2⟩
theorem zhy {agg : Bool} {size : Nat} {cs : List AV} {hp hp2 : Hp} {rd : List Nat} {fx : Fx} (h : load1 agg size cs hp rd = some fx) : load1 agg size cs hp2 rd = some { fx with hp := hp2 } ∧ fx.hp = hp ∧ fx.wr = [] ∧ fx.rd = rd := by
 unfold load1 at h ⊢
 simp only [zac] at h ⊢
 obtain ⟨hc, h⟩ := h
 refine ⟨⟨hc, ?_⟩, ?_⟩
 · cases agg <;> simp only [way, zaa, Option.some.injEq] at h ⊢
   · obtain ⟨v, hv, rfl⟩ := h; exact ⟨v, hv, rfl⟩
   · subst h; rfl
 · cases agg <;> simp only [way, zaa, Option.some.injEq] at h
   · obtain ⟨v, hv, rfl⟩ := h; exact ⟨rfl, rfl, rfl⟩
   · subst h; exact ⟨rfl, rfl, rfl⟩
theorem zs9 (agg : Bool) (size : Nat) (v : AV) : LocF fun hp => zlf agg size hp v := by
 intro hp hp2 fx h hk
 cases v <;> simp only [zlf] at h ⊢ <;> try cases h
 · simp only [zaa, zac] at h ⊢
   obtain ⟨b, hb, hmp, cs, hcs, h⟩ := h
   obtain ⟨e1, e2, e3, e4⟩ := zhy (hp2 := hp2) h
   refine ⟨hp2, ⟨b, ?_, hmp, cs, hcs, e1⟩, ?_⟩
   · rw [zbf (hk _ (by rw [e4]; simp))]; exact hb
   · rw [e2, e3]; exact LocAt.refl _ _
 · obtain ⟨e1, e2, e3, e4⟩ := zhy (hp2 := hp2) h
   exact ⟨hp2, e1, by rw [e2, e3]; exact LocAt.refl _ _⟩
end Go.Abs
end
section
set_option linter.unusedSimpArgs false
set_option linter.unusedVariables false
namespace Go.Abs
theorem zme {size key el off : Nat} {v : AV} {b : Blk} {hp hp2 h1 h1' : Hp} {ks : List Nat} (hl : LocAt hp hp2 h1 h1' ks) {fx : Fx} (h : store1 size key el off v b h1 ks = some fx) : ∃ hp2', store1 size key el off v b h1' ks = some { fx with hp := hp2' } ∧ LocAt hp hp2 fx.hp hp2' fx.wr ∧ key ∈ fx.wr ∧ (∀ k ∈ ks, k ∈ fx.wr) := by
 unfold store1 at h ⊢
 simp only [zaa, zac, Option.some.injEq] at h
 obtain ⟨cs, hcs, xs, hxs, hc, rfl⟩ := h
 refine ⟨_, ?_, (hl.trans (LocAt.lay h1 h1' key _)).perm fun k => by simp [or_comm], by simp, fun k hk => by simp [hk]⟩
 simp only [zaa, zac, Option.some.injEq]
 exact ⟨cs, hcs, xs, hxs, hc, rfl⟩
theorem znr {size key el off : Nat} {v : AV} {b : Blk} {hp : Hp} {ks : List Nat} {fx : Fx} (h : store1 size key el off v b hp ks = some fx) : fx.wr = key :: ks := by
 unfold store1 at h
 simp only [zaa, zac, Option.some.injEq] at h
 obtain ⟨cs, hcs, xs, hxs, hc, rfl⟩ := h
 rfl
theorem zrt (size : Nat) (v a : AV) : LocF fun hp => zkn size v hp a := by
 intro hp hp2 fx h hk
 cases a <;> simp only [zkn] at h ⊢ <;> try cases h
 rename_i key ver el off
 simp only [zaa, zac] at h ⊢
 obtain ⟨b, hb, hmp, h⟩ := h
 cases hr : (b.row && !b.dp) with
 | true =>
   rw [hr] at h
   simp only [zbu, zaa, zac] at h
   obtain ⟨⟨x, ks, h1⟩, e1, hn, h2⟩ := h
   have hw := znr h2
   obtain ⟨p, q, l⟩ := zty v hp hp2 x ks h1 e1 fun k hm => hk k (by rw [hw]; simp [hm])
   obtain ⟨hp2', s1, s2, _, _⟩ := zme l h2
   refine ⟨hp2', ⟨b, by rw [zbf (hk key (by rw [hw]; simp))]; exact hb, hmp, ?_⟩, s2⟩
   rw [hr]
   simp only [zbu, zaa, zac]
   exact ⟨(x, ks, p), q, hn, s1⟩
 | false =>
   rw [hr] at h
   simp only [zbk] at h
   have hw := znr h
   obtain ⟨hp2', s1, s2, _, _⟩ := zme (LocAt.refl hp hp2) h
   refine ⟨hp2', ⟨b, by rw [zbf (hk key (by rw [hw]; simp))]; exact hb, hmp, ?_⟩, s2⟩
   rw [hr]
   exact s1
theorem zof (s : Sl) (size : Nat) : ∀ (parts : List (Nat × Opd)) (es : List (List AV)) (ks0 : List Nat) (hp hp2 h1 h1' : Hp) (r : List (List AV) × List Nat × Hp), LocAt hp hp2 h1 h1' ks0 → zf8 s size parts es ks0 h1 = some r → (∀ k ∈ r.2.1, Eqk hp hp2 k) →
   (∀ k ∈ ks0, k ∈ r.2.1) ∧ ∃ h2', zf8 s size parts es ks0 h1' = some (r.1, r.2.1, h2') ∧ LocAt hp hp2 r.2.2 h2' r.2.1
 | [], es, ks0, hp, hp2, h1, h1', r, hl, h, hk => by
   simp only [zf8, Option.some.injEq] at h ⊢
   subst h
   exact ⟨fun _ h => h, h1', rfl, hl⟩
 | p :: parts, es, ks0, hp, hp2, h1, h1', r, hl, h, hk => by
   simp only [zf8, zaa, zac] at h ⊢
   obtain ⟨⟨x, ks, h2⟩, e1, xs, hxs, hc, h⟩ := h
   have key : ∀ k ∈ ks0 ++ ks, k ∈ r.2.1 := by
     have : ∀ (parts : List (Nat × Opd)) (es : List (List AV)) (kk : List Nat) (hh : Hp), zf8 s size parts es kk hh = some r → ∀ k ∈ kk, k ∈ r.2.1 := by
       intro parts
       induction parts with
       | nil =>
         intro es kk hh e k hm
         simp only [zf8, Option.some.injEq] at e
         subst e
         exact hm
       | cons q parts ih =>
         intro es kk hh e k hm
         simp only [zf8, zaa, zac] at e
         obtain ⟨⟨x, ks, h2⟩, _, _, _, _, e⟩ := e
         exact ih _ _ _ e k (by simp [hm])
     exact this _ _ _ _ h
   obtain ⟨p2, q2, l2⟩ := zty _ h1 h1' x ks h2 e1 fun k hm => hl.after (hk k (key k (by simp [hm])))
   obtain ⟨_, h3, e3, l3⟩ := zof s size parts _ (ks0 ++ ks) hp hp2 h2 p2 r (hl.trans l2) h hk
   exact ⟨fun k hm => key k (by simp [hm]), h3, ⟨(x, ks, p2), q2, xs, hxs, hc, e3⟩, l3⟩
theorem zfq {kx ver len : Nat} {b : Blk} {ys : List (List AV)} {rd : List Nat} {hp : Hp} (hp2 : Hp) {fx : Fx} (h : ze4 kx ver len b ys hp rd = some fx) : ∃ hp2', ze4 kx ver len b ys hp2 rd = some { fx with hp := hp2' } ∧ LocAt hp hp2 fx.hp hp2' fx.wr ∧ fx.wr = [kx] ∧ fx.rd = rd := by
 unfold ze4 at h ⊢
 split at h
 · rename_i hc
   simp only [zac, Option.some.injEq] at h
   obtain ⟨h0, rfl⟩ := h
   rw [if_pos hc]
   exact ⟨_, zac.2 ⟨h0, rfl⟩, LocAt.lay _ _ _ _, rfl, rfl⟩
 · rename_i hc
   simp only [zac, Option.some.injEq] at h
   obtain ⟨h0, rfl⟩ := h
   rw [if_neg hc]
   exact ⟨_, zac.2 ⟨h0, rfl⟩, LocAt.lay _ _ _ _, rfl, rfl⟩
theorem zif (ty sz key : Nat) (ys : List (List AV)) (rd : List Nat) (x : AV) : LocF fun hp => appRow ty sz key ys hp rd x := by
 intro hp hp2 fx h hk
 cases x <;> simp only [appRow] at h ⊢ <;> try cases h
 case sl k sz' es =>
   cases hc : (ys.isEmpty && (decide (k = .open_) || !es.isEmpty)) with
   | true =>
     rw [hc] at h
     simp only [way, Option.some.injEq] at h ⊢
     subst h
     exact ⟨hp2, rfl, LocAt.refl _ _⟩
   | false =>
     rw [hc] at h
     simp only [way, zac, Option.some.injEq] at h ⊢
     obtain ⟨h0, rfl⟩ := h
     obtain ⟨hp2', e1, e2⟩ := LocF.lay (key := key) (rd := rd) (ks := []) (val := fun n => .ms key n 0 (es.length + ys.length)) (ent := fun n => .live { ver := n, row := true, nl := decide (k = .nil) && ys.isEmpty, ty, sz, es := es ++ ys }) hp hp2 hp hp2 (LocAt.refl _ _) hk
     exact ⟨hp2', ⟨h0, e1⟩, e2⟩
 case ms kx ver off len =>
   simp only [zaa, zac] at h ⊢
   obtain ⟨b, hb, hc, h⟩ := h
   obtain ⟨hp2', e1, e2, e3, e4⟩ := zfq hp2 h
   exact ⟨hp2', ⟨b, by rw [zbf (hk kx (by rw [e3]; simp))]; exact hb, hc, e1⟩, e2⟩
theorem zpo (ty sz : Nat) (ys : List (List AV)) (rd : List Nat) (x : AV) : LocF fun hp => zfk ty sz ys hp rd x := by
 intro hp hp2 fx h hk
 cases x <;> simp only [zfk] at h ⊢ <;> try cases h
 case ms kx ver off len =>
   simp only [zaa, zac] at h ⊢
   obtain ⟨b, hb, hc, h⟩ := h
   obtain ⟨hp2', e1, e2, e3, e4⟩ := zfq hp2 h
   exact ⟨hp2', ⟨b, by rw [zbf (hk kx (by rw [e3]; simp))]; exact hb, hc, e1⟩, e2⟩
theorem zsn {ty sz : Nat} {ys : List (List AV)} {rd : List Nat} {x : AV} {hp : Hp} {fx : Fx} (h : zfk ty sz ys hp rd x = some fx) : fx.rd = rd := by
 cases x <;> simp only [zfk] at h <;> try cases h
 case ms kx ver off len =>
   simp only [zaa, zac] at h
   obtain ⟨b, hb, hc, h⟩ := h
   exact (zfq hp h).choose_spec.2.2.2
theorem zua {ty sz key : Nat} {ys : List (List AV)} {rd : List Nat} {x : AV} {hp : Hp} {fx : Fx} (h : appRow ty sz key ys hp rd x = some fx) : fx.rd = rd := by
 cases x <;> simp only [appRow] at h <;> try cases h
 case sl k sz' es =>
   cases hc : (ys.isEmpty && (decide (k = .open_) || !es.isEmpty)) with
   | true => rw [hc] at h; simp only [way, Option.some.injEq] at h; subst h; rfl
   | false => rw [hc] at h; simp only [way, zac, Option.some.injEq] at h; obtain ⟨_, rfl⟩ := h; rfl
 case ms kx ver off len =>
   simp only [zaa, zac] at h
   obtain ⟨b, hb, hc, h⟩ := h
   exact (zfq hp h).choose_spec.2.2.2
theorem zu9 (sz : Nat) (ys : List (List AV)) (ks : List Nat) (x : AV) : LocF fun hp => copyV sz ys ks hp x := by
 intro hp hp2 fx h hk
 cases x <;> simp only [copyV] at h ⊢ <;> try cases h
 simp only [zaa, zac, Option.some.injEq] at h ⊢
 obtain ⟨b, hb, hc, rfl⟩ := h
 exact ⟨_, ⟨b, by rw [zbf (hk _ (by simp))]; exact hb, hc, rfl⟩, LocAt.lay _ _ _ _⟩
theorem zwe {sz : Nat} {ys : List (List AV)} {ks : List Nat} {x : AV} {hp : Hp} {fx : Fx} (h : copyV sz ys ks hp x = some fx) : fx.rd = ks := by
 cases x <;> simp only [copyV] at h <;> try cases h
 simp only [zaa, zac, Option.some.injEq] at h
 obtain ⟨b, hb, hc, rfl⟩ := h
 rfl
theorem zrf (zero : List AV) (x : AV) : LocF fun hp => zk6 zero hp x := by
 intro hp hp2 fx h hk
 cases x <;> simp only [zk6] at h ⊢ <;> try cases h
 simp only [zaa, zac, Option.some.injEq] at h ⊢
 obtain ⟨b, hb, hc, rfl⟩ := h
 exact ⟨_, ⟨b, by rw [zbf (hk _ (by simp))]; exact hb, hc, rfl⟩, LocAt.lay _ _ _ _⟩
theorem ztn (c : CK) (x : AV) : LocF fun hp => zjk hp c x := by
 intro hp hp2 fx h hk
 have b2s : ∀ (v : AV), (bnd (content 1 hp v) fun x => bnd (u8s x.1) fun l => some ({ val := .str l, hp, rd := x.2, wr := [] } : Fx)) = some fx → ∃ hp2', (bnd (content 1 hp2 v) fun x => bnd (u8s x.1) fun l => some ({ val := .str l, hp := hp2, rd := x.2, wr := [] } : Fx)) = some { fx with hp := hp2' } ∧ LocAt hp hp2 fx.hp hp2' fx.wr := by
   intro v h
   simp only [zaa, Option.some.injEq] at h ⊢
   obtain ⟨r, hr, l, hl, rfl⟩ := h
   exact ⟨hp2, ⟨r, zha 1 v hp hp2 r hr fun k hm => hk k (by simp [hm]), l, hl, rfl⟩, LocAt.refl _ _⟩
 cases c <;> cases x <;> simp only [zjk] at h ⊢ <;> first
   | exact b2s _ h
   | (cases h; done)
   | (simp only [quiet, Option.some.injEq] at h ⊢; subst h; exact ⟨hp2, rfl, LocAt.refl _ _⟩)
theorem zwr (agg : Bool) (off size : Nat) (x : AV) : LocF fun hp => fldV agg off size hp x := by
 intro hp hp2 fx h hk
 cases x <;> simp only [fldV] at h ⊢ <;> try cases h
 obtain ⟨e1, e2, e3, e4⟩ := zhy (hp2 := hp2) h
 exact ⟨hp2, e1, by rw [e2, e3]; exact LocAt.refl _ _⟩
theorem zr9 (sz : Nat) (x y : AV) : LocF fun hp => ziz sz hp x y := by
 intro hp hp2 fx h hk
 cases x <;> cases y <;> simp only [ziz] at h ⊢ <;> try cases h
 · simp only [zac, zaa, quiet, Option.some.injEq] at h ⊢
   obtain ⟨h0, cs, hcs, rfl⟩ := h
   exact ⟨hp2, ⟨h0, cs, hcs, rfl⟩, LocAt.refl _ _⟩
 · simp only [zaa, zac, Option.some.injEq] at h ⊢
   obtain ⟨b, hb, hc, rfl⟩ := h
   exact ⟨hp2, ⟨b, by rw [zbf (hk _ (by simp))]; exact hb, hc, rfl⟩, LocAt.refl _ _⟩
theorem zgi : ∀ (n k t : Nat), t ∈ span k n ↔ k ≤ t ∧ t < k + n
 | 0, k, t => by simp only [span, List.not_mem_nil, false_iff]; omega
 | n + 1, k, t => by
   simp only [span, List.mem_cons, zgi n (k + 1) t]
   omega
mutual
theorem zmg : ∀ (v : AV) (k : Nat) (hp hp2 : Hp), sh v = true → k ≤ (unpack v k hp).2.1 ∧ ((∀ t, k ≤ t → t < (unpack v k hp).2.1 → Eqk hp hp2 t) → (unpack v k hp2).1 = (unpack v k hp).1 ∧ (unpack v k hp2).2.1 = (unpack v k hp).2.1 ∧ LocAt hp hp2 (unpack v k hp).2.2 (unpack v k hp2).2.2 (span k ((unpack v k hp).2.1 - k)))
 | .ow ty sz nl es, k, hp, hp2, hsh => by
   simp only [unpack]
   refine ⟨by omega, fun he => ?_⟩
   have hk := he k (Nat.le_refl _) (by omega)
   rw [hk.2]
   refine ⟨rfl, trivial, ?_⟩
   rw [show k + 1 - k = 1 by omega]
   exact LocAt.lay _ _ _ _
 | .om es, k, hp, hp2, hsh => by
   simp only [unpack]
   refine ⟨by omega, fun he => ?_⟩
   have hk := he k (Nat.le_refl _) (by omega)
   rw [hk.2]
   refine ⟨rfl, trivial, ?_⟩
   rw [show k + 1 - k = 1 by omega]
   exact LocAt.lay _ _ _ _
 | .mr .., k, hp, hp2, hsh => by simp only [unpack]; exact ⟨Nat.le_refl _, fun _ => ⟨trivial, trivial, by rw [Nat.sub_self]; exact LocAt.refl _ _⟩⟩
 | .yl, k, hp, hp2, hsh => by simp only [unpack]; exact ⟨Nat.le_refl _, fun _ => ⟨trivial, trivial, by rw [Nat.sub_self]; exact LocAt.refl _ _⟩⟩
 | .yq, k, hp, hp2, hsh => by simp only [unpack]; exact ⟨Nat.le_refl _, fun _ => ⟨trivial, trivial, by rw [Nat.sub_self]; exact LocAt.refl _ _⟩⟩
 | .bx cs, k, hp, hp2, hsh => by
   obtain ⟨u1, u2⟩ := zdz cs (k + 1) hp hp2 (by simpa only [sh] using hsh)
   simp only [unpack]
   refine ⟨by omega, fun he => ?_⟩
   obtain ⟨e1, e2, l⟩ := u2 fun t h1 h2 => he t (by omega) h2
   have hk := l.after (he k (Nat.le_refl _) (by omega))
   rw [e1, e2, hk.2]
   refine ⟨rfl, rfl, (l.trans (LocAt.lay _ _ k _)).perm fun t => ?_⟩
   simp only [List.mem_append, zgi, List.mem_singleton]
   omega
 | .agg cs, k, hp, hp2, hsh => by
   obtain ⟨u1, u2⟩ := zdz cs k hp hp2 (by simpa only [sh] using hsh)
   simp only [unpack]
   refine ⟨u1, fun he => ?_⟩
   obtain ⟨e1, e2, l⟩ := u2 he
   rw [e1]
   exact ⟨rfl, e2, l⟩
 | .tup cs, k, hp, hp2, hsh => by
   obtain ⟨u1, u2⟩ := zdz cs k hp hp2 (by simpa only [sh] using hsh)
   simp only [unpack]
   refine ⟨u1, fun he => ?_⟩
   obtain ⟨e1, e2, l⟩ := u2 he
   rw [e1]
   exact ⟨rfl, e2, l⟩
 | .i .., k, hp, hp2, hsh => by simp only [unpack]; exact ⟨Nat.le_refl _, fun _ => ⟨trivial, trivial, by rw [Nat.sub_self]; exact LocAt.refl _ _⟩⟩
 | .b _, k, hp, hp2, hsh => by simp only [unpack]; exact ⟨Nat.le_refl _, fun _ => ⟨trivial, trivial, by rw [Nat.sub_self]; exact LocAt.refl _ _⟩⟩
 | .str _, k, hp, hp2, hsh => by simp only [unpack]; exact ⟨Nat.le_refl _, fun _ => ⟨trivial, trivial, by rw [Nat.sub_self]; exact LocAt.refl _ _⟩⟩
 | .sl .., k, hp, hp2, hsh => by simp only [unpack]; exact ⟨Nat.le_refl _, fun _ => ⟨trivial, trivial, by rw [Nat.sub_self]; exact LocAt.refl _ _⟩⟩
 | .ms .., k, hp, hp2, hsh => by simp only [unpack]; exact ⟨Nat.le_refl _, fun _ => ⟨trivial, trivial, by rw [Nat.sub_self]; exact LocAt.refl _ _⟩⟩
 | .pt .., k, hp, hp2, hsh => by simp only [unpack]; exact ⟨Nat.le_refl _, fun _ => ⟨trivial, trivial, by rw [Nat.sub_self]; exact LocAt.refl _ _⟩⟩
 | .ip _, k, hp, hp2, hsh => by simp only [unpack]; exact ⟨Nat.le_refl _, fun _ => ⟨trivial, trivial, by rw [Nat.sub_self]; exact LocAt.refl _ _⟩⟩
 | .fn .., k, hp, hp2, hsh => by simp only [unpack]; exact ⟨Nat.le_refl _, fun _ => ⟨trivial, trivial, by rw [Nat.sub_self]; exact LocAt.refl _ _⟩⟩
 | .nilp, k, hp, hp2, hsh => by simp only [unpack]; exact ⟨Nat.le_refl _, fun _ => ⟨trivial, trivial, by rw [Nat.sub_self]; exact LocAt.refl _ _⟩⟩
 | .nilf, k, hp, hp2, hsh => by simp only [unpack]; exact ⟨Nat.le_refl _, fun _ => ⟨trivial, trivial, by rw [Nat.sub_self]; exact LocAt.refl _ _⟩⟩
 | .junk, k, hp, hp2, hsh => by simp only [unpack]; exact ⟨Nat.le_refl _, fun _ => ⟨trivial, trivial, by rw [Nat.sub_self]; exact LocAt.refl _ _⟩⟩
 | .od .., k, hp, hp2, hsh => by simp [sh] at hsh
theorem zdz : ∀ (vs : List AV) (k : Nat) (hp hp2 : Hp), shs vs = true → k ≤ (unpacks vs k hp).2.1 ∧ ((∀ t, k ≤ t → t < (unpacks vs k hp).2.1 → Eqk hp hp2 t) → (unpacks vs k hp2).1 = (unpacks vs k hp).1 ∧ (unpacks vs k hp2).2.1 = (unpacks vs k hp).2.1 ∧ LocAt hp hp2 (unpacks vs k hp).2.2 (unpacks vs k hp2).2.2 (span k ((unpacks vs k hp).2.1 - k)))
 | [], k, hp, hp2, _ => by simp only [unpacks]; exact ⟨Nat.le_refl _, fun _ => ⟨trivial, trivial, by rw [Nat.sub_self]; exact LocAt.refl _ _⟩⟩
 | v :: vs, k, hp, hp2, hsh => by
   simp only [shs, Bool.and_eq_true] at hsh
   obtain ⟨u1, u2⟩ := zmg v k hp hp2 hsh.1
   simp only [unpacks]
   have p1 := (zdz vs (unpack v k hp).2.1 (unpack v k hp).2.2 (unpack v k hp).2.2 hsh.2).1
   refine ⟨by omega, fun he => ?_⟩
   obtain ⟨e1, e2, l⟩ := u2 fun t h1 h2 => he t h1 (by omega)
   obtain ⟨_, p2⟩ := zdz vs (unpack v k hp).2.1 (unpack v k hp).2.2 (unpack v k hp2).2.2 hsh.2
   obtain ⟨f1, f2, m⟩ := p2 fun t h1 h2 => l.after (he t (by omega) h2)
   rw [e1, e2, f1]
   refine ⟨rfl, f2, (l.trans m).perm fun t => ?_⟩
   simp only [List.mem_append, zgi]
   omega
end
end Go.Abs
end
section
set_option linter.unusedSimpArgs false
set_option linter.unusedVariables false
namespace Go.Abs
theorem zt0 {v : AV} {hp hp2 : Hp} {p : Place} (h : place hp v = some p) (hk : Eqk hp hp2 p.key) : place hp2 v = some p := by
 unfold place at h ⊢
 split at h
 · simp only [zaa, zac, Option.some.injEq] at h ⊢
   obtain ⟨b, hb, hc, rfl⟩ := h
   exact ⟨b, by rw [zbf hk]; exact hb, hc, rfl⟩
 · simp only [zaa, zac, Option.some.injEq] at h ⊢
   obtain ⟨b, hb, hc, rfl⟩ := h
   exact ⟨b, by rw [zbf hk]; exact hb, hc, rfl⟩
 · cases h
theorem ztq {v : AV} {pm : PM} {hp hp2 : Hp} {h : Handed} (e : hand1 v hp pm = some h) (hk : ∀ k ∈ h.rd ++ (h.wr ++ h.io.map (·.key)), Eqk hp hp2 k) : ∃ hp2', hand1 v hp2 pm = some { h with hp := hp2' } ∧ LocAt hp hp2 h.hp hp2' h.wr := by
 unfold hand1 at e ⊢
 split at e
 · simp only [zaa, Option.some.injEq] at e ⊢
   obtain ⟨x, h1, rfl⟩ := e
   exact ⟨hp2, ⟨x, zgn FUEL v hp hp2 x h1 fun k hm => hk k (by simp [hm]), rfl⟩, LocAt.refl _ _⟩
 · simp only [zaa, Option.some.injEq] at e ⊢
   obtain ⟨⟨x, ks, h1⟩, e1, rfl⟩ := e
   obtain ⟨p, q, l⟩ := zef FUEL true _ v hp hp2 x ks h1 e1 fun k hm => hk k (by simp [hm])
   exact ⟨p, ⟨(x, ks, p), q, rfl⟩, l⟩
 · simp only [zaa, Option.some.injEq] at e ⊢
   obtain ⟨pl, hpl, ⟨x, ks, h1⟩, e1, rfl⟩ := e
   obtain ⟨p, q, l⟩ := zef FUEL true _ v hp hp2 x ks h1 e1 fun k hm => hk k (by simp [hm])
   exact ⟨p, ⟨pl, zt0 hpl (hk pl.key (by simp)), (x, ks, p), q, rfl⟩, l⟩
theorem zq7 : ∀ (as : List AV) (pms : List PM) (hp hp2 : Hp) (h : Handed), hand pms as hp = some h → (∀ k ∈ h.rd ++ (h.wr ++ h.io.map (·.key)), Eqk hp hp2 k) → ∃ hp2', hand pms as hp2 = some { h with hp := hp2' } ∧ LocAt hp hp2 h.hp hp2' h.wr
 | [], pms, hp, hp2, h, e, hk => by
   have e0 : ∀ hp, hand pms [] hp = some { args := [], rd := [], io := [], wr := [], hp } := fun hp => by unfold hand; rfl
   rw [e0] at e ⊢
   injection e with e
   subst e
   exact ⟨hp2, rfl, LocAt.refl _ _⟩
 | v :: r, pms, hp, hp2, h, e, hk => by
   simp only [hand, zaa, Option.some.injEq] at e ⊢
   obtain ⟨x, h1, y, h2, rfl⟩ := e
   obtain ⟨p1, q1, l1⟩ := ztq h1 (hp2 := hp2) fun k hm => hk k (by
     simp only [List.mem_append, List.map_append] at hm ⊢
     rcases hm with hm | hm | hm
     · exact .inl (.inl hm)
     · exact .inr (.inl (.inl hm))
     · exact .inr (.inr (.inl hm)))
   obtain ⟨p2, q2, l2⟩ := zq7 r pms.tail x.hp p1 y h2 fun k hm => l1.after (hk k (by
     simp only [List.mem_append, List.map_append] at hm ⊢
     rcases hm with hm | hm | hm
     · exact .inl (.inr hm)
     · exact .inr (.inl (.inr hm))
     · exact .inr (.inr (.inr hm))))
   exact ⟨p2, ⟨_, q1, _, q2, rfl⟩, l1.trans l2⟩
theorem zt8 {p : Place} {k : Nat} {v : AV} {hp hp2 : Hp} {r : Nat × Hp} (e : back1 p k hp v = some r) : k ≤ r.1 ∧ ((∀ t, t = p.key ∨ (k ≤ t ∧ t < r.1) → Eqk hp hp2 t) → ∃ hp2', back1 p k hp2 v = some (r.1, hp2') ∧ LocAt hp hp2 r.2 hp2' (p.key :: span k (r.1 - k))) := by
 cases v <;> simp only [back1] at e ⊢ <;> try cases e
 case ow ty sz nl es =>
   simp only [zac, Option.some.injEq] at e ⊢
   obtain ⟨⟨h1, h2, h3, h4⟩, rfl⟩ := e
   refine ⟨Nat.le_refl _, fun hk => ⟨_, ⟨⟨h1, h2, h3, by rw [(hk p.key (.inl rfl)).2]; exact h4⟩, rfl⟩, ?_⟩⟩
   simp only [Nat.sub_self, span]
   exact LocAt.lay _ _ _ _
 case bx cs =>
   simp only [zac, Option.some.injEq] at e ⊢
   obtain ⟨⟨h0, h1, h2⟩, rfl⟩ := e
   obtain ⟨u1, u2⟩ := zdz cs k hp hp2 h0
   refine ⟨u1, fun hk => ?_⟩
   obtain ⟨e1, e2, l⟩ := u2 fun t h1 h2 => hk t (.inr ⟨h1, h2⟩)
   refine ⟨_, ⟨⟨h0, by rw [(l.after (hk p.key (.inl rfl))).2]; exact h1, h2⟩, by rw [e2]⟩, ?_⟩
   rw [e1]
   refine (l.trans (LocAt.lay _ _ p.key _)).perm fun t => ?_
   simp only [List.mem_append, List.mem_cons, List.not_mem_nil, or_false]
   exact Or.comm
theorem zmr : ∀ (io : List Place) (os : List AV) (k : Nat) (hp hp2 : Hp) (r : Nat × Hp), back io os k hp = some r → k ≤ r.1 ∧ ((∀ t, t ∈ io.map (·.key) ∨ (k ≤ t ∧ t < r.1) → Eqk hp hp2 t) → ∃ hp2', back io os k hp2 = some (r.1, hp2') ∧ LocAt hp hp2 r.2 hp2' (io.map (·.key) ++ span k (r.1 - k)))
 | [], [], k, hp, hp2, r, e => by
   simp only [back, Option.some.injEq] at e ⊢
   subst e
   exact ⟨Nat.le_refl _, fun _ => ⟨hp2, rfl, by simp only [Nat.sub_self, span, List.map_nil, List.append_nil]; exact LocAt.refl _ _⟩⟩
 | p :: io, v :: os, k, hp, hp2, r, e => by
   simp only [back, zaa] at e ⊢
   obtain ⟨x, h1, h2⟩ := e
   obtain ⟨k1, b1⟩ := zt8 (hp2 := hp2) h1
   have k2 := (zmr io os x.1 x.2 x.2 r h2).1
   refine ⟨by omega, fun hk => ?_⟩
   obtain ⟨p1, q1, l1⟩ := b1 fun t ht => hk t (by
     rcases ht with ht | ht
     · exact .inl (by simp [ht])
     · exact .inr ⟨ht.1, by omega⟩)
   obtain ⟨p2, q2, l2⟩ := (zmr io os x.1 x.2 p1 r h2).2 fun t ht => l1.after (hk t (by
     rcases ht with ht | ht
     · exact .inl (by simp at ht; simp [ht])
     · exact .inr ⟨by omega, ht.2⟩))
   refine ⟨p2, ⟨_, q1, q2⟩, (l1.trans l2).perm fun t => ?_⟩
   simp only [List.cons_append, List.mem_cons, List.mem_append, zgi, List.map_cons]
   constructor
   · rintro (h | h | h | h)
     · exact .inl h
     · exact .inr (.inr (by omega))
     · exact .inr (.inl h)
     · exact .inr (.inr (by omega))
   · rintro (h | h | h)
     · exact .inl h
     · exact .inr (.inr (.inl h))
     · by_cases hx : t < x.1
       · exact .inr (.inl (by omega))
       · exact .inr (.inr (.inr (by omega)))
 | [], _ :: _, _, _, _, _, e => by simp [back] at e
 | _ :: _, [], _, _, _, _, e => by simp [back] at e
theorem zo0 : ∀ (ks : List Nat) (a b : Hp), (∀ k ∈ ks, Eqk a b k) → LocAt a b (drops ks a) (drops ks b) ks
 | [], a, b, _ => LocAt.refl _ _
 | k :: r, a, b, h => by
   have hd : LocAt a b (drop a k) (drop b k) [k] := by
     unfold drop
     rw [(h k (by simp)).2]
     exact LocAt.lay _ _ _ _
   exact hd.trans (zo0 r (drop a k) (drop b k) fun t ht => hd.after (h t (by simp [ht])))
theorem zmj (cx : Cx) (f : Nat) (args : List AV) (dst : Nat) : LocF fun hp => zed cx f args dst hp := by
 intro hp hp2 fx e hk
 simp only [zed, zaa, zac, Option.some.injEq] at e ⊢
 obtain ⟨h, hh, hap, r, hc, hsh, x, hb, rfl⟩ := e
 have hmem : ∀ t, t ∈ (took h dst r.1 x.1 x.2).rd ++ (took h dst r.1 x.1 x.2).wr ↔ t ∈ h.rd ∨ t ∈ h.wr ∨ t ∈ h.io.map (·.key) ∨ t ∈ (if plain r.1 && h.io.isEmpty then [] else h.rd) ∨ t ∈ span (keyOf dst + 32) (x.1 - (keyOf dst + 32)) ∨ t ∈ span (keyOf dst) ((unpack r.1 (keyOf dst) x.2).2.1 - keyOf dst) := by
   intro t
   simp only [took, List.mem_append]
 obtain ⟨p1, q1, l1⟩ := zq7 args _ hp hp2 h hh fun k hm => hk k ((hmem k).2 (by
   simp only [List.mem_append] at hm
   rcases hm with hm | hm | hm
   · exact .inl hm
   · exact .inr (.inl hm)
   · exact .inr (.inr (.inl hm))))
 have l2 : LocAt h.hp p1 (if plain r.1 && h.io.isEmpty then h.hp else drops h.rd h.hp) (if plain r.1 && h.io.isEmpty then p1 else drops h.rd p1) (if plain r.1 && h.io.isEmpty then [] else h.rd) := by
   split
   · exact LocAt.refl _ _
   · exact zo0 _ _ _ fun k hm => l1.after (hk k ((hmem k).2 (.inl hm)))
 have l12 := l1.trans l2
 obtain ⟨k3, b3⟩ := zmr h.io r.2 (keyOf dst + 32) _ (if plain r.1 && h.io.isEmpty then p1 else drops h.rd p1) x hb
 obtain ⟨p3, q3, l3⟩ := b3 fun t ht => l12.after (hk t ((hmem t).2 (by
   rcases ht with ht | ht
   · exact .inr (.inr (.inl ht))
   · exact .inr (.inr (.inr (.inr (.inl ((zgi _ _ _).2 (by omega)))))))))
 have l123 := l12.trans l3
 obtain ⟨k4, u4⟩ := zmg r.1 (keyOf dst) x.2 p3 hsh
 obtain ⟨e1, e2, l4⟩ := u4 fun t h1 h2 => l123.after (hk t ((hmem t).2 (.inr (.inr (.inr (.inr (.inr ((zgi _ _ _).2 (by omega)))))))))
 refine ⟨(unpack r.1 (keyOf dst) p3).2.2, ⟨{ h with hp := p1 }, q1, hap, r, hc, hsh, (x.1, p3), q3, ?_⟩, ?_⟩
 · simp only [took, e1, e2]
 · refine (l123.trans l4).perm fun t => ?_
   simp only [took, List.mem_append]
   constructor
   · rintro (((h | h) | h | h) | h)
     · exact .inl h
     · exact .inr (.inr (.inl h))
     · exact .inr (.inl h)
     · exact .inr (.inr (.inr (.inl h)))
     · exact .inr (.inr (.inr (.inr h)))
   · rintro (h | h | h | h | h)
     · exact .inl (.inl (.inl h))
     · exact .inl (.inr (.inl h))
     · exact .inl (.inl (.inr h))
     · exact .inl (.inr (.inr h))
     · exact .inr h
theorem zrl (key : Nat) : LocF fun hp => zj7 key hp := by
 intro hp hp2 fx h hk
 simp only [zj7, Option.some.injEq] at h ⊢
 subst h
 have hkk := hk key (by simp)
 refine ⟨_, ?_, LocAt.lay hp hp2 key _⟩
 rw [hkk.2]
theorem zs0 (kk : MK) (z : AV) (ok : Bool) (k x : AV) : LocF fun hp => zpd kk z ok k hp x := by
 intro hp hp2 fx h hk
 cases x <;> simp only [zpd] at h ⊢ <;> try cases h
 simp only [zaa, zac, Option.some.injEq] at h ⊢
 obtain ⟨b, hb, hc, r, hr, rfl⟩ := h
 exact ⟨hp2, ⟨b, by rw [zbf (hk _ (by simp))]; exact hb, hc, r, hr, rfl⟩, LocAt.refl _ _⟩
theorem zsw (kk : MK) (k v x : AV) : LocF fun hp => zpb kk k v hp x := by
 intro hp hp2 fx h hk
 cases x <;> simp only [zpb] at h ⊢ <;> try cases h
 simp only [zaa, zac, Option.some.injEq] at h ⊢
 obtain ⟨hf, b, hb, hc, r, hr, rfl⟩ := h
 exact ⟨_, ⟨hf, b, by rw [zbf (hk _ (by simp))]; exact hb, hc, r, hr, rfl⟩, LocAt.lay hp hp2 _ _⟩
theorem z0b (cx : Cx) (op : AOp) (hcalm : calm op = true) (dst : Nat) (s : Sl) : LocF fun hp => aop cx op dst s hp := by
 cases op
 case calld f args => simp [calm] at hcalm
 case inl f args => simp [calm] at hcalm
 case mkmap => exact zrl _
 case mget kk z ok x k =>
   intro hp hp2 fx h hk
   simp only [aop] at h ⊢
   exact zs0 kk z ok _ _ hp hp2 fx h hk
 case mput kk x k v =>
   intro hp hp2 fx h hk
   simp only [aop] at h ⊢
   exact zsw kk _ _ _ hp hp2 fx h hk
 case mov x => exact LocF.quiet1 _
 case pick c a b => exact LocF.quiet _
 case box x =>
   intro hp hp2 fx h hk
   simp only [aop, zaa] at h ⊢
   obtain ⟨cs, hc, h⟩ := h
   obtain ⟨p, q, l⟩ := zlk (keyOf dst) cs hp hp2 fx h hk
   exact ⟨p, ⟨cs, hc, q⟩, l⟩
 case boxi x =>
   intro hp hp2 fx h hk
   simp only [aop, zaa, zac, quiet, Option.some.injEq] at h ⊢
   obtain ⟨cs, hc, hf, rfl⟩ := h
   exact ⟨hp2, ⟨cs, hc, hf, rfl⟩, LocAt.refl _ _⟩
 case alloc z => exact zlk _ _
 case build z parts =>
   intro hp hp2 fx h hk
   simp only [aop, zaa, quiet, Option.some.injEq] at h ⊢
   obtain ⟨cs, hc, rfl⟩ := h
   exact ⟨hp2, ⟨cs, hc, rfl⟩, LocAt.refl _ _⟩
 case bslice ty z n parts =>
   intro hp hp2 fx h hk
   simp only [aop, zaa] at h ⊢
   obtain ⟨x, hx, h⟩ := h
   have hw : ∀ k ∈ x.2.1, k ∈ fx.rd ++ fx.wr := by
     unfold newRow at h
     injection h with h
     subst h
     intro k hm
     simp [hm]
   obtain ⟨_, p, q, l⟩ := zof s z.length parts _ [] hp hp2 hp hp2 x (LocAt.refl _ _) hx fun k hm => hk k (hw k hm)
   obtain ⟨p2, q2, l2⟩ := zlh ty z.length (keyOf dst) x.1 l h hk
   exact ⟨p2, ⟨_, q, q2⟩, l2⟩
 case bsliced ty z n parts =>
   intro hp hp2 fx h hk
   simp only [aop, zaa] at h ⊢
   obtain ⟨x, hx, h⟩ := h
   obtain ⟨p2, q2, l2⟩ := zpw ty z.length (keyOf dst) x hp hp2 fx h hk
   exact ⟨p2, ⟨_, hx, q2⟩, l2⟩
 case load agg size a => exact zs9 _ _ _
 case store size a x => exact zrt _ _ _
 case nilck x => exact LocF.quiet _
 case bin op x y => exact LocF.quiet _
 case eqb n x y => exact LocF.quiet _
 case eqnil k n x =>
   intro hp hp2 fx h hk
   simp only [aop, zaa, Option.some.injEq] at h ⊢
   obtain ⟨r, hr, rfl⟩ := h
   exact ⟨hp2, ⟨r, zt4 _ _ hp hp2 r hr fun k hm => hk k (by simp [hm]), rfl⟩, LocAt.refl _ _⟩
 case un op x => exact LocF.quiet _
 case conv c x => exact ztn _ _
 case mkfn f caps => exact LocF.quiet1 _
 case slice sz x lo hi mx =>
   intro hp hp2 fx h hk
   simp only [aop, zaa, Option.some.injEq] at h ⊢
   obtain ⟨r, hr, rfl⟩ := h
   exact ⟨hp2, ⟨r, zz9 _ _ _ _ _ hp hp2 r hr fun k hm => hk k (by simp [hm]), rfl⟩, LocAt.refl _ _⟩
 case faddr off x => exact LocF.quiet _
 case fld agg off size x => exact zwr _ _ _ _
 case iaddr sz x i => exact zr9 _ _ _
 case idx x i => exact LocF.quiet _
 case ext x i => exact LocF.quiet _
 case call f args => exact zmj _ _ _ _
 case callv x args =>
   intro hp hp2 fx h hk
   simp only [aop] at h ⊢
   revert h
   cases ev s x <;> simp only [zn6] <;> intro h <;> try cases h
   exact zmj _ _ _ _ hp hp2 fx h hk
 case len t x => exact LocF.quiet _
 case app ty sz x y =>
   intro hp hp2 fx h hk
   simp only [aop, zaa] at h ⊢
   obtain ⟨c, hc, h⟩ := h
   have hrd := zua h
   obtain ⟨p, q, l⟩ := zif ty sz (keyOf dst) c.1 c.2 _ hp hp2 fx h hk
   exact ⟨p, ⟨c, zha _ _ hp hp2 c hc fun k hm => hk k (by rw [hrd]; simp [hm]), q⟩, l⟩
 case appd ty sz x y =>
   intro hp hp2 fx h hk
   simp only [aop, zaa] at h ⊢
   obtain ⟨c, hc, h⟩ := h
   have hrd := zsn h
   obtain ⟨p, q, l⟩ := zpo ty sz c.1 c.2 _ hp hp2 fx h hk
   exact ⟨p, ⟨c, znx _ _ hp hp2 c hc fun k hm => hk k (by rw [hrd]; simp [hm]), q⟩, l⟩
 case appstr ty x y =>
   intro hp hp2 fx h hk
   simp only [aop, zaa] at h ⊢
   obtain ⟨c, hc, h⟩ := h
   obtain ⟨p, q, l⟩ := zif ty 1 (keyOf dst) _ _ _ hp hp2 fx h hk
   exact ⟨p, ⟨c, hc, q⟩, l⟩
 case appz ty z x n =>
   intro hp hp2 fx h hk
   simp only [aop, zaa] at h ⊢
   obtain ⟨c, hc, h⟩ := h
   obtain ⟨p, q, l⟩ := zif ty z.length (keyOf dst) _ _ _ hp hp2 fx h hk
   exact ⟨p, ⟨c, hc, q⟩, l⟩
 case copy sz x y =>
   intro hp hp2 fx h hk
   simp only [aop, zaa] at h ⊢
   obtain ⟨c, hc, h⟩ := h
   have hrd := zwe h
   obtain ⟨p, q, l⟩ := zu9 sz c.1 c.2 _ hp hp2 fx h hk
   exact ⟨p, ⟨c, zha _ _ hp hp2 c hc fun k hm => hk k (by rw [hrd]; simp [hm]), q⟩, l⟩
 case mkslice ty z n =>
   intro hp hp2 fx h hk
   simp only [aop, zaa] at h ⊢
   obtain ⟨m, hm, h⟩ := h
   obtain ⟨p, q, l⟩ := zlh ty z.length (keyOf dst) _ (LocAt.refl hp hp2) h hk
   exact ⟨p, ⟨m, hm, q⟩, l⟩
 case mx l =>
   intro hp hp2 fx h hk
   simp only [aop, zaa, quiet, Option.some.injEq] at h ⊢
   obtain ⟨x, hx, n, hn, rfl⟩ := h
   exact ⟨hp2, ⟨x, hx, n, hn, rfl⟩, LocAt.refl _ _⟩
 case mn l =>
   intro hp hp2 fx h hk
   simp only [aop, zaa, quiet, Option.some.injEq] at h ⊢
   obtain ⟨x, hx, n, hn, rfl⟩ := h
   exact ⟨hp2, ⟨x, hx, n, hn, rfl⟩, LocAt.refl _ _⟩
 case clear z x => exact zrf _ _
 case frz x =>
   intro hp hp2 fx h hk
   simp only [aop] at h ⊢
   revert h
   cases ev s x <;> simp only [frzV] <;> intro h <;> try cases h
   rename_i key ver off len
   simp only [zaa, zac, Option.some.injEq] at h ⊢
   obtain ⟨b, hb, hc, rfl⟩ := h
   have hkk := hk key (by simp)
   refine ⟨_, ⟨b, by rw [zbf hkk]; exact hb, hc, rfl⟩, ?_⟩
   unfold drop
   rw [hkk.2]
   exact LocAt.lay _ _ _ _
 case fail => exact LocF.none
end Go.Abs
end
section
set_option linter.unusedSimpArgs false
set_option linter.unusedVariables false
namespace Go.Abs
open Classical
section
variable {K V : Type} (vw : Nat → K → V) (W R : Nat → K → Prop) (n : Nat)
noncomputable def ze2 (D : Nat → Bool) (k : K) : Nat → Nat
 | 0 => 0
 | i + 1 => if D i = true ∧ W i k then i + 1 else ze2 D k i
noncomputable def seen (D : Nat → Bool) (k : K) : V := vw (ze2 W D k n) k
structure Apart (ord : Nat → Nat → Prop) : Prop where
 frame : ∀ i, i < n → ∀ k, ¬ W i k → vw (i + 1) k = vw i k
 ww : ∀ i j, i < j → j < n → ¬ ord i j → ∀ k, W i k → ¬ R j k ∧ ¬ W j k
 wr : ∀ i j, i < j → j < n → ¬ ord i j → ∀ k, W j k → ¬ R i k
variable {vw W R n} {ord : Nat → Nat → Prop} (A : Apart vw W R n ord)
include A
theorem zmn (k : K) : ∀ j, j ≤ n → vw j k = vw (ze2 W (fun _ => true) k j) k
 | 0, _ => rfl
 | j + 1, h => by
   unfold ze2
   by_cases hw : W j k
   · rw [if_pos ⟨rfl, hw⟩]
   · rw [if_neg (fun x => hw x.2), A.frame j (by omega) k hw]
     exact zmn k j (by omega)
theorem z0o {D : Nat → Bool} (hD : ∀ j, j < n → D j = true → ∀ i, i < j → ord i j → D i = true) {i : Nat} (hi : i < n) (hn : D i = false) (hp : ∀ t, t < i → ord t i → D t = true) {k : K} (hk : R i k ∨ W i k) : seen vw W n D k = vw i k := by
 have s1 : ∀ j, i ≤ j → j ≤ n → ze2 W D k j = ze2 W D k i := by
   intro j h1 h2
   induction j with
   | zero => have : i = 0 := by omega
             subst this; rfl
   | succ j ih =>
     by_cases e : i = j + 1
     · rw [e]
     · rw [ze2, if_neg, ih (by omega) (by omega)]
       rintro ⟨h3, h4⟩
       have hlt : i < j := by
         rcases Nat.lt_or_ge i j with h | h
         · exact h
         · have : i = j := by omega
           subst this
           rw [hn] at h3
           cases h3
       by_cases ho : ord i j
       · have := hD j (by omega) h3 i hlt ho
         rw [hn] at this
         cases this
       · rcases hk with hk | hk
         · exact A.wr i j hlt (by omega) ho k h4 hk
         · exact (A.ww i j hlt (by omega) ho k hk).2 h4
 have s2 : ∀ j, j ≤ i → ze2 W D k j = ze2 W (fun _ => true) k j := by
   intro j h
   induction j with
   | zero => rfl
   | succ j ih =>
     unfold ze2
     by_cases hw : W j k
     · have hd : D j = true := by
         by_cases ho : ord j i
         · exact hp j (by omega) ho
         · have := A.ww j i (by omega) hi ho k hw
           rcases hk with hk | hk
           · exact absurd hk this.1
           · exact absurd hk this.2
       rw [if_pos ⟨hd, hw⟩, if_pos ⟨rfl, hw⟩]
     · rw [if_neg (fun x => hw x.2), if_neg (fun x => hw x.2), ih (by omega)]
 unfold seen
 rw [s1 n (by omega) (Nat.le_refl _), s2 i (Nat.le_refl _)]
 exact (zmn A k i (by omega)).symm
theorem zt3 {D D' : Nat → Bool} (hD : ∀ j, j < n → D j = true → ∀ i, i < j → ord i j → D i = true) {i : Nat} (hi : i < n) (hn : D i = false) (h' : ∀ j, D' j = true ↔ D j = true ∨ j = i) (k : K) : (W i k → seen vw W n D' k = vw (i + 1) k) ∧ (¬ W i k → seen vw W n D' k = seen vw W n D k) := by
 refine ⟨fun hw => ?_, fun hw => ?_⟩
 · have s1 : ∀ j, i + 1 ≤ j → j ≤ n → ze2 W D' k j = i + 1 := by
     intro j h1 h2
     induction j with
     | zero => omega
     | succ j ih =>
       by_cases e : i = j
       · subst e
         rw [ze2, if_pos ⟨(h' i).2 (.inr rfl), hw⟩]
       · rw [ze2, if_neg, ih (by omega) (by omega)]
         rintro ⟨h3, h4⟩
         have hd : D j = true := by
           rcases (h' j).1 h3 with h | h
           · exact h
           · exact absurd h.symm e
         by_cases ho : ord i j
         · have := hD j (by omega) hd i (by omega) ho
           rw [hn] at this
           cases this
         · exact (A.ww i j (by omega) (by omega) ho k hw).2 h4
   unfold seen
   rw [s1 n (by omega) (Nat.le_refl _)]
 · have s1 : ∀ j, ze2 W D' k j = ze2 W D k j := by
     intro j
     induction j with
     | zero => rfl
     | succ j ih =>
       unfold ze2
       rw [ih]
       by_cases e : j = i
       · subst e
         rw [if_neg (fun x => hw x.2), if_neg (fun x => hw x.2)]
       · have : (D' j = true ∧ W j k) ↔ (D j = true ∧ W j k) := by
           rw [h' j]
           constructor
           · rintro ⟨h | h, h2⟩
             · exact ⟨h, h2⟩
             · exact absurd h e
           · rintro ⟨h, h2⟩; exact ⟨.inl h, h2⟩
         by_cases hc : D j = true ∧ W j k
         · rw [if_pos hc, if_pos (this.2 hc)]
         · rw [if_neg hc, if_neg (fun x => hc (this.1 x))]
   unfold seen
   rw [s1 n]
theorem zv3 {D : Nat → Bool} (h : ∀ j, j < n → D j = true) (k : K) : seen vw W n D k = vw n k := by
 have s : ∀ j, j ≤ n → ze2 W D k j = ze2 W (fun _ => true) k j := by
   intro j hj
   induction j with
   | zero => rfl
   | succ j ih =>
     unfold ze2
     by_cases hw : W j k
     · rw [if_pos ⟨h j (by omega), hw⟩, if_pos ⟨rfl, hw⟩]
     · rw [if_neg (fun x => hw x.2), if_neg (fun x => hw x.2), ih (by omega)]
 unfold seen
 rw [s n (Nat.le_refl _)]
 exact (zmn A k n (Nat.le_refl _)).symm
end
end Go.Abs
end
section
set_option linter.unusedSimpArgs false
set_option linter.unusedVariables false
namespace Go.Abs
theorem zb0 {s s2 : Sl} {x : Opd} (h : ∀ t ∈ opdT x, get s2 t = get s t) : ev s2 x = ev s x := by
 cases x with
 | tmp t => exact h t (by simp [opdT])
 | con v => rfl
theorem zd7 {s s2 : Sl} : ∀ {l : List Opd}, (∀ t ∈ zf7 l, get s2 t = get s t) → evs s2 l = evs s l
 | [], _ => rfl
 | x :: r, h => by
   simp only [evs]
   rw [zb0 fun t ht => h t (by simp [zf7, ht]), zd7 fun t ht => h t (by simp [zf7, ht])]
theorem zjz {s s2 : Sl} {x : Option Opd} (h : ∀ t ∈ optT x, get s2 t = get s t) : evo s2 x = evo s x := by
 cases x with
 | none => rfl
 | some x => simp only [evo]; rw [zb0 h]
theorem zkx {s s2 : Sl} : ∀ {parts : List (Nat × Nat × Opd)} {cs : List AV}, (∀ t ∈ zf7 (parts.map fun p => p.2.2), get s2 t = get s t) → zk8 s2 parts cs = zk8 s parts cs
 | [], _, _ => rfl
 | p :: r, cs, h => by
   simp only [zk8]
   rw [zb0 fun t ht => h t (by simp [zf7, ht])]
   congr 1
   funext xs
   rw [zkx fun t ht => h t (by simp [zf7] at ht ⊢; exact .inr ht)]
theorem zkv {s s2 : Sl} {size : Nat} : ∀ {parts : List (Nat × Opd)} {es : List (List AV)} {ks : List Nat} {hp : Hp}, (∀ t ∈ zf7 (parts.map fun p => p.2), get s2 t = get s t) → zf8 s2 size parts es ks hp = zf8 s size parts es ks hp
 | [], _, _, _, _ => rfl
 | p :: r, es, ks, hp, h => by
   simp only [zf8]
   rw [zb0 fun t ht => h t (by simp [zf7, ht])]
   congr 1
   funext x
   congr 1
   funext xs
   rw [zkv fun t ht => h t (by simp [zf7] at ht ⊢; exact .inr ht)]
theorem zju {s s2 : Sl} {size : Nat} : ∀ {parts : List (Nat × Opd)} {es : List (List AV)}, (∀ t ∈ zf7 (parts.map fun p => p.2), get s2 t = get s t) → zk9 s2 size parts es = zk9 s size parts es
 | [], _, _ => rfl
 | p :: r, es, h => by
   simp only [zk9]
   rw [zb0 fun t ht => h t (by simp [zf7, ht])]
   congr 1
   funext xs
   rw [zju fun t ht => h t (by simp [zf7] at ht ⊢; exact .inr ht)]
theorem zuv (cx : Cx) (op : AOp) (dst : Nat) {s s2 : Sl} (hp : Hp) (h : ∀ t ∈ zqx op, get s2 t = get s t) : aop cx op dst s2 hp = aop cx op dst s hp := by
 cases op <;> simp only [zqx] at h <;> simp only [aop]
 case mget kk z ok x k =>
   rw [zb0 (x := x) fun t ht => h t (by simp [ht]), zb0 (x := k) fun t ht => h t (by simp [ht])]
 case mput kk x k v =>
   rw [zb0 (x := x) fun t ht => h t (by simp [ht]), zb0 (x := k) fun t ht => h t (by simp [ht]), zb0 (x := v) fun t ht => h t (by simp [ht])]
 case mov x => rw [zb0 h]
 case pick c a b =>
   rw [zb0 (x := c) fun t ht => h t (by simp [ht]), zb0 (x := a) fun t ht => h t (by simp [ht]), zb0 (x := b) fun t ht => h t (by simp [ht])]
 case build z parts => rw [zkx h]
 case bslice ty z n parts => rw [zkv h]
 case bsliced ty z n parts => rw [zju h]
 case mkfn f caps => rw [zd7 h]
 case calld f args => rw [zd7 h]
 case inl f args => rw [zd7 h]
 case call f args => rw [zd7 h]
 case mx l => rw [zd7 h]
 case mn l => rw [zd7 h]
 case callv x l => rw [zb0 (x := x) fun t ht => h t (by simp [ht]), zd7 (l := l) fun t ht => h t (by simp [ht])]
 case slice sz x lo hi mx =>
   rw [zb0 (x := x) fun t ht => h t (by simp [ht]), zjz (x := lo) fun t ht => h t (by simp [ht]), zjz (x := hi) fun t ht => h t (by simp [ht]), zjz (x := mx) fun t ht => h t (by simp [ht])]
 all_goals first
   | rfl
   | (rw [zb0 h]; done)
   | (rename_i a v; rw [zb0 (x := a) fun t ht => h t (by simp [ht]), zb0 (x := v) fun t ht => h t (by simp [ht])])
theorem zpj {cx : Cx} {op : AOp} {dst : Nat} {s : Sl} {hp : Hp} {fx : Fx} (ht : touches op = false) (h : aop cx op dst s hp = some fx) : fx.rd = [] ∧ fx.wr = [] := by
 have q : ∀ {v : AV}, quiet v hp = some fx → fx.rd = [] ∧ fx.wr = [] := by
   intro v h
   simp only [quiet, Option.some.injEq] at h
   subst h
   exact ⟨rfl, rfl⟩
 have qb : ∀ {o : Option AV}, (bnd o fun v => quiet v hp) = some fx → fx.rd = [] ∧ fx.wr = [] := by
   intro o h
   rw [zaa] at h
   obtain ⟨v, _, h⟩ := h
   exact q h
 cases op <;> simp [touches] at ht <;> simp only [aop] at h <;> try first
   | exact q h
   | exact qb h
 case boxi x =>
   simp only [zaa, zac] at h
   obtain ⟨cs, _, _, h⟩ := h
   exact q h
 case build z parts =>
   rw [zaa] at h
   obtain ⟨cs, _, h⟩ := h
   exact q h
 case conv c x =>
   revert h ht
   cases c <;> cases ev s x <;> simp only [zjk, touches] <;> intro ht h <;> first
     | (cases h; done)
     | (exact q h; done)
     | (simp at ht; done)
 case fld agg off size x =>
   revert h
   cases ev s x <;> simp only [fldV] <;> intro h <;> first
     | (cases h; done)
     | (obtain ⟨_, _, e3, e4⟩ := zhy (hp2 := hp) h; exact ⟨e4, e3⟩)
 case mx l =>
   simp only [zaa] at h
   obtain ⟨_, _, _, _, h⟩ := h
   exact q h
 case mn l =>
   simp only [zaa] at h
   obtain ⟨_, _, _, _, h⟩ := h
   exact q h
 case fail => cases h
abbrev Key := Nat ⊕ Nat
def vw (st : St) : Key → AV × Option Blk × Nat
 | .inl t => (get st.sl t, none, 0)
 | .inr k => (Abs.undef, look st.hp k, zad st.hp k)
theorem zi8 {st st2 : St} {t : Nat} : vw st2 (.inl t) = vw st (.inl t) ↔ get st2.sl t = get st.sl t := by simp [vw]
theorem zlp {st st2 : St} {k : Nat} : vw st2 (.inr k) = vw st (.inr k) ↔ Eqk st.hp st2.hp k := by simp [vw, Eqk]
def rdK (x : AIns) (fx : List Nat × List Nat) : Key → Prop
 | .inl t => t ∈ zid x
 | .inr k => k ∈ fx.1
def wrK (x : AIns) (fx : List Nat × List Nat) : Key → Prop
 | .inl t => x.dst = some t
 | .inr k => k ∈ fx.2
theorem zeg {s : Sl} {d : Option Nat} {v : AV} {t : Nat} (h : d ≠ some t) : get (put s d v) t = get s t := by
 cases d with
 | none => rfl
 | some d =>
   show (if t = d then v else get s t) = _
   rw [if_neg fun e => h (by rw [e])]
theorem zev {s : Sl} {v : AV} {t : Nat} : get (put s (some t) v) t = v := by
 show (if t = t then v else get s t) = _
 rw [if_pos rfl]
theorem zqu {cx : Cx} {x : AIns} (hcalm : calm x.op = true) {st st2 : St} {r : St × List Nat × List Nat} (h : ains cx x st = some r) (hk : ∀ k, rdK x r.2 k ∨ wrK x r.2 k → vw st2 k = vw st k) :
   ∃ st2', ains cx x st2 = some (st2', r.2) ∧ (∀ k, wrK x r.2 k → vw st2' k = vw r.1 k) ∧ (∀ k, ¬ wrK x r.2 k → vw st2' k = vw st2 k) ∧ (∀ k, ¬ wrK x r.2 k → vw r.1 k = vw st k) := by
 have hs : ∀ t ∈ zid x, get st2.sl t = get st.sl t := fun t ht => zi8.1 (hk (.inl t) (.inl ht))
 have hwant : wanted st2.sl x.guard = wanted st.sl x.guard := by
   cases hg : x.guard with
   | none => rfl
   | some g =>
     simp only [wanted]
     rw [hs g.1 (by simp [zid, hg])]
 have hop : ∀ t ∈ zqx x.op, get st2.sl t = get st.sl t := fun t ht => hs t (by simp [zid, ht])
 unfold ains at h ⊢
 rw [hwant]
 simp only [zaa] at h ⊢
 obtain ⟨w, hw, h⟩ := h
 cases w with
 | true =>
   simp only [way, zaa, Option.some.injEq] at h
   obtain ⟨fx, hf, rfl⟩ := h
   simp only at hk ⊢
   obtain ⟨hp2', e1, l⟩ := z0b cx x.op hcalm (x.dst.getD 0) st.sl st.hp st2.hp fx hf fun k hm => zlp.1 (hk (.inr k) (by
     rcases List.mem_append.1 hm with hm | hm
     · exact .inl hm
     · exact .inr hm))
   refine ⟨{ sl := put st2.sl x.dst fx.val, hp := hp2' }, ⟨true, hw, ?_⟩, fun k hkw => ?_, fun k hkw => ?_, fun k hkw => ?_⟩
   · simp only [way, zaa, Option.some.injEq]
     exact ⟨_, by rw [zuv cx x.op _ st2.hp hop]; exact e1, rfl⟩
   · cases k with
     | inl t =>
       simp only [wrK] at hkw
       rw [hkw]
       exact zi8.2 (by rw [zev, zev])
     | inr k => exact zlp.2 (l.w k hkw)
   · cases k with
     | inl t => exact zi8.2 (zeg hkw)
     | inr k => exact zlp.2 (l.n k hkw)
   · cases k with
     | inl t => exact zi8.2 (zeg hkw)
     | inr k => exact zlp.2 (l.f k hkw)
 | false =>
   simp only [way, Option.some.injEq] at h
   subst h
   refine ⟨{ sl := put st2.sl x.dst Abs.undef, hp := st2.hp }, ⟨false, hw, rfl⟩, fun k hkw => ?_, fun k hkw => ?_, fun k hkw => ?_⟩
   · cases k with
     | inl t =>
       simp only [wrK] at hkw
       rw [hkw]
       exact zi8.2 (by rw [zev, zev])
     | inr k => simp [wrK] at hkw
   · cases k with
     | inl t => exact zi8.2 (zeg hkw)
     | inr k => rfl
   · cases k with
     | inl t => exact zi8.2 (zeg hkw)
     | inr k => rfl
end Go.Abs
end
section
set_option linter.unusedSimpArgs false
set_option linter.unusedVariables false
namespace Go.Abs
theorem zlu {cx : Cx} {x : AIns} {st : St} {r : St × List Nat × List Nat} (h : ains cx x st = some r) (ht : touches x.op = false) : r.2 = ([], []) := by
 unfold ains at h
 simp only [zaa] at h
 obtain ⟨w, hw, h⟩ := h
 cases w with
 | true =>
   simp only [way, zaa, Option.some.injEq] at h
   obtain ⟨fx, hf, rfl⟩ := h
   obtain ⟨e1, e2⟩ := zpj ht hf
   simp only [e1, e2]
 | false =>
   simp only [way, Option.some.injEq] at h
   subst h
   rfl
theorem zil {cx : Cx} : ∀ {l : List AIns} {acc : List (List Nat × List Nat)} {st : St} {r : St × List (List Nat × List Nat)}, adraw cx l acc st = some r → ∀ x ∈ l, calm x.op = true
 | [], _, _, _, _ => by simp
 | o :: l, acc, st, r, h => by
   simp only [adraw, zac, zaa] at h
   obtain ⟨hc, x, hx, h⟩ := h
   exact List.forall_mem_cons.2 ⟨hc, zil h⟩
theorem zlx {cx : Cx} : ∀ (l : List AIns) (acc : List (List Nat × List Nat)) (st : St) (r : St × List (List Nat × List Nat)), adraw cx l acc st = some r →
   (∀ j, j < acc.length → r.2[j]? = acc[j]?) ∧ ∃ (sts : Nat → St) (fxs : Nat → List Nat × List Nat), sts 0 = st ∧ sts l.length = r.1 ∧ ∀ i x, l[i]? = some x → ains cx x (sts i) = some (sts (i + 1), fxs i) ∧ r.2[acc.length + i]? = some (fxs i)
 | [], acc, st, r, h => by
   simp only [adraw, Option.some.injEq] at h
   subst h
   exact ⟨fun _ _ => rfl, fun _ => st, fun _ => ([], []), rfl, rfl, fun i x hx => by simp at hx⟩
 | o :: l, acc, st, r, h => by
   simp only [adraw, zac, zaa] at h
   obtain ⟨_, x, hx, h⟩ := h
   obtain ⟨e1, sts, fxs, h0, hn, hs⟩ := zlx l (acc ++ [x.2]) x.1 r h
   refine ⟨fun j hj => ?_, fun i => match i with | 0 => st | i + 1 => sts i, fun i => match i with | 0 => x.2 | i + 1 => fxs i, rfl, hn, fun i y hy => ?_⟩
   · rw [e1 j (by simp; omega), List.getElem?_append_left hj]
   · cases i with
     | zero =>
       simp at hy
       subst hy
       refine ⟨by simp only; rw [hx, h0], ?_⟩
       have := e1 acc.length (by simp)
       rw [Nat.add_zero, this]
       simp
     | succ i =>
       obtain ⟨k1, k2⟩ := hs i y (by simpa using hy)
       refine ⟨k1, ?_⟩
       rw [← k2]
       congr 1
       simp
       omega
theorem Env.of_congr {w : World} {Z : Nat → Prop} {hp hp' : Hp} {g : Gm} (h : ∀ k, Eqk hp hp' k) : Env.of w Z hp' g = Env.of w Z hp g := by
 have h1 : look hp' = look hp := funext fun k => (h k).1
 have h2 : zad hp' = zad hp := funext fun k => (h k).2
 simp only [Env.of, h1, h2]
theorem Sts.congr {n : Nat} {fxv : Nat → Option Value} {w : World} {Z : Nat → Prop} {st st' : St} {g : Gm} {a : Act} (h : Sts n fxv w Z st g a) (e : ∀ k, vw st' k = vw st k) : Sts n fxv w Z st' g a := by
 have he : ∀ k, Eqk st.hp st'.hp k := fun k => zlp.1 (e (.inr k))
 have hE := Env.of_congr (w := w) (Z := Z) (g := g) he
 refine ⟨by rw [hE]; exact h.inv, fun t => ?_, h.size, h.defers, h.fix⟩
 rw [hE, zi8.1 (e (.inl t))]
 exact h.slots t
theorem Path.congr {w w' : World} {Z : Nat → Prop} {hp hp' hp2 : Hp} {g g' : Gm} (h : Path w w' Z hp hp' g g') (he : ∀ k, Eqk hp' hp2 k) : Path w w' Z hp hp2 g g' := by
 refine ⟨fun i hx => h.less i ?_, h.os, h.tape, h.output, h.size, h.sizes, h.blk, h.yb⟩
 rw [Env.of_congr he] at hx
 exact hx
section
variable {P : Program} {cx : Cx}
theorem zr8 {ops : Array Oper} {sts : Nat → St} {fxs : Nat → List Nat × List Nat} {effs : List (List Nat × List Nat)} {l : List AIns} (hl : l.length = ops.size) (hdo : zqz ops l = true) (hap : zci effs (zkj ops l) = true)
   (hcalm : ∀ x ∈ l, calm x.op = true) (hs : ∀ i x, l[i]? = some x → ains cx x (sts i) = some (sts (i + 1), fxs i) ∧ effs[i]? = some (fxs i)) :
   Apart (fun i => vw (sts i)) (fun i k => ∃ x, l[i]? = some x ∧ wrK x (fxs i) k) (fun i k => ∃ x, l[i]? = some x ∧ rdK x (fxs i) k) ops.size (fun i j => ((Region.before ops).getD j 0).testBit i = true) := by
 have hx : ∀ i, i < ops.size → ∃ x, l[i]? = some x := fun i hi => ⟨l[i], List.getElem?_eq_getElem (by omega)⟩
 have hslot : ∀ i j x y, i < j → j < ops.size → ¬ ((Region.before ops).getD j 0).testBit i = true → l[i]? = some x → l[j]? = some y → zhj x y = true := by
   intro i j x y hij hj ho hxi hyj
   have h1 := List.all_eq_true.1 hdo j (by simp; omega)
   simp only [zsx, Bool.and_eq_true] at h1
   have h2 := List.all_eq_true.1 h1.2 i (by simp; exact hij)
   simp only [ho, hxi, hyj, Bool.false_or] at h2
   simpa using h2
 have hheap : ∀ i j x y, i < j → j < ops.size → ¬ ((Region.before ops).getD j 0).testBit i = true → l[i]? = some x → l[j]? = some y → (∀ k, k ∈ (fxs i).2 → k ∉ (fxs j).1 ∧ k ∉ (fxs j).2) ∧ (∀ k, k ∈ (fxs j).2 → k ∉ (fxs i).1) := by
   intro i j x y hij hj ho hxi hyj
   by_cases ht : touches x.op = true ∧ touches y.op = true
   · have hmem : (i, j) ∈ zkj ops l := by
       unfold zkj
       simp only [List.mem_flatMap, List.mem_range, List.mem_filterMap]
       refine ⟨j, by omega, i, hij, ?_⟩
       rw [if_neg ho]
       simp only [hxi, hyj, ht.1, ht.2]
       rfl
     have hall : ∀ (ps : List (Nat × Nat)), zci effs ps = true → ∀ p ∈ ps, zm8 effs p.1 p.2 = true := by
       intro ps
       induction ps with
       | nil => intro _ p hp; simp at hp
       | cons q r ih =>
         intro h p hp
         simp only [zci, Bool.and_eq_true] at h
         rcases List.mem_cons.1 hp with rfl | hp
         · exact h.1
         · exact ih h.2 p hp
     have h3 := hall _ hap _ hmem
     simp only [zm8, (hs i x hxi).2, (hs j y hyj).2, Bool.and_eq_true, zbx, List.all_eq_true] at h3
     refine ⟨fun k hk => ?_, fun k hk => ?_⟩
     · have := h3.1 k hk
       simp only [Bool.not_eq_true', List.contains_eq_mem, List.mem_append, decide_eq_false_iff_not, not_or] at this
       exact this
     · have := h3.2 k hk
       simpa using this
   · by_cases hxt : touches x.op = true
     · have hyt : touches y.op = false := by
         cases hc : touches y.op with
         | false => rfl
         | true => exact absurd ⟨hxt, hc⟩ ht
       have := zlu (hs j y hyj).1 hyt
       simp only at this
       rw [this]
       exact ⟨fun k hk => by simp, fun k hk => by simp at hk⟩
     · have hxf : touches x.op = false := by
         cases hc : touches x.op with
         | false => rfl
         | true => exact absurd hc hxt
       have := zlu (hs i x hxi).1 hxf
       simp only at this
       rw [this]
       exact ⟨fun k hk => by simp at hk, fun k hk => by simp⟩
 refine ⟨fun i hi k hk => ?_, fun i j hij hj ho k hk => ?_, fun i j hij hj ho k hk hr => ?_⟩
 · obtain ⟨x, hxi⟩ := hx i hi
   obtain ⟨_, _, _, _, h4⟩ := zqu (hcalm x (List.mem_of_getElem? hxi)) (hs i x hxi).1 (st2 := sts i) fun _ _ => rfl
   exact h4 k fun hw => hk ⟨x, hxi, hw⟩
 · obtain ⟨x, hxi, hw⟩ := hk
   cases k with
   | inl t =>
     simp only [wrK] at hw
     refine ⟨?_, ?_⟩
     · rintro ⟨y, hyj, hr⟩
       have := hslot i j x y hij hj ho hxi hyj
       simp only [zhj, hw, Bool.and_eq_true] at this
       simp only [rdK] at hr
       have h1 := this.1.1
       simp [hr] at h1
     · rintro ⟨y, hyj, hr⟩
       have := hslot i j x y hij hj ho hxi hyj
       simp only [zhj, hw, Bool.and_eq_true] at this
       simp only [wrK] at hr
       have h1 := this.1.2
       simp [hr] at h1
   | inr t =>
     simp only [wrK] at hw
     refine ⟨?_, ?_⟩
     · rintro ⟨y, hyj, hr⟩
       exact ((hheap i j x y hij hj ho hxi hyj).1 t hw).1 hr
     · rintro ⟨y, hyj, hr⟩
       exact ((hheap i j x y hij hj ho hxi hyj).1 t hw).2 hr
 · obtain ⟨y, hyj, hw⟩ := hk
   obtain ⟨x, hxi, hr⟩ := hr
   cases k with
   | inl t =>
     simp only [wrK] at hw
     simp only [rdK] at hr
     have := hslot i j x y hij hj ho hxi hyj
     simp only [zhj, hw, Bool.and_eq_true] at this
     have h1 := this.2
     simp [hr] at h1
   | inr t => exact (hheap i j x y hij hj ho hxi hyj).2 t hw hr
theorem zwk {Z : Nat → Prop} {n : Nat} {ok : Ok} {fxv : Nat → Option Value} (hcx : CxOk P cx) (hok : ze9 ok n fxv) {ops : Array Oper} {l : List AIns} (hl : l = ops.toList.map (cins P ok ops)) (hdo : zqz ops l = true)
   {sts : Nat → St} {fxs : Nat → List Nat × List Nat} (hcalm : ∀ x ∈ l, calm x.op = true) (hs : ∀ i x, l[i]? = some x → ains cx x (sts i) = some (sts (i + 1), fxs i))
   (A : Apart (fun i => vw (sts i)) (fun i k => ∃ x, l[i]? = some x ∧ wrK x (fxs i) k) (fun i k => ∃ x, l[i]? = some x ∧ rdK x (fxs i) k) ops.size (fun i j => ((Region.before ops).getD j 0).testBit i = true))
   {w0 : World} {hp0 : Hp} {g0 : Gm} {ro : Option Nat} {Q : Exit → Act → World → Prop} (hQ : ∀ a' w' g', Sts n fxv w' Z (sts ops.size) g' a' → Path w0 w' Z hp0 (sts ops.size).hp g0 g' → Q .normal a' w') :
   ∀ (fuel : Nat) (listed : Array Bool) (left : List Nat) (st : St) (a : Act) (w : World) (g : Gm), listed.size = ops.size → left.length ≤ fuel → (∀ i, i < ops.size → listed.getD i false = false → i ∈ left) →
     (∀ j, j < ops.size → listed.getD j false = true → ∀ i, i < ops.size → ((Region.before ops).getD j 0).testBit i = true → listed.getD i false = true) →
     Sts n fxv w Z st g a → (∀ k, vw st k = seen (fun i => vw (sts i)) (fun i k => ∃ x, l[i]? = some x ∧ wrK x (fxs i) k) ops.size (fun i => listed.getD i false) k) → Path w0 w Z hp0 st.hp g0 g →
     wpAnyIn (FR ro) 0 P .any ops Q fuel listed a w := by
 have hlen : l.length = ops.size := by rw [hl]; simp
 have hat : ∀ j, j < ops.size → ∃ o, ops[j]? = some o ∧ (o.after.all fun e => !Region.binds .any e || decide (e.on < j)) = true ∧ ∀ i, i < ops.size → ((Region.before ops).getD j 0).testBit i = true → ∃ e ∈ o.after, Region.binds .any e = true ∧ (e.on = i ∨ ((Region.before ops).getD e.on 0).testBit i = true) := by
   intro j hj
   have h1 := List.all_eq_true.1 hdo j (by simp; omega)
   simp only [zsx, Bool.and_eq_true] at h1
   have hj' : ops[j]? = some ops[j] := Array.getElem?_eq_getElem hj
   rw [hj'] at h1
   simp only [Bool.and_eq_true] at h1
   refine ⟨ops[j], hj', h1.1.1, fun i hi hb => ?_⟩
   have h2 := List.all_eq_true.1 h1.1.2 i (by simp; omega)
   simp only [hb, Bool.not_true, Bool.false_or, Array.any_eq_true, Bool.and_eq_true, Bool.or_eq_true, beq_iff_eq] at h2
   obtain ⟨t, ht, h3, h4⟩ := h2
   exact ⟨_, Array.getElem_mem ht, h3, h4⟩
 -- who is ready
 have hready : ∀ (listed : Array Bool), listed.size = ops.size → ∀ i, i ∈ Region.ready .any ops listed → i < ops.size ∧ listed.getD i false = false ∧ ∃ o, ops[i]? = some o ∧ ∀ e ∈ o.after, Region.binds .any e = true → listed.getD e.on false = true := by
   intro listed hsz i hi
   unfold Region.ready at hi
   simp only [List.mem_filter, List.mem_range, Bool.and_eq_true, Bool.not_eq_true'] at hi
   obtain ⟨h1, h2, h3⟩ := hi
   have hg : listed[i]? = some listed[i] := Array.getElem?_eq_getElem (by omega)
   refine ⟨h1, ?_, ?_⟩
   · simp only [Array.getD_eq_getD_getElem?, hg, Option.getD_some] at h2 ⊢
     exact h2
   · cases ho : ops[i]? with
     | none => rw [ho] at h3; simp at h3
     | some o =>
       rw [ho] at h3
       simp only [Option.map_some, Option.getD_some, Array.all_eq_true, Bool.or_eq_true, Bool.not_eq_true'] at h3
       refine ⟨o, rfl, fun e he hb => ?_⟩
       obtain ⟨t, ht, rfl⟩ := Array.mem_iff_getElem.1 he
       rcases h3 t ht with h | h
       · rw [hb] at h; cases h
       · exact h
 have hall : ∀ (listed : Array Bool), listed.size = ops.size → Region.ready .any ops listed = [] → ∀ i, i < ops.size → listed.getD i false = true := by
   intro listed hsz he i
   induction i using Nat.strongRecOn with
   | _ i ih =>
     intro hi
     cases hc : listed.getD i false with
     | true => rfl
     | false =>
       exfalso
       obtain ⟨o, ho, h1, _⟩ := hat i hi
       have : i ∈ Region.ready .any ops listed := by
         unfold Region.ready
         simp only [List.mem_filter, List.mem_range, Bool.and_eq_true, Bool.not_eq_true', ho, Option.map_some, Option.getD_some, Array.all_eq_true, Bool.or_eq_true]
         have hg : listed[i]? = some listed[i] := Array.getElem?_eq_getElem (by omega)
         refine ⟨hi, ?_, fun t ht => ?_⟩
         · simp only [Array.getD_eq_getD_getElem?, hg, Option.getD_some] at hc ⊢
           exact hc
         · simp only [Array.all_eq_true, Bool.or_eq_true, Bool.not_eq_true', decide_eq_true_eq] at h1
           rcases h1 t ht with h | h
           · exact .inl h
           · exact .inr (ih _ h (by omega))
       rw [he] at this
       simp at this
 have hdone : ∀ (listed : Array Bool) (st : St) (a : Act) (w : World) (g : Gm), (∀ i, i < ops.size → listed.getD i false = true) → Sts n fxv w Z st g a → (∀ k, vw st k = seen (fun i => vw (sts i)) (fun i k => ∃ x, l[i]? = some x ∧ wrK x (fxs i) k) ops.size (fun i => listed.getD i false) k) → Path w0 w Z hp0 st.hp g0 g → Q .normal a w := by
   intro listed st a w g hli hst hv hp
   have he : ∀ k, vw (sts ops.size) k = vw st k := fun k => by rw [hv k, zv3 A hli k]
   exact hQ a w g (hst.congr he) (hp.congr fun k => zlp.1 (he (.inr k)))
 intro fuel
 induction fuel with
 | zero =>
   intro listed left st a w g hsz hle hin hdc hst hv hp
   have hl0 : left = [] := List.length_eq_zero_iff.1 (by omega)
   subst hl0
   have hli : ∀ i, i < ops.size → listed.getD i false = true := by
     intro i hi
     cases hc : listed.getD i false with
     | true => rfl
     | false => have := hin i hi hc; simp at this
   refine ⟨?_, hdone listed st a w g hli hst hv hp⟩
   cases hr : Region.ready .any ops listed with
   | nil => rfl
   | cons i r =>
     obtain ⟨h1, h2, _⟩ := hready listed hsz i (by rw [hr]; simp)
     rw [hli i h1] at h2
     cases h2
 | succ fuel ih =>
   intro listed left st a w g hsz hle hin hdc hst hv hp
   refine ⟨fun hr => hdone listed st a w g (hall listed hsz hr) hst hv hp, fun i hi => ?_⟩
   obtain ⟨h1, h2, o, ho, hpre⟩ := hready listed hsz i hi
   have hpreds : ∀ t, t < ops.size → ((Region.before ops).getD i 0).testBit t = true → listed.getD t false = true := by
     intro t ht hb
     obtain ⟨o', ho', h3, h4⟩ := hat i h1
     rw [ho] at ho'
     injection ho' with ho'
     subst ho'
     obtain ⟨e, he, hb2, h5⟩ := h4 t ht hb
     have hl2 := hpre e he hb2
     rcases h5 with rfl | h5
     · exact hl2
     · have hes : e.on < ops.size := by
         simp only [Array.all_eq_true, Bool.or_eq_true, Bool.not_eq_true', decide_eq_true_eq] at h3
         obtain ⟨q, hq, rfl⟩ := Array.mem_iff_getElem.1 he
         rcases h3 q hq with h | h
         · rw [hb2] at h; cases h
         · omega
       exact hdc e.on hes hl2 t ht h5
   have hli : l[i]? = some (cins P ok ops o) := by
     rw [hl, List.getElem?_map, Array.getElem?_toList, ho]
     rfl
   have hD : ∀ j, j < ops.size → (fun i => listed.getD i false) j = true → ∀ i, i < j → ((Region.before ops).getD j 0).testBit i = true → (fun i => listed.getD i false) i = true := fun j hj hd t ht hb => hdc j hj hd t (by omega) hb
   have hagree : ∀ k, rdK (cins P ok ops o) (fxs i) k ∨ wrK (cins P ok ops o) (fxs i) k → vw st k = vw (sts i) k := by
     intro k hk
     rw [hv k]
     refine z0o A hD h1 h2 (fun t ht hb => hpreds t (by omega) hb) (k := k) ?_
     rcases hk with hk | hk
     · exact .inl ⟨_, hli, hk⟩
     · exact .inr ⟨_, hli, hk⟩
   obtain ⟨st2, e1, e2, e3, _⟩ := zqu (hcalm _ (List.mem_of_getElem? hli)) (hs i _ hli) hagree
   refine zuk hcx hok hst ho e1 fun a' w' g' hst' hstep => ?_
   refine ih (listed.setIfInBounds i true) (left.erase i) st2 a' w' g' (by simpa using hsz) ?_ ?_ ?_ hst' ?_ (hp.trans hst.inv hstep.path)
   · have := List.length_erase_of_mem (hin i h1 h2)
     omega
   · intro t ht hc
     have hti : t ≠ i := by
       rintro rfl
       simp [Array.getD_eq_getD_getElem?, hsz, h1] at hc
     have hc' : listed.getD t false = false := by
       simp only [Array.getD_eq_getD_getElem?] at hc ⊢
       rwa [Array.getElem?_setIfInBounds_ne (Ne.symm hti)] at hc
     exact (List.mem_erase_of_ne hti).2 (hin t ht hc')
   · have hset : ∀ t, (listed.setIfInBounds i true).getD t false = true ↔ listed.getD t false = true ∨ t = i := by
       intro t
       by_cases hti : t = i
       · subst hti
         simp [Array.getD_eq_getD_getElem?, hsz, h1]
       · simp only [Array.getD_eq_getD_getElem?]
         rw [Array.getElem?_setIfInBounds_ne (Ne.symm hti)]
         simp [hti]
     intro j hj hd t ht hb
     rw [hset] at hd ⊢
     rcases hd with hd | rfl
     · exact .inl (hdc j hj hd t ht hb)
     · exact .inl (hpreds t ht hb)
   · intro k
     have hset : ∀ t, (fun i_1 => (listed.setIfInBounds i true).getD i_1 false) t = true ↔ (fun i => listed.getD i false) t = true ∨ t = i := by
       intro t
       by_cases hti : t = i
       · subst hti
         simp [Array.getD_eq_getD_getElem?, hsz, h1]
       · simp only [Array.getD_eq_getD_getElem?]
         rw [Array.getElem?_setIfInBounds_ne (Ne.symm hti)]
         simp [hti]
     obtain ⟨s1, s2⟩ := zt3 A hD h1 h2 hset k
     by_cases hw : wrK (cins P ok ops o) (fxs i) k
     · rw [e2 k hw, s1 ⟨_, hli, hw⟩]
     · rw [e3 k hw, s2 (by rintro ⟨x, hx, hx2⟩; rw [hli] at hx; injection hx with hx; subst hx; exact hw hx2), hv k]
theorem zpm (hcx : CxOk P cx) (hm : P.follows .mixedOrders = true) (ok : Ok) (n : Nat) (fxv : Nat → Option Value) (Z : Nat → Prop) (hok : ze9 ok n fxv) : zl9 P cx ok n fxv Z := by
 intro ro ops st r a w g id Q hdo had hap hst hQ
 obtain ⟨_, sts, fxs, h0, hn, hs⟩ := zlx _ [] st r had
 have hlen : (ops.toList.map (cins P ok ops)).length = ops.size := by simp
 have hs1 : ∀ i x, (ops.toList.map (cins P ok ops))[i]? = some x → ains cx x (sts i) = some (sts (i + 1), fxs i) ∧ r.2[i]? = some (fxs i) := fun i x hx => by simpa using hs i x hx
 have A := zr8 hlen hdo hap (zil had) hs1
 refine wpIn_region_any hm ?_
 have hstep : Step w { w with drawn := w.drawn + 1 } Z st.hp st.hp g g := step_more hst.inv rfl rfl rfl (Nat.le_refl _) fun _ _ => rfl
 rw [hlen] at hn
 refine zwk hcx hok rfl hdo (zil had) (fun i x hx => (hs1 i x hx).1) A (w0 := w) (hp0 := st.hp) (g0 := g) (fun a' w' g' h1 h2 => hQ a' w' g' (by rw [← hn]; exact h1) (by rw [← hn]; exact h2)) ops.size (Array.replicate ops.size false) (List.range ops.size) st a _ g (by simp) (by simp) (fun i hi _ => by simpa using hi) ?_ ⟨hstep.inv, hst.slots.ext hstep.ext, hst.size, hst.defers, hst.fix⟩ ?_ hstep.path
 · intro j hj hd
   exfalso
   have hf : (Array.replicate ops.size false).getD j false = false := by
     simp only [Array.getD_eq_getD_getElem?, Array.getElem?_replicate]
     split <;> rfl
   rw [hf] at hd
   cases hd
 · intro k
   have hf : ∀ (i : Nat), (Array.replicate ops.size false).getD i false = false := by
     intro i
     simp only [Array.getD_eq_getD_getElem?, Array.getElem?_replicate]
     split <;> rfl
   have hz : ∀ m, ze2 (fun i k => ∃ x, (ops.toList.map (cins P ok ops))[i]? = some x ∧ wrK x (fxs i) k) (fun i => (Array.replicate ops.size false).getD i false) k m = 0 := by
     intro m
     induction m with
     | zero => rfl
     | succ m ih =>
       rw [ze2, if_neg, ih]
       rintro ⟨h, _⟩
       rw [hf] at h
       cases h
   unfold seen
   rw [hz]
   show vw st k = vw (sts 0) k
   rw [h0]
end
end Go.Abs
end
