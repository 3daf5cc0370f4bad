/-
 Own work. An abstract machine for the loaded programs, and that it is sound: many texts, merged by program.
-/
import Derived.Test.YtgeaibhgaihobaaGreatDoorFa
import Derived.Laws.CopyRow
import Derived.Laws.Append
import Derived.Laws.AppendOwn
import Derived.Deep.AppendSrc
import Derived.Laws.MakeOwn
import Derived.Laws.Tables
import Derived.Laws.BytesString
import Derived.Great.FillDense
import Derived.Great.BuildSlice
import Derived.Laws.Strings
import Derived.Laws.Cover3
import Derived.Laws.Pointers
import Derived.Laws.Small
import Derived.MapKept
set_option linter.unusedSimpArgs false
set_option linter.unusedVariables false
section
set_option linter.unusedSimpArgs false
set_option linter.unusedVariables false
namespace Go.Abs
theorem zo1 {P : Program} {t : TypeId} {c : Bool} (h : zjo P t = some c) (w : World) : (isAgg t).run P w = .ok c w := by
 unfold zjo at h
 cases hu : P.underlying t with
 | none => simp [hu] at h
 | some d =>
   rw [hu] at h
   simp only [Option.map_some, Option.some.injEq] at h
   unfold isAgg
   rw [Sem.run_bind, run_underlying hu w]
   subst h
   cases d <;> rfl
theorem zge {P : Program} {t : TypeId} {n : Nat} (h : szOf P t = some n) (w : World) : (Go.sizeOf t).run P w = .ok n w := by
 unfold szOf at h
 cases hi : P.info? t with
 | none => simp [hi] at h
 | some i =>
   rw [hi] at h
   simp only [Option.map_some, Option.some.injEq] at h
   simp [Go.sizeOf, typeInfo, hi, h]
theorem zb8 {P : Program} {t e : TypeId} (h : zdw P t = some e) : P.underlying t = some (.slice e) := by
 unfold zdw at h
 split at h
 · rename_i e' hu; injection h with h; subst h; exact hu
 · cases h
theorem zqr {E : Env} : ∀ {v : Value} {a : AV}, cval v = some a → Rep E a v ∧ flat a = true := by
 intro v a h
 cases v <;> simp only [cval] at h
 case bool c => injection h with h; subst h; simp [Rep, flat]
 case int k n => injection h with h; subst h; simp [Rep, flat]
 case string s => injection h with h; subst h; simp [Rep, flat]
 case pointer x =>
   cases x
   · simp only [cval] at h; injection h with h; subst h; simp [Rep, flat]
   · simp [cval] at h
 case slice x n c =>
   cases x
   · cases n
     · cases c
       · simp only [cval] at h; injection h with h; subst h; simp [Rep, flat, flatEs, za2]
       · simp [cval] at h
     · simp [cval] at h
   · simp [cval] at h
 case nilFunc => injection h with h; subst h; simp [Rep, flat]
 case tuple vs =>
   split at h
   · injection h with h
     subst h
     rename_i h0
     have : vs = #[] := by simpa using h0
     subst this
     simp [Rep, Abs.undef, Reps, flat, flats]
   · cases h
 all_goals first
   | cases h
   | (split at h <;> cases h)
theorem zkf {E : Env} : ∀ {l : List Value} {as : List AV}, cvals l = some as → Reps E as l ∧ flats as = true
 | [], as, h => by simp only [cvals, Option.some.injEq] at h; subst h; simp [Reps, flats]
 | v :: r, as, h => by
   simp only [cvals] at h
   split at h
   · rename_i a l h1 h2
     injection h with h
     subst h
     obtain ⟨e1, e2⟩ := zqr (E := E) h1
     obtain ⟨e3, e4⟩ := zkf (E := E) h2
     simp only [Reps, flats, e2, e4, Bool.and_true, and_true]
     exact ⟨v, r, rfl, e1, e3⟩
   · cases h
theorem zqn {E : Env} {v : Value} {a : AV} (h : cagg v = some a) : Rep E a v ∧ flat a = true := by
 unfold cagg at h
 split at h
 · rename_i cs
   split at h
   · rename_i l h1
     split at h
     · rename_i ho
       injection h with h
       subst h
       obtain ⟨e1, e2⟩ := zkf (E := E) h1
       simp only [Rep, flat]
       exact ⟨⟨cs, rfl, ho, e1⟩, e2⟩
     · cases h
   · cases h
 · exact zqr h
theorem zck {P : Program} {t : TypeId} {z : List AV} (h : zeroOf P t = some z) : ∃ i v, P.info? t = some i ∧ i.zero = some v ∧ (∀ E, Reps E z v.cells.toList) ∧ flats z = true ∧ ones z = true ∧ ∀ w, (zeroValue t).run P w = .ok v w := by
 unfold zeroOf at h
 split at h
 · rename_i i hi
   split at h
   · rename_i v hv
     split at h
     · rename_i l hl
       split at h
       · rename_i hc
         injection h with h
         subst h
         simp only [Bool.and_eq_true] at hc
         exact ⟨i, v, hi, hv, fun E => (zkf hl).1, hc.1, hc.2, fun w => by simp [zeroValue, typeInfo, hi, hv]⟩
       · cases h
     · cases h
   · cases h
 · cases h
def SlotsRep (E : Env) (s : Sl) (a : Act) : Prop := ∀ t, Rep E (get s t) (a.tmps.getD t Go.undef)
theorem zah {E : Env} {s : Sl} {a : Act} (hs : SlotsRep E s a) {x : Operand} {x' : Opd} (h : copd x = some x') : Rep E (ev s x') (a.eval x) := by
 cases x with
 | tmp t => simp only [copd, Option.some.injEq] at h; subst h; exact hs t
 | const v =>
   simp only [copd, Option.map_eq_some_iff] at h
   obtain ⟨b, h1, rfl⟩ := h
   exact (zqn h1).1
 | func f =>
   simp only [copd] at h
   split at h
   · rename_i hf
     injection h with h
     subst h
     show Rep E (.fn f []) (.func (.func f) #[] #[])
     simp [Rep, Reps, hf]
   · cases h
 | global g => cases h
theorem zc9 {E : Env} {s : Sl} {a : Act} (hs : SlotsRep E s a) : ∀ {l : List Operand} {l' : List Opd}, copds l = some l' → Reps E (evs s l') (l.map a.eval)
 | [], l', h => by simp only [copds, Option.some.injEq] at h; subst h; simp [evs, Reps]
 | x :: r, l', h => by
   simp only [copds] at h
   split at h
   · rename_i x' r' h1 h2
     injection h with h
     subst h
     simp only [evs, List.map_cons, Reps]
     exact ⟨_, _, rfl, zah hs h1, zc9 hs h2⟩
   · cases h
theorem get_put {s : Sl} {d : Nat} {v : AV} {t : Nat} : get (put s (some d) v) t = if t = d then v else get s t := rfl
theorem SlotsRep.put {E : Env} {s : Sl} {a : Act} (hs : SlotsRep E s a) {dst : Option Nat} {v : AV} {u : Value} (hd : ∀ d, dst = some d → d < a.tmps.size) (hv : Rep E v u) : SlotsRep E (Abs.put s dst v) (a.put dst u) := by
 cases dst with
 | none => exact hs
 | some d =>
   intro t
   rw [get_put]
   simp only [Act.put]
   by_cases e : t = d
   · subst e
     have := hd t rfl
     simp [this, hv]
   · rw [if_neg e]
     have := hs t
     simp only [Array.getD_eq_getD_getElem?] at this ⊢
     rw [Array.getElem?_setIfInBounds_ne (by omega)]
     exact this
theorem SlotsRep.ext {E E' : Env} (h : Ext E E') {s : Sl} {a : Act} (hs : SlotsRep E s a) : SlotsRep E' s a := fun t => Rep.ext h _ _ (hs t)
theorem zb5 (b off n : Nat) : (⟨b, off, none⟩ : Addr).add n = ⟨b, off + n, none⟩ := by
 unfold Addr.add
 split
 · rename_i h; simp [h]
 · rfl
def CellsIn (w : World) (b off : Nat) (vs : List Value) : Prop := ∀ j v, vs[j]? = some v → w.cell? ⟨b, off + j, none⟩ = some v
theorem CellsIn.drop {w : World} {b off : Nat} {vs : List Value} (h : CellsIn w b off vs) (n : Nat) : CellsIn w b (off + n) (vs.drop n) := by
 intro j v hv
 rw [List.getElem?_drop] at hv
 have := h _ _ hv
 rwa [← Nat.add_assoc] at this
theorem CellsIn.take {w : World} {b off : Nat} {vs : List Value} (h : CellsIn w b off vs) (n : Nat) : CellsIn w b off (vs.take n) := by
 intro j v hv
 rw [List.getElem?_take] at hv
 split at hv
 · exact h _ _ hv
 · cases hv
theorem CellsIn.of_row {w : World} {gb : Nat} {arr : Array Value} {ty : TypeId} {fr : Nat × Nat} (h : w.heap[gb]? = some (.cells arr ty fr)) {vs rest : List Value} (he : arr.toList = vs ++ rest) : CellsIn w gb 0 vs := by
 intro j v hv
 rw [cell_of_row w gb _ arr ty fr h, ← Array.getElem?_toList, he]
 have hlt := (List.getElem?_eq_some_iff.1 hv).1
 rw [Nat.zero_add, List.getElem?_append_left hlt]
 exact hv
theorem zpe {P : Program} {t : TypeId} {c : Bool} {n : Nat} (hc : zjo P t = some c) (hn : szOf P t = some n) {w : World} {b off : Nat} {vs : List Value} (h : CellsIn w b off vs) (hl : n ≤ vs.length) (h1 : c = true ∨ n = 1) :
   (loadVar t ⟨b, off, none⟩).run P w = .ok (if c = true then .agg (vs.take n).toArray else vs.headD Go.undef) w := by
 unfold loadVar
 rw [Sem.run_bind, zo1 hc w, Result.andThen_ok]
 cases c with
 | true =>
   simp only [if_true, Sem.run_bind, zge hn w, Result.andThen_ok]
   have hcs : (loadCells ⟨b, off, none⟩ (vs.take n).length).run P w = .ok (vs.take n).toArray w :=
     run_loadCells_list (P := P) w ⟨b, off, none⟩ (vs.take n) (fun j v hv => by rw [zb5]; exact h.take n j v hv)
   rw [List.length_take, Nat.min_eq_left hl] at hcs
   rw [hcs]
   rfl
 | false =>
   have hn1 : n = 1 := by simpa using h1
   subst hn1
   cases vs with
   | nil => simp at hl
   | cons v r =>
     have := h 0 v rfl
     simp only [Nat.add_zero] at this
     simp [run_load, this]
theorem zfc {c : Bool} {n : Nat} {cs : List AV} {hp : Hp} {rd : List Nat} {fx : Fx} (h : load1 c n cs hp rd = some fx) (h1 : c = true ∨ n = 1) :
   n ≤ cs.length ∧ fx.hp = hp ∧ fx.rd = rd ∧ fx.wr = [] ∧ ((c = true ∧ fx.val = .agg (cs.take n)) ∨ (c = false ∧ ∃ v r, cs = v :: r ∧ fx.val = v)) := by
 unfold load1 at h
 rw [zac] at h
 obtain ⟨h0, h⟩ := h
 cases c with
 | true => simp only [way, Option.some.injEq] at h; subst h; exact ⟨h0, rfl, rfl, rfl, .inl ⟨rfl, rfl⟩⟩
 | false =>
   simp only [way, zaa, Option.some.injEq] at h
   obtain ⟨v, hv, rfl⟩ := h
   cases cs with
   | nil => simp at hv
   | cons x r => simp at hv; subst hv; exact ⟨h0, rfl, rfl, rfl, .inr ⟨rfl, _, _, rfl, rfl⟩⟩
theorem zoq {P : Program} {t : TypeId} {c : Bool} {n : Nat} (hc : zjo P t = some c) (hn : szOf P t = some n) (h1 : c = true ∨ n = 1) {E : Env} {b off : Nat} {vs : List Value} (h : CellsIn E.w b off vs) {cs : List AV} (hr : Reps E cs vs) (ho : ones cs = true)
   {hp : Hp} {rd : List Nat} {fx : Fx} (hf : load1 c n cs hp rd = some fx) : ∃ v, (loadVar t ⟨b, off, none⟩).run P E.w = .ok v E.w ∧ Rep E fx.val v := by
 obtain ⟨h0, _, _, _, h2⟩ := zfc hf h1
 have hl := hr.length
 refine ⟨_, zpe hc hn h (by omega) h1, ?_⟩
 rcases h2 with ⟨rfl, e⟩ | ⟨rfl, v, r, rfl, e⟩
 · rw [e, if_pos rfl]
   simp only [Rep]
   exact ⟨_, rfl, zgh ho fun x hx => List.mem_of_mem_take hx, by simpa using hr.take n⟩
 · rw [e, if_neg (by simp)]
   simp only [Reps] at hr
   obtain ⟨u, vs', rfl, h3, _⟩ := hr
   simpa using h3
theorem zqj {E : Env} (hi : Inv E) {key ver el off : Nat} {pv : Value} {b : Blk} {cs : List AV} (hp : Rep E (.pt key ver el off) pv) (hb : E.L key = some b) (hv : b.ver = ver) (hm : b.mp = false) (hc : b.es[el]? = some cs) :
   ∃ vs, pv = .pointer (some ⟨E.g key, el * b.sz + off, none⟩) ∧ CellsIn E.w (E.g key) (el * b.sz + off) vs ∧ Reps E (cs.drop off) vs ∧ ones cs = true ∧ Real b := by
 simp only [Rep] at hp
 obtain ⟨_, ad, rfl, h2⟩ := hp
 obtain ⟨h3, rfl⟩ := h2 b hb hv
 obtain ⟨_, hrow, hbox, _⟩ := hi.blk key b hb
 cases hr : b.row with
 | true =>
   obtain ⟨r1, r2, r3⟩ := hrow hr
   have hne : b.es ≠ [] := by rintro e; rw [e] at hc; simp at hc
   obtain ⟨arr, vs, rest, k1, k2, k3⟩ := r3 hne
   obtain ⟨e1, e2⟩ := k3.get hc
   refine ⟨((vs.drop (el * b.sz)).take b.sz).drop off, rfl, ?_, e2.drop off, zau.1 r2 cs (List.mem_of_getElem? hc), .inr hne⟩
   have := (((CellsIn.of_row k1 k2).drop (el * b.sz)).take b.sz).drop off
   simpa using this
 | false =>
   obtain ⟨cs2, arr, ty, e1, e2, e3, e4⟩ := hbox hr hm
   have hel := h3 hr
   subst hel
   rw [e1] at hc
   simp at hc
   subst hc
   refine ⟨arr.toList.drop off, rfl, ?_, e4.drop off, e2, .inl hr⟩
   have := (CellsIn.of_row e3 (show arr.toList = arr.toList ++ [] by simp)).drop off
   simpa using this
theorem zq2 {P : Program} {t : TypeId} {c : Bool} {n : Nat} (hc : zjo P t = some c) (hn : szOf P t = some n) (h1 : c = true ∨ n = 1) {w : World} {Z : Nat → Prop} {hp : Hp} {g : Gm} (hi : Inv (Env.of w Z hp g)) {a : AV} {pv : Value} (hr : Rep (Env.of w Z hp g) a pv)
   {fx : Fx} (hf : zlf c n hp a = some fx) : fx.hp = hp ∧ ∃ v, (Instr.loadAt t pv).run P w = .ok v w ∧ Rep (Env.of w Z hp g) fx.val v := by
 cases a <;> simp only [zlf] at hf <;> try cases hf
 case pt key ver el off =>
   simp only [zaa, zat, zac] at hf
   obtain ⟨b, ⟨hb, hv⟩, hm, cs, hcs, hf⟩ := hf
   obtain ⟨vs, rfl, k1, k2, k3, _⟩ := zqj hi hr hb hv hm hcs
   obtain ⟨v, e1, e2⟩ := zoq hc hn h1 k1 k2 (zgh k3 fun x hx => List.mem_of_mem_drop hx) hf
   exact ⟨(zfc hf h1).2.1, v, by simp only [Instr.loadAt, Instr.sureAddr, Sem.run_bind, Sem.run_pure, Result.andThen_ok]; exact e1, e2⟩
 case ip cs =>
   simp only [Rep] at hr
   obtain ⟨b, off, vs, rfl, k1, k2, k3, k4⟩ := hr
   obtain ⟨v, e1, e2⟩ := zoq hc hn h1 (fun j v hv => (k3 j v hv).1) k4 k2 hf
   exact ⟨(zfc hf h1).2.1, v, by simp only [Instr.loadAt, Instr.sureAddr, Sem.run_bind, Sem.run_pure, Result.andThen_ok]; exact e1, e2⟩
end Go.Abs
end
section
set_option linter.unusedSimpArgs false
set_option linter.unusedVariables false
namespace Go.Abs
theorem zh3 : ∀ (l : List AV) (n : Nat) (cs : List AV), n ≤ l.length → splice l n cs = l.take n ++ (cs ++ l.drop (n + cs.length))
 | l, 0, cs, _ => by simp [splice]
 | [], n + 1, cs, h => by simp at h
 | x :: r, n + 1, cs, h => by
   simp only [splice, List.take_succ_cons, List.cons_append]
   rw [zh3 r n cs (by simpa using h), show n + 1 + cs.length = (n + cs.length) + 1 by omega]
   simp
theorem zna {l : List AV} {n : Nat} {cs : List AV} (h : n + cs.length ≤ l.length) : (splice l n cs).length = l.length := by
 rw [zh3 l n cs (by omega)]
 simp only [List.length_append, List.length_take, List.length_drop]
 omega
theorem zgo {l : List AV} {n : Nat} {cs : List AV} (h : n ≤ l.length) {x : AV} (hx : x ∈ splice l n cs) : x ∈ l ∨ x ∈ cs := by
 rw [zh3 l n cs h] at hx
 rcases List.mem_append.1 hx with hx | hx
 · exact .inl (List.mem_of_mem_take hx)
 · rcases List.mem_append.1 hx with hx | hx
   · exact .inr hx
   · exact .inl (List.mem_of_mem_drop hx)
theorem zij {E : Env} {l cs : List AV} {vs us : List Value} {n : Nat} (h : Reps E l vs) (k : Reps E cs us) (hn : n ≤ l.length) : Reps E (splice l n cs) (vs.take n ++ (us ++ vs.drop (n + us.length))) := by
 rw [zh3 l n cs hn, k.length]
 exact (h.take n).append (k.append (h.drop _))
theorem RepEs.set {E : Env} {sz : Nat} {es : List (List AV)} {vs : List Value} {n : Nat} {e : List AV} {us : List Value} (h : RepEs E sz es vs) (hn : n < es.length) (hl : e.length = sz) (hu : Reps E e us) :
   RepEs E sz (es.set n e) (vs.take (n * sz) ++ (us ++ vs.drop ((n + 1) * sz))) := by
 rw [List.set_eq_take_append_cons_drop, if_pos hn]
 refine (h.take n).append ?_
 have := h.drop (n + 1)
 have h1 : RepEs E sz [e] us := by
   simp only [RepEs]
   exact ⟨us, [], by simp, hl, hu, rfl⟩
 exact h1.append this
theorem zuw (l u : List Value) (a b n : Nat) (h1 : b + u.length ≤ n) (h2 : a + n ≤ l.length) :
   l.take a ++ (((l.drop a).take n).take b ++ (u ++ ((l.drop a).take n).drop (b + u.length)) ++ l.drop (a + n)) = l.take (a + b) ++ (u ++ l.drop (a + b + u.length)) := by
 have e1 : ((l.drop a).take n).take b = (l.drop a).take b := by rw [List.take_take, Nat.min_eq_left (by omega)]
 have e2 : ((l.drop a).take n).drop (b + u.length) ++ l.drop (a + n) = l.drop (a + b + u.length) := by
   have h3 : l.drop (a + n) = (l.drop a).drop n := by rw [List.drop_drop]
   have h4 : l.drop (a + b + u.length) = (l.drop a).drop (b + u.length) := by rw [List.drop_drop, Nat.add_assoc]
   rw [h3, h4]
   generalize l.drop a = m
   have h5 : m.drop n = (m.drop (b + u.length)).drop (n - (b + u.length)) := by rw [List.drop_drop]; congr 1; omega
   rw [List.drop_take, h5, List.take_append_drop]
 rw [e1]
 have e3 : l.take (a + b) = l.take a ++ (l.drop a).take b := by rw [List.take_add]
 rw [e3, ← e2]
 simp only [List.append_assoc]
theorem zb4 (arr : Array Value) (o : Nat) (us : List Value) (h : o + us.length ≤ arr.size) : (arr.toList.take o ++ us ++ arr.toList.drop (o + us.length)).toArray.size = arr.size := by
 simp only [List.size_toArray, List.length_append, List.length_take, List.length_drop, Array.length_toList]
 omega
theorem zc8 {P : Program} {w : World} {gb o : Nat} {us : List Value} {cur : Array Value} {t : TypeId} (hg : w.heap[gb]? = some (.cells cur t (0, 0))) (hl : o + us.length ≤ cur.size) (h1 : ∀ v ∈ us, v.oneCell' = true) :
   (storeCells ⟨gb, o, none⟩ us).run P w = .ok () (w.setRow gb (cur.toList.take o ++ us ++ cur.toList.drop (o + us.length)).toArray) := by
 have := run_storeCells_at (P := P) gb o t us 0 cur w hg (by simpa using hl) h1
 simpa using this
theorem zjb {P : Program} {w : World} {gb o n : Nat} {v : Value} {us : List Value} {cur : Array Value} {t : TypeId} {ty : TypeId} (hn : szOf P ty = some n) (hu : v.cells.toList = us) (hus : us.length = n) (hg : w.heap[gb]? = some (.cells cur t (0, 0))) (hl : o + us.length ≤ cur.size) (h1 : ∀ v ∈ us, v.oneCell' = true) :
   (storeVar ty ⟨gb, o, none⟩ v).run P w = .ok () (w.setRow gb (cur.toList.take o ++ us ++ cur.toList.drop (o + us.length)).toArray) := by
 unfold storeVar
 have hs : v.cells.size = n := by rw [← hus, ← hu, Array.length_toList]
 simp only [Sem.run_bind, zge hn w, Result.andThen_ok, hs, ne_eq, not_true_eq_false, if_false, hu]
 exact zc8 hg hl h1
theorem zl8 {a : AV} {xs : List AV} (h : cells a = some xs) (hf : flat a = true) : flats xs = true := by
 cases a
 case agg cs =>
   simp only [cells, Option.some.injEq] at h
   subst h
   simpa only [flat] using hf
 case tup cs => simp [cells] at h
 case junk => simp [cells] at h
 all_goals
   simp only [cells, Option.some.injEq] at h
   subst h
   simp only [flats, hf, Bool.and_true]
theorem zkk {α : Type} {l : List α} {n : Nat} {a x : α} (h : x ∈ l.set n a) : x ∈ l ∨ x = a := by
 rcases List.mem_or_eq_of_mem_set h with h | h
 · exact .inl h
 · exact .inr h
theorem zog {P : Program} {ty : TypeId} {n : Nat} (hn : szOf P ty = some n) {w : World} {Z : Nat → Prop} {hp : Hp} {g : Gm} (hi : Inv (Env.of w Z hp g)) {key ver el off : Nat} {pv v : Value} {a : AV} {b : Blk} (hr : Rep (Env.of w Z hp g) (.pt key ver el off) pv)
   (hb : look hp key = some b) (hv : b.ver = ver) (hm : b.mp = false) (ha : Rep (Env.of w Z hp g) a v) (hflat : b.row = true → b.dp = false → flat a = true) {ks : List Nat} {fx : Fx} (hf : store1 n key el off a b hp ks = some fx) :
   ∃ w', (Instr.storeAt ty pv v).run P w = .ok () w' ∧ Step w w' Z hp fx.hp g g := by
 unfold store1 at hf
 simp only [zaa, zac, Option.some.injEq] at hf
 obtain ⟨cs, hcs, xs, hxs, ⟨hl, hoff⟩, rfl⟩ := hf
 obtain ⟨hox, hrx⟩ := Rep.cells ha hxs
 obtain ⟨vs0, rfl, k1, k2, k3, hreal⟩ := zqj hi hr hb hv hm hcs
 have hone := Reps.oneCell hox hrx
 have hlen := hrx.length
 obtain ⟨_, hrow, hbox, _⟩ := hi.blk key b hb
 have hel : el < b.es.length := (List.getElem?_eq_some_iff.1 hcs).1
 simp only [Instr.storeAt, Instr.sureAddr, Sem.run_bind, Sem.run_pure, Result.andThen_ok]
 by_cases hbr : b.row = true
 · obtain ⟨r1, r2, r3⟩ := hrow hbr
   have hne : b.es ≠ [] := by rintro e; rw [e] at hcs; simp at hcs
   obtain ⟨arr, vs, rest, q1, q2, q3⟩ := r3 hne
   obtain ⟨e1, e2⟩ := q3.get hcs
   have hvl := q3.length
   have hsize : arr.size = vs.length + rest.length := by rw [← Array.length_toList, q2, List.length_append]
   have hmul : el * b.sz + b.sz ≤ vs.length := by rw [hvl, ← Nat.succ_mul]; exact Nat.mul_le_mul_right _ hel
   have hle : el * b.sz + off + v.cells.toList.length ≤ arr.size := by omega
   refine ⟨_, zjb hn rfl (by omega) q1 hle hone, ?_⟩
   obtain ⟨hE, hS⟩ := zgm (b := { b with es := b.es.set el (splice cs off xs) }) hi hb hreal rfl rfl (fun _ => ⟨rfl, rfl, by simp⟩) q1 (zb4 arr _ _ hle)
   refine hS ⟨fun _ => ⟨?_, ?_, fun _ => ?_⟩, BlkRep.rest hbr⟩
   · intro hd
     have r1 := r1 hd
     refine zav.2 fun x hx => ?_
     rcases zkk hx with hx | rfl
     · exact zav.1 r1 x hx
     · refine zf3.2 fun y hy => ?_
       rcases zgo (by omega) hy with hy | hy
       · exact zf3.1 (zav.1 r1 cs (List.mem_of_getElem? hcs)) y hy
       · have hfa := hflat hbr hd
         exact zf3.1 (zl8 hxs hfa) y hy
   · refine zau.2 fun x hx => ?_
     rcases zkk hx with hx | rfl
     · exact zau.1 r2 x hx
     · refine zdi.2 fun y hy => ?_
       rcases zgo (by omega) hy with hy | hy
       · exact zdi.1 k3 y hy
       · exact zdi.1 hox y hy
   · have h1 := (q3.ext hE)
     have h2 := zij (e2.ext hE) (hrx.ext hE) (n := off) (by omega)
     have h3 := h1.set hel (by rw [zna (by omega)]; exact e1) h2
     refine ⟨_, _, rest, setRow_heap w (g key) arr _ b.ty (0, 0) q1, ?_, h3⟩
     simp only [List.toList_toArray]
     have hd : (el + 1) * b.sz = el * b.sz + b.sz := Nat.succ_mul _ _
     rw [hd, zuw vs v.cells.toList (el * b.sz) off b.sz (by omega) (by omega)]
     rw [q2, List.take_append_of_le_length (by omega), List.drop_append_of_le_length (by omega)]
     simp only [List.append_assoc]
 · obtain ⟨cs2, arr, t2, e1, e2, e3, e4⟩ := hbox (by simpa using hbr) hm
   have hel0 : el = 0 := by rw [e1] at hel; simp at hel; exact hel
   subst hel0
   rw [e1] at hcs
   simp at hcs
   subst hcs
   have hle : 0 * b.sz + off + v.cells.toList.length ≤ arr.size := by
     have := e4.length
     rw [Array.length_toList] at this
     omega
   refine ⟨_, zjb hn rfl (by omega) e3 hle hone, ?_⟩
   obtain ⟨hE, hS⟩ := zgm (b := { b with es := b.es.set 0 (splice cs2 off xs) }) hi hb hreal rfl rfl (fun _ => ⟨rfl, rfl, by simp⟩) e3 (zb4 arr _ _ hle)
   refine hS ⟨fun h => absurd h hbr, fun _ _ => ⟨splice cs2 off xs, _, t2, by simp [e1], ?_, setRow_heap w (g key) arr _ t2 (0, 0) e3, ?_⟩, fun _ h => by rw [show b.mp = true from h] at hm; cases hm⟩
   · refine zdi.2 fun y hy => ?_
     rcases zgo (by omega) hy with hy | hy
     · exact zdi.1 e2 y hy
     · exact zdi.1 hox y hy
   · have h2 := zij (e4.ext hE) (hrx.ext hE) (n := off) (by omega)
     simpa using h2
theorem zuq {w : World} {Z : Nat → Prop} {hp hp' : Hp} {g : Gm} (hi : Inv (Env.of w Z hp g)) {a a' : AV} {v : Value} (hr : Rep (Env.of w Z hp g) a v) {ks : List Nat} (h : frz a hp = some (a', ks, hp')) :
   Step w w Z hp hp' g g ∧ flat a' = true ∧ Rep (Env.of w Z hp' g) a' v := by
 unfold frz at h
 cases hf : flat a with
 | true =>
   rw [hf] at h
   simp only [way, Option.some.injEq, Prod.mk.injEq] at h
   obtain ⟨rfl, rfl, rfl⟩ := h
   exact ⟨Step.refl hi, hf, hr⟩
 | false =>
   rw [hf] at h
   simp only [way] at h
   obtain ⟨F, p1, p2, _, p4⟩ := zfa FUEL false Z .none a v hp a' ks hp' h hi hr
   have hfl := p4 rfl
   obtain ⟨q1, rfl⟩ := RepP.to_flat _ _ _ hfl p2
   refine ⟨Step.of_pack p1, hfl, Rep.flat (E := Env.imm w _) (E' := Env.of w Z hp' g) rfl (fun i hx => ?_) _ _ hfl q1⟩
   rw [Env.imm_X]
   exact .inl hx
theorem zin {k : Nat} : ∀ (n : Nat) (own : Bool) (h : H) (a : AV) (hp : Hp) (a' : AV) (ks : List Nat) (hp' : Hp), pack own n h a hp = some (a', ks, hp') → k ∉ ks → look hp' k = look hp k := by
 intro n
 induction n with
 | zero => intro own h a hp a' ks hp' e; simp [pack] at e
 | succ n ih =>
   have mp : ∀ (own : Bool) (as : List AV) (hs : List H) (hp : Hp) (as' : List AV) (ks : List Nat) (hp' : Hp), zax (pack own n) hs as hp = some (as', ks, hp') → k ∉ ks → look hp' k = look hp k := by
     intro own as
     induction as with
     | nil =>
       intro hs hp as' ks hp' e hk
       have e0 : zax (pack own n) hs [] hp = some ([], [], hp) := by unfold zax; rfl
       rw [e0] at e
       simp only [Option.some.injEq, Prod.mk.injEq] at e
       rw [e.2.2]
     | cons a r ihr =>
       intro hs hp as' ks hp' e hk
       simp only [zax, zaa, Option.some.injEq, Prod.mk.injEq] at e
       obtain ⟨⟨a1, k1, hp1⟩, h1, ⟨r1, k2, hp2⟩, h2, _, rfl, rfl⟩ := e
       simp only [List.mem_append, not_or] at hk
       rw [ihr _ _ _ _ _ h2 hk.2, ih _ _ _ _ _ _ _ h1 hk.1]
   have mpE : ∀ (own : Bool) (es : List (List AV)) (hp : Hp) (es' : List (List AV)) (ks : List Nat) (hp' : Hp), zaf (pack own n) es hp = some (es', ks, hp') → k ∉ ks → look hp' k = look hp k := by
     intro own es
     induction es with
     | nil =>
       intro hp es' ks hp' e hk
       simp only [zaf, Option.some.injEq, Prod.mk.injEq] at e
       rw [e.2.2]
     | cons a r ihr =>
       intro hp es' ks hp' e hk
       simp only [zaf, zaa, Option.some.injEq, Prod.mk.injEq] at e
       obtain ⟨⟨a1, k1, hp1⟩, h1, ⟨r1, k2, hp2⟩, h2, _, rfl, rfl⟩ := e
       simp only [List.mem_append, not_or] at hk
       rw [ihr _ _ _ _ h2 hk.2, mp _ _ _ _ _ _ _ h1 hk.1]
   intro own h a hp a' ks hp' e hk
   cases a with
   | ms key ver off len =>
     simp only [pack, zaa, zac, zat, Option.some.injEq, Prod.mk.injEq] at e
     obtain ⟨b, _, _, e⟩ := e
     cases hd : b.dp with
     | false =>
       simp only [hd, zbk, Option.some.injEq, Prod.mk.injEq] at e
       obtain ⟨_, rfl, rfl⟩ := e
       rw [zbl, if_neg (by simpa using hk)]
     | true =>
       simp only [hd, zbu] at e
       cases hc : (own && decide (off = 0 ∧ len = b.es.length)) <;> simp only [hc, zbu, zbk, zaa, Option.some.injEq, Prod.mk.injEq] at e
       · obtain ⟨⟨es', ks', hp2⟩, hm, _, rfl, rfl⟩ := e
         simp only [List.mem_cons, not_or] at hk
         rw [mpE _ _ _ _ _ _ hm hk.2, zbl, if_neg hk.1]
       · obtain ⟨⟨es', ks', hp2⟩, hm, _, rfl, rfl⟩ := e
         simp only [List.mem_cons, not_or] at hk
         rw [mpE _ _ _ _ _ _ hm hk.2, zbl, if_neg hk.1]
   | pt key ver el off =>
     simp only [pack, zaa, zac, zat, zkw, Option.some.injEq, Prod.mk.injEq] at e
     obtain ⟨b, _, _, cs, _, ⟨cs', ks', hp2⟩, hm, _, rfl, rfl⟩ := e
     simp only [List.mem_cons, not_or] at hk
     rw [mp _ _ _ _ _ _ _ hm hk.2, zbl, if_neg hk.1]
   | agg cs =>
     simp only [pack, zaa, Option.some.injEq, Prod.mk.injEq] at e
     obtain ⟨⟨cs', ks', hp2⟩, hm, _, rfl, rfl⟩ := e
     exact mp _ _ _ _ _ _ _ hm hk
   | tup cs =>
     simp only [pack, zaa, Option.some.injEq, Prod.mk.injEq] at e
     obtain ⟨⟨cs', ks', hp2⟩, hm, _, rfl, rfl⟩ := e
     exact mp _ _ _ _ _ _ _ hm hk
   | fn f cs =>
     simp only [pack, zaa, Option.some.injEq, Prod.mk.injEq] at e
     obtain ⟨⟨cs', ks', hp2⟩, hm, _, rfl, rfl⟩ := e
     exact mp _ _ _ _ _ _ _ hm hk
   | ow _ _ _ _ => simp [pack] at e
   | bx _ => simp [pack] at e
   | om _ => simp [pack] at e
   | od _ _ _ _ => simp [pack] at e
   | yl => simp [pack] at e
   | yq => simp [pack] at e
   | mr key ver =>
     simp only [pack, zaa, zac, zat, Option.some.injEq, Prod.mk.injEq] at e
     obtain ⟨b, _, _, _, rfl, rfl⟩ := e
     rw [zbl, if_neg (by simpa using hk)]
   | sl s z es => cases s <;> cases es <;> simp only [pack, Option.some.injEq, Prod.mk.injEq] at e <;> rw [e.2.2]
   | _ =>
     simp only [pack, Option.some.injEq, Prod.mk.injEq] at e
     rw [e.2.2]
theorem zs5 {w : World} {Z : Nat → Prop} {hp hp' : Hp} {g : Gm} {a a' : AV} {ks : List Nat} (h : frz a hp = some (a', ks, hp')) {k : Nat} (hk : k ∉ ks) : look hp' k = look hp k := by
 have key := @zin k
 unfold frz at h
 cases hf : flat a with
 | true =>
   rw [hf] at h
   simp only [way, Option.some.injEq, Prod.mk.injEq] at h
   rw [h.2.2]
 | false =>
   rw [hf] at h
   simp only [way] at h
   exact key _ _ _ _ _ _ _ _ h hk
theorem zus {P : Program} {ty : TypeId} {n : Nat} (hn : szOf P ty = some n) {w : World} {Z : Nat → Prop} {hp : Hp} {g : Gm} (hi : Inv (Env.of w Z hp g)) {a x : AV} {pv v : Value} (hr : Rep (Env.of w Z hp g) a pv) (hx : Rep (Env.of w Z hp g) x v)
   {fx : Fx} (hf : zkn n x hp a = some fx) : ∃ w', (Instr.storeAt ty pv v).run P w = .ok () w' ∧ Step w w' Z hp fx.hp g g ∧ fx.val = Abs.undef := by
 cases a <;> simp only [zkn] at hf <;> try cases hf
 case pt key ver el off =>
   simp only [zaa, zat, zac] at hf
   obtain ⟨b, ⟨hb, hv⟩, hmp, hf⟩ := hf
   have hval : ∀ {n key el off : Nat} {v : AV} {b : Blk} {hp : Hp} {ks : List Nat} {fx : Fx}, store1 n key el off v b hp ks = some fx → fx.val = Abs.undef := by
     intro n key el off v b hp ks fx h
     unfold store1 at h
     simp only [zaa, zac, Option.some.injEq] at h
     obtain ⟨_, _, _, _, _, rfl⟩ := h
     rfl
   cases hrow : (b.row && !b.dp) with
   | true =>
     rw [hrow] at hf
     simp only [zbu, zaa, zac] at hf
     obtain ⟨⟨x', ks, hp'⟩, h1, hk, h2⟩ := hf
     obtain ⟨s1, f1, r1⟩ := zuq hi hx h1
     have hb' : look hp' key = some b := by rw [zs5 (w := w) (Z := Z) (g := g) h1 hk]; exact hb
     obtain ⟨w', e1, e2⟩ := zog hn s1.inv (hr.ext s1.ext) hb' hv hmp r1 (fun _ _ => f1) h2
     exact ⟨w', e1, s1.trans e2, hval h2⟩
   | false =>
     rw [hrow] at hf
     simp only [zbk] at hf
     obtain ⟨w', e1, e2⟩ := zog hn hi hr hb hv hmp hx (fun h hd => by rw [h, hd] at hrow; cases hrow) hf
     exact ⟨w', e1, e2, hval hf⟩
end Go.Abs
end
section
set_option linter.unusedSimpArgs false
set_option linter.unusedVariables false
namespace Go.Abs
structure App (P : Program) (t u ty e : TypeId) (i : TypeInfo) (z : Value) (y : Value) (m : Nat) (news : List Value) (w : World) : Prop where
 room : ∀ a n c, n + m ≤ c → (Builtin.append_ #[t, u] ty #[.slice (some a) n c, y]).run P w = ((storeCells (a.add (n * i.size)) news).run P w).andThen fun _ w' => .ok (.slice (some a) (n + m) c) w'
 still : ∀ n c, n + m ≤ c → (Builtin.append_ #[t, u] ty #[.slice none n c, y]).run P w = .ok (.slice none (n + m) c) w
 grow : ∀ A n c olds, c < n + m → n + m ≤ LIM → (Builtin.firstCells i.size n (.slice A n c)).run P w.drew = .ok olds.toArray w.drew →
   (Builtin.append_ #[t, u] ty #[.slice A n c, y]).run P w = .ok (.slice (some ⟨w.heap.size, 0, none⟩) (n + m) (grownCap w (n + m) c e))
     (w.drew.alloc (.cells ((olds ++ news).toArray ++ Builtin.zeroCells z.cells (grownCap w (n + m) c e - (n + m))) e))
 len : news.length = m * i.size
 one : ∀ v ∈ news, v.oneCell' = true
theorem RepEs.sz_eq {E : Env} {n m : Nat} {es : List (List AV)} {vs : List Value} (h : n = m) (k : RepEs E m es vs) : RepEs E n es vs := h ▸ k
theorem zp6 {n m c bytes : Nat} (h : c < n + m) (hl : n + m ≤ LIM) (hb : bytes ≤ 512) : Builtin.nextslicecap (n + m) c * bytes ≤ 281474976710656 := by
 refine growslice_fits h ?_
 have := Nat.mul_le_mul hl hb
 simp only [LIM] at this
 omega
theorem App.src {P : Program} {t u ty e : TypeId} {i : TypeInfo} {z : Value} {w : World} {y : Value} {m : Nat} {news : List Value} (ht : P.underlying t = some (.slice e)) (hi : P.info? e = some i) (hz : i.zero = some z) (hb : i.bytes ≤ 512) (hs : Src P i.size u y m news w) :
   App P t u ty e i z y m news w := by
 refine ⟨fun a n c h => ?_, fun n c h => ?_, fun A n c olds h hl ho => ?_, hs.newsLen, hs.one⟩
 · rcases hs.kind with ⟨e', hk⟩ | hk <;> simp [Builtin.append_, run_underlying ht, run_underlying hk, Go.sizeOf, typeInfo, hi, hs.len, h, hs.cells, zb5]
 · rcases hs.kind with ⟨e', hk⟩ | hk <;> simp [Builtin.append_, run_underlying ht, run_underlying hk, Go.sizeOf, typeInfo, hi, hs.len, h, hs.cells]
 · have := run_append_grow_src (P := P) w t u ty e i z ht hi hz A n c olds ho y m news hs h (by simp only [LIM] at hl; omega) (zp6 h hl hb)
   exact this
theorem App.zero {P : Program} {t u ty e : TypeId} {i : TypeInfo} {z : Value} {k kx : IntKind} {w : World} {m : Nat} (ht : P.underlying t = some (.slice e)) (hu : P.underlying u = some (.int k)) (hi : P.info? e = some i) (hz : i.zero = some z) (hzs : z.cells.size = i.size) (hs0 : 0 < i.size) (hb : i.bytes ≤ 512) (hm : m ≤ LIM)
   (h1 : ∀ v ∈ z.cells.toList, v.oneCell' = true) :
   App P t u ty e i z (.int kx (m : Int)) m (Builtin.zeroCells z.cells m).toList w := by
 have hw : IntKind.i64.wrap (m : Int) = m := by rw [IntKind.wrap_i64]; simp only [LIM] at hm; omega
 have hw0 : IntKind.i64.wrap 0 = 0 := by rw [IntKind.wrap_i64]; rfl
 have hneg : ¬ ((m : Int) < 0) := by omega
 have hbig : ¬ (281474976710656 < (m : Int) * (i.bytes : Int)) := by
   have := Nat.mul_le_mul hm hb
   simp only [LIM] at this
   rw [← Int.natCast_mul]
   omega
 have hlen : (Builtin.zeroCells z.cells m).toList.length = m * i.size := by rw [Array.length_toList, size_zeroCells, hzs]
 obtain ⟨news, hnews⟩ : ∃ news, news = (Builtin.zeroCells z.cells m).toList := ⟨_, rfl⟩
 have hone : ∀ v ∈ news, v.oneCell' = true := by
   intro v hv
   rw [hnews] at hv
   simp only [Builtin.zeroCells, Array.toList_map, List.mem_map] at hv
   obtain ⟨j, hj, rfl⟩ := hv
   have hlt : j % z.cells.size < z.cells.size := Nat.mod_lt _ (by omega)
   rw [getElem!_pos z.cells _ hlt]
   exact h1 _ (by simp)
 rw [← hnews] at hlen ⊢
 have hna : Builtin.zeroCells z.cells m = news.toArray := by rw [hnews]
 have hnil : m = 0 → news = [] := fun h => List.eq_nil_of_length_eq_zero (by rw [hlen, h, Nat.zero_mul])
 refine ⟨fun a n c h => ?_, fun n c h => ?_, fun A n c olds h hl ho => ?_, hlen, hone⟩
 · by_cases hm0 : m = 0
   · have hnl := hnil hm0
     subst hm0
     rw [hnl]
     simp only [Nat.add_zero] at h ⊢
     simp [Builtin.append_, run_underlying ht, run_underlying hu, Go.sizeOf, typeInfo, hi, asInt, asIntOf, hw0, h, zb5]
   · have hmz : ¬ (m * i.size = 0) := Nat.mul_ne_zero hm0 (by omega)
     simp [Builtin.append_, run_underlying ht, run_underlying hu, Go.sizeOf, typeInfo, zeroValue, hi, hz, asInt, asIntOf, hw, hneg, hbig, h, hmz, hna, zb5]
 · by_cases hm0 : m = 0
   · have hnl := hnil hm0
     subst hm0
     simp only [Nat.add_zero] at h ⊢
     simp [Builtin.append_, run_underlying ht, run_underlying hu, Go.sizeOf, typeInfo, hi, asInt, asIntOf, hw0, h]
   · have hmz : ¬ (m * i.size = 0) := Nat.mul_ne_zero hm0 (by omega)
     simp [Builtin.append_, run_underlying ht, run_underlying hu, Go.sizeOf, typeInfo, zeroValue, hi, hz, asInt, asIntOf, hw, hneg, hbig, h, hmz, hna]
 · have hn : ¬ (n + m ≤ c) := by omega
   have h63' : ¬ (9223372036854775807 < ((n : Int) + (m : Int))) := by simp only [LIM] at hl; omega
   have hfit := zp6 h hl hb
   have h48' : ¬ (281474976710656 < Builtin.nextslicecap (n + m) c * i.bytes) := by omega
   by_cases hm0 : m = 0
   · have hnl := hnil hm0
     subst hm0
     rw [hnl]
     simp only [Nat.add_zero] at hn h63' h48' ⊢
     have h63'' : ¬ (9223372036854775807 < (n : Int)) := by simp only [LIM] at hl; omega
     simp [Builtin.append_, run_underlying ht, run_underlying hu, Go.sizeOf, typeInfo, zeroValue, hi, hz, asInt, asIntOf, hw0, hn, h63'', h48', Question.forced, ho, Go.newRow, grownCap]
   · have hmz : ¬ (m * i.size = 0) := Nat.mul_ne_zero hm0 (by omega)
     simp [Builtin.append_, run_underlying ht, run_underlying hu, Go.sizeOf, typeInfo, zeroValue, hi, hz, asInt, asIntOf, hw, hneg, hbig, hn, h63', h48', Question.forced, ho, Go.newRow, grownCap, hmz, hna]
     congr 2
     apply Array.ext'
     simp [List.append_assoc]
theorem CellsAt.cells {w : World} {X : Nat → Prop} {b off : Nat} {vs : List Value} (h : CellsAt w X b off vs) : CellsIn w b off vs := fun j v hv => (h j v hv).1
theorem zhx {P : Program} {w : World} {size n : Nat} {b off c : Nat} {vs : List Value} (h : CellsIn w b off vs) (hl : vs.length = n * size) :
   (Builtin.firstCells size n (.slice (some ⟨b, off, none⟩) n c)).run P w.drew = .ok vs.toArray w.drew :=
 run_firstCells_some w.drew size n _ n c vs hl (fun j v hv => by rw [zb5]; exact h j v hv)
theorem zm1 {e : TypeId} {i : TypeInfo} {z : Value} (hzs : z.cells.size = i.size) {w : World} {Z : Nat → Prop} {hp : Hp} {g : Gm} (hi : Inv (Env.of w Z hp g)) {es ys : List (List AV)} {olds news : List Value}
   (ho : RepEs (Env.of w Z hp g) i.size es olds) (hn : RepEs (Env.of w Z hp g) i.size ys news) {dp : Bool} (hf : dp = false → flatEs (es ++ ys) = true) (h1 : za2 (es ++ ys) = true) (hne : es ++ ys ≠ []) {key ver c : Nat} (hv : zad hp key ≤ ver) (hc : c < es.length + ys.length) :
   Step w (w.drew.alloc (.cells ((olds ++ news).toArray ++ Builtin.zeroCells z.cells (grownCap w (es.length + ys.length) c e - (es.length + ys.length))) e)) Z hp
     ((key, .live { ver, row := true, nl := false, ty := e, sz := i.size, es := es ++ ys, dp }) :: hp) g (upd g key w.heap.size) ∧
   Rep (Env.of (w.drew.alloc (.cells ((olds ++ news).toArray ++ Builtin.zeroCells z.cells (grownCap w (es.length + ys.length) c e - (es.length + ys.length))) e)) Z
     ((key, .live { ver, row := true, nl := false, ty := e, sz := i.size, es := es ++ ys, dp }) :: hp) (upd g key w.heap.size)) (.ms key ver 0 (es.length + ys.length))
     (.slice (some ⟨w.heap.size, 0, none⟩) (es.length + ys.length) (grownCap w (es.length + ys.length) c e)) := by
 obtain ⟨hE, hS⟩ := zjj (b := { ver, row := true, nl := false, ty := e, sz := i.size, es := es ++ ys, dp }) hi key hv w.drew ⟨rfl, rfl, rfl, rfl⟩
   ((olds ++ news).toArray ++ Builtin.zeroCells z.cells (grownCap w (es.length + ys.length) c e - (es.length + ys.length))) e
 have hnew : (w.drew.alloc (.cells ((olds ++ news).toArray ++ Builtin.zeroCells z.cells (grownCap w (es.length + ys.length) c e - (es.length + ys.length))) e)).heap[w.heap.size]? = some (.cells _ e (0, 0)) := heap_alloc_new w.drew _
 have hcap := grownCap_ge w (es.length + ys.length) c e
 refine ⟨hS ⟨fun _ => ⟨hf, h1, fun _ => ⟨_, olds ++ news, _, hnew, Array.toList_append, (ho.append hn).ext hE⟩⟩, BlkRep.rest rfl⟩, ?_⟩
 simp only [Rep]
 refine ⟨by simp [zam], _, _, rfl, fun b hb _ => ?_⟩
 simp only [zas, if_true, Option.some.injEq] at hb
 subst hb
 refine ⟨rfl, by simp, by simpa using hcap, fun h => absurd h hne, by simp, (fun h => by cases h), fun _ => ⟨_, _, _, by rw [upd_same]; exact hnew, ?_⟩, fun _ => by simp [upd_same]⟩
 simp only [Array.size_append, List.size_toArray, List.length_append, size_zeroCells, hzs, ho.length, hn.length, Nat.zero_add, ← Nat.add_mul]
 exact Nat.le_of_eq (by congr 1; omega)
theorem zqe {w : World} {Z : Nat → Prop} {hp : Hp} {g : Gm} (hi : Inv (Env.of w Z hp g)) {key ver ty sz : Nat} {nl dp : Bool} {A : Option Addr} (hv : zad hp key ≤ ver) (hA : A = none ↔ nl = true) :
   Step w w Z hp ((key, .live { ver, row := true, nl, ty, sz, es := [], dp }) :: hp) g (upd g key 0) ∧
   Rep (Env.of w Z ((key, .live { ver, row := true, nl, ty, sz, es := [], dp }) :: hp) (upd g key 0)) (.ms key ver 0 0) (.slice A 0 0) := by
 have hnr : ¬ Real { ver, row := true, nl, ty, sz, es := [], dp } := by rintro (h | h) <;> simp at h
 obtain ⟨hE, hS⟩ := zfm (w' := w) (gb := 0) (k := key) (b := { ver, row := true, nl, ty, sz, es := [], dp }) hi rfl rfl rfl (Nat.le_refl _) (fun _ _ h => h) (fun _ _ _ => rfl) (.inl hv) (fun h => absurd h hnr)
 refine ⟨hS ⟨fun _ => ⟨fun _ => rfl, rfl, fun h => absurd rfl h⟩, BlkRep.rest rfl⟩, ?_⟩
 simp only [Rep]
 refine ⟨by simp [zam], A, 0, rfl, fun b hb _ => ?_⟩
 simp only [zas, if_true, Option.some.injEq] at hb
 subst hb
 exact ⟨rfl, by simp, by simp, fun _ => rfl, hA, fun _ => rfl, fun h => absurd rfl h, fun h => by simp at h⟩
theorem zup {P : Program} {t u ty' e : TypeId} {i : TypeInfo} {z : Value} (hzs : z.cells.size = i.size) (hs0 : 0 < i.size) {w : World} {Z : Nat → Prop} {hp : Hp} {g : Gm} (hi : Inv (Env.of w Z hp g)) {v y : Value} {ys : List (List AV)} {news : List Value}
   {kx ver len : Nat} {b : Blk} (hr : Rep (Env.of w Z hp g) (.ms kx ver 0 len) v) (hA : App P t u ty' e i z y ys.length news w) (hy : RepEs (Env.of w Z hp g) i.size ys news) (hyf : b.dp = false → flatEs ys = true) (hy1 : za2 ys = true)
   (hb : look hp kx = some b) (hv : b.ver = ver) (hrow : b.row = true) (hty : b.ty = e) (hsz : b.sz = i.size) {rd : List Nat} {fx : Fx} (h : ze4 kx ver len b ys hp rd = some fx) :
   ∃ v' w' g', (Builtin.append_ #[t, u] ty' #[v, y]).run P w = .ok v' w' ∧ Step w w' Z hp fx.hp g g' ∧ Rep (Env.of w' Z fx.hp g') fx.val v' := by
 have hnv := zew hb
 simp only [Rep] at hr
 obtain ⟨_, A, c, rfl, r2⟩ := hr
 obtain ⟨_, q1, q2, q3, q4, q5, q6, q7⟩ := r2 b hb hv
 obtain ⟨_, hR, _⟩ := hi.blk kx b hb
 obtain ⟨f1, f2, f3⟩ := hR hrow
 unfold ze4 at h
 split at h
 · rename_i hlen
   simp only [zac, Option.some.injEq] at h
   obtain ⟨hlim, rfl⟩ := h
   subst hlen
   subst hv
   by_cases hes : b.es = []
   · have hc0 := q3 hes
     subst hc0
     by_cases hne : ys = []
     · subst hne
       simp only [RepEs] at hy
       subst hy
       obtain ⟨s1, s2⟩ := zqe (key := kx) (ver := b.ver + 1) (ty := b.ty) (sz := b.sz) (nl := b.nl) (dp := b.dp) (A := A) hi (by omega) q4
       refine ⟨.slice A 0 0, w, upd g kx 0, ?_, by simpa [hes] using s1, by simpa [hes] using s2⟩
       rw [hes]
       cases A with
       | none => exact hA.still _ _ (by simp)
       | some a =>
         rw [List.length_nil, hA.room _ _ _ (by simp)]
         rfl
     · have hyl : 0 < ys.length := List.length_pos_iff.2 hne
       have o1 : (Builtin.firstCells i.size b.es.length (.slice A b.es.length 0)).run P w.drew = .ok ([] : List Value).toArray w.drew := by
         rw [hes]
         cases A with
         | none => exact run_firstCells_none w.drew i.size 0 0 0
         | some a => exact run_firstCells_some w.drew i.size 0 a 0 0 [] (by simp) (fun j v hv => by simp at hv)
       obtain ⟨s1, s2⟩ := zm1 (e := e) (c := 0) hzs hi (show RepEs (Env.of w Z hp g) i.size b.es [] by rw [hes]; simp [RepEs]) hy (fun hd => by rw [zc5, f1 hd, hyf hd]; rfl) (by rw [zdk, f2, hy1]; rfl) (by simp [hne]) (show zad hp kx ≤ b.ver + 1 by omega) (by omega)
       have hB : ({ ver := b.ver + 1, row := true, nl := b.nl && ys.isEmpty, ty := b.ty, sz := b.sz, es := b.es ++ ys, dp := b.dp } : Blk) = { ver := b.ver + 1, row := true, nl := false, ty := e, sz := i.size, es := b.es ++ ys, dp := b.dp } := by
         simp [hne, hty, hsz]
       rw [hB]
       exact ⟨_, _, upd g kx w.heap.size, hA.grow A b.es.length 0 [] (by omega) hlim o1, s1, s2⟩
   · obtain ⟨arr, vs, rest, k1, k2, k3⟩ := f3 hes
     have hAe := q7 (.inr ⟨rfl, hes⟩)
     subst hAe
     have hnlf : b.nl = false := by
       cases hn : b.nl with
       | true => exact absurd (q5 hn) hes
       | false => rfl
     simp only [Nat.zero_mul] at q4 ⊢
     have k3' : RepEs (Env.of w Z hp g) i.size b.es vs := by rw [← hsz]; exact k3
     by_cases hroom : b.es.length + ys.length ≤ c
     · obtain ⟨arr', ty2, fr, m1, m2⟩ := q6 hes
       rw [k1] at m1
       simp only [Option.some.injEq, Obj.cells.injEq] at m1
       obtain ⟨rfl, _, _⟩ := m1
       have hvl := k3'.length
       have hnl := hA.len
       have hcz : (b.es.length + ys.length) * i.size ≤ arr.size := by
         refine Nat.le_trans (Nat.mul_le_mul_right _ hroom) ?_
         rw [Nat.zero_add, hsz] at m2
         exact m2
       have hfit : b.es.length * i.size + news.length ≤ arr.size := by rw [hnl, ← Nat.add_mul]; exact hcz
       have hst := zc8 (P := P) (o := b.es.length * i.size) (us := news) k1 hfit hA.one
       obtain ⟨hE, hS⟩ := zfm (w' := w.setRow (g kx) (arr.toList.take (b.es.length * i.size) ++ news ++ arr.toList.drop (b.es.length * i.size + news.length)).toArray) (gb := g kx) (k := kx)
         (b := { ver := b.ver + 1, row := true, nl := b.nl && ys.isEmpty, ty := b.ty, sz := b.sz, es := b.es ++ ys, dp := b.dp }) hi rfl rfl rfl (by simp [World.setRow]) (fun gb n h => zdm k1 (zb4 arr _ _ hfit) h)
         (fun j _ hne => setRow_other w (g kx) j _ (fun e => hne ⟨e, b, hb, .inr hes⟩)) (.inl (show zad hp kx ≤ b.ver + 1 by omega)) (fun _ => .inr ⟨rfl, b, hb, .inr hes⟩)
       have hgk : upd g kx (g kx) = g := zjh _ _
       rw [hgk] at hE hS
       have hnew := setRow_heap w (g kx) arr (arr.toList.take (b.es.length * i.size) ++ news ++ arr.toList.drop (b.es.length * i.size + news.length)).toArray b.ty (0, 0) k1
       refine ⟨.slice (some ⟨g kx, 0, none⟩) (b.es.length + ys.length) c, _, g, ?_, hS ⟨fun _ => ⟨fun hd => by rw [zc5, f1 hd, hyf hd]; rfl, by rw [zdk, f2, hy1]; rfl, fun _ => ?_⟩, BlkRep.rest rfl⟩, ?_⟩
       · rw [hA.room _ _ _ hroom, zb5, Nat.zero_add, hst]
         rfl
       · refine ⟨_, vs ++ news, arr.toList.drop (b.es.length * i.size + news.length), hnew, ?_, RepEs.sz_eq hsz ((k3'.append hy).ext hE)⟩
         rw [List.toList_toArray]
         congr 2
         rw [k2, ← hvl, List.take_left]
       · simp only [Rep]
         refine ⟨by simp [zam], _, _, rfl, fun b' hb' _ => ?_⟩
         simp only [zas, if_true, Option.some.injEq] at hb'
         subst hb'
         refine ⟨rfl, by simp, by simpa using hroom, (fun h => by simp [hes] at h), by simp [hnlf], (fun h => by simp [hnlf] at h), fun _ => ?_, fun _ => by simp⟩
         exact zdm k1 (zb4 arr _ _ hfit) (q6 hes)
     · have o1 : (Builtin.firstCells i.size b.es.length (.slice (some ⟨g kx, 0, none⟩) b.es.length c)).run P w.drew = .ok vs.toArray w.drew := zhx (CellsIn.of_row k1 k2) k3'.length
       obtain ⟨s1, s2⟩ := zm1 (e := e) (c := c) hzs hi k3' hy (fun hd => by rw [zc5, f1 hd, hyf hd]; rfl) (by rw [zdk, f2, hy1]; rfl) (by simp [hes]) (show zad hp kx ≤ b.ver + 1 by omega) (by omega)
       have hB : ({ ver := b.ver + 1, row := true, nl := b.nl && ys.isEmpty, ty := b.ty, sz := b.sz, es := b.es ++ ys, dp := b.dp } : Blk) = { ver := b.ver + 1, row := true, nl := false, ty := e, sz := i.size, es := b.es ++ ys, dp := b.dp } := by
         simp [hnlf, hty, hsz]
       rw [hB]
       exact ⟨_, _, upd g kx w.heap.size, hA.grow _ b.es.length c vs (by omega) hlim o1, s1, s2⟩
 · rename_i hlen
   simp only [zac, Option.some.injEq] at h
   obtain ⟨hroom, rfl⟩ := h
   subst hv
   have hes : b.es ≠ [] := by rintro he; rw [he] at hroom hlen; simp at hroom hlen; omega
   obtain ⟨arr, vs, rest, k1, k2, k3⟩ := f3 hes
   have hAe := q7 (.inr ⟨rfl, hes⟩)
   subst hAe
   have hnlf : b.nl = false := by
     cases hn : b.nl with
     | true => exact absurd (q5 hn) hes
     | false => rfl
   simp only [Nat.zero_mul] at q4 ⊢
   have k3' : RepEs (Env.of w Z hp g) i.size b.es vs := by rw [← hsz]; exact k3
   have hvl := k3'.length
   have hnl := hA.len
   have hsize : arr.size = vs.length + rest.length := by rw [← Array.length_toList, k2, List.length_append]
   have hle : (len + ys.length) * i.size ≤ vs.length := by rw [hvl]; exact Nat.mul_le_mul_right _ hroom
   have hfit : len * i.size + news.length ≤ arr.size := by rw [hnl, ← Nat.add_mul]; omega
   have hst := zc8 (P := P) (o := len * i.size) (us := news) k1 hfit hA.one
   obtain ⟨hE, hS⟩ := zgm (b := { b with es := b.es.take len ++ (ys ++ b.es.drop (len + ys.length)) }) hi hb (.inr hes) rfl rfl (fun _ => ⟨rfl, rfl, by simp only [List.length_append, List.length_take, List.length_drop]; omega⟩) k1 (zb4 arr _ _ hfit)
   have hnew := setRow_heap w (g kx) arr (arr.toList.take (len * i.size) ++ news ++ arr.toList.drop (len * i.size + news.length)).toArray b.ty (0, 0) k1
   have hmem : ∀ x ∈ b.es.take len ++ (ys ++ b.es.drop (len + ys.length)), x ∈ b.es ∨ x ∈ ys := by
     intro x hx
     simp only [List.mem_append] at hx
     rcases hx with hx | hx | hx
     · exact .inl (List.mem_of_mem_take hx)
     · exact .inr hx
     · exact .inl (List.mem_of_mem_drop hx)
   refine ⟨.slice (some ⟨g kx, 0, none⟩) (len + ys.length) c, _, g, ?_, hS ⟨fun _ => ⟨fun hd => zav.2 fun x hx => ?_, zau.2 fun x hx => ?_, fun _ => ?_⟩, BlkRep.rest hrow⟩, ?_⟩
   · rw [hA.room _ _ _ (by omega), zb5, Nat.zero_add, hst]
     rfl
   · rcases hmem x hx with hx | hx
     · exact zav.1 (f1 hd) x hx
     · exact zav.1 (hyf hd) x hx
   · rcases hmem x hx with hx | hx
     · exact zau.1 f2 x hx
     · exact zau.1 hy1 x hx
   · refine ⟨_, vs.take (len * i.size) ++ (news ++ vs.drop ((len + ys.length) * i.size)), rest, hnew, ?_, ?_⟩
     · have hle2 : len * i.size ≤ (len + ys.length) * i.size := Nat.mul_le_mul_right _ (by omega)
       rw [List.toList_toArray, k2, List.take_append_of_le_length (by omega), List.drop_append_of_le_length (by rw [hnl, ← Nat.add_mul]; exact hle), hnl, ← Nat.add_mul]
       simp only [List.append_assoc]
     · exact RepEs.sz_eq hsz (((k3'.take len).append (hy.append (k3'.drop (len + ys.length)))).ext hE)
   · simp only [Rep]
     refine ⟨by simp [zam], _, _, rfl, fun b' hb' _ => ?_⟩
     simp only [zas, if_true, Option.some.injEq] at hb'
     subst hb'
     refine ⟨hrow, ?_, ?_, (fun h => ?_), by simp [hnlf], (fun h => by simp [hnlf] at h), fun _ => ?_, fun _ => by simp⟩
     · simp only [List.length_append, List.length_take, List.length_drop]; omega
     · simp only [List.length_append, List.length_take, List.length_drop]; omega
     · have : (b.es.take len ++ (ys ++ b.es.drop (len + ys.length))).length = b.es.length := by simp only [List.length_append, List.length_take, List.length_drop]; omega
       simp only at h
       rw [h] at this
       exact absurd (List.length_eq_zero_iff.1 this.symm) hes
     · exact zdm k1 (zb4 arr _ _ hfit) (q6 hes)
theorem zj1 {P : Program} {t u ty' e : TypeId} {i : TypeInfo} {z : Value} (hzs : z.cells.size = i.size) (hs0 : 0 < i.size) {w : World} {Z : Nat → Prop} {hp : Hp} {g : Gm} (hi : Inv (Env.of w Z hp g)) {x : AV} {v y : Value} {ys : List (List AV)} {news : List Value}
   (hr : Rep (Env.of w Z hp g) x v) (hA : App P t u ty' e i z y ys.length news w) (hy : RepEs (Env.of w Z hp g) i.size ys news) (hyf : flatEs ys = true) (hy1 : za2 ys = true)
   {key : Nat} {rd : List Nat} {fx : Fx} (h : appRow e i.size key ys hp rd x = some fx) :
   ∃ v' w' g', (Builtin.append_ #[t, u] ty' #[v, y]).run P w = .ok v' w' ∧ Step w w' Z hp fx.hp g g' ∧ Rep (Env.of w' Z fx.hp g') fx.val v' := by
 cases x <;> simp only [appRow] at h <;> try cases h
 case sl k sz' es =>
   have hr0 := hr
   simp only [Rep] at hr
   obtain ⟨A, c, rfl, r1, r2, r3, r4, r5, r6, r7⟩ := hr
   cases hq : (ys.isEmpty && (decide (k = .open_) || !es.isEmpty)) with
   | true =>
     rw [hq] at h
     simp only [way, Option.some.injEq] at h
     subst h
     simp only [Bool.and_eq_true, List.isEmpty_iff] at hq
     obtain ⟨rfl, _⟩ := hq
     simp only [RepEs] at hy
     subst hy
     refine ⟨_, w, g, ?_, Step.refl hi, hr0⟩
     cases A with
     | none => exact hA.still _ _ (by simpa using r1)
     | some a =>
       rw [hA.room _ _ _ (by simpa using r1)]
       rfl
   | false =>
     rw [hq] at h
     simp only [way, zac, Option.some.injEq] at h
     obtain ⟨⟨hk, hsz, hlim⟩, rfl⟩ := h
     have hc : c = es.length := by
       cases k with
       | nil =>
         have := (r2 rfl).2
         omega
       | full => exact r4 rfl
       | open_ => exact absurd rfl hk
     subst hc
     by_cases hne : ys = []
     · subst hne
       have hes : es = [] := by
         simp only [List.isEmpty_nil, Bool.true_and, Bool.or_eq_false_iff, Bool.not_eq_false', List.isEmpty_iff] at hq
         exact hq.2
       subst hes
       simp only [RepEs] at hy
       subst hy
       obtain ⟨s1, s2⟩ := zqe (key := key) (ver := zad hp key) (ty := e) (sz := i.size) (nl := decide (k = .nil)) (dp := false) (A := A) hi (Nat.le_refl _) (by
         simp only [decide_eq_true_eq]
         exact ⟨fun h => Classical.byContradiction fun hk => r3 hk h, fun h => (r2 h).1⟩)
       refine ⟨.slice A 0 0, w, upd g key 0, ?_, by simpa using s1, by simpa using s2⟩
       cases A with
       | none => exact hA.still _ _ (by simp)
       | some a =>
         rw [List.length_nil, hA.room _ _ _ (by simp)]
         rfl
     · have hyl : 0 < ys.length := List.length_pos_iff.2 hne
       have hnl : (decide (k = .nil) && ys.isEmpty) = false := by simp [hne]
       obtain ⟨olds, o1, o2⟩ : ∃ olds, (Builtin.firstCells i.size es.length (.slice A es.length es.length)).run P w.drew = .ok olds.toArray w.drew ∧ RepEs (Env.of w Z hp g) i.size es olds := by
         by_cases hes : es = []
         · subst hes
           refine ⟨[], ?_, by simp [RepEs]⟩
           cases A with
           | none => exact run_firstCells_none w.drew i.size 0 0 0
           | some a => exact run_firstCells_some w.drew i.size 0 a 0 0 [] (by simp) (fun j v hv => by simp at hv)
         · obtain ⟨b, off, vs, rfl, e2, e3⟩ := r7 hes
           have : sz' = i.size := hsz.resolve_right hes
           subst this
           exact ⟨vs, zhx e2.cells e3.length, e3⟩
       obtain ⟨s1, s2⟩ := zm1 (e := e) (dp := false) hzs hi o2 hy (fun _ => by rw [zc5, r5, hyf]; rfl) (by rw [zdk, r6, hy1]; rfl) (by simp [hne]) (Nat.le_refl (zad hp key)) (show es.length < es.length + ys.length by omega)
       rw [hnl]
       exact ⟨_, _, _, hA.grow A es.length es.length olds (by omega) hlim o1, s1, s2⟩
 case ms kx ver off len =>
   simp only [zaa, zac, zat] at h
   obtain ⟨b, ⟨hb, hv⟩, ⟨hrow, _, hty, hsz, rfl⟩, h⟩ := h
   exact zup hzs hs0 hi hr hA hy (fun _ => hyf) hy1 hb hv hrow hty hsz h
theorem zrc {P : Program} {t u ty' e : TypeId} {i : TypeInfo} {z : Value} (hzs : z.cells.size = i.size) (hs0 : 0 < i.size) {w : World} {Z : Nat → Prop} {hp : Hp} {g : Gm} (hi : Inv (Env.of w Z hp g)) {x : AV} {v y : Value} {ys : List (List AV)} {news : List Value}
   (hr : Rep (Env.of w Z hp g) x v) (hA : App P t u ty' e i z y ys.length news w) (hy : RepEs (Env.of w Z hp g) i.size ys news) (hy1 : za2 ys = true)
   {rd : List Nat} {fx : Fx} (h : zfk e i.size ys hp rd x = some fx) :
   ∃ v' w' g', (Builtin.append_ #[t, u] ty' #[v, y]).run P w = .ok v' w' ∧ Step w w' Z hp fx.hp g g' ∧ Rep (Env.of w' Z fx.hp g') fx.val v' := by
 cases x <;> simp only [zfk] at h <;> try cases h
 case ms kx ver off len =>
   simp only [zaa, zac, zat] at h
   obtain ⟨b, ⟨hb, hv⟩, ⟨hrow, hd, hty, hsz, rfl⟩, h⟩ := h
   exact zup hzs hs0 hi hr hA hy (fun h => by rw [hd] at h; cases h) hy1 hb hv hrow hty hsz h
end Go.Abs
end
section
set_option linter.unusedSimpArgs false
set_option linter.unusedVariables false
namespace Go.Abs
theorem zg9 (c : Array Value) (hc : 0 < c.size) : ∀ m, ((List.range (m * c.size)).map fun i => c[i % c.size]!) = (List.replicate m c.toList).flatten
 | 0 => by simp
 | m + 1 => by
   rw [Nat.succ_mul, List.range_add, List.map_append, zg9 c hc m, List.replicate_succ', List.flatten_append]
   congr 1
   simp only [List.flatten_cons, List.flatten_nil, List.append_nil, List.map_map]
   apply List.ext_getElem
   · simp
   · intro i h1 h2
     simp only [List.length_map, List.length_range] at h1
     have : (m * c.size + i) % c.size = i := by rw [Nat.mul_add_mod_self_right, Nat.mod_eq_of_lt h1]
     simp [this, getElem!_pos c i h1]
theorem zgw (c : Array Value) (hc : 0 < c.size) (m : Nat) : (Builtin.zeroCells c m).toList = (List.replicate m c.toList).flatten := by
 rw [← zg9 c hc m]
 simp [Builtin.zeroCells]
theorem ze0 (c : Array Value) (hc : 0 < c.size) (m : Nat) : (madeCells c (m * c.size)).toList = (List.replicate m c.toList).flatten := by
 rw [← zg9 c hc m]
 simp [madeCells]
theorem zda {z : List AV} (h : flats z = true) (m : Nat) : flatEs (List.replicate m z) = true :=
 zav.2 fun x hx => by rw [List.eq_of_mem_replicate hx]; exact h
theorem zcr {z : List AV} (h : ones z = true) (m : Nat) : za2 (List.replicate m z) = true :=
 zau.2 fun x hx => by rw [List.eq_of_mem_replicate hx]; exact h
theorem zop {w : World} {Z : Nat → Prop} {hp : Hp} {g : Gm} (hi : Inv (Env.of w Z hp g)) {ty sz key : Nat} {es : List (List AV)} {arr : Array Value} (hr : RepEs (Env.of w Z hp g) sz es arr.toList) (hf : flatEs es = true) (h1 : za2 es = true) {ks : List Nat} {fx : Fx}
   (h : newRow ty sz key es hp ks = some fx) : Step w (w.alloc (.cells arr ty)) Z hp fx.hp g (upd g key w.heap.size) ∧
     Rep (Env.of (w.alloc (.cells arr ty)) Z fx.hp (upd g key w.heap.size)) fx.val (.slice (some ⟨w.heap.size, 0, none⟩) es.length es.length) := by
 unfold newRow at h
 injection h with h
 subst h
 obtain ⟨hE, hS⟩ := zjj (b := { ver := zad hp key, row := true, nl := false, ty, sz, es }) hi key (Nat.le_refl _) w ⟨rfl, rfl, rfl, rfl⟩ arr ty
 have hnew : (w.alloc (.cells arr ty)).heap[w.heap.size]? = some (.cells arr ty (0, 0)) := heap_alloc_new w _
 refine ⟨hS ⟨fun _ => ⟨fun _ => hf, h1, fun _ => ⟨arr, arr.toList, [], hnew, by simp, hr.ext hE⟩⟩, BlkRep.rest rfl⟩, ?_⟩
 simp only [Rep]
 refine ⟨by simp [zam], _, _, rfl, fun b hb _ => ?_⟩
 simp only [zas, if_true, Option.some.injEq] at hb
 subst hb
 refine ⟨rfl, by simp, by simp, (fun h => by simpa using h), by simp, (fun h => by cases h), fun _ => ⟨_, _, _, by rw [upd_same]; exact hnew, ?_⟩, fun _ => by simp [upd_same]⟩
 have := hr.length
 rw [Array.length_toList] at this
 simp only [Nat.zero_add]
 omega
theorem zrh {w : World} {Z : Nat → Prop} {hp : Hp} {g : Gm} (hi : Inv (Env.of w Z hp g)) {ty sz key : Nat} {es : List (List AV)} {arr : Array Value} (hr : RepEs (Env.of w Z hp g) sz es arr.toList) (h1 : za2 es = true) {fx : Fx}
   (h : zhe ty sz key es hp = some fx) : Step w (w.alloc (.cells arr ty)) Z hp fx.hp g (upd g key w.heap.size) ∧
     Rep (Env.of (w.alloc (.cells arr ty)) Z fx.hp (upd g key w.heap.size)) fx.val (.slice (some ⟨w.heap.size, 0, none⟩) es.length es.length) := by
 unfold zhe at h
 injection h with h
 subst h
 obtain ⟨hE, hS⟩ := zjj (b := { ver := zad hp key, row := true, nl := false, ty, sz, es, dp := true }) hi key (Nat.le_refl _) w ⟨rfl, rfl, rfl, rfl⟩ arr ty
 have hnew : (w.alloc (.cells arr ty)).heap[w.heap.size]? = some (.cells arr ty (0, 0)) := heap_alloc_new w _
 refine ⟨hS ⟨fun _ => ⟨(fun h => by cases h), h1, fun _ => ⟨arr, arr.toList, [], hnew, by simp, hr.ext hE⟩⟩, BlkRep.rest rfl⟩, ?_⟩
 simp only [Rep]
 refine ⟨by simp [zam], _, _, rfl, fun b hb _ => ?_⟩
 simp only [zas, if_true, Option.some.injEq] at hb
 subst hb
 refine ⟨rfl, by simp, by simp, (fun h => by simpa using h), by simp, (fun h => by cases h), fun _ => ⟨_, _, _, by rw [upd_same]; exact hnew, ?_⟩, fun _ => by simp [upd_same]⟩
 have := hr.length
 rw [Array.length_toList] at this
 simp only [Nat.zero_add]
 omega
theorem zon {w : World} {Z : Nat → Prop} {hp : Hp} {g : Gm} (hi : Inv (Env.of w Z hp g)) {key : Nat} {cs : List AV} {arr : Array Value} (hr : Reps (Env.of w Z hp g) cs arr.toList) (h1 : ones cs = true) (ty : TypeId) {fx : Fx}
   (h : zhs key cs hp = some fx) : Step w (w.alloc (.cells arr ty)) Z hp fx.hp g (upd g key w.heap.size) ∧
     Rep (Env.of (w.alloc (.cells arr ty)) Z fx.hp (upd g key w.heap.size)) fx.val (.pointer (some ⟨w.heap.size, 0, none⟩)) := by
 unfold zhs at h
 injection h with h
 subst h
 obtain ⟨hE, hS⟩ := zjj (b := { ver := zad hp key, row := false, nl := false, ty := 0, sz := cs.length, es := [cs] }) hi key (Nat.le_refl _) w ⟨rfl, rfl, rfl, rfl⟩ arr ty
 have hnew : (w.alloc (.cells arr ty)).heap[w.heap.size]? = some (.cells arr ty (0, 0)) := heap_alloc_new w _
 refine ⟨hS ⟨(fun h => by cases h), fun _ _ => ⟨cs, arr, ty, rfl, h1, hnew, hr.ext hE⟩, fun _ h => by cases h⟩, ?_⟩
 simp only [Rep]
 refine ⟨by simp [zam], _, rfl, fun b hb _ => ?_⟩
 simp only [zas, if_true, Option.some.injEq] at hb
 subst hb
 exact ⟨fun _ => trivial, by simp [upd_same]⟩
theorem zg2 (off : Nat) (us : Array Value) (cs : Array Value) (h : off + us.size ≤ cs.size) :
   (us.zipIdx.foldl (fun cs (x : Value × Nat) => cs.setIfInBounds (off + x.2) x.1) cs).toList = cs.toList.take off ++ (us.toList ++ cs.toList.drop (off + us.size)) := by
 have e : us.zipIdx.foldl (fun cs (x : Value × Nat) => cs.setIfInBounds (off + x.2) x.1) cs = (us.toList.zipIdx 0).foldl (fun cs (x : Value × Nat) => cs.setIfInBounds (off + x.2) x.1) cs := by
   rw [← Array.foldl_toList]
   simp
 rw [e]
 obtain ⟨h1, h2⟩ := Great.foldl_set off us.toList 0 cs
 apply List.ext_getElem?
 intro k
 rw [Array.getElem?_toList, h2 k]
 simp only [Nat.add_zero, Array.length_toList]
 by_cases hk : k < off
 · rw [if_neg (by omega), List.getElem?_append_left (by simp; omega), List.getElem?_take, if_pos hk, Array.getElem?_toList]
 · by_cases hk2 : k < off + us.size
   · rw [if_pos (by omega), List.getElem?_append_right (by simp; omega), List.getElem?_append_left (by simp; omega)]
     congr 1
     simp
     omega
   · rw [if_neg (by omega), List.getElem?_append_right (by simp; omega), List.getElem?_append_right (by simp; omega), List.getElem?_drop, Array.getElem?_toList]
     congr 1
     simp
     omega
theorem zjt (place : Nat → Option (Nat × Nat)) (cells : Array Value) (i : Nat) (v : Value) (rest : List (Nat × Value)) (off size : Nat) (hp : place i = some (off, size)) (h1 : v.cells.size = size) (h2 : off + v.cells.size ≤ cells.size) :
   Instr.fill place cells ((i, v) :: rest) = Instr.fill place (v.cells.zipIdx.foldl (fun cs (x : Value × Nat) => cs.setIfInBounds (off + x.2) x.1) cells) rest := by
 rw [Instr.fill, hp]
 simp only [h1, ne_eq, not_true_eq_false, decide_false, Bool.false_or, decide_eq_true_eq]
 rw [if_neg (by omega)]
theorem zpy {E : Env} {s : Sl} {a : Act} (hs : SlotsRep E s a) (place : Nat → Option (Nat × Nat)) : ∀ (parts : List (Nat × Operand)) (l : List (Nat × Nat × Opd)) (cs cs' : List AV) (cells : Array Value), cparts place parts = some l → zk8 s l cs = some cs' → Reps E cs cells.toList → ones cs = true →
   ∃ cells', Instr.fill place cells (parts.map fun x => (x.1, a.eval x.2)) = some cells' ∧ Reps E cs' cells'.toList ∧ ones cs' = true
 | [], l, cs, cs', cells, h, hf, hr, ho => by
   simp only [cparts, Option.some.injEq] at h
   subst h
   simp only [zk8, Option.some.injEq] at hf
   subst hf
   exact ⟨cells, by simp [Instr.fill], hr, ho⟩
 | (i, x) :: r, l, cs, cs', cells, h, hf, hr, ho => by
   simp only [cparts] at h
   split at h
   · rename_i o sz x' l' h1 h2 h3
     injection h with h
     subst h
     simp only [zk8, zaa, zac] at hf
     obtain ⟨xs, hx, ⟨hl, hb⟩, hf⟩ := hf
     obtain ⟨k1, k2⟩ := Rep.cells (zah hs h2) hx
     have hlen := k2.length
     have hcl := hr.length
     rw [Array.length_toList] at hlen hcl
     have hfit : o + (a.eval x).cells.size ≤ cells.size := by omega
     have hfs := zg2 o (a.eval x).cells cells hfit
     have hnew := zij (n := o) hr k2 (by omega)
     rw [Array.length_toList, ← hfs] at hnew
     obtain ⟨cells', e1, e2, e3⟩ := zpy hs place r l' _ cs' _ h3 hf hnew (zdi.2 fun y hy => (zgo (by omega) hy).elim (zdi.1 ho y) (zdi.1 k1 y))
     refine ⟨cells', ?_, e2, e3⟩
     simp only [List.map_cons]
     rw [zjt place cells i _ _ o sz h1 (by omega) hfit]
     exact e1
   · cases h
theorem zq3 {w : World} {Z : Nat → Prop} {g : Gm} {s : Sl} {a : Act} {size : Nat} : ∀ (parts : List (Nat × Operand)) (l : List (Nat × Opd)) (es es' : List (List AV)) (ks ks' : List Nat) (hp hp' : Hp) (cells : Array Value), cidx parts = some l → zf8 s size l es ks hp = some (es', ks', hp') →
   Inv (Env.of w Z hp g) → SlotsRep (Env.of w Z hp g) s a → RepEs (Env.of w Z hp g) size es cells.toList → za2 es = true → flatEs es = true →
   ∃ cells', Instr.fill (fun i => some (i * size, size)) cells (parts.map fun x => (x.1, a.eval x.2)) = some cells' ∧ Step w w Z hp hp' g g ∧ RepEs (Env.of w Z hp' g) size es' cells'.toList ∧ za2 es' = true ∧ flatEs es' = true ∧ es'.length = es.length
 | [], l, es, es', ks, ks', hp, hp', cells, h, hf, hi, hs, hr, ho, hfl => by
   simp only [cidx, Option.some.injEq] at h
   subst h
   simp only [zf8, Option.some.injEq, Prod.mk.injEq] at hf
   obtain ⟨rfl, rfl, rfl⟩ := hf
   exact ⟨cells, by simp [Instr.fill], Step.refl hi, hr, ho, hfl, rfl⟩
 | (i, x) :: r, l, es, es', ks, ks', hp, hp', cells, h, hf, hi, hs, hr, ho, hfl => by
   simp only [cidx] at h
   split at h
   · rename_i x' l' h2 h3
     injection h with h
     subst h
     simp only [zf8, zaa, zac] at hf
     obtain ⟨⟨v, k0, hp1⟩, hz, xs, hx, ⟨hl, hb⟩, hf⟩ := hf
     obtain ⟨s1, f1, r1⟩ := zuq hi (zah hs h2) hz
     obtain ⟨k1, k2⟩ := Rep.cells r1 hx
     have hlen := k2.length
     have hr1 := hr.ext s1.ext
     have hcl := hr1.length
     rw [Array.length_toList] at hlen hcl
     have hmul : i * size + size ≤ es.length * size := by rw [← Nat.succ_mul]; exact Nat.mul_le_mul_right _ hb
     have hfit : i * size + (a.eval x).cells.size ≤ cells.size := by omega
     have hfs := zg2 (i * size) (a.eval x).cells cells hfit
     have hnew := hr1.set hb hl k2
     rw [Nat.succ_mul] at hnew
     rw [show (a.eval x).cells.size = size by omega] at hfs
     rw [← hfs] at hnew
     obtain ⟨cells', e1, e2, e3, e4, e5, e6⟩ := zq3 r l' _ es' _ ks' hp1 hp' _ h3 hf s1.inv (hs.ext s1.ext) hnew
       (zau.2 fun y hy => (zkk hy).elim (zau.1 ho y) (fun e => by rw [e]; exact k1)) (zav.2 fun y hy => (zkk hy).elim (zav.1 hfl y) (fun e => by rw [e]; exact zl8 hx f1))
     refine ⟨cells', ?_, s1.trans e2, e3, e4, e5, by simpa using e6⟩
     simp only [List.map_cons]
     rw [zjt _ cells i _ _ (i * size) size rfl (by omega) hfit]
     exact e1
   · cases h
theorem zqa {E : Env} {s : Sl} {a : Act} (hs : SlotsRep E s a) {size : Nat} : ∀ (parts : List (Nat × Operand)) (l : List (Nat × Opd)) (es es' : List (List AV)) (cells : Array Value), cidx parts = some l → zk9 s size l es = some es' →
   RepEs E size es cells.toList → za2 es = true →
   ∃ cells', Instr.fill (fun i => some (i * size, size)) cells (parts.map fun x => (x.1, a.eval x.2)) = some cells' ∧ RepEs E size es' cells'.toList ∧ za2 es' = true ∧ es'.length = es.length
 | [], l, es, es', cells, h, hf, hr, ho => by
   simp only [cidx, Option.some.injEq] at h
   subst h
   simp only [zk9, Option.some.injEq] at hf
   subst hf
   exact ⟨cells, by simp [Instr.fill], hr, ho, rfl⟩
 | (i, x) :: r, l, es, es', cells, h, hf, hr, ho => by
   simp only [cidx] at h
   split at h
   · rename_i x' l' h2 h3
     injection h with h
     subst h
     simp only [zk9, zaa, zac] at hf
     obtain ⟨xs, hx, ⟨hl, hb⟩, hf⟩ := hf
     obtain ⟨k1, k2⟩ := Rep.cells (zah hs h2) hx
     have hlen := k2.length
     have hcl := hr.length
     rw [Array.length_toList] at hlen hcl
     have hmul : i * size + size ≤ es.length * size := by rw [← Nat.succ_mul]; exact Nat.mul_le_mul_right _ hb
     have hfit : i * size + (a.eval x).cells.size ≤ cells.size := by omega
     have hfs := zg2 (i * size) (a.eval x).cells cells hfit
     have hnew := hr.set hb hl k2
     rw [Nat.succ_mul] at hnew
     rw [show (a.eval x).cells.size = size by omega] at hfs
     rw [← hfs] at hnew
     obtain ⟨cells', e1, e3, e4, e6⟩ := zqa hs r l' _ es' _ h3 hf hnew
       (zau.2 fun y hy => (zkk hy).elim (zau.1 ho y) (fun e => by rw [e]; exact k1))
     refine ⟨cells', ?_, e3, e4, by simpa using e6⟩
     simp only [List.map_cons]
     rw [zjt _ cells i _ _ (i * size) size rfl (by omega) hfit]
     exact e1
   · cases h
end Go.Abs
end
section
set_option linter.unusedSimpArgs false
set_option linter.unusedVariables false
namespace Go.Abs
theorem ztc {α : Type} [BEq α] [LawfulBEq α] [DecidableEq α] (x y : α) : (x == y) = decide (x = y) := by by_cases h : x = y <;> simp [h]
theorem zgk (l : List UInt8) : (ByteArray.mk l.toArray).size = l.length := by show l.toArray.size = _; simp
theorem ztd {P : Program} {E : Env} {op : BinOp} {k : IntKind} {x y : Int} {v : AV} (hs : zik op = false) (h : zno op k x y = some v) (t : TypeId) (w : World) : ∃ u, (binOp op t (.int k x) (.int k y)).run P w = .ok u w ∧ Rep E v u := by
 cases op <;> simp [zik] at hs <;> simp only [zno, andI, orI, xorI, zuy, zac, Option.some.injEq] at h <;> try cases h
 case quo.intro hy hv => subst hv; exact ⟨.int k (k.wrap (x.tdiv y)), by simp [binOp, Op.intDiv, hy], by simp [Rep]⟩
 case rem.intro hy hv => subst hv; exact ⟨.int k (x.tmod y), by simp [binOp, Op.intDiv, hy], by simp [Rep]⟩
 all_goals exact ⟨_, by simp [binOp, Op.intArith, Op.intBits, Op.intCmp]; rfl, by simp [Rep, ztc, bne]⟩
theorem zpt {P : Program} {E : Env} {op : BinOp} {k k' : IntKind} {x y : Int} {v : AV} (h : zhk op k x y = some v) (t : TypeId) (w : World) : ∃ u, (binOp op t (.int k x) (.int k' y)).run P w = .ok u w ∧ Rep E v u := by
 cases op <;> simp only [zhk, shlI, shrI, zac, Option.some.injEq] at h <;> try cases h
 all_goals
   rename_i hy hv
   subst hv
   have hn : ¬ y < 0 := by omega
   exact ⟨_, by simp [binOp, Op.shift, hn]; rfl, by simp [Rep]⟩
theorem zvf {P : Program} {E : Env} {op : BinOp} {x y : List UInt8} {v : AV} (h : zn1 op x y = some v) (t : TypeId) (w : World) : ∃ u, (binOp op t (.string ⟨x.toArray⟩) (.string ⟨y.toArray⟩)).run P w = .ok u w ∧ Rep E v u := by
 cases op <;> simp only [zn1, zac, Option.some.injEq] at h <;> try cases h
 case add.intro hl hv =>
   subst hv
   have hn : ¬ (IntKind.i64.max < ((x.length : Int) + (y.length : Int))) := by
     have : IntKind.i64.max = 9223372036854775807 := by decide
     rw [this]
     simp only [LIM] at hl
     omega
   refine ⟨.string (⟨x.toArray⟩ ++ ⟨y.toArray⟩), ?_, ?_⟩
   · simp only [binOp, Op.stringOp, zgk, Int.natCast_add]
     rw [if_neg hn]
     rfl
   · simp only [Rep]
     congr 1
 all_goals exact ⟨_, by simp [binOp, Op.stringOp]; rfl, by simp [Rep, ztc, bne]⟩
theorem ztk {P : Program} {E : Env} {op : BinOp} {a b v : AV} (h : zl7 op a b = some v) {x y : Value} (hx : Rep E a x) (hy : Rep E b y) (t : TypeId) (xo yo : Operand) (w : World) :
   ∃ u, (do eqGuard op t xo yo x y; binOp op t x y : Sem Value).run P w = .ok u w ∧ Rep E v u := by
 have guard : (eqGuard op t xo yo x y).run P w = .ok () w → (∃ u, (binOp op t x y).run P w = .ok u w ∧ Rep E v u) → ∃ u, (do eqGuard op t xo yo x y; binOp op t x y : Sem Value).run P w = .ok u w ∧ Rep E v u := by
   rintro h1 ⟨u, h2, h3⟩
   exact ⟨u, by simp only [Sem.run_bind, h1, Result.andThen_ok]; exact h2, h3⟩
 cases a <;> cases b <;> simp only [zl7] at h <;> try cases h
 case i.i k x' k' y' =>
   simp only [Rep] at hx hy
   subst hx
   subst hy
   refine guard ?_ ?_
   · cases op <;> simp [eqGuard]
   · cases hs : zik op with
     | true => rw [hs] at h; exact zpt h t w
     | false =>
       rw [hs] at h
       simp only [way, zac] at h
       obtain ⟨rfl, h⟩ := h
       exact ztd hs h t w
 case str.str x' y' =>
   simp only [Rep] at hx hy
   subst hx
   subst hy
   exact guard (by cases op <;> simp [eqGuard]) (zvf h t w)
theorem zzo {P : Program} {E : Env} {neg : Bool} {a b v : AV} (h : eqbV neg a b = some v) {x y : Value} (hx : Rep E a x) (hy : Rep E b y) {t : TypeId} (ht : P.underlying t = some .bool) (xo yo : Operand) (w : World) :
   ∃ u, (do eqGuard (if neg then .neq else .eql) t xo yo x y; binOp (if neg then .neq else .eql) t x y : Sem Value).run P w = .ok u w ∧ Rep E v u := by
 cases a <;> cases b <;> simp only [eqbV] at h <;> try cases h
 simp only [Rep] at hx hy
 subst hx
 subst hy
 cases neg
 · exact ⟨_, by simp [eqGuard, binOp, run_equal_bool w t _ _ ht]; rfl, by simp [Rep]⟩
 · exact ⟨_, by simp [eqGuard, binOp, run_equal_bool w t _ _ ht]; rfl, by simp [Rep, bne]⟩
theorem zje {P : Program} {w : World} (d : Nat) (t : TypeId) {ps rs : Array TypeId} {va : Bool} (f : Fn) (x y : Array Value) (h : P.underlying t = some (.func ps rs va)) : (Op.equalIn (d + 1) t (.func f x y) .nilFunc).run P w = .ok false w := by
 simp [Op.equalIn, run_underlying h]
theorem zhg {P : Program} {w : World} (d : Nat) (t : TypeId) {ps rs : Array TypeId} {va : Bool} (h : P.underlying t = some (.func ps rs va)) : (Op.equalIn (d + 1) t .nilFunc .nilFunc).run P w = .ok true w := by
 simp [Op.equalIn, run_underlying h]
theorem zwx {P : Program} {w : World} {Z : Nat → Prop} {hp : Hp} {g : Gm} {k : NK} {a : AV} {r : Bool × List Nat} (h : isNil hp k a = some r) {x : Value} (hx : Rep (Env.of w Z hp g) a x) {t : TypeId} {d : TypeDesc} (ht : P.underlying t = some d) {y : Operand} (hk : nkOf d y = some k)
   (neg : Bool) (a' : Act) (xo yo : Operand) : ∃ u, (do eqGuard (if neg then .neq else .eql) t xo yo x (a'.eval y); binOp (if neg then .neq else .eql) t x (a'.eval y) : Sem Value).run P w = .ok u w ∧ u = .bool (r.1 != neg) := by
 have fin : ∀ {c : Bool} {z : Value}, (Op.equal t x z).run P w = .ok c w → (∀ op : BinOp, (op = .eql ∨ op = .neq) → eqGuard op t xo yo x z = pure ()) → (binOp .eql t x z = do pure (.bool (← Op.equal t x z))) → (binOp .neq t x z = do pure (.bool (!(← Op.equal t x z)))) →
     ∃ u, (do eqGuard (if neg then .neq else .eql) t xo yo x z; binOp (if neg then .neq else .eql) t x z : Sem Value).run P w = .ok u w ∧ u = .bool (c != neg) := by
   intro c z h1 h2 h3 h4
   cases neg
   · refine ⟨.bool c, ?_, by simp⟩
     simp only [Bool.false_eq_true, if_false, h2 .eql (.inl rfl), h3, Sem.run_bind, Sem.run_pure, Result.andThen_ok, h1]
   · refine ⟨.bool (!c), ?_, by cases c <;> rfl⟩
     simp only [if_true, h2 .neq (.inr rfl), h4, Sem.run_bind, Sem.run_pure, Result.andThen_ok, h1]
 unfold nkOf at hk
 split at hk <;> try cases hk
 case h_1 e =>
   have hy : a'.eval (.const (.slice none 0 0)) = .slice none 0 0 := rfl
   rw [hy]
   cases a <;> simp only [isNil] at h <;> try cases h
   case sl k' sz es =>
     simp only [Rep] at hx
     obtain ⟨A, c, rfl, _, h3, h4, _⟩ := hx
     have := fin (c := A.isNone) (z := .slice none 0 0) (run_equal_slice_nil w t e A _ c ht) (by rintro op (rfl | rfl) <;> rfl) rfl rfl
     have hAk : decide (k' = .nil) = A.isNone := by
       clear fin this
       cases k' <;> cases A <;> simp at h3 h4 ⊢
     rw [hAk]
     exact this
   case ms key ver off len =>
     simp only [zaa, zac, zat, Option.some.injEq] at h
     obtain ⟨b, ⟨hb, hv⟩, _, rfl⟩ := h
     simp only [Rep] at hx
     obtain ⟨_, A, c, rfl, h2⟩ := hx
     obtain ⟨_, _, _, _, h4, _⟩ := h2 b hb hv
     have := fin (c := A.isNone) (z := .slice none 0 0) (run_equal_slice_nil w t e A _ c ht) (by rintro op (rfl | rfl) <;> rfl) rfl rfl
     have hAk : b.nl = A.isNone := by
       clear fin this
       cases hn : b.nl <;> cases A <;> simp [hn] at h4 ⊢
     rw [hAk]
     exact this
 case h_2 e =>
   have hy : a'.eval (.const (.pointer none)) = .pointer none := rfl
   rw [hy]
   have hpt : P.underlying t = some (.pointer (P.pointee t)) := by simp [Program.pointee, ht]
   have go : ∀ p : Option Addr, x = .pointer p → ∃ u, (do eqGuard (if neg then .neq else .eql) t xo yo x (.pointer none); binOp (if neg then .neq else .eql) t x (.pointer none) : Sem Value).run P w = .ok u w ∧ u = .bool (p.isNone != neg) := by
     rintro p rfl
     exact fin (run_equal_pointer_nil w t p hpt) (by rintro op (rfl | rfl) <;> rfl) rfl rfl
   cases a <;> simp only [isNil] at h <;> try cases h
   case pt => simp only [Rep] at hx; obtain ⟨_, ad, hx, _⟩ := hx; exact go _ hx
   case ip => simp only [Rep] at hx; obtain ⟨_, _, _, hx, _⟩ := hx; exact go _ hx
   case nilp => simp only [Rep] at hx; exact go _ hx
 case h_3 ps rs va =>
   have hy : a'.eval (.const .nilFunc) = .nilFunc := rfl
   rw [hy]
   cases a <;> simp only [isNil] at h <;> try cases h
   case fn =>
     simp only [Rep] at hx
     obtain ⟨c, rfl, _⟩ := hx
     exact fin (c := false) (zje 9999 t _ _ _ ht) (by rintro op (rfl | rfl) <;> rfl) rfl rfl
   case nilf =>
     simp only [Rep] at hx
     subst hx
     exact fin (c := true) (zhg 9999 t ht) (by rintro op (rfl | rfl) <;> rfl) rfl rfl
theorem z4l {P : Program} {E : Env} {op : UnOp} {a v : AV} (h : unV op a = some v) {x : Value} (hx : Rep E a x) (w : World) : ∃ u, (Op.unary op x).run P w = .ok u w ∧ Rep E v u := by
 cases op <;> cases a <;> simp only [unV] at h <;> try cases h
 all_goals
   simp only [Rep] at hx
   subst hx
   exact ⟨_, by simp [Op.unary, Op.intArith]; rfl, by simp [Rep]⟩
def ORep (E : Env) (o : Option AV) (v : Option Value) : Prop := (o = none ∧ v = none) ∨ ∃ a u, o = some a ∧ v = some u ∧ Rep E a u
theorem zmx {E : Env} {d n : Nat} {o : Option AV} {v : Option Value} (h : zd5 d o = some n) (hv : ORep E o v) : (o = none ∧ v = none ∧ n = d) ∨ (o.isSome = true ∧ ∃ k, v = some (.int k n)) := by
 rcases hv with ⟨rfl, rfl⟩ | ⟨a, u, rfl, rfl, hr⟩
 · simp only [zd5, Option.some.injEq] at h
   exact .inl ⟨rfl, rfl, h.symm⟩
 · simp only [zd5] at h
   cases a <;> simp only [zv6] at h <;> try cases h
   simp only [zac, Option.some.injEq] at h
   simp only [Rep] at hr
   obtain ⟨h1, rfl⟩ := h
   exact .inr ⟨rfl, _, by rw [hr, Int.toNat_of_nonneg h1]⟩
theorem zuo {P : Program} {w : World} {k : IntKind} {n y : Nat} (h : n ≤ y) (c : BoundsCode) : (Instr.sliceBound (.int k (n : Int)) y c).run P w = .ok n w := by
 have h1 : (0 : Int) ≤ n ∧ (n : Int) ≤ y := by omega
 simp [Instr.sliceBound, asIntOf, h1.1, h]
theorem ziq {P : Program} {E : Env} {b : Bool} {len cap l h m : Nat} {lo hi mx : Option AV} {lo' hi' mx' : Option Value} (e1 : zd5 0 lo = some l) (e2 : zd5 len hi = some h) (e3 : zd5 cap mx = some m) (r1 : ORep E lo lo') (r2 : ORep E hi hi') (r3 : ORep E mx mx')
   (hh : mx.isSome = true → hi.isSome = true) (hl : l ≤ h) (hm : h ≤ m) (hc : m ≤ cap) (w : World) : (Instr.sliceBounds b len cap lo' hi' mx').run P w = .ok (l, h, m) w := by
 rcases zmx e1 r1 with ⟨_, rfl, rfl⟩ | ⟨_, k1, rfl⟩ <;> rcases zmx e2 r2 with ⟨g2, rfl, rfl⟩ | ⟨g2, k2, rfl⟩ <;> rcases zmx e3 r3 with ⟨g3, rfl, rfl⟩ | ⟨g3, k3, rfl⟩
 all_goals first
   | (exfalso; have := hh g3; rw [g2] at this; cases this; done)
   | (unfold Instr.sliceBounds; simp [zuo, hl, hm, hc]; done)
end Go.Abs
end
section
set_option linter.unusedSimpArgs false
set_option linter.unusedVariables false
namespace Go.Abs
theorem zsg {P : Program} {E : Env} {t : TypeId} (ht : P.underlying t = some .string) {sz : Nat} {hp : Hp} {l : List UInt8} {lo hi : Option AV} {lo' hi' : Option Value} {r : AV × List Nat} (h : cut sz lo hi none hp (.str l) = some r) {x : Value} (hx : Rep E (.str l) x) (r1 : ORep E lo lo') (r2 : ORep E hi hi') (w : World) :
   ∃ u, (Instr.sliceAt t x lo' hi' none).run P w = .ok u w ∧ Rep E r.1 u := by
 simp only [cut, zaa, zac, Option.some.injEq] at h
 obtain ⟨⟨_, _⟩, a, e1, b, e2, ⟨h1, h2⟩, rfl⟩ := h
 simp only [Rep] at hx
 subst hx
 have hb := ziq (P := P) (b := false) (cap := l.length) (mx := none) e1 e2 rfl r1 r2 (.inl ⟨rfl, rfl⟩) (by simp) h1 h2 (Nat.le_refl _) w
 refine ⟨.string (ByteArray.extract ⟨l.toArray⟩ a b), ?_, ?_⟩
 · unfold Instr.sliceAt
   simp [run_underlying ht, Instr.slice, zgk, hb]
 · simp only [Rep]
   congr 1
   apply ByteArray.ext
   simp [ByteArray.data_extract]
theorem zfv {P : Program} {t e : TypeId} {i : TypeInfo} (ht : P.underlying t = some (.slice e)) (hi : P.info? e = some i) {A : Option Addr} {len c l h m : Nat} {lo' hi' mx' : Option Value} {w : World} (hb : (Instr.sliceBounds true len c lo' hi' mx').run P w = .ok (l, h, m) w) :
   (Instr.sliceAt t (.slice A len c) lo' hi' mx').run P w = .ok (.slice (if m = l then A else A.map (·.add (l * i.size))) (h - l) (m - l)) w := by
 unfold Instr.sliceAt
 simp [run_underlying ht, Instr.slice, hb, Go.sizeOf, typeInfo, hi]
theorem zul {P : Program} {E : Env} {t e : TypeId} {i : TypeInfo} (ht : P.underlying t = some (.slice e)) (hinf : P.info? e = some i) {hp : Hp} {k : SK} {sz : Nat} {es : List (List AV)} {lo hi mx : Option AV} {lo' hi' mx' : Option Value} {r : AV × List Nat} (h : cut i.size lo hi mx hp (.sl k sz es) = some r) {x : Value} (hx : Rep E (.sl k sz es) x)
   (r1 : ORep E lo lo') (r2 : ORep E hi hi') (r3 : ORep E mx mx') (w : World) : ∃ u, (Instr.sliceAt t x lo' hi' mx').run P w = .ok u w ∧ Rep E r.1 u := by
 simp only [cut, zaa, zac, Option.some.injEq] at h
 obtain ⟨⟨hs, _, hmx⟩, a, e1, b, e2, m, e3, ⟨h1, h2, h3⟩, rfl⟩ := h
 simp only [Rep] at hx
 obtain ⟨A, c, rfl, q1, q2, q3, q4, q5, q6, q7⟩ := hx
 obtain ⟨m', e4, h4, h5, h6⟩ : ∃ m', zd5 c mx = some m' ∧ m' ≤ c ∧ m ≤ m' ∧ (mx.isSome = true → m' = m) := by
   cases mx with
   | none =>
     simp only [zd5, Option.some.injEq] at e3
     exact ⟨c, rfl, Nat.le_refl _, by omega, by simp⟩
   | some v =>
     simp only [zd5] at e3
     exact ⟨m, e3, by omega, Nat.le_refl _, fun _ => rfl⟩
 have hb := ziq (P := P) (b := true) e1 e2 e4 r1 r2 r3 hmx h1 (by omega) h4 w
 refine ⟨_, zfv ht hinf hb, ?_⟩
 have hlen : ((es.drop a).take (b - a)).length = b - a := by rw [List.length_take, List.length_drop]; omega
 simp only [Rep]
 refine ⟨_, m' - a, by rw [hlen], by omega, fun hk => ?_, fun hk => ?_, fun hk => ?_, zgf q5 fun x hx => zbg hx, zd2 q6 fun x hx => zbg hx, fun hne => ?_⟩
 · have hk' : k = .nil := by
     by_cases hk2 : k = .nil
     · exact hk2
     · rw [if_neg hk2] at hk
       split at hk <;> cases hk
   obtain ⟨rfl, rfl⟩ := q2 hk'
   exact ⟨by split <;> rfl, by omega⟩
 · have hk' : k ≠ .nil := fun hk2 => hk (by rw [if_pos hk2])
   have hA := q3 hk'
   cases A with
   | none => exact absurd rfl hA
   | some A => split <;> simp
 · by_cases hk2 : k = .nil
   · rw [if_pos hk2] at hk; cases hk
   · rw [if_neg hk2] at hk
     split at hk
     · rename_i hc
       obtain ⟨hc1, rfl⟩ := hc
       rw [hlen]
       rcases hc1 with hc1 | hc1
       · rw [h6 hc1]
       · have hcl := q4 hc1
         cases mx with
         | none =>
           simp only [zd5, Option.some.injEq] at e3 e4
           omega
         | some v => rw [h6 rfl]
     · cases hk
 · have hba : 0 < b - a := by rw [← hlen]; exact List.length_pos_iff.2 hne
   have hes : es ≠ [] := by rintro rfl; simp at hne
   obtain ⟨bl, off, vs, rfl, k2, k3⟩ := q7 hes
   have hsz : sz = i.size := hs.resolve_right hes
   subst hsz
   rw [if_neg (show ¬ m' = a by omega)]
   refine ⟨bl, off + a * i.size, (vs.drop (a * i.size)).take ((b - a) * i.size), by simp [zb5], ?_, (k3.drop a).take (b - a)⟩
   intro j v hv
   rw [List.getElem?_take] at hv
   split at hv
   · rw [List.getElem?_drop] at hv
     have := k2 _ _ hv
     rwa [← Nat.add_assoc] at this
   · cases hv
theorem zt1 {P : Program} {w : World} {Z : Nat → Prop} {hp : Hp} {g : Gm} {t e : TypeId} {i : TypeInfo} (ht : P.underlying t = some (.slice e)) (hinf : P.info? e = some i) {key ver off len : Nat} {lo hi mx : Option AV} {lo' hi' mx' : Option Value} {r : AV × List Nat} (h : cut i.size lo hi mx hp (.ms key ver off len) = some r) {x : Value}
   (hx : Rep (Env.of w Z hp g) (.ms key ver off len) x) (r1 : ORep (Env.of w Z hp g) lo lo') (r2 : ORep (Env.of w Z hp g) hi hi') (r3 : ORep (Env.of w Z hp g) mx mx') : ∃ u, (Instr.sliceAt t x lo' hi' mx').run P w = .ok u w ∧ Rep (Env.of w Z hp g) r.1 u := by
 simp only [cut, zaa, zac, zat, Option.some.injEq] at h
 obtain ⟨⟨hmx, _⟩, b, ⟨hb, hv⟩, ⟨hrow, hsz, hol⟩, a, e1, d, e2, ⟨h1, h2⟩, rfl⟩ := h
 have hmn : mx = none := by simpa using hmx
 subst hmn
 have hmn' : mx' = none := by
   rcases r3 with ⟨_, h⟩ | ⟨_, _, h, _⟩
   · exact h
   · cases h
 subst hmn'
 simp only [Rep] at hx ⊢
 obtain ⟨hver, A, c, rfl, h3⟩ := hx
 obtain ⟨_, q1, q2, q3, q4, q5, q6, q7⟩ := h3 b hb hv
 have hbr := ziq (P := P) (b := true) (cap := c) (mx := none) e1 e2 rfl r1 r2 (.inl ⟨rfl, rfl⟩) (by simp) h1 (by omega) (Nat.le_refl _) w
 refine ⟨_, zfv ht hinf hbr, hver, _, _, rfl, fun b' hb' hv' => ?_⟩
 rw [hb] at hb'
 injection hb' with hb'
 subst hb'
 refine ⟨hrow, by omega, by omega, fun he => by have := q3 he; omega, ?_, q5, fun he => ?_, fun he => ?_⟩
 · rw [← q4]
   split
   · rfl
   · simp
 · have := q6 he
   rwa [show off + a + (c - a) = off + c by omega]
 · rcases he with he | ⟨he, he2⟩
   · have hA := q7 (.inl (by omega))
     subst hA
     rw [if_neg (by omega)]
     simp only [Option.map_some, zb5, ← hsz]
     rw [← Nat.add_mul]
   · have hA := q7 (.inr ⟨by omega, he2⟩)
     subst hA
     have ha : a = 0 := by omega
     have ho : off = 0 := by omega
     subst ha
     subst ho
     split <;> simp [zb5]
theorem zwn {P : Program} {t : TypeId} {c : Bool} {n : Nat} (hc : zjo P t = some c) (hn : szOf P t = some n) (h1 : c = true ∨ n = 1) {E : Env} {cs : List AV} {arr : Array Value} (hr : Reps E cs arr.toList) (ho : ones cs = true) {off : Nat} {hp : Hp} {rd : List Nat} {fx : Fx}
   (hf : load1 c n (cs.drop off) hp rd = some fx) (w : World) : ∃ u, (part t arr off).run P w = .ok u w ∧ Rep E fx.val u := by
 obtain ⟨h0, _, _, _, h2⟩ := zfc hf h1
 have hd := hr.drop off
 have ho' : ones (cs.drop off) = true := zgh ho fun x hx => List.mem_of_mem_drop hx
 unfold part
 simp only [Sem.run_bind, zo1 hc w, Result.andThen_ok]
 rcases h2 with ⟨rfl, e⟩ | ⟨rfl, v, r, hcs, e⟩
 · simp only [if_true, Sem.run_bind, zge hn w, Result.andThen_ok, Sem.run_pure]
   refine ⟨_, rfl, ?_⟩
   rw [e]
   simp only [Rep]
   refine ⟨_, rfl, zgh ho' fun x hx => List.mem_of_mem_take hx, ?_⟩
   have := hd.take n
   simpa [List.extract_eq_take_drop] using this
 · rw [hcs] at hd
   simp only [Reps] at hd
   obtain ⟨u, vs', h3, h4, _⟩ := hd
   have hget : arr[off]? = some u := by
     rw [← Array.getElem?_toList]
     have : (arr.toList.drop off)[0]? = some u := by rw [h3]; rfl
     simpa using this
   simp only [Bool.false_eq_true, if_false, hget]
   exact ⟨u, by simp, by rw [e]; exact h4⟩
end Go.Abs
end
section
set_option linter.unusedSimpArgs false
set_option linter.unusedVariables false
namespace Go.Abs
theorem zsu {P : Program} {E : Env} {t : TypeId} {fs : Array Field} (ht : P.underlying t = some (.struct fs)) {n : Nat} {f : Field} (hf : fs[n]? = some f) {s : Nat} (hs : szOf P f.type = some s) (hs0 : 0 < s) {a v : AV} (h : zmi f.offset a = some v) {x : Value} (hx : Rep E a x) (w : World) :
   ∃ u, (Instr.fieldAt t x n).run P w = .ok u w ∧ Rep E v u := by
 have run : ∀ ad : Addr, (Instr.fieldAt t (.pointer (some ad)) n).run P w = .ok (.pointer (some (ad.add f.offset))) w := by
   intro ad
   unfold Instr.fieldAt
   simp [run_underlying ht, hf, Instr.sureAddr, fieldPlace, zge hs w, show s ≠ 0 by omega]
 cases a <;> simp only [zmi] at h <;> try cases h
 case pt key ver el off =>
   simp only [Rep] at hx ⊢
   obtain ⟨h0, ad, rfl, h2⟩ := hx
   refine ⟨_, run ad, h0, _, rfl, fun b hb hv => ?_⟩
   obtain ⟨h3, rfl⟩ := h2 b hb hv
   exact ⟨h3, by rw [zb5, Nat.add_assoc]⟩
 case ip cs =>
   simp only [Rep] at hx ⊢
   obtain ⟨b, off, vs, rfl, h1, h2, h3, h4⟩ := hx
   refine ⟨_, run _, b, off + f.offset, vs.drop f.offset, by rw [zb5], zu1 h1 fun x hx => List.mem_of_mem_drop hx, zgh h2 fun x hx => List.mem_of_mem_drop hx, fun j v hv => ?_, h4.drop _⟩
   rw [List.getElem?_drop] at hv
   have := h3 _ _ hv
   rwa [← Nat.add_assoc] at this
theorem zoy {P : Program} {t e : TypeId} {i : TypeInfo} (ht : P.underlying t = some (.slice e)) (hi : P.info? e = some i) {ad : Addr} {len c n : Nat} (h : n < len) (k : IntKind) (w : World) :
   (Instr.indexAt t (.slice (some ad) len c) (.int k (n : Int))).run P w = .ok (.pointer (some (ad.add (n * i.size)))) w := by
 unfold Instr.indexAt
 have h2 : (n : Int) < len := by omega
 simp [run_underlying ht, asIntOf, Go.sizeOf, typeInfo, hi, h]
theorem ztu {P : Program} {w : World} {Z : Nat → Prop} {hp : Hp} {g : Gm} {t e : TypeId} {i : TypeInfo} (ht : P.underlying t = some (.slice e)) (hi : P.info? e = some i) {a b : AV} {fx : Fx} (h : ziz i.size hp a b = some fx) {x y : Value} (hx : Rep (Env.of w Z hp g) a x) (hy : Rep (Env.of w Z hp g) b y) :
   fx.hp = hp ∧ ∃ u, (Instr.indexAt t x y).run P w = .ok u w ∧ Rep (Env.of w Z hp g) fx.val u := by
 cases a <;> cases b <;> simp only [ziz] at h <;> try cases h
 case sl.i k sz es k' n =>
   simp only [zac, zaa, quiet, Option.some.injEq] at h
   obtain ⟨⟨h0, hsz⟩, cs, hcs, rfl⟩ := h
   simp only [Rep] at hx hy ⊢
   subst hy
   obtain ⟨A, c, rfl, q1, q2, q3, q4, q5, q6, q7⟩ := hx
   have hlt := (List.getElem?_eq_some_iff.1 hcs).1
   have hes : es ≠ [] := by rintro rfl; simp at hlt
   obtain ⟨bl, off, vs, rfl, k2, k3⟩ := q7 hes
   have hsz := hsz.resolve_right hes
   subst hsz
   obtain ⟨g1, g2⟩ := k3.get hcs
   have hr := zoy (P := P) ht hi (ad := ⟨bl, off, none⟩) (c := c) hlt k' w
   rw [Int.toNat_of_nonneg h0] at hr
   refine ⟨trivial, _, hr, ⟨bl, off + n.toNat * i.size, (vs.drop (n.toNat * i.size)).take i.size, by rw [zb5], zav.1 q5 cs (List.mem_of_getElem? hcs), zau.1 q6 cs (List.mem_of_getElem? hcs), fun j v hv => ?_, g2⟩⟩
   rw [List.getElem?_take] at hv
   split at hv
   · rw [List.getElem?_drop] at hv
     have := k2 _ _ hv
     rwa [← Nat.add_assoc] at this
   · cases hv
 case ms.i key ver off len k' n =>
   simp only [zaa, zac, zat, Option.some.injEq] at h
   obtain ⟨bk, ⟨hb, hv⟩, ⟨h1, h2, h3, h4, h5⟩, rfl⟩ := h
   simp only [Rep] at hx hy ⊢
   subst hy
   obtain ⟨h0, A, c, rfl, h6⟩ := hx
   obtain ⟨_, q1, q2, q3, q4, q5, q6, q7⟩ := h6 bk hb hv
   have hA := q7 (.inl (by omega))
   subst hA
   have hr := zoy (P := P) ht hi (ad := ⟨g key, off * bk.sz, none⟩) (c := c) (show n.toNat < len by omega) k' w
   rw [Int.toNat_of_nonneg h4] at hr
   refine ⟨trivial, _, hr, h0, _, rfl, fun b' hb' hv' => ⟨fun hrow => ?_, ?_⟩⟩
   · rw [hb] at hb'
     injection hb' with hb'
     subst hb'
     rw [h1] at hrow
     cases hrow
   · rw [hb] at hb'
     injection hb' with hb'
     subst hb'
     rw [zb5, ← h2, Nat.add_zero, Nat.add_mul]
theorem z0u {P : Program} {E : Env} {t : TypeId} (ht : P.underlying t = some .string) {a b v : AV} (h : idxV a b = some v) {x y : Value} (hx : Rep E a x) (hy : Rep E b y) (w : World) : ∃ u, (Instr.index t x y).run P w = .ok u w ∧ Rep E v u := by
 cases a <;> cases b <;> simp only [idxV] at h <;> try cases h
 rename_i l k n
 simp only [zac, zaa, Option.some.injEq] at h
 obtain ⟨h0, c, hc, rfl⟩ := h
 simp only [Rep] at hx hy
 subst hx
 subst hy
 refine ⟨.int .u8 c.toNat, ?_, by simp [Rep]⟩
 unfold Instr.index
 have hlt := (List.getElem?_eq_some_iff.1 hc).1
 have hg : (ByteArray.mk l.toArray)[n.toNat]? = some c := by
   rw [getElem?_pos (ByteArray.mk l.toArray) n.toNat (by rw [zgk]; exact hlt)]
   rw [← (List.getElem?_eq_some_iff.1 hc).2]
   rfl
 simp [run_underlying ht, asIntOf, h0, hg]
theorem Reps.getElem? {E : Env} : ∀ {as : List AV} {vs : List Value} {n : Nat} {a : AV}, Reps E as vs → as[n]? = some a → ∃ v, vs[n]? = some v ∧ Rep E a v
 | [], _, _, _, _, h => by simp at h
 | x :: r, vs, 0, a, hr, h => by
   simp only [Reps] at hr
   obtain ⟨v, vs', rfl, h2, _⟩ := hr
   simp at h
   subst h
   exact ⟨v, rfl, h2⟩
 | x :: r, vs, n + 1, a, hr, h => by
   simp only [Reps] at hr
   obtain ⟨v, vs', rfl, _, h3⟩ := hr
   obtain ⟨u, e1, e2⟩ := Reps.getElem? h3 (by simpa using h)
   exact ⟨u, by simpa using e1, e2⟩
theorem z0h {P : Program} {E : Env} {n : Nat} {a v : AV} (h : extV n a = some v) {x : Value} (hx : Rep E a x) (w : World) : ∃ u, (Instr.extract x n).run P w = .ok u w ∧ Rep E v u := by
 cases a <;> simp only [extV] at h <;> try cases h
 rename_i cs
 simp only [Rep] at hx
 obtain ⟨arr, rfl, hr⟩ := hx
 obtain ⟨u, h1, h2⟩ := hr.getElem? h
 rw [Array.getElem?_toList] at h1
 exact ⟨u, by simp [Instr.extract, h1], h2⟩
theorem z00 {P : Program} {E : Env} {b : Bool} {t ty : TypeId} (ht : if b = true then P.underlying t = some .string else ∃ e, P.underlying t = some (.slice e)) {a v : AV} (h : lenV b a = some v) {x : Value} (hx : Rep E a x) (w : World) :
   ∃ u, (Builtin.len_ #[t] ty #[x]).run P w = .ok u w ∧ Rep E v u := by
 cases b <;> cases a <;> simp only [lenV] at h <;> try cases h
 case false.sl k sz es =>
   obtain ⟨e, he⟩ := (by simpa using ht : ∃ e, P.underlying t = some (.slice e))
   simp only [Rep] at hx
   obtain ⟨A, c, rfl, _⟩ := hx
   exact ⟨_, by simp [Builtin.len_, run_underlying he]; rfl, by simp [Rep, goInt]⟩
 case false.ms key ver off len =>
   obtain ⟨e, he⟩ := (by simpa using ht : ∃ e, P.underlying t = some (.slice e))
   simp only [Rep] at hx
   obtain ⟨_, A, c, rfl, _⟩ := hx
   exact ⟨_, by simp [Builtin.len_, run_underlying he]; rfl, by simp [Rep, goInt]⟩
 case true.str l =>
   have he : P.underlying t = some .string := by simpa using ht
   simp only [Rep] at hx
   subst hx
   exact ⟨_, by simp [Builtin.len_, run_underlying he]; rfl, by simp [Rep, goInt, zgk]⟩
theorem zpa {E : Env} : ∀ {as : List AV} {k : IntKind} {ns : List Int} {vs : List Value}, ints as = some (k, ns) → Reps E as vs → vs = ns.map (Value.int k) ∧ ns ≠ []
 | [], _, _, _, h, _ => by simp [ints] at h
 | [.i k n], k', ns, vs, h, hr => by
   simp only [ints, Option.some.injEq, Prod.mk.injEq] at h
   obtain ⟨rfl, rfl⟩ := h
   simp only [Reps, Rep] at hr
   obtain ⟨v, vs', rfl, rfl, rfl⟩ := hr
   exact ⟨rfl, by simp⟩
 | .i k n :: b :: r, k', ns, vs, h, hr => by
   simp only [ints, zaa, zac, Option.some.injEq, Prod.mk.injEq] at h
   obtain ⟨⟨k2, ns2⟩, h1, rfl, rfl, rfl⟩ := h
   rw [Reps] at hr
   obtain ⟨v, vs', rfl, hv, hr⟩ := hr
   simp only [Rep] at hv
   obtain ⟨e1, _⟩ := zpa h1 hr
   exact ⟨by rw [hv, e1]; rfl, by simp⟩
theorem zub {P : Program} {k : IntKind} (w : World) : ∀ (l : List Int) (n : Int), ((l.map (Value.int k)).foldlM Builtin.max2 (Value.int k n)).run P w = .ok (.int k (l.foldl (fun x y => if x < y then y else x) n)) w
 | [], n => by simp
 | y :: r, n => by
   simp only [List.map_cons, List.foldlM_cons, Sem.run_bind, List.foldl_cons]
   have : (Builtin.max2 (.int k n) (.int k y)).run P w = .ok (.int k (if n < y then y else n)) w := by simp [Builtin.max2]
   rw [this]
   exact zub w r _
theorem zvb {P : Program} {k : IntKind} (w : World) : ∀ (l : List Int) (n : Int), ((l.map (Value.int k)).foldlM Builtin.min2 (Value.int k n)).run P w = .ok (.int k (l.foldl (fun x y => if y < x then y else x) n)) w
 | [], n => by simp
 | y :: r, n => by
   simp only [List.map_cons, List.foldlM_cons, Sem.run_bind, List.foldl_cons]
   have : (Builtin.min2 (.int k n) (.int k y)).run P w = .ok (.int k (if y < n then y else n)) w := by simp [Builtin.min2]
   rw [this]
   exact zvb w r _
theorem zzn {P : Program} {E : Env} {as : List AV} {vs : List Value} {k : IntKind} {ns : List Int} {n : Int} (h : ints as = some (k, ns)) (hn : maxL ns = some n) (hr : Reps E as vs) (ts : Array TypeId) (ty : TypeId) (w : World) :
   ∃ u, (Builtin.max_ ts ty vs.toArray).run P w = .ok u w ∧ Rep E (.i k n) u := by
 obtain ⟨rfl, hne⟩ := zpa h hr
 cases ns with
 | nil => exact absurd rfl hne
 | cons m r =>
   simp only [maxL, Option.some.injEq] at hn
   subst hn
   refine ⟨.int k (r.foldl (fun x y => if x < y then y else x) m), ?_, by simp only [Rep]⟩
   unfold Builtin.max_
   simpa using zub (P := P) (k := k) w r m
theorem z0x {P : Program} {E : Env} {as : List AV} {vs : List Value} {k : IntKind} {ns : List Int} {n : Int} (h : ints as = some (k, ns)) (hn : minL ns = some n) (hr : Reps E as vs) (ts : Array TypeId) (ty : TypeId) (w : World) :
   ∃ u, (Builtin.min_ ts ty vs.toArray).run P w = .ok u w ∧ Rep E (.i k n) u := by
 obtain ⟨rfl, hne⟩ := zpa h hr
 cases ns with
 | nil => exact absurd rfl hne
 | cons m r =>
   simp only [minL, Option.some.injEq] at hn
   subst hn
   refine ⟨.int k (r.foldl (fun x y => if y < x then y else x) m), ?_, by simp only [Rep]⟩
   unfold Builtin.min_
   simpa using zvb (P := P) (k := k) w r m
theorem zis {w : World} {Z : Nat → Prop} {hp : Hp} {g : Gm} (hi : Inv (Env.of w Z hp g)) {sz : Nat} {a : AV} {r : List (List AV) × List Nat} (h : content sz hp a = some r) {x : Value} (hx : Rep (Env.of w Z hp g) a x) :
   flatEs r.1 = true ∧ za2 r.1 = true ∧ ∃ A c vs, x = .slice A r.1.length c ∧ (A = none → r.1 = []) ∧ RepEs (Env.of w Z hp g) sz r.1 vs ∧ (r.1 ≠ [] → ∃ b off, A = some ⟨b, off, none⟩ ∧ CellsIn w b off vs) := by
 cases a <;> simp only [content] at h <;> try cases h
 case sl k sz' es =>
   simp only [zac, Option.some.injEq] at h
   obtain ⟨hs, rfl⟩ := h
   simp only [Rep] at hx
   obtain ⟨A, c, rfl, q1, q2, q3, q4, q5, q6, q7⟩ := hx
   refine ⟨q5, q6, ?_⟩
   by_cases hes : es = []
   · subst hes
     exact ⟨A, c, [], rfl, fun _ => rfl, by simp [RepEs], fun h => absurd rfl h⟩
   · obtain ⟨b, off, vs, rfl, k2, k3⟩ := q7 hes
     have hsz : sz' = sz := hs.resolve_right hes
     subst hsz
     exact ⟨_, c, vs, rfl, (fun h => by cases h), k3, fun _ => ⟨b, off, rfl, k2.cells⟩⟩
 case ms key ver off len =>
   simp only [zaa, zat, zac, Option.some.injEq] at h
   obtain ⟨b, ⟨hb, hv⟩, ⟨hrow, hd, hsz, hl⟩, rfl⟩ := h
   simp only [Rep] at hx
   obtain ⟨_, A, c, rfl, h2⟩ := hx
   obtain ⟨_, q1, q2, q3, q4, q5, q6, q7⟩ := h2 b hb hv
   obtain ⟨_, hR, _⟩ := hi.blk key b hb
   obtain ⟨f1, f2, f3⟩ := hR hrow
   have hlen : ((b.es.drop off).take len).length = len := by rw [List.length_take, List.length_drop]; omega
   refine ⟨zgf (f1 hd) fun x hx => zbg hx, zd2 f2 fun x hx => zbg hx, ?_⟩
   by_cases hes : (b.es.drop off).take len = []
   · have hl0 : len = 0 := by rw [← hlen, hes]; rfl
     subst hl0
     exact ⟨A, c, [], by simp, fun _ => by simp, by simp [RepEs], fun h => absurd hes h⟩
   · have hln : len ≠ 0 := by rintro rfl; simp at hes
     have hbe : b.es ≠ [] := by rintro e; rw [e] at hes; simp at hes
     obtain ⟨arr, vs, rest, k1, k2, k3⟩ := f3 hbe
     subst hsz
     exact ⟨A, c, (vs.drop (off * b.sz)).take (len * b.sz), by rw [hlen], (fun h => by rw [q7 (.inl hln)] at h; cases h), (k3.drop off).take len, fun _ => ⟨_, _, q7 (.inl hln), by
       have := ((CellsIn.of_row k1 k2).drop (off * b.sz)).take (len * b.sz)
       simpa using this⟩⟩
theorem zo9 {w : World} {Z : Nat → Prop} {hp : Hp} {g : Gm} (hi : Inv (Env.of w Z hp g)) {sz : Nat} {a : AV} {r : List (List AV) × List Nat} (h : zfj sz hp a = some r) {x : Value} (hx : Rep (Env.of w Z hp g) a x) :
   za2 r.1 = true ∧ ∃ A c vs, x = .slice A r.1.length c ∧ (A = none → r.1 = []) ∧ RepEs (Env.of w Z hp g) sz r.1 vs ∧ (r.1 ≠ [] → ∃ b off, A = some ⟨b, off, none⟩ ∧ CellsIn w b off vs) := by
 cases a <;> simp only [zfj] at h <;> try cases h
 case ms key ver off len =>
   simp only [zaa, zat, zac, Option.some.injEq] at h
   obtain ⟨b, ⟨hb, hv⟩, ⟨hrow, hsz, hl⟩, rfl⟩ := h
   simp only [Rep] at hx
   obtain ⟨_, A, c, rfl, h2⟩ := hx
   obtain ⟨_, q1, q2, q3, q4, q5, q6, q7⟩ := h2 b hb hv
   obtain ⟨_, hR, _⟩ := hi.blk key b hb
   obtain ⟨f1, f2, f3⟩ := hR hrow
   have hlen : ((b.es.drop off).take len).length = len := by rw [List.length_take, List.length_drop]; omega
   refine ⟨zd2 f2 fun x hx => zbg hx, ?_⟩
   by_cases hes : (b.es.drop off).take len = []
   · have hl0 : len = 0 := by rw [← hlen, hes]; rfl
     subst hl0
     exact ⟨A, c, [], by simp, fun _ => by simp, by simp [RepEs], fun h => absurd hes h⟩
   · have hln : len ≠ 0 := by rintro rfl; simp at hes
     have hbe : b.es ≠ [] := by rintro e; rw [e] at hes; simp at hes
     obtain ⟨arr, vs, rest, k1, k2, k3⟩ := f3 hbe
     subst hsz
     exact ⟨A, c, (vs.drop (off * b.sz)).take (len * b.sz), by rw [hlen], (fun h => by rw [q7 (.inl hln)] at h; cases h), (k3.drop off).take len, fun _ => ⟨_, _, q7 (.inl hln), by
       have := ((CellsIn.of_row k1 k2).drop (off * b.sz)).take (len * b.sz)
       simpa using this⟩⟩
theorem zj6 {P : Program} {w : World} {size : Nat} {u e' : TypeId} (hu : P.underlying u = some (.slice e')) {n c : Nat} {A : Option Addr} {vs : List Value} (hA : A = none → n = 0) (hl : vs.length = n * size) (h1 : ∀ v ∈ vs, v.oneCell' = true) (hc : n ≠ 0 → ∃ b off, A = some ⟨b, off, none⟩ ∧ CellsIn w b off vs) :
   Src P size u (.slice A n c) n vs w := by
 by_cases hn : n = 0
 · subst hn
   have hv : vs = [] := List.eq_nil_of_length_eq_zero (by rw [hl]; simp)
   subst hv
   cases A with
   | none => exact Src.ofNil w hu c
   | some a => exact Src.ofSlice w hu a 0 c [] (by simp) (by simp) (by simp)
 · obtain ⟨b, off, rfl, hc'⟩ := hc hn
   exact Src.ofSlice w hu _ n c vs hl (fun j v hv => by rw [zb5]; exact hc' j v hv) h1
end Go.Abs
end
section
set_option linter.unusedSimpArgs false
set_option linter.unusedVariables false
namespace Go.Abs
theorem zs8 {P : Program} {w : World} {Z : Nat → Prop} {hp : Hp} {g : Gm} (hi : Inv (Env.of w Z hp g)) {key : Nat} {b : Blk} (hb : look hp key = some b) (hrow : b.row = true) {off n : Nat} {ys : List (List AV)} {us : List Value} (hn : ys.length = n) (hl : off + n ≤ b.es.length)
   (hy : RepEs (Env.of w Z hp g) b.sz ys us) (hyf : b.dp = false → flatEs ys = true) (hy1 : za2 ys = true) {A : Option Addr} (hA : n ≠ 0 → A = some ⟨g key, off * b.sz, none⟩) :
   ∃ w', ((match A with | some a => storeCells a us | none => pure ()).run P w) = .ok () w' ∧ Step w w' Z hp ((key, .live { b with es := b.es.take off ++ (ys ++ b.es.drop (off + n)) }) :: hp) g g := by
 have hgk : upd g key (g key) = g := zjh _ _
 have hlen : (b.es.take off ++ (ys ++ b.es.drop (off + n))).length = b.es.length := by simp only [List.length_append, List.length_take, List.length_drop]; omega
 obtain ⟨_, hR, _⟩ := hi.blk key b hb
 obtain ⟨f1, f2, f3⟩ := hR hrow
 have hmem : ∀ x ∈ b.es.take off ++ (ys ++ b.es.drop (off + n)), x ∈ b.es ∨ x ∈ ys := by
   intro x hx
   simp only [List.mem_append] at hx
   rcases hx with hx | hx | hx
   · exact .inl (List.mem_of_mem_take hx)
   · exact .inr hx
   · exact .inl (List.mem_of_mem_drop hx)
 have hfl : b.dp = false → flatEs (b.es.take off ++ (ys ++ b.es.drop (off + n))) = true := fun hd => zav.2 fun x hx => (hmem x hx).elim (zav.1 (f1 hd) x) (zav.1 (hyf hd) x)
 have hon : za2 (b.es.take off ++ (ys ++ b.es.drop (off + n))) = true := zau.2 fun x hx => (hmem x hx).elim (zau.1 f2 x) (zau.1 hy1 x)
 by_cases h0 : n = 0
 · subst h0
   have hys : ys = [] := List.length_eq_zero_iff.1 hn
   subst hys
   simp only [RepEs] at hy
   subst hy
   have hsame : b.es.take off ++ (([] : List (List AV)) ++ b.es.drop (off + 0)) = b.es := by simp
   rw [hsame]
   refine ⟨w, by cases A <;> rfl, ?_⟩
   obtain ⟨hE, hS⟩ := zfm (w' := w) (gb := g key) (k := key) (b := b) hi rfl rfl rfl (Nat.le_refl _) (fun _ _ h => h) (fun _ _ _ => rfl) (.inr ⟨b, hb, rfl, rfl, fun _ => ⟨rfl, rfl, rfl⟩, rfl⟩) (fun hr => .inr ⟨rfl, b, hb, hr⟩)
   rw [hgk] at hE hS
   refine hS ⟨fun _ => ⟨f1, f2, fun hne => ?_⟩, BlkRep.rest hrow⟩
   obtain ⟨arr, vs, rest, k1, k2, k3⟩ := f3 hne
   exact ⟨arr, vs, rest, k1, k2, k3.ext hE⟩
 · have hes : b.es ≠ [] := by rintro he; rw [he] at hl; simp at hl; omega
   obtain ⟨arr, vs, rest, k1, k2, k3⟩ := f3 hes
   have hAe := hA h0
   subst hAe
   have hvl := k3.length
   have hul := hy.length
   have hsize : arr.size = vs.length + rest.length := by rw [← Array.length_toList, k2, List.length_append]
   have hle : (off + n) * b.sz ≤ vs.length := by rw [hvl]; exact Nat.mul_le_mul_right _ hl
   have hle2 : off * b.sz ≤ (off + n) * b.sz := Nat.mul_le_mul_right _ (by omega)
   have hfit : off * b.sz + us.length ≤ arr.size := by rw [hul, hn, ← Nat.add_mul]; omega
   have hst := zc8 (P := P) (o := off * b.sz) (us := us) k1 hfit (RepEs.oneCell hy1 hy)
   obtain ⟨hE, hS⟩ := zgm (b := { b with es := b.es.take off ++ (ys ++ b.es.drop (off + n)) }) hi hb (.inr hes) rfl rfl (fun _ => ⟨rfl, rfl, hlen.symm⟩) k1 (zb4 arr _ _ hfit)
   have hnew := setRow_heap w (g key) arr (arr.toList.take (off * b.sz) ++ us ++ arr.toList.drop (off * b.sz + us.length)).toArray b.ty (0, 0) k1
   refine ⟨_, hst, hS ⟨fun _ => ⟨hfl, hon, fun _ => ⟨_, vs.take (off * b.sz) ++ (us ++ vs.drop ((off + n) * b.sz)), rest, hnew, ?_, ?_⟩⟩, BlkRep.rest hrow⟩⟩
   · rw [List.toList_toArray, k2, List.take_append_of_le_length (by omega), List.drop_append_of_le_length (by rw [hul, hn, ← Nat.add_mul]; exact hle), hul, hn, ← Nat.add_mul]
     simp only [List.append_assoc]
   · exact ((k3.take off).append (hy.append (k3.drop (off + n)))).ext hE
theorem zwq {P : Program} {w : World} {Z : Nat → Prop} {hp : Hp} {g : Gm} (hi : Inv (Env.of w Z hp g)) {t u ty e e' : TypeId} {i : TypeInfo} (ht : P.underlying t = some (.slice e)) (hu : P.underlying u = some (.slice e')) (hinf : P.info? e = some i) {a b : AV} {r : List (List AV) × List Nat} {fx : Fx}
   (hc : content i.size hp b = some r) (hf : copyV i.size r.1 r.2 hp a = some fx) {x y : Value} (hx : Rep (Env.of w Z hp g) a x) (hy : Rep (Env.of w Z hp g) b y) :
   ∃ v w', (Builtin.copy_ #[t, u] ty #[x, y]).run P w = .ok v w' ∧ Step w w' Z hp fx.hp g g ∧ Rep (Env.of w' Z fx.hp g) fx.val v := by
 cases a <;> simp only [copyV] at hf <;> try cases hf
 case ms key ver off len =>
   simp only [zaa, zat, zac, Option.some.injEq] at hf
   obtain ⟨bk, ⟨hb, hv⟩, ⟨hrow, hd, hsz, hl⟩, rfl⟩ := hf
   obtain ⟨c1, c2, A2, cap2, vs, rfl, c3, c4, c5⟩ := zis hi hc hy
   simp only [Rep] at hx
   obtain ⟨_, A, c, rfl, h2⟩ := hx
   obtain ⟨_, q1, q2, q3, q4, q5, q6, q7⟩ := h2 bk hb hv
   obtain ⟨w', e1, e2⟩ := zs8 (P := P) (n := min r.1.length len) (ys := r.1.take (min r.1.length len)) (us := vs.take (min r.1.length len * i.size)) (A := A) hi hb hrow (by rw [List.length_take]; omega) (show off + min r.1.length len ≤ bk.es.length by omega)
     (RepEs.sz_eq hsz (c4.take _)) (fun _ => zgf c1 fun x hx => List.mem_of_mem_take hx) (zd2 c2 fun x hx => List.mem_of_mem_take hx) (fun h => q7 (.inl (by omega)))
   refine ⟨goInt (min r.1.length len : Nat), w', ?_, e2, by simp [Rep, goInt]⟩
   have hfc : (Builtin.firstCells i.size (min r.1.length len) (.slice A2 r.1.length cap2)).run P w = .ok (vs.take (min r.1.length len * i.size)).toArray w := by
     by_cases hr : r.1 = []
     · have hvs : vs = [] := List.eq_nil_of_length_eq_zero (by rw [c4.length, hr]; simp)
       subst hvs
       cases A2 with
       | none => simp [Builtin.firstCells]
       | some a2 =>
         have := run_firstCells_some (P := P) w i.size 0 a2 r.1.length cap2 [] (by simp) (by simp)
         simpa [hr] using this
     · obtain ⟨b2, o2, rfl, h6⟩ := c5 hr
       have hvl := c4.length
       exact run_firstCells_some w i.size _ _ _ _ _ (by rw [List.length_take, hvl, Nat.min_eq_left (Nat.mul_le_mul_right _ (Nat.min_le_left _ _))]) (fun j v hv => by rw [zb5]; exact h6.take _ j v hv)
   have hmin : Nat.min r.1.length len = min r.1.length len := rfl
   cases A with
   | none =>
     simp only [Sem.run_pure] at e1
     simp [Builtin.copy_, run_underlying ht, Builtin.lenOf, Go.sizeOf, typeInfo, hinf, hmin, hfc]
     simpa using e1
   | some a1 =>
     simp only at e1
     simp [Builtin.copy_, run_underlying ht, Builtin.lenOf, Go.sizeOf, typeInfo, hinf, hmin, hfc, e1]
theorem zte {P : Program} {w : World} {Z : Nat → Prop} {hp : Hp} {g : Gm} (hi : Inv (Env.of w Z hp g)) {t ty e : TypeId} {zs : List AV} (ht : P.underlying t = some (.slice e)) (hz : zeroOf P e = some zs) (hz0 : 0 < zs.length) {a : AV} {fx : Fx}
   (hf : zk6 zs hp a = some fx) {x : Value} (hx : Rep (Env.of w Z hp g) a x) :
   ∃ v w', (Builtin.clear_ #[t] ty #[x]).run P w = .ok v w' ∧ Step w w' Z hp fx.hp g g ∧ Rep (Env.of w' Z fx.hp g) fx.val v := by
 obtain ⟨i, zv, hinf, hzv, hzr, hzf, hz1, hzrun⟩ := zck hz
 cases a <;> simp only [zk6] at hf <;> try cases hf
 case ms key ver off len =>
   simp only [zaa, zat, zac, Option.some.injEq] at hf
   obtain ⟨bk, ⟨hb, hv⟩, ⟨hrow, hd, hsz, hl⟩, rfl⟩ := hf
   simp only [Rep] at hx
   obtain ⟨_, A, c, rfl, h2⟩ := hx
   obtain ⟨_, q1, q2, q3, q4, q5, q6, q7⟩ := h2 bk hb hv
   have hzc : zv.cells.size = zs.length := by rw [← Array.length_toList]; exact (hzr (Env.of w Z hp g)).length
   have hzl := zgw zv.cells (by omega) len
   obtain ⟨w', e1, e2⟩ := zs8 (P := P) (n := len) (ys := List.replicate len zs) (us := (Builtin.zeroCells zv.cells len).toList) (A := A) hi hb hrow (by simp) hl
     (by rw [hzl]; exact RepEs.sz_eq hsz (RepEs.replicate (hzr _) len)) (fun _ => zda hzf len) (zcr hz1 len) (fun h => q7 (.inl h))
   refine ⟨.tuple #[], w', ?_, e2, by simp [Rep, Abs.undef, Reps]⟩
   unfold Builtin.clear_
   cases A with
   | none =>
     simp only [Sem.run_pure] at e1
     cases e1
     simp [run_underlying ht]
   | some a1 =>
     simp only at e1
     cases len with
     | zero =>
       simp [Builtin.zeroCells, storeCells] at e1
       subst e1
       simp [run_underlying ht]
     | succ n => simp [run_underlying ht, hzrun, e1]
theorem zro {P : Program} {w : World} {Z : Nat → Prop} {hp : Hp} {g : Gm} (hi : Inv (Env.of w Z hp g)) {t e : TypeId} {zs : List AV} {s : Nat} (ht : P.underlying t = some (.slice e)) (hz : zeroOf P e = some zs) (hs : szOf P e = some s) (hs0 : 0 < s) (hzl : zs.length = s) (hsl : slim P e = true) {a : AV} {m key : Nat} {fx : Fx}
   (hm : zlg a = some m) (hf : newRow e zs.length key (List.replicate m zs) hp [] = some fx) {x : Value} (hx : Rep (Env.of w Z hp g) a x) :
   ∃ v w' g', (Instr.makeSlice t x x).run P w = .ok v w' ∧ Step w w' Z hp fx.hp g g' ∧ Rep (Env.of w' Z fx.hp g') fx.val v := by
 obtain ⟨i, zv, hinf, hzv, hzr, hzf, hz1, hzrun⟩ := zck hz
 have hsi : i.size = s := by
   unfold szOf at hs
   rw [hinf] at hs
   simpa using hs
 have hby : i.bytes ≤ 512 := by
   unfold slim at hsl
   rw [hinf] at hsl
   simpa using hsl
 have hzc : zv.cells.size = i.size := by rw [← Array.length_toList, (hzr (Env.of w Z hp g)).length, hzl, hsi]
 cases a <;> simp only [zlg] at hm <;> try cases hm
 rename_i k n
 cases k <;> simp only [zlg] at hm <;> try cases hm
 simp only [zac, Option.some.injEq] at hm
 obtain ⟨⟨h0, hlim⟩, rfl⟩ := hm
 simp only [Rep] at hx
 subst hx
 simp only [LIM] at hlim
 have hb : (i.bytes : Int) * n ≤ 281474976710656 := by
   have h1 : i.bytes * n.toNat ≤ 512 * 274877906944 := Nat.mul_le_mul hby hlim
   have h2 : ((i.bytes * n.toNat : Nat) : Int) = (i.bytes : Int) * n := by rw [Int.natCast_mul, Int.toNat_of_nonneg h0]
   omega
 have hrun := run_make (P := P) w t e i zv ht hinf hzv .i64 .i64 n n h0 (Int.le_refl _) hb (by omega)
 have hml := ze0 zv.cells (by omega) n.toNat
 rw [hzc] at hml
 obtain ⟨s1, s2⟩ := zop (arr := madeCells zv.cells (n.toNat * i.size)) hi (by rw [hml]; exact RepEs.replicate (hzr _) _) (zda hzf _) (zcr hz1 _) hf
 exact ⟨_, _, _, hrun, s1, by simpa using s2⟩
end Go.Abs
end
section
set_option linter.unusedSimpArgs false
set_option linter.unusedVariables false
namespace Go.Abs
theorem step_more {w w' : World} {Z : Nat → Prop} {hp : Hp} {g : Gm} (hi : Inv (Env.of w Z hp g)) (hos : w'.os = w.os) (htape : w'.tape = w.tape) (hout : w'.output = w.output) (hsz : w.heap.size ≤ w'.heap.size) (hold : ∀ i, i < w.heap.size → w'.heap[i]? = w.heap[i]?) : Step w w' Z hp hp g g := by
 have hE : Ext (Env.of w Z hp g) (Env.of w' Z hp g) := by
   refine ⟨⟨fun _ => Nat.le_refl _, fun k b hb _ => ⟨b, hb, rfl, rfl, rfl, fun _ => ⟨rfl, rfl, rfl⟩⟩, ⟨rfl, rfl⟩⟩, fun b hb off v hv => ⟨?_, hb⟩, fun gb n hs => ?_⟩
   · have hlt := World.block_lt_of_cell? w _ hv
     have : w'.heap[b]? = w.heap[b]? := hold b hlt
     have e : w'.cell? ⟨b, off, none⟩ = w.cell? ⟨b, off, none⟩ := World.cell?_of_block this
     rw [e]; exact hv
   · obtain ⟨arr, ty, fr, h1, h2⟩ := hs
     exact ⟨arr, ty, fr, by rw [hold _ (za6 h1)]; exact h1, h2⟩
 refine ⟨hE, ⟨fun k b hb => ⟨(hi.blk k b hb).1, (hi.blk k b hb).2.ext hE fun hr => hold _ ((hi.blk k b hb).2.lt hr)⟩, hi.dis, hi.inj, fun i hz => Nat.lt_of_lt_of_le (hi.zlt i hz) hsz⟩, fun i h => .inl h, hos, htape, hout, hsz, fun i hlt _ => hold i hlt⟩
theorem zyd {E : Env} : ∀ {es : List (List AV)} {l : List UInt8} {vs : List Value}, u8s es = some l → RepEs E 1 es vs → ∃ ns : List Int, vs = ns.map (Value.int .u8) ∧ l = ns.map fun n => UInt8.ofNat n.toNat
 | [], l, vs, h, hr => by
   simp only [u8s, Option.some.injEq] at h
   subst h
   simp only [RepEs] at hr
   exact ⟨[], by simpa using hr, rfl⟩
 | e :: r, l, vs, h, hr => by
   unfold u8s at h
   split at h
   · rename_i heq; cases heq
   · rename_i n r' heq
     injection heq with h1 h2
     subst h1
     subst h2
     simp only [Option.map_eq_some_iff] at h
     obtain ⟨l', h1, rfl⟩ := h
     simp only [RepEs, Reps, Rep] at hr
     obtain ⟨v, vs', rfl, _, ⟨u, us, rfl, rfl, rfl⟩, h2⟩ := hr
     obtain ⟨ns, rfl, rfl⟩ := zyd h1 h2
     exact ⟨n :: ns, rfl, rfl⟩
   · cases h
theorem zmm : ∀ (l : List UInt8) (s : ByteArray), (l.foldl (fun r c => r.push c) s) = ⟨s.data ++ l.toArray⟩
 | [], s => by simp
 | c :: r, s => by
   rw [List.foldl_cons, zmm r]
   congr 1
   simp [ByteArray.data_push]
theorem z3k {P : Program} {w : World} {Z : Nat → Prop} {hp : Hp} {g : Gm} (hi : Inv (Env.of w Z hp g)) {src dst e : TypeId} (hs : P.underlying src = some (.slice e)) (he : P.underlying e = some (.int .u8)) (hd : P.underlying dst = some .string) {a : AV} {r : List (List AV) × List Nat} {l : List UInt8}
   (hc : content 1 hp a = some r) (hl : u8s r.1 = some l) {x : Value} (hx : Rep (Env.of w Z hp g) a x) : ∃ v, (convert src dst x).run P w = .ok v w ∧ Rep (Env.of w Z hp g) (.str l) v := by
 obtain ⟨c1, c2, A, c, vs, rfl, c3, c4, c5⟩ := zis hi hc hx
 obtain ⟨ns, hvs, hls⟩ := zyd hl c4
 have hlen : vs.length = r.1.length := by rw [c4.length, Nat.mul_one]
 refine ⟨.string ⟨l.toArray⟩, ?_, by simp [Rep]⟩
 rw [run_convert_bytes_string w src dst e A _ _ hs he hd]
 cases A with
 | none =>
   have hr := c3 rfl
   rw [hr] at hl
   simp only [u8s, Option.some.injEq] at hl
   subst hl
   rfl
 | some ad =>
   have hload : (loadCells ad r.1.length).run P w = .ok (ns.map (Value.int .u8)).toArray w := by
     rw [← hvs, ← hlen]
     by_cases hr : r.1 = []
     · have hv0 : vs = [] := List.eq_nil_of_length_eq_zero (by rw [hlen, hr]; rfl)
       subst hv0
       exact run_loadCells_list (P := P) w ad [] (by simp)
     · obtain ⟨b, off, hA, h6⟩ := c5 hr
       injection hA with hA
       subst hA
       exact run_loadCells_list (P := P) w _ vs (fun j v hv => by rw [zb5]; exact h6 j v hv)
   rw [run_bytesToString w ad _ _ ns hload]
   congr 2
   have := zmm l ByteArray.empty
   rw [hls, List.foldl_map] at this
   rw [hls, this]
   simp [ByteArray.empty, ByteArray.emptyWithCapacity]
   rfl
theorem zky (E : Env) : ∀ l : List UInt8, RepEs E 1 (zg1 l) (l.map fun c => Value.int .u8 (c.toNat : Int))
 | [] => by simp [zg1, RepEs]
 | c :: r => by
   have := zky E r
   simp only [zg1] at this ⊢
   simp only [List.map_cons, RepEs, Reps, Rep]
   exact ⟨[.int .u8 c.toNat], _, rfl, rfl, ⟨_, [], rfl, rfl, rfl⟩, this⟩
theorem zmd (l : List UInt8) : flatEs (zg1 l) = true := zav.2 fun x hx => by
 simp only [zg1, List.mem_map] at hx
 obtain ⟨c, _, rfl⟩ := hx
 rfl
theorem zlr (l : List UInt8) : za2 (zg1 l) = true := zau.2 fun x hx => by
 simp only [zg1, List.mem_map] at hx
 obtain ⟨c, _, rfl⟩ := hx
 rfl
theorem zfw (l : List UInt8) : (zg1 l).length = l.length := by simp [zg1]
theorem zg7 {W : World} {cs : Array Value} {e : TypeId} {n b : Nat} (h : W.heap[b]? = some (.cells cs e (0, 0))) : (W.freeze ⟨b, n, none⟩ 1).heap[b]? = some (.cells cs e (n, n + 1)) := by
 simp [World.freeze, Array.getElem?_modify, h]
theorem zf6 {W : World} {n b i : Nat} (h : i ≠ b) : (W.freeze ⟨b, n, none⟩ 1).heap[i]? = W.heap[i]? := by
 simp [World.freeze, Array.getElem?_modify, Ne.symm h]
theorem zg5 {W : World} {n b : Nat} : (W.freeze ⟨b, n, none⟩ 1).heap.size = W.heap.size := by
 simp [World.freeze]
theorem z51 {P : Program} {w : World} {Z : Nat → Prop} {hp : Hp} {g : Gm} (hi : Inv (Env.of w Z hp g)) {src dst e : TypeId} (hs : P.underlying src = some .string) (he : P.underlying e = some (.int .u8)) (hd : P.underlying dst = some (.slice e)) {l : List UInt8} {x : Value} (hx : Rep (Env.of w Z hp g) (.str l) x) :
   ∃ v w', (convert src dst x).run P w = .ok v w' ∧ Step w w' Z hp hp g g ∧ Rep (Env.of w' Z hp g) (.sl .open_ 1 (zg1 l)) v := by
 simp only [Rep] at hx
 subst hx
 have hcap := grownCap_ge w l.length 0 e
 have hcs : ((l.map fun c => Value.int .u8 (c.toNat : Int)).toArray ++ Array.replicate (grownCap w l.length 0 e - l.length) (Value.int .u8 0)).size = grownCap w l.length 0 e := by simp; omega
 refine ⟨.slice (some ⟨w.heap.size, 0, none⟩) l.length (grownCap w l.length 0 e), (w.drew.alloc (.cells ((l.map fun c => Value.int .u8 (c.toNat : Int)).toArray ++ Array.replicate (grownCap w l.length 0 e - l.length) (.int .u8 0)) e)).freeze ⟨w.heap.size, grownCap w l.length 0 e, none⟩ 1, ?_, ?_, ?_⟩
 · have hsh : (w.drew.alloc (.cells ((l.map fun c => Value.int .u8 (c.toNat : Int)).toArray ++ Array.replicate (grownCap w l.length 0 e - l.length) (.int .u8 0)) e)).shape? w.heap.size = some (e, grownCap w l.length 0 e) := by
     unfold World.shape?
     rw [show (w.drew.alloc (.cells ((l.map fun c => Value.int .u8 (c.toNat : Int)).toArray ++ Array.replicate (grownCap w l.length 0 e - l.length) (.int .u8 0)) e)).heap[w.heap.size]? = some (.cells _ e (0, 0)) from heap_alloc_new w.drew _]
     simp only [hcs]
   have hq : (Question.appendCap l.length 0 e).cut (w.tape w.drawn (Question.appendCap l.length 0 e)) = grownCap w l.length 0 e := rfl
   simp [convert, run_underlying hs, run_underlying hd, run_underlying he, Conv.stringToBytes, zgk, Question.forced, Go.newRow, hq, markStringish]
   rw [hsh]
   simp
 · refine step_more hi rfl rfl rfl (by rw [zg5]; simp) (fun i hlt => ?_)
   rw [zf6 (by omega)]
   exact heap_alloc_old w.drew _ _ hlt
 · simp only [Rep]
   refine ⟨_, _, by rw [zfw], by rw [zfw]; exact hcap, by simp, by simp, by simp, zmd l, zlr l, fun hne => ⟨w.heap.size, 0, _, rfl, ?_, zky _ l⟩⟩
   intro j v hv
   refine ⟨?_, fun hx => ?_⟩
   · rw [cell_of_row _ w.heap.size _ _ e _ (zg7 (heap_alloc_new w.drew _)), Nat.zero_add]
     have hlt := (List.getElem?_eq_some_iff.1 hv).1
     rw [Array.getElem?_append_left (by simpa using hlt)]
     simpa using hv
   · have := hi.lt (i := w.heap.size) hx
     simp at this
theorem zo8 {w : World} {cs : Array Value} {e : TypeId} {b n : Nat} (h : w.heap[b]? = some (.cells cs e (0, 0))) (i off : Nat) : (w.freeze ⟨b, n, none⟩ 1).cell? ⟨i, off, none⟩ = w.cell? ⟨i, off, none⟩ := by
 by_cases hb : i = b
 · subst hb
   rw [cell_of_row _ i off cs e _ (zg7 h), cell_of_row w i off cs e _ h]
 · exact World.cell?_of_block (zf6 (W := w) hb)
theorem zze {P : Program} {w : World} {Z : Nat → Prop} {hp : Hp} {g : Gm} (hi : Inv (Env.of w Z hp g)) {src e : TypeId} (hs : P.underlying src = some (.slice e)) (he : P.underlying e = some (.int .u8)) {a : AV} {fx : Fx} (hf : frzV hp a = some fx) {x : Value} (hx : Rep (Env.of w Z hp g) a x) :
   ∃ w', (convert src src x).run P w = .ok x w' ∧ Step w w' Z hp fx.hp g g ∧ Rep (Env.of w' Z fx.hp g) fx.val x := by
 cases a <;> simp only [frzV] at hf <;> try cases hf
 case ms key ver off len =>
   simp only [zaa, zat, zac, Option.some.injEq] at hf
   obtain ⟨b, ⟨hb, hv⟩, ⟨hrow, hd, hl, hne, hlo⟩, rfl⟩ := hf
   have hes : b.es ≠ [] := fun h => hne (by rw [h]; rfl)
   have hread := Rep.row_read hi hx hb hv hrow hd hl (fun i => (Env.of w Z (drop hp key) g).X i) (fun i h => (ze6 w Z hp g key).2.2 i h) (fun hr => zga hi hb hr)
   simp only [Rep] at hx
   obtain ⟨_, A, c, rfl, h2⟩ := hx
   obtain ⟨_, q1, q2, q3, q4, q5, q6, q7⟩ := h2 b hb hv
   have hA := q7 (by
     rcases hlo with h | h
     · exact .inl h
     · exact .inr ⟨h, hes⟩)
   subst hA
   obtain ⟨_, hR, _⟩ := hi.blk key b hb
   obtain ⟨f1, f2, f3⟩ := hR hrow
   have f1 := f1 hd
   obtain ⟨arr, vs, rest, k1, k2, k3⟩ := f3 hes
   have p1 := PackOk.one (w := w) (Z := Z) (g := g) hi hb (.inr hes)
   have hgone := zga hi hb (.inr hes)
   have hother : ∀ i, i ≠ g key → (w.freeze ⟨g key, arr.size, none⟩ 1).heap[i]? = w.heap[i]? := fun i h => zf6 h
   have hE : Ext (Env.of w Z (drop hp key) g) (Env.of (w.freeze ⟨g key, arr.size, none⟩ 1) Z (drop hp key) g) := by
     refine ⟨⟨fun _ => Nat.le_refl _, fun k b hb _ => ⟨b, hb, rfl, rfl, rfl, fun _ => ⟨rfl, rfl, rfl⟩⟩, ⟨rfl, rfl⟩⟩, fun b hbx off v hv => ⟨by rw [zo8 k1]; exact hv, hbx⟩, fun gb n hs => ?_⟩
     obtain ⟨arr2, ty, fr, h1, h2⟩ := hs
     by_cases e : gb = g key
     · subst e
       rw [k1] at h1
       simp only [Option.some.injEq, Obj.cells.injEq] at h1
       obtain ⟨rfl, _, _⟩ := h1
       exact ⟨_, _, _, zg7 k1, h2⟩
     · exact ⟨arr2, ty, fr, by rw [hother gb e]; exact h1, h2⟩
   have hS : Step w (w.freeze ⟨g key, arr.size, none⟩ 1) Z hp (drop hp key) g g := by
     refine ⟨p1.ext.trans hE, ⟨fun k b' hb' => ⟨(p1.inv.blk k b' hb').1, (p1.inv.blk k b' hb').2.ext hE fun hr => hother _ fun e => hgone (.inr ⟨k, b', hb', hr, e⟩)⟩, p1.inv.dis, p1.inv.inj, fun i hz => ?_⟩, fun i h => .inl (p1.less i h), rfl, rfl, rfl, ?_, fun i hlt hm => hother i ?_⟩
     · rw [zg5]; exact hi.zlt i hz
     · rw [zg5]; exact Nat.le_refl _
     · rintro rfl
       exact hm ⟨key, b, hb, .inr hes, rfl⟩
   refine ⟨_, ?_, hS, ?_⟩
   · have hsh : w.shape? (g key) = some (b.ty, arr.size) := by
       unfold World.shape?
       rw [k1]
     simp [convert, run_underlying hs, run_underlying he, markStringish, hsh]
   · refine Rep.ext hE _ _ (Rep.flat (E := Env.imm w _) (E' := Env.of w Z (drop hp key) g) rfl (fun i hx => (Env.imm_X _ _ _).2 hx) _ _ ?_ hread)
     rfl
end Go.Abs
end
section
set_option linter.unusedSimpArgs false
set_option linter.unusedVariables false
namespace Go.Abs
theorem ztr {P : Program} {t : TypeId} {z : AV} (h : zv7 P t = some z) : ∃ v, (∀ E, Rep E z v) ∧ ∀ w, (zeroValue t).run P w = .ok v w := by
 unfold zv7 at h
 split at h
 · rename_i i hi
   split at h
   · rename_i v hv
     exact ⟨v, fun E => (zqn h).1, fun w => by simp [zeroValue, typeInfo, hi, hv]⟩
   · cases h
 · cases h
theorem z1h (a b : List UInt8) : ((⟨a.toArray⟩ : ByteArray) == ⟨b.toArray⟩) = (a == b) := by
 show (a.toArray == b.toArray) = (a == b)
 simp
theorem zie (a : ByteArray) : (a == a) = true := by
 show (a.data == a.data) = true
 simp
theorem ztm {E : Env} {kk : MK} {d : TypeDesc} (hd : mkOf d = some kk) {k a : AV} {kv av : Value} {c : Bool} (h : zwg kk k a = some c) (hk : Rep E k kv) (ha : Rep E a av) :
   Instr.sameNow d kv av = some c ∧ (c = true → kv = av ∧ Instr.sameBits 10000 av kv = true) := by
 unfold zwg at h
 split at h
 · rename_i k1 x k2 y
   simp only [zac, Option.some.injEq] at h
   obtain ⟨rfl, rfl⟩ := h
   simp only [Rep] at hk ha
   subst hk
   subst ha
   cases d <;> simp only [mkOf, Option.some.injEq, reduceCtorEq] at hd
   refine ⟨by simp [Instr.sameNow], fun hc => ?_⟩
   have : x = y := by simpa using hc
   subst this
   exact ⟨rfl, by simp [Instr.sameBits, zie]⟩
 · rename_i x y
   simp only [Option.some.injEq] at h
   subst h
   simp only [Rep] at hk ha
   subst hk
   subst ha
   cases d <;> simp only [mkOf, Option.some.injEq, reduceCtorEq] at hd
   refine ⟨by simp only [Instr.sameNow, z1h], fun hc => ?_⟩
   have : x = y := by simpa using hc
   subst this
   exact ⟨rfl, by simp [Instr.sameBits, zie]⟩
 · rename_i x y
   simp only [Option.some.injEq] at h
   subst h
   simp only [Rep] at hk ha
   subst hk
   subst ha
   cases d <;> simp only [mkOf, Option.some.injEq, reduceCtorEq] at hd
   refine ⟨by simp [Instr.sameNow], fun hc => ?_⟩
   have : x = y := by simpa using hc
   subst this
   exact ⟨rfl, by simp [Instr.sameBits, zie]⟩
 · cases h
theorem zjw {E : Env} {kk : MK} {d : TypeDesc} (hd : mkOf d = some kk) {k : AV} {kv : Value} (hk : Rep E k kv) : ∀ {es : List (List AV)} {l : List MapEntry} {i : Nat} {r : Option (Nat × AV)}, MapEs E es l → zka kk k es i = some r →
   (r = none → Instr.findNow d kv l i = some none) ∧ (∀ j v, r = some (j, v) → i ≤ j ∧ ∃ m, l[j - i]? = some m ∧ m.key = kv ∧ Instr.sameBits 10000 m.key kv = true ∧ Rep E v m.val ∧ Instr.findNow d kv l i = some (some (j, m.val)))
 | [], l, i, r, hr, h => by
   simp only [MapEs] at hr
   subst hr
   simp only [zka, Option.some.injEq] at h
   subst h
   exact ⟨fun _ => by simp [Instr.findNow], fun j v h => by cases h⟩
 | e :: es, l, i, r, hr, h => by
   simp only [MapEs] at hr
   obtain ⟨a, v, m, l', rfl, rfl, h3, h4, h5⟩ := hr
   simp only [zka, zaa] at h
   obtain ⟨c, hc, h⟩ := h
   obtain ⟨s1, s2⟩ := ztm hd hc hk h3
   cases c with
   | true =>
     simp only [way, Option.some.injEq] at h
     subst h
     obtain ⟨q1, q2⟩ := s2 rfl
     refine ⟨(fun h => by cases h), fun j v' hj => ?_⟩
     simp only [Option.some.injEq, Prod.mk.injEq] at hj
     obtain ⟨rfl, rfl⟩ := hj
     exact ⟨Nat.le_refl _, m, by simp, q1.symm, q2, h4, by simp [Instr.findNow, s1]⟩
   | false =>
     simp only [way] at h
     obtain ⟨p1, p2⟩ := zjw hd hk (i := i + 1) h5 h
     refine ⟨fun hr => ?_, fun j v' hj => ?_⟩
     · simp only [Instr.findNow, s1]
       exact p1 hr
     · obtain ⟨t1, m', t2, t3, t4, t5, t6⟩ := p2 j v' hj
       refine ⟨by omega, m', ?_, t3, t4, t5, ?_⟩
       · rw [show j - i = (j - (i + 1)) + 1 by omega]
         simpa using t2
       · simp only [Instr.findNow, s1]
         exact t6
theorem zdr {P : Program} {w : World} {kt : TypeId} {d : TypeDesc} {kk : MK} (hd : P.underlying kt = some d) (hm : mkOf d = some kk) (e : Bool) (n : Nat) (v : Value) : (Instr.checkKey e (n + 1) kt v).run P w = .ok () w := by
 cases d <;> simp only [mkOf, Option.some.injEq, reduceCtorEq] at hm <;> simp [Instr.checkKey, run_underlying hd]
theorem zk0 {P : Program} {kt : TypeId} {kk : MK} (h : mapKey P kt = some kk) : ∃ d, P.underlying kt = some d ∧ mkOf d = some kk := by
 unfold mapKey at h
 split at h
 · rename_i d hd; exact ⟨d, hd, h⟩
 · cases h
theorem zu2 {w : World} {Z : Nat → Prop} {hp : Hp} {g : Gm} (hi : Inv (Env.of w Z hp g)) {key : Nat} {fx : Fx} (h : zj7 key hp = some fx) :
   Step w (w.alloc (.map #[] 0)) Z hp fx.hp g (upd g key w.heap.size) ∧ Rep (Env.of (w.alloc (.map #[] 0)) Z fx.hp (upd g key w.heap.size)) fx.val (.map (some w.heap.size)) := by
 unfold zj7 at h
 injection h with h
 subst h
 have hnew : (w.alloc (.map #[] 0)).heap[w.heap.size]? = some (.map #[] 0) := heap_alloc_new w _
 obtain ⟨hE, hS⟩ := zfm (w' := w.alloc (.map #[] 0)) (gb := w.heap.size) (k := key) (b := { ver := zad hp key, row := false, nl := false, ty := 0, sz := 2, es := [], mp := true }) hi rfl rfl rfl (by simp) (fun _ _ h => zi2 h)
   (fun i hlt _ => heap_alloc_old w _ _ hlt) (.inl (Nat.le_refl _)) (fun _ => .inl (Nat.le_refl _))
 refine ⟨hS ⟨(fun h => by cases h), (fun _ h => by cases h), fun _ _ => ⟨#[], 0, rfl, hnew, by simp [MapEs]⟩⟩, ?_⟩
 simp only [Rep]
 refine ⟨by simp [zam], _, rfl, fun b hb _ _ => ?_⟩
 simp only [upd_same]
theorem zvz {P : Program} {w : World} {Z : Nat → Prop} {hp : Hp} {g : Gm} (hi : Inv (Env.of w Z hp g)) {t kt e : TypeId} {kk : MK} {z : AV} (ht : P.underlying t = some (.map kt e)) (hz : zv7 P e = some z) (hkk : mapKey P kt = some kk)
   {x k : AV} {xv kv : Value} {ok : Bool} {fx : Fx} (h : zpd kk z ok k hp x = some fx) (hx : Rep (Env.of w Z hp g) x xv) (hk : Rep (Env.of w Z hp g) k kv) :
   fx.hp = hp ∧ ∃ v, (Instr.lookup t xv kv ok).run P w = .ok v w ∧ Rep (Env.of w Z hp g) fx.val v := by
 unfold zpd at h
 split at h
 · rename_i key ver
   simp only [zaa, zat, zac, Option.some.injEq] at h
   obtain ⟨b, ⟨hb, hv⟩, ⟨hrow, hmp⟩, r, hr, rfl⟩ := h
   obtain ⟨arr, clock, e1, e2, e3⟩ := (hi.blk key b hb).2.2.2 hrow hmp
   simp only [Rep] at hx
   obtain ⟨_, ad, rfl, hpt⟩ := hx
   have had := hpt b hb hv hrow
   subst had
   obtain ⟨d, hd, hm⟩ := zk0 hkk
   obtain ⟨zv, hzr, hzv⟩ := ztr hz
   obtain ⟨q1, q2⟩ := zjw hm hk e3 hr
   refine ⟨rfl, ?_⟩
   cases r with
   | none =>
     refine ⟨if ok then .tuple #[zv, .bool false] else zv, ?_, ?_⟩
     · simp [Instr.lookup, run_underlying ht, MapKept.run_getObj_map e2, zdr hd hm, MapKept.run_findKey hd (q1 rfl), hzv, Result.andThen]
     · cases ok <;> simp only [zgv, Bool.false_eq_true, if_false, if_true]
       · exact hzr _
       · simp only [Rep]
         refine ⟨_, rfl, ?_⟩
         simp only [Reps]
         exact ⟨_, _, rfl, hzr _, _, _, rfl, by simp only [Rep], rfl⟩
   | some x =>
     obtain ⟨_, m, _, _, _, q3, q4⟩ := q2 x.1 x.2 rfl
     refine ⟨if ok then .tuple #[m.val, .bool true] else m.val, ?_, ?_⟩
     · simp [Instr.lookup, run_underlying ht, MapKept.run_getObj_map e2, zdr hd hm, MapKept.run_findKey hd q4, Result.andThen]
     · cases ok <;> simp only [zgv, Bool.false_eq_true, if_false, if_true]
       · exact q3
       · simp only [Rep]
         refine ⟨_, rfl, ?_⟩
         simp only [Reps]
         exact ⟨_, _, rfl, q3, _, _, rfl, by simp only [Rep], rfl⟩
 · cases h
theorem MapEs.length {E : Env} : ∀ {es : List (List AV)} {l : List MapEntry}, MapEs E es l → l.length = es.length
 | [], l, h => by simp only [MapEs] at h; subst h; rfl
 | e :: r, l, h => by
   simp only [MapEs] at h
   obtain ⟨k, v, m, l', _, rfl, _, _, h5⟩ := h
   simp [MapEs.length h5]
theorem MapEs.push {E : Env} {k v : AV} {m : MapEntry} (hk : Rep E k m.key) (hv : Rep E v m.val) : ∀ {es : List (List AV)} {l : List MapEntry}, MapEs E es l → MapEs E (es ++ [[k, v]]) (l ++ [m])
 | [], l, h => by
   simp only [MapEs] at h
   subst h
   simp only [List.nil_append, MapEs]
   exact ⟨k, v, m, [], rfl, rfl, hk, hv, rfl⟩
 | e :: r, l, h => by
   simp only [MapEs] at h
   obtain ⟨k', v', m', l', rfl, rfl, h3, h4, h5⟩ := h
   simp only [List.cons_append, MapEs]
   exact ⟨k', v', m', _, rfl, rfl, h3, h4, MapEs.push hk hv h5⟩
theorem MapEs.set {E : Env} {k v : AV} {m : MapEntry} (hk : Rep E k m.key) (hv : Rep E v m.val) : ∀ {es : List (List AV)} {l : List MapEntry} {j : Nat}, MapEs E es l → MapEs E (es.set j [k, v]) (l.set j m)
 | [], l, j, h => by
   simp only [MapEs] at h
   subst h
   simp [MapEs]
 | e :: r, l, 0, h => by
   simp only [MapEs] at h
   obtain ⟨k', v', m', l', rfl, rfl, h3, h4, h5⟩ := h
   simp only [List.set_cons_zero, MapEs]
   exact ⟨k, v, m, _, rfl, rfl, hk, hv, h5⟩
 | e :: r, l, j + 1, h => by
   simp only [MapEs] at h
   obtain ⟨k', v', m', l', rfl, rfl, h3, h4, h5⟩ := h
   simp only [List.set_cons_succ, MapEs]
   exact ⟨k', v', m', _, rfl, rfl, h3, h4, MapEs.set hk hv h5⟩
theorem zrg {w : World} {r gb n : Nat} {es : Array MapEntry} {clock : Nat} {o : Obj} (hb : w.heap[r]? = some (.map es clock)) (h : zay w gb n) : zay { w with heap := w.heap.setIfInBounds r o } gb n := by
 obtain ⟨arr, ty, fr, h1, h2⟩ := h
 refine ⟨arr, ty, fr, ?_, h2⟩
 have hne : r ≠ gb := by rintro rfl; rw [hb] at h1; cases h1
 simp [Array.getElem?_setIfInBounds, hne, h1]
theorem zw2 {P : Program} {w : World} {Z : Nat → Prop} {hp : Hp} {g : Gm} (hi : Inv (Env.of w Z hp g)) {t kt e : TypeId} {kk : MK} (ht : P.underlying t = some (.map kt e)) (hkk : mapKey P kt = some kk)
   {x k v : AV} {xv kv vv : Value} {fx : Fx} (h : zpb kk k v hp x = some fx) (hx : Rep (Env.of w Z hp g) x xv) (hk : Rep (Env.of w Z hp g) k kv) (hv : Rep (Env.of w Z hp g) v vv) :
   ∃ w', (Instr.mapUpdate t xv kv vv).run P w = .ok () w' ∧ Step w w' Z hp fx.hp g g ∧ fx.val = Abs.undef := by
 unfold zpb at h
 split at h
 · rename_i key ver
   simp only [zaa, zat, zac, Option.some.injEq] at h
   obtain ⟨⟨hfk, hfv⟩, b, ⟨hb, hver⟩, ⟨hrow, hmp⟩, r, hr, rfl⟩ := h
   obtain ⟨arr, clock, e1, e2, e3⟩ := (hi.blk key b hb).2.2.2 hrow hmp
   simp only [Rep] at hx
   obtain ⟨_, ad, rfl, hpt⟩ := hx
   have had := hpt b hb hver hrow
   subst had
   obtain ⟨d, hd, hm⟩ := zk0 hkk
   obtain ⟨q1, q2⟩ := zjw hm hk e3 hr
   have hup : upd g key (g key) = g := zjh _ _
   have hlt := za6 e2
   have step : ∀ (arr' : Array MapEntry) (clock' : Nat) (es' : List (List AV)), flatEs es' = true → (∀ E', Ext (Env.of w Z hp g) E' → MapEs E' es' arr'.toList) →
       Step w { w with heap := w.heap.setIfInBounds (g key) (.map arr' clock') } Z hp ((key, .live { b with es := es' }) :: hp) g g := by
     intro arr' clock' es' h1 h2
     obtain ⟨hE, hS⟩ := zfm (w' := { w with heap := w.heap.setIfInBounds (g key) (.map arr' clock') }) (gb := g key) (k := key) (b := { b with es := es' }) hi rfl rfl rfl (by simp) (fun _ _ h => zrg e2 h)
       (fun i _ hne => by
         have : g key ≠ i := fun e => hne ⟨e.symm, b, hb, .inl hrow⟩
         simp [Array.getElem?_setIfInBounds, this])
       (.inr ⟨b, hb, rfl, rfl, (fun h => by rw [hrow] at h; cases h), rfl⟩) (fun _ => .inr ⟨rfl, b, hb, .inl hrow⟩)
     rw [hup] at hE hS
     refine hS ⟨(fun h => by rw [show b.row = true from h] at hrow; cases hrow), (fun _ h => by rw [show b.mp = false from h] at hmp; cases hmp), fun _ _ => ⟨arr', clock', h1, ?_, h2 _ hE⟩⟩
     simp [Array.getElem?_setIfInBounds, hlt]
   have hkv : flatEs [[k, v]] = true := by simp [flatEs, flats, hfk, hfv]
   cases r with
   | none =>
     refine ⟨_, ?_, step (arr.push { key := kv, val := vv, born := clock }) (clock + 1) (b.es ++ [[k, v]]) (by rw [zc5, e1, hkv]; rfl) (fun E' hE' => ?_), rfl⟩
     · simp [Instr.mapUpdate, run_underlying ht, MapKept.run_getObj_map e2, zdr hd hm, MapKept.run_findKey hd (q1 rfl), MapKept.run_setObj_map _ e2, Result.andThen]
     · rw [Array.toList_push]
       exact MapEs.push (hk.ext hE') (hv.ext hE') (e3.ext hE')
   | some x =>
     obtain ⟨_, m, q3, q4, q5, _, q6⟩ := q2 x.1 x.2 rfl
     have q3' : arr[x.1]? = some m := by simpa using q3
     have hstay : (Instr.keyThatStays (((arr[x.1]?).map (·.key)).getD kv) kv).run P w = .ok kv w := by
       rw [q3']
       simp only [Option.map_some, Option.getD_some, Instr.keyThatStays, q5, if_true]
       rfl
     refine ⟨_, ?_, step (arr.modify x.1 fun e => { e with key := kv, val := vv }) clock (b.es.set x.1 [k, v]) (zav.2 fun y hy => ?_) (fun E' hE' => ?_), rfl⟩
     · simp [Instr.mapUpdate, run_underlying ht, MapKept.run_getObj_map e2, zdr hd hm, MapKept.run_findKey hd q6, hstay, MapKept.run_setObj_map _ e2, Result.andThen]
     · rcases List.mem_or_eq_of_mem_set hy with hy | rfl
       · exact zav.1 e1 y hy
       · simpa [flatEs] using hkv
     · have : (arr.modify x.1 fun e => { e with key := kv, val := vv }).toList = arr.toList.set x.1 { m with key := kv, val := vv } := by
         apply List.ext_getElem?
         intro j
         simp only [Array.getElem?_toList, Array.getElem?_modify, List.getElem?_set]
         by_cases hj : x.1 = j
         · subst hj
           obtain ⟨hl, he⟩ := Array.getElem?_eq_some_iff.1 q3'
           simp [q3', hl, he]
         · simp [hj]
       rw [this]
       exact MapEs.set (hk.ext hE') (hv.ext hE') (e3.ext hE')
 · cases h
end Go.Abs
end
section
set_option linter.unusedSimpArgs false
set_option linter.unusedVariables false
namespace Go.Abs
def Runs (P : Program) (a : Act) (o : Oper) (w : World) (Z : Nat → Prop) (hp : Hp) (g : Gm) (fx : Fx) : Prop :=
 ∃ v w' g', ((execOp a.eval o).run P w = .ok (.value v) w' ∨ ((execOp a.eval o).run P w = .ok .skip w' ∧ v = Go.undef)) ∧ Step w w' Z hp fx.hp g g' ∧ Rep (Env.of w' Z fx.hp g') fx.val v
theorem Runs.same {P : Program} {a : Act} {o : Oper} {w : World} {Z : Nat → Prop} {hp : Hp} {g : Gm} {fx : Fx} (hi : Inv (Env.of w Z hp g)) (hhp : fx.hp = hp) (h : ∃ v, (execOp a.eval o).run P w = .ok (.value v) w ∧ Rep (Env.of w Z hp g) fx.val v) : Runs P a o w Z hp g fx := by
 obtain ⟨v, h1, h2⟩ := h
 exact ⟨v, w, g, .inl h1, by rw [hhp]; exact Step.refl hi, by rw [hhp]; exact h2⟩
theorem zbv {v : AV} {hp : Hp} {fx : Fx} (h : quiet v hp = some fx) : fx.val = v ∧ fx.hp = hp := by
 simp only [quiet, Option.some.injEq] at h
 subst h
 exact ⟨rfl, rfl⟩
theorem zcx {P : Program} {s : Sem Value} {w w' : World} {v : Value} (h : s.run P w = .ok v w') : (do pure (.value (← s)) : Sem Next).run P w = .ok (.value v) w' := by
 simp only [Sem.run_bind, h, Result.andThen_ok, Sem.run_pure]
theorem z6p {P : Program} {s : Sem Unit} {w w' : World} (h : s.run P w = .ok () w') : (do s; pure .skip : Sem Next).run P w = .ok .skip w' := by
 simp only [Sem.run_bind, h, Result.andThen_ok, Sem.run_pure]
theorem znd {E : Env} {s : Sl} {a : Act} (hs : SlotsRep E s a) {x : Option Operand} {x' : Option Opd} (h : copt x = some x') : ORep E (evo s x') (x.map a.eval) := by
 cases x with
 | none => simp only [copt, Option.some.injEq] at h; subst h; exact .inl ⟨rfl, rfl⟩
 | some x =>
   simp only [copt, Option.map_eq_some_iff] at h
   obtain ⟨y, h1, rfl⟩ := h
   exact .inr ⟨_, _, rfl, rfl, zah hs h1⟩
def zqp : AOp → Bool
 | .call .. => false
 | .callv .. => false
 | _ => true
section
variable {P : Program} {a : Act} {w : World} {Z : Nat → Prop} {hp : Hp} {g : Gm} {s : Sl} {cx : Cx} {d : Nat} {fx : Fx} {o : Oper}
theorem zui (hi : Inv (Env.of w Z hp g)) (hs : SlotsRep (Env.of w Z hp g) s a) {x : Operand} {x' : Opd} (hx : copd x = some x') (ho : o.op = .move x ∨ o.op = .assign x) (hf : aop cx (.mov x') d s hp = some fx) : Runs P a o w Z hp g fx := by
 obtain ⟨h1, h2⟩ := zbv hf
 refine Runs.same hi h2 ⟨a.eval x, ?_, by rw [h1]; exact zah hs hx⟩
 rcases ho with ho | ho <;> (unfold execOp; rw [ho]; rfl)
theorem zzx (hi : Inv (Env.of w Z hp g)) (hs : SlotsRep (Env.of w Z hp g) s a) {c x y : Operand} {c' x' y' : Opd} (hc : copd c = some c') (hx : copd x = some x') (hy : copd y = some y') (ho : o.op = .pick c x y) (hf : aop cx (.pick c' x' y') d s hp = some fx) : Runs P a o w Z hp g fx := by
 simp only [aop, zaa] at hf
 obtain ⟨v, hv, hq⟩ := hf
 obtain ⟨h1, h2⟩ := zbv hq
 have hcr := zah hs hc
 unfold zxf at hv
 split at hv <;> try cases hv
 rename_i b heq
 rw [heq] at hcr
 simp only [Rep] at hcr
 refine Runs.same hi h2 ⟨if b then a.eval x else a.eval y, ?_, ?_⟩
 · unfold execOp
   rw [ho]
   simp only [hcr]
   cases b <;> simp [asBool]
 · rw [h1]
   cases b <;> simp only [way, Option.some.injEq] at hv <;> subst hv
   · exact zah hs hy
   · exact zah hs hx
theorem z5u (hi : Inv (Env.of w Z hp g)) (hs : SlotsRep (Env.of w Z hp g) s a) {ty : TypeId} {x : Operand} {x' : Opd} (hx : copd x = some x') (ho : o.op = .box ty x) (hf : aop cx (.box x') d s hp = some fx) : Runs P a o w Z hp g fx := by
 simp only [aop, zaa] at hf
 obtain ⟨cs, hc, hn⟩ := hf
 obtain ⟨h1, h2⟩ := Rep.cells (zah hs hx) hc
 obtain ⟨s1, s2⟩ := zon hi h2 h1 ty hn
 refine ⟨_, _, _, .inl ?_, s1, s2⟩
 unfold execOp
 rw [ho]
 exact zcx (by simp [Instr.box, newVar, Go.newRow])
theorem z0a (hi : Inv (Env.of w Z hp g)) (hs : SlotsRep (Env.of w Z hp g) s a) {ty : TypeId} {x : Operand} {x' : Opd} (hx : copd x = some x') (ho : o.op = .box ty x) (hf : aop cx (.boxi x') d s hp = some fx) : Runs P a o w Z hp g fx := by
 simp only [aop, zaa, zac, quiet, Option.some.injEq] at hf
 obtain ⟨cs, hc, hfl, rfl⟩ := hf
 obtain ⟨h1, h2⟩ := Rep.cells (zah hs hx) hc
 have hst : Step w (w.alloc (.cells (a.eval x).cells ty)) Z hp hp g g := step_more hi rfl rfl rfl (by simp) fun i hlt => heap_alloc_old w _ _ hlt
 refine ⟨.pointer (some ⟨w.heap.size, 0, none⟩), _, _, .inl ?_, hst, ?_⟩
 · unfold execOp
   rw [ho]
   exact zcx (by simp [Instr.box, newVar, Go.newRow])
 · simp only [Rep]
   refine ⟨w.heap.size, 0, _, rfl, hfl, h1, fun j v hv => ⟨?_, fun hx => ?_⟩, h2.ext hst.ext⟩
   · rw [cell_of_row _ w.heap.size _ _ ty _ (heap_alloc_new w _), Nat.zero_add]
     simpa using hv
   · have := hi.lt (i := w.heap.size) hx
     simp at this
theorem zwu (hi : Inv (Env.of w Z hp g)) {ty : TypeId} {z : List AV} (hz : zeroOf P ty = some z) (ho : o.op = .alloc ty) (hf : aop cx (.alloc z) d s hp = some fx) : Runs P a o w Z hp g fx := by
 obtain ⟨i, zv, _, _, hzr, _, hz1, hrun⟩ := zck hz
 simp only [aop] at hf
 obtain ⟨s1, s2⟩ := zon hi (hzr _) hz1 ty hf
 refine ⟨_, _, _, .inl ?_, s1, s2⟩
 unfold execOp
 rw [ho]
 refine zcx ?_
 unfold Instr.alloc
 simp [hrun, newVar, Go.newRow]
theorem zwc (hi : Inv (Env.of w Z hp g)) (hs : SlotsRep (Env.of w Z hp g) s a) {t : TypeId} {parts : Array (Nat × Operand)} {fs : Array Field} {z : List AV} {pl : List (Nat × Nat)} {l : List (Nat × Nat × Opd)} (ht : P.underlying t = some (.struct fs)) (hz : zeroOf P t = some z)
   (hpl : fs.toList.mapM (fun f => (P.info? f.type).map fun i => (f.offset, i.size)) = some pl) (hl : cparts (fun i => pl[i]?) parts.toList = some l) (ho : o.op = .build t parts) (hf : aop cx (.build z l) d s hp = some fx) : Runs P a o w Z hp g fx := by
 obtain ⟨i, zv, hinf, hzv, hzr, _, hz1, hrun⟩ := zck hz
 simp only [aop, zaa] at hf
 obtain ⟨cs, hfb, hq⟩ := hf
 obtain ⟨h1, h2⟩ := zbv hq
 obtain ⟨cells', e1, e2, e3⟩ := zpy hs _ _ _ _ _ zv.cells hl hfb (hzr _) hz1
 refine Runs.same hi h2 ⟨.agg cells', ?_, by rw [h1]; simp only [Rep]; exact ⟨_, rfl, e3, e2⟩⟩
 unfold execOp
 rw [ho]
 refine zcx (run_build w t _ cells' ?_)
 unfold Program.built
 rw [hinf, ht]
 simp only [hzv, hpl]
 simpa using e1
theorem zuj (hi : Inv (Env.of w Z hp g)) (hs : SlotsRep (Env.of w Z hp g) s a) {t e : TypeId} {len : Nat} {parts : Array (Nat × Operand)} {z : List AV} {sz : Nat} {l : List (Nat × Opd)} (ht : zdw P t = some e) (hz : zeroOf P e = some z) (hsz : szOf P e = some sz) (hl : cidx parts.toList = some l)
   (h0 : 0 < sz) (hzl : z.length = sz) (hsm : len * sz ≤ 16777216) (ho : o.op = .buildSlice t len parts) (hf : aop cx (.bslice e z len l) d s hp = some fx) : Runs P a o w Z hp g fx := by
 obtain ⟨i, zv, hinf, hzv, hzr, hzf, hz1, hrun⟩ := zck hz
 have hsi : i.size = sz := by
   unfold szOf at hsz
   rw [hinf] at hsz
   simpa using hsz
 subst hsi
 have hzc : zv.cells.size = i.size := by rw [← Array.length_toList, (hzr (Env.of w Z hp g)).length, hzl]
 simp only [aop, zaa] at hf
 obtain ⟨⟨es, ks, hp1⟩, hfs, hn⟩ := hf
 have hml := ze0 zv.cells (by omega) len
 rw [hzc] at hml
 rw [hzl] at hfs hn
 obtain ⟨cells', e1, e2, e3, e4, e5, e6⟩ := zq3 (w := w) (Z := Z) (g := g) (a := a) _ _ _ _ _ _ _ _ (madeCells zv.cells (len * i.size)) hl hfs hi hs (by rw [hml, ← hzl]; exact RepEs.replicate (hzr _) len) (zcr hz1 len) (zda hzf len)
 obtain ⟨s1, s2⟩ := zop (arr := cells') e2.inv e3 e5 e4 hn
 have hlen : es.length = len := by simpa using e6
 rw [hlen] at s2
 refine ⟨_, _, _, .inl ?_, e2.trans s1, s2⟩
 unfold execOp
 rw [ho]
 refine zcx ?_
 by_cases hz0 : len = 0
 · subst hz0
   have hcl : cells' = #[] := by
     have := e3.length
     rw [hlen] at this
     simpa using this
   subst hcl
   have hfill : Instr.fill (fun j => some (j * i.size, i.size)) #[] (parts.toList.map fun x => (x.1, a.eval x.2)) = some #[] := by
     have hm0 : madeCells zv.cells (0 * i.size) = #[] := by simp [madeCells]
     rw [hm0] at e1
     exact e1
   unfold Instr.buildSlice
   simp [run_underlying (zb8 ht), Go.sizeOf, typeInfo, hinf, Go.newRow]
   rw [show Array.map (fun _ : Nat => (default : Value)) (Array.range 0) = #[] from by apply Array.eq_empty_of_size_eq_zero; simp, hfill]
   simp
 · have hp0 : ¬ len * i.size = 0 := Nat.mul_ne_zero hz0 (by omega)
   refine Go.run_buildSlice w t e len _ cells' i zv (zb8 ht) hinf hzv (by omega) hp0 ?_
   have : (parts.map fun x => (x.1, a.eval x.2)).toList = parts.toList.map fun x => (x.1, a.eval x.2) := by simp
   rw [this]
   exact e1
theorem zrw (hi : Inv (Env.of w Z hp g)) (hs : SlotsRep (Env.of w Z hp g) s a) {t e : TypeId} {len : Nat} {parts : Array (Nat × Operand)} {z : List AV} {sz : Nat} {l : List (Nat × Opd)} (ht : zdw P t = some e) (hz : zeroOf P e = some z) (hsz : szOf P e = some sz) (hl : cidx parts.toList = some l)
   (h0 : 0 < sz) (hzl : z.length = sz) (hsm : len * sz ≤ 16777216) (ho : o.op = .buildSlice t len parts) (hf : aop cx (.bsliced e z len l) d s hp = some fx) : Runs P a o w Z hp g fx := by
 obtain ⟨i, zv, hinf, hzv, hzr, hzf, hz1, hrun⟩ := zck hz
 have hsi : i.size = sz := by
   unfold szOf at hsz
   rw [hinf] at hsz
   simpa using hsz
 subst hsi
 have hzc : zv.cells.size = i.size := by rw [← Array.length_toList, (hzr (Env.of w Z hp g)).length, hzl]
 simp only [aop, zaa] at hf
 obtain ⟨es, hfs, hn⟩ := hf
 have hml := ze0 zv.cells (by omega) len
 rw [hzc] at hml
 rw [hzl] at hfs hn
 obtain ⟨cells', e1, e3, e4, e6⟩ := zqa (a := a) hs _ _ _ _ (madeCells zv.cells (len * i.size)) hl hfs (by rw [hml, ← hzl]; exact RepEs.replicate (hzr _) len) (zcr hz1 len)
 obtain ⟨s1, s2⟩ := zrh (arr := cells') hi e3 e4 hn
 have hlen : es.length = len := by simpa using e6
 rw [hlen] at s2
 refine ⟨_, _, _, .inl ?_, s1, s2⟩
 unfold execOp
 rw [ho]
 refine zcx ?_
 by_cases hz0 : len = 0
 · subst hz0
   have hcl : cells' = #[] := by
     have := e3.length
     rw [hlen] at this
     simpa using this
   subst hcl
   have hfill : Instr.fill (fun j => some (j * i.size, i.size)) #[] (parts.toList.map fun x => (x.1, a.eval x.2)) = some #[] := by
     have hm0 : madeCells zv.cells (0 * i.size) = #[] := by simp [madeCells]
     rw [hm0] at e1
     exact e1
   unfold Instr.buildSlice
   simp [run_underlying (zb8 ht), Go.sizeOf, typeInfo, hinf, Go.newRow]
   rw [show Array.map (fun _ : Nat => (default : Value)) (Array.range 0) = #[] from by apply Array.eq_empty_of_size_eq_zero; simp, hfill]
   simp
 · have hp0 : ¬ len * i.size = 0 := Nat.mul_ne_zero hz0 (by omega)
   refine Go.run_buildSlice w t e len _ cells' i zv (zb8 ht) hinf hzv (by omega) hp0 ?_
   have : (parts.map fun x => (x.1, a.eval x.2)).toList = parts.toList.map fun x => (x.1, a.eval x.2) := by simp
   rw [this]
   exact e1
end
end Go.Abs
end
section
set_option linter.unusedSimpArgs false
set_option linter.unusedVariables false
namespace Go.Abs
section
variable {P : Program} {a : Act} {w : World} {Z : Nat → Prop} {hp : Hp} {g : Gm} {s : Sl} {cx : Cx} {d : Nat} {fx : Fx} {o : Oper}
theorem z1g (hi : Inv (Env.of w Z hp g)) (hs : SlotsRep (Env.of w Z hp g) s a) {t : TypeId} {x : Operand} {x' : Opd} {c : Bool} {n : Nat} (hc : zjo P t = some c) (hn : szOf P t = some n) (hx : copd x = some x') (h1 : c = true ∨ n = 1) (ho : o.op = .load t x) (hf : aop cx (.load c n x') d s hp = some fx) : Runs P a o w Z hp g fx := by
 simp only [aop] at hf
 obtain ⟨h2, v, h3, h4⟩ := zq2 hc hn h1 hi (zah hs hx) hf
 refine Runs.same hi h2 ⟨v, ?_, h4⟩
 unfold execOp
 rw [ho]
 exact zcx h3
theorem zv8 (hi : Inv (Env.of w Z hp g)) (hs : SlotsRep (Env.of w Z hp g) s a) {t : TypeId} {x y : Operand} {x' y' : Opd} {n : Nat} (hn : szOf P t = some n) (hx : copd x = some x') (hy : copd y = some y') (ho : o.op = .store t x y) (hf : aop cx (.store n x' y') d s hp = some fx) : Runs P a o w Z hp g fx := by
 simp only [aop] at hf
 obtain ⟨w', h1, h2, h3⟩ := zus hn hi (zah hs hx) (zah hs hy) hf
 refine ⟨Go.undef, w', g, .inr ⟨?_, rfl⟩, h2, ?_⟩
 · unfold execOp
   rw [ho]
   exact z6p h1
 · rw [h3]
   simp [Rep, Abs.undef, Go.undef, Reps]
theorem zxt (hi : Inv (Env.of w Z hp g)) (hs : SlotsRep (Env.of w Z hp g) s a) {x : Operand} {x' : Opd} (hx : copd x = some x') (ho : o.op = .nilCheck x) (hf : aop cx (.nilck x') d s hp = some fx) : Runs P a o w Z hp g fx := by
 simp only [aop, zaa] at hf
 obtain ⟨v, hv, hq⟩ := hf
 obtain ⟨h1, h2⟩ := zbv hq
 have hr := zah hs hx
 have hve : v = ev s x' := by
   revert hv
   cases ev s x' <;> simp [zkd] <;> exact fun h => h.symm
 refine Runs.same hi h2 ⟨a.eval x, ?_, by rw [h1, hve]; exact hr⟩
 unfold execOp
 rw [ho]
 revert hv hr
 cases ev s x' <;> simp only [zkd] <;> intro hv hr <;> try cases hv
 all_goals simp only [Rep] at hr
 · obtain ⟨_, ad, hr, _⟩ := hr
   simp only [hr]
   rfl
 · obtain ⟨_, _, _, hr, _⟩ := hr
   simp only [hr]
   rfl
 · obtain ⟨_, hr, _⟩ := hr
   simp only [hr]
   rfl
theorem zsr (hi : Inv (Env.of w Z hp g)) (hs : SlotsRep (Env.of w Z hp g) s a) {op : BinOp} {t u : TypeId} {x y : Operand} {x' y' : Opd} (hx : copd x = some x') (hy : copd y = some y') (ho : o.op = .binOp op t x y u) (hf : aop cx (.bin op x' y') d s hp = some fx) : Runs P a o w Z hp g fx := by
 simp only [aop, zaa] at hf
 obtain ⟨v, hv, hq⟩ := hf
 obtain ⟨h1, h2⟩ := zbv hq
 obtain ⟨r, h3, h4⟩ := ztk (P := P) hv (zah hs hx) (zah hs hy) t x y w
 refine Runs.same hi h2 ⟨r, ?_, by rw [h1]; exact h4⟩
 unfold execOp
 rw [ho]
 exact zcx h3
theorem zyu (hi : Inv (Env.of w Z hp g)) (hs : SlotsRep (Env.of w Z hp g) s a) {neg : Bool} {t u : TypeId} {x y : Operand} {x' y' : Opd} (ht : P.underlying t = some .bool) (hx : copd x = some x') (hy : copd y = some y') (ho : o.op = .binOp (if neg then .neq else .eql) t x y u) (hf : aop cx (.eqb neg x' y') d s hp = some fx) : Runs P a o w Z hp g fx := by
 simp only [aop, zaa] at hf
 obtain ⟨v, hv, hq⟩ := hf
 obtain ⟨h1, h2⟩ := zbv hq
 obtain ⟨r, h3, h4⟩ := zzo (P := P) hv (zah hs hx) (zah hs hy) ht x y w
 refine Runs.same hi h2 ⟨r, ?_, by rw [h1]; exact h4⟩
 unfold execOp
 rw [ho]
 exact zcx h3
theorem zp8 (hi : Inv (Env.of w Z hp g)) (hs : SlotsRep (Env.of w Z hp g) s a) {neg : Bool} {t u : TypeId} {dd : TypeDesc} {k : NK} {x y : Operand} {x' : Opd} (ht : P.underlying t = some dd) (hk : nkOf dd y = some k) (hx : copd x = some x') (ho : o.op = .binOp (if neg then .neq else .eql) t x y u) (hf : aop cx (.eqnil k neg x') d s hp = some fx) : Runs P a o w Z hp g fx := by
 simp only [aop, zaa, Option.some.injEq] at hf
 obtain ⟨r, hr, rfl⟩ := hf
 obtain ⟨v, h3, h4⟩ := zwx (P := P) hr (zah hs hx) ht hk neg a x y
 refine Runs.same hi rfl ⟨v, ?_, by rw [h4]; simp [Rep]⟩
 unfold execOp
 rw [ho]
 exact zcx h3
theorem un_ok (hi : Inv (Env.of w Z hp g)) (hs : SlotsRep (Env.of w Z hp g) s a) {op : UnOp} {t : TypeId} {x : Operand} {x' : Opd} (hx : copd x = some x') (ho : o.op = .unOp op t x) (hf : aop cx (.un op x') d s hp = some fx) : Runs P a o w Z hp g fx := by
 simp only [aop, zaa] at hf
 obtain ⟨v, hv, hq⟩ := hf
 obtain ⟨h1, h2⟩ := zbv hq
 obtain ⟨r, h3, h4⟩ := z4l (P := P) hv (zah hs hx) w
 refine Runs.same hi h2 ⟨r, ?_, by rw [h1]; exact h4⟩
 unfold execOp
 rw [ho]
 exact zcx h3
def z3u (P : Program) (src dst : TypeId) : CK → Prop
 | .int k => (∃ k', P.underlying src = some (.int k')) ∧ P.underlying dst = some (.int k)
 | .id => P.underlying src = some .string ∧ P.underlying dst = some .string
 | .b2s => ∃ e, P.underlying src = some (.slice e) ∧ P.underlying e = some (.int .u8) ∧ P.underlying dst = some .string
 | .s2b => ∃ e, P.underlying src = some .string ∧ P.underlying e = some (.int .u8) ∧ P.underlying dst = some (.slice e)
theorem zmp (hi : Inv (Env.of w Z hp g)) (hs : SlotsRep (Env.of w Z hp g) s a) {src dst : TypeId} {c : CK} {x : Operand} {x' : Opd} (ht : z3u P src dst c) (hx : copd x = some x') (ho : o.op = .convert src dst x) (hf : aop cx (.conv c x') d s hp = some fx) : Runs P a o w Z hp g fx := by
 have hr := zah hs hx
 simp only [aop] at hf
 have he : (execOp a.eval o) = (do pure (.value (← convert src dst (a.eval x))) : Sem Next) := by unfold execOp; rw [ho]
 revert hr hf
 cases c <;> cases ev s x' <;> simp only [zjk] <;> intro hf hr <;> try cases hf
 case int.i k k' n =>
   obtain ⟨⟨k2, h1⟩, h2⟩ := ht
   simp only [Rep] at hr
   refine Runs.same hi rfl ⟨.int k (k.wrap n), by rw [he]; exact zcx (by rw [hr]; simp [convert, run_underlying h1, run_underlying h2, Conv.intToInt]), by simp [Rep]⟩
 case id.str l =>
   obtain ⟨h1, h2⟩ := ht
   simp only [Rep] at hr
   refine Runs.same hi rfl ⟨_, by rw [he]; exact zcx (by rw [hr]; simp [convert, run_underlying h1, run_underlying h2]; rfl), by simp [Rep]⟩
 case s2b.str l =>
   obtain ⟨e, h1, h2, h3⟩ := ht
   obtain ⟨v, w', e1, e2, e3⟩ := z51 (P := P) hi h1 h2 h3 hr
   exact ⟨v, w', g, .inl (by rw [he]; exact zcx e1), e2, e3⟩
 all_goals
   obtain ⟨e, h1, h2, h3⟩ := ht
   simp only [zaa, Option.some.injEq] at hf
   obtain ⟨r, hc, l, hl, rfl⟩ := hf
   obtain ⟨v, e1, e2⟩ := z3k (P := P) hi h1 h2 h3 hc hl hr
   exact Runs.same hi rfl ⟨v, by rw [he]; exact zcx e1, e2⟩
theorem zz5 (hi : Inv (Env.of w Z hp g)) (hs : SlotsRep (Env.of w Z hp g) s a) {f : FuncId} {caps : Array Operand} {l : List Opd} {first : Array Operand} (hfi : first.toList = []) (hl : copds caps.toList = some l) (hrf : real f = f) (ho : o.op = .makeFunc (.func f) first caps) (hf : aop cx (.mkfn f l) d s hp = some fx) : Runs P a o w Z hp g fx := by
 obtain ⟨h1, h2⟩ := zbv hf
 have hfe : first = #[] := by simpa using hfi
 subst hfe
 refine Runs.same hi h2 ⟨.func (.func f) #[] (caps.map a.eval), ?_, ?_⟩
 · unfold execOp
   rw [ho]
   exact zcx (by simp [Instr.makeFunc])
 · rw [h1]
   simp only [Rep]
   exact ⟨_, by rw [hrf], by simpa using zc9 hs hl⟩
theorem zp0 (hi : Inv (Env.of w Z hp g)) (hs : SlotsRep (Env.of w Z hp g) s a) {t : TypeId} {sz : Nat} {x : Operand} {x' : Opd} {lo hi' mx : Option Operand} {lo' hi'' mx' : Option Opd} (hx : copd x = some x') (h1 : copt lo = some lo') (h2 : copt hi' = some hi'') (h3 : copt mx = some mx')
   (ht : (sz = 0 ∧ P.underlying t = some .string ∧ mx = none) ∨ (0 < sz ∧ ∃ e, P.underlying t = some (.slice e) ∧ szOf P e = some sz)) (ho : o.op = .slice t x lo hi' mx) (hf : aop cx (.slice sz x' lo' hi'' mx') d s hp = some fx) : Runs P a o w Z hp g fx := by
 have hr := zah hs hx
 have r1 := znd hs h1
 have r2 := znd hs h2
 have r3 := znd hs h3
 have he : (execOp a.eval o) = (do pure (.value (← Instr.sliceAt t (a.eval x) (lo.map a.eval) (hi'.map a.eval) (mx.map a.eval))) : Sem Next) := by unfold execOp; rw [ho]
 simp only [aop, zaa, Option.some.injEq] at hf
 obtain ⟨r, hc, rfl⟩ := hf
 revert hr hc
 cases ev s x' <;> intro hr hc
 case str l =>
   have hc' := hc
   simp only [cut, zac] at hc'
   obtain ⟨⟨hm, rfl⟩, _⟩ := hc'
   rcases ht with ⟨_, ht, rfl⟩ | ⟨h0, _⟩
   · have hm0 : evo s mx' = none := by simpa using hm
     rw [hm0] at hc
     obtain ⟨u, e1, e2⟩ := zsg (P := P) ht hc hr r1 r2 w
     exact Runs.same hi rfl ⟨u, by rw [he]; exact zcx e1, e2⟩
   · omega
 case sl k sz' es =>
   rcases ht with ⟨rfl, ht, rfl⟩ | ⟨h0, e, ht, hsz⟩
   · simp only [cut, zac] at hc
     omega
   · cases hinf : P.info? e with
     | none => unfold szOf at hsz; rw [hinf] at hsz; cases hsz
     | some i =>
       unfold szOf at hsz
       rw [hinf] at hsz
       simp only [Option.map_some, Option.some.injEq] at hsz
       subst hsz
       obtain ⟨u, e1, e2⟩ := zul (P := P) ht hinf hc hr r1 r2 r3 w
       exact Runs.same hi rfl ⟨u, by rw [he]; exact zcx e1, e2⟩
 case ms key ver off len =>
   rcases ht with ⟨rfl, ht, rfl⟩ | ⟨h0, e, ht, hsz⟩
   · simp only [cut, zac] at hc
     omega
   · cases hinf : P.info? e with
     | none => unfold szOf at hsz; rw [hinf] at hsz; cases hsz
     | some i =>
       unfold szOf at hsz
       rw [hinf] at hsz
       simp only [Option.map_some, Option.some.injEq] at hsz
       subst hsz
       obtain ⟨u, e1, e2⟩ := zt1 (P := P) ht hinf hc hr r1 r2 r3
       exact Runs.same hi rfl ⟨u, by rw [he]; exact zcx e1, e2⟩
 all_goals (simp only [cut] at hc; cases hc)
theorem zw9 (hi : Inv (Env.of w Z hp g)) (hs : SlotsRep (Env.of w Z hp g) s a) {t : TypeId} {fs : Array Field} {n sz : Nat} {fd : Field} {x : Operand} {x' : Opd} (ht : P.underlying t = some (.struct fs)) (hfd : fs[n]? = some fd) (hsz : szOf P fd.type = some sz) (h0 : 0 < sz) (hx : copd x = some x') (ho : o.op = .fieldAddr t x n)
   (hf : aop cx (.faddr fd.offset x') d s hp = some fx) : Runs P a o w Z hp g fx := by
 simp only [aop, zaa] at hf
 obtain ⟨v, hv, hq⟩ := hf
 obtain ⟨h1, h2⟩ := zbv hq
 obtain ⟨r, h3, h4⟩ := zsu (P := P) ht hfd hsz h0 hv (zah hs hx) w
 refine Runs.same hi h2 ⟨r, ?_, by rw [h1]; exact h4⟩
 unfold execOp
 rw [ho]
 exact zcx h3
theorem z38 (hi : Inv (Env.of w Z hp g)) (hs : SlotsRep (Env.of w Z hp g) s a) {t : TypeId} {fs : Array Field} {n sz : Nat} {c : Bool} {fd : Field} {x : Operand} {x' : Opd} (ht : P.underlying t = some (.struct fs)) (hfd : fs[n]? = some fd) (hc : zjo P fd.type = some c) (hsz : szOf P fd.type = some sz) (h1 : c = true ∨ sz = 1) (hx : copd x = some x') (ho : o.op = .field t x n)
   (hf : aop cx (.fld c fd.offset sz x') d s hp = some fx) : Runs P a o w Z hp g fx := by
 have hr := zah hs hx
 simp only [aop] at hf
 revert hr hf
 cases ev s x' <;> simp only [fldV] <;> intro hf hr <;> try cases hf
 rename_i cs
 simp only [Rep] at hr
 obtain ⟨arr, he, ho1, hrs⟩ := hr
 obtain ⟨u, e1, e2⟩ := zwn (P := P) hc hsz h1 hrs ho1 hf w
 refine Runs.same hi (zfc hf h1).2.1 ⟨u, ?_, e2⟩
 unfold execOp
 rw [ho]
 refine zcx ?_
 unfold Instr.field
 simp [run_underlying ht, hfd, he, asAgg, e1]
theorem zxr (hi : Inv (Env.of w Z hp g)) (hs : SlotsRep (Env.of w Z hp g) s a) {t e : TypeId} {sz : Nat} {x y : Operand} {x' y' : Opd} (ht : zdw P t = some e) (hsz : szOf P e = some sz) (hx : copd x = some x') (hy : copd y = some y') (ho : o.op = .indexAddr t x y) (hf : aop cx (.iaddr sz x' y') d s hp = some fx) : Runs P a o w Z hp g fx := by
 cases hinf : P.info? e with
 | none => unfold szOf at hsz; rw [hinf] at hsz; cases hsz
 | some i =>
   unfold szOf at hsz
   rw [hinf] at hsz
   simp only [Option.map_some, Option.some.injEq] at hsz
   subst hsz
   simp only [aop] at hf
   obtain ⟨h1, u, e1, e2⟩ := ztu (P := P) (zb8 ht) hinf hf (zah hs hx) (zah hs hy)
   refine Runs.same hi h1 ⟨u, ?_, e2⟩
   unfold execOp
   rw [ho]
   exact zcx e1
theorem z4i (hi : Inv (Env.of w Z hp g)) (hs : SlotsRep (Env.of w Z hp g) s a) {t : TypeId} {x y : Operand} {x' y' : Opd} (ht : P.underlying t = some .string) (hx : copd x = some x') (hy : copd y = some y') (ho : o.op = .index t x y) (hf : aop cx (.idx x' y') d s hp = some fx) : Runs P a o w Z hp g fx := by
 simp only [aop, zaa] at hf
 obtain ⟨v, hv, hq⟩ := hf
 obtain ⟨h1, h2⟩ := zbv hq
 obtain ⟨r, h3, h4⟩ := z0u (P := P) ht hv (zah hs hx) (zah hs hy) w
 refine Runs.same hi h2 ⟨r, ?_, by rw [h1]; exact h4⟩
 unfold execOp
 rw [ho]
 exact zcx h3
theorem z4h (hi : Inv (Env.of w Z hp g)) (hs : SlotsRep (Env.of w Z hp g) s a) {n : Nat} {x : Operand} {x' : Opd} (hx : copd x = some x') (ho : o.op = .extract x n) (hf : aop cx (.ext x' n) d s hp = some fx) : Runs P a o w Z hp g fx := by
 simp only [aop, zaa] at hf
 obtain ⟨v, hv, hq⟩ := hf
 obtain ⟨h1, h2⟩ := zbv hq
 obtain ⟨r, h3, h4⟩ := z0h (P := P) hv (zah hs hx) w
 refine Runs.same hi h2 ⟨r, ?_, by rw [h1]; exact h4⟩
 unfold execOp
 rw [ho]
 exact zcx h3
theorem zrz (hi : Inv (Env.of w Z hp g)) (hs : SlotsRep (Env.of w Z hp g) s a) {t e : TypeId} {z : List AV} {sz : Nat} {x : Operand} {x' : Opd} (ht : zdw P t = some e) (hz : zeroOf P e = some z) (hsz : szOf P e = some sz) (h0 : 0 < sz) (hzl : z.length = sz) (hsl : slim P e = true) (hx : copd x = some x') (ho : o.op = .makeSlice t x x)
   (hf : aop cx (.mkslice e z x') d s hp = some fx) : Runs P a o w Z hp g fx := by
 simp only [aop, zaa] at hf
 obtain ⟨m, hm, hn⟩ := hf
 obtain ⟨v, w', g', e1, e2, e3⟩ := zro (P := P) hi (zb8 ht) hz hsz h0 hzl hsl hm hn (zah hs hx)
 refine ⟨v, w', g', .inl ?_, e2, e3⟩
 unfold execOp
 rw [ho]
 exact zcx e1
end
end Go.Abs
end
section
set_option linter.unusedSimpArgs false
set_option linter.unusedVariables false
namespace Go.Abs
theorem zb9 {ρ : Operand → Value} {o : Oper} {c : Call} {b : Builtin} (ho : o.op = .call c) (hb : c.callee = .builtin b) : ∃ cs, execOp ρ o = builtin b c.argTypes o.type cs (c.args.map ρ) := by
 refine ⟨c.args.map fun | .const _ => true | _ => false, ?_⟩
 unfold execOp
 rw [ho]
 simp only [resolve, hb]
 rfl
theorem zhm {c : Call} {x y : Operand} {t u : TypeId} (h1 : c.args.toList = [x, y]) (h2 : c.argTypes.toList = [t, u]) : c.args = #[x, y] ∧ c.argTypes = #[t, u] :=
 ⟨by rw [← Array.toArray_toList (xs := c.args), h1], by rw [← Array.toArray_toList (xs := c.argTypes), h2]⟩
theorem zun {c : Call} {x : Operand} {t : TypeId} (h1 : c.args.toList = [x]) (h2 : c.argTypes.toList = [t]) : c.args = #[x] ∧ c.argTypes = #[t] :=
 ⟨by rw [← Array.toArray_toList (xs := c.args), h1], by rw [← Array.toArray_toList (xs := c.argTypes), h2]⟩
section
variable {P : Program} {a : Act} {w : World} {Z : Nat → Prop} {hp : Hp} {g : Gm} {s : Sl} {cx : Cx} {d : Nat} {fx : Fx} {o : Oper} {c : Call}
theorem zf4 {t : TypeId} {n : Nat} (h : szOf P t = some n) : ∃ i, P.info? t = some i ∧ i.size = n := by
 unfold szOf at h
 cases hinf : P.info? t with
 | none => rw [hinf] at h; cases h
 | some i => rw [hinf] at h; exact ⟨i, rfl, by simpa using h⟩
theorem zhw {t : TypeId} {i : TypeInfo} (hi : P.info? t = some i) (h : slim P t = true) : i.bytes ≤ 512 := by
 unfold slim at h
 rw [hi] at h
 simpa using h
theorem zxw (hi : Inv (Env.of w Z hp g)) (hs : SlotsRep (Env.of w Z hp g) s a) {b : Bool} {t : TypeId} {x : Operand} {x' : Opd} (ho : o.op = .call c) (hb : c.callee = .builtin .len) (h1 : c.args.toList = [x]) (h2 : c.argTypes.toList = [t]) (hx : copd x = some x')
   (ht : if b = true then P.underlying t = some .string else ∃ e, P.underlying t = some (.slice e)) (hf : aop cx (.len b x') d s hp = some fx) : Runs P a o w Z hp g fx := by
 obtain ⟨ha, hty⟩ := zun h1 h2
 obtain ⟨cs, he⟩ := zb9 (ρ := a.eval) ho hb
 simp only [aop, zaa] at hf
 obtain ⟨v, hv, hq⟩ := hf
 obtain ⟨e1, e2⟩ := zbv hq
 obtain ⟨r, h3, h4⟩ := z00 (P := P) (ty := o.type) ht hv (zah hs hx) w
 refine Runs.same hi e2 ⟨r, ?_, by rw [e1]; exact h4⟩
 rw [he, ha, hty]
 simp only [List.map_toArray, List.map_cons, List.map_nil]
 exact zcx h3
theorem mx_op (hi : Inv (Env.of w Z hp g)) (hs : SlotsRep (Env.of w Z hp g) s a) {l : List Opd} (ho : o.op = .call c) (hb : c.callee = .builtin .max) (hl : copds c.args.toList = some l) (hf : aop cx (.mx l) d s hp = some fx) : Runs P a o w Z hp g fx := by
 obtain ⟨cs, he⟩ := zb9 (ρ := a.eval) ho hb
 simp only [aop, zaa] at hf
 obtain ⟨x, hx, n, hn, hq⟩ := hf
 obtain ⟨e1, e2⟩ := zbv hq
 obtain ⟨r, h3, h4⟩ := zzn (P := P) (k := x.1) (ns := x.2) hx hn (zc9 hs hl) c.argTypes o.type w
 refine Runs.same hi e2 ⟨r, ?_, by rw [e1]; exact h4⟩
 rw [he]
 have : (c.args.toList.map a.eval).toArray = c.args.map a.eval := by apply Array.ext'; rw [Array.toList_map]
 rw [this] at h3
 exact zcx h3
theorem mn_op (hi : Inv (Env.of w Z hp g)) (hs : SlotsRep (Env.of w Z hp g) s a) {l : List Opd} (ho : o.op = .call c) (hb : c.callee = .builtin .min) (hl : copds c.args.toList = some l) (hf : aop cx (.mn l) d s hp = some fx) : Runs P a o w Z hp g fx := by
 obtain ⟨cs, he⟩ := zb9 (ρ := a.eval) ho hb
 simp only [aop, zaa] at hf
 obtain ⟨x, hx, n, hn, hq⟩ := hf
 obtain ⟨e1, e2⟩ := zbv hq
 obtain ⟨r, h3, h4⟩ := z0x (P := P) (k := x.1) (ns := x.2) hx hn (zc9 hs hl) c.argTypes o.type w
 refine Runs.same hi e2 ⟨r, ?_, by rw [e1]; exact h4⟩
 rw [he]
 have : (c.args.toList.map a.eval).toArray = c.args.map a.eval := by apply Array.ext'; rw [Array.toList_map]
 rw [this] at h3
 exact zcx h3
theorem z08 (hi : Inv (Env.of w Z hp g)) (hs : SlotsRep (Env.of w Z hp g) s a) {t u e e' : TypeId} {sz : Nat} {x y : Operand} {x' y' : Opd} (ho : o.op = .call c) (hb : c.callee = .builtin .copy) (h1 : c.args.toList = [x, y]) (h2 : c.argTypes.toList = [t, u]) (hx : copd x = some x') (hy : copd y = some y')
   (ht : zdw P t = some e) (hu : P.underlying u = some (.slice e')) (hsz : szOf P e = some sz) (hf : aop cx (.copy sz x' y') d s hp = some fx) : Runs P a o w Z hp g fx := by
 obtain ⟨ha, hty⟩ := zhm h1 h2
 obtain ⟨cs, he⟩ := zb9 (ρ := a.eval) ho hb
 obtain ⟨i, hinf, rfl⟩ := zf4 hsz
 simp only [aop, zaa] at hf
 obtain ⟨r, hc, hf⟩ := hf
 obtain ⟨v, w', e1, e2, e3⟩ := zwq (P := P) (ty := o.type) hi (zb8 ht) hu hinf hc hf (zah hs hx) (zah hs hy)
 refine ⟨v, w', g, .inl ?_, e2, e3⟩
 rw [he, ha, hty]
 simp only [List.map_toArray, List.map_cons, List.map_nil]
 exact zcx e1
theorem zxs (hi : Inv (Env.of w Z hp g)) (hs : SlotsRep (Env.of w Z hp g) s a) {t e : TypeId} {zs : List AV} {x : Operand} {x' : Opd} (ho : o.op = .call c) (hb : c.callee = .builtin .clear) (h1 : c.args.toList = [x]) (h2 : c.argTypes.toList = [t]) (hx : copd x = some x')
   (ht : zdw P t = some e) (hz : zeroOf P e = some zs) (h0 : 0 < zs.length) (hf : aop cx (.clear zs x') d s hp = some fx) : Runs P a o w Z hp g fx := by
 obtain ⟨ha, hty⟩ := zun h1 h2
 obtain ⟨cs, he⟩ := zb9 (ρ := a.eval) ho hb
 simp only [aop] at hf
 obtain ⟨v, w', e1, e2, e3⟩ := zte (P := P) (ty := o.type) hi (zb8 ht) hz h0 hf (zah hs hx)
 refine ⟨v, w', g, .inl ?_, e2, e3⟩
 rw [he, ha, hty]
 simp only [List.map_toArray, List.map_cons, List.map_nil]
 exact zcx e1
theorem z5o (hi : Inv (Env.of w Z hp g)) (hs : SlotsRep (Env.of w Z hp g) s a) {t u e e' : TypeId} {sz : Nat} {z : List AV} {x y : Operand} {x' y' : Opd} (ho : o.op = .call c) (hb : c.callee = .builtin .append) (h1 : c.args.toList = [x, y]) (h2 : c.argTypes.toList = [t, u]) (hx : copd x = some x') (hy : copd y = some y')
   (ht : zdw P t = some e) (hu : P.underlying u = some (.slice e')) (hz : zeroOf P e = some z) (hsz : szOf P e = some sz) (h0 : 0 < sz) (hzl : z.length = sz) (hsl : slim P e = true) (hf : aop cx (.app e sz x' y') d s hp = some fx) : Runs P a o w Z hp g fx := by
 obtain ⟨ha, hty⟩ := zhm h1 h2
 obtain ⟨cs, he⟩ := zb9 (ρ := a.eval) ho hb
 obtain ⟨i, hinf, rfl⟩ := zf4 hsz
 obtain ⟨i', zv, hinf', hzv, hzr, _, _, _⟩ := zck hz
 rw [hinf] at hinf'
 injection hinf' with hinf'
 subst hinf'
 have hzc : zv.cells.size = i.size := by rw [← Array.length_toList, (hzr (Env.of w Z hp g)).length, hzl]
 simp only [aop, zaa] at hf
 obtain ⟨r, hc, hf⟩ := hf
 obtain ⟨c1, c2, A2, cap2, vs, hye, c3, c4, c5⟩ := zis hi hc (zah hs hy)
 have hsrc : Src P i.size u (a.eval y) r.1.length vs w := by
   rw [hye]
   refine zj6 hu (fun h => by rw [c3 h]; rfl) c4.length (RepEs.oneCell c2 c4) (fun h => c5 fun hr => h (by rw [hr]; rfl))
 have hA := App.src (P := P) (ty := o.type) (zb8 ht) hinf hzv (zhw hinf hsl) hsrc
 obtain ⟨v, w', g', e1, e2, e3⟩ := zj1 hzc h0 hi (zah hs hx) hA c4 c1 c2 hf
 refine ⟨v, w', g', .inl ?_, e2, e3⟩
 rw [he, ha, hty]
 simp only [List.map_toArray, List.map_cons, List.map_nil]
 exact zcx e1
theorem z0j (hi : Inv (Env.of w Z hp g)) (hs : SlotsRep (Env.of w Z hp g) s a) {t u e e' : TypeId} {sz : Nat} {z : List AV} {x y : Operand} {x' y' : Opd} (ho : o.op = .call c) (hb : c.callee = .builtin .append) (h1 : c.args.toList = [x, y]) (h2 : c.argTypes.toList = [t, u]) (hx : copd x = some x') (hy : copd y = some y')
   (ht : zdw P t = some e) (hu : P.underlying u = some (.slice e')) (hz : zeroOf P e = some z) (hsz : szOf P e = some sz) (h0 : 0 < sz) (hzl : z.length = sz) (hsl : slim P e = true) (hf : aop cx (.appd e sz x' y') d s hp = some fx) : Runs P a o w Z hp g fx := by
 obtain ⟨ha, hty⟩ := zhm h1 h2
 obtain ⟨cs, he⟩ := zb9 (ρ := a.eval) ho hb
 obtain ⟨i, hinf, rfl⟩ := zf4 hsz
 obtain ⟨i', zv, hinf', hzv, hzr, _, _, _⟩ := zck hz
 rw [hinf] at hinf'
 injection hinf' with hinf'
 subst hinf'
 have hzc : zv.cells.size = i.size := by rw [← Array.length_toList, (hzr (Env.of w Z hp g)).length, hzl]
 simp only [aop, zaa] at hf
 obtain ⟨r, hc, hf⟩ := hf
 obtain ⟨c2, A2, cap2, vs, hye, c3, c4, c5⟩ := zo9 hi hc (zah hs hy)
 have hsrc : Src P i.size u (a.eval y) r.1.length vs w := by
   rw [hye]
   refine zj6 hu (fun h => by rw [c3 h]; rfl) c4.length (RepEs.oneCell c2 c4) (fun h => c5 fun hr => h (by rw [hr]; rfl))
 have hA := App.src (P := P) (ty := o.type) (zb8 ht) hinf hzv (zhw hinf hsl) hsrc
 obtain ⟨v, w', g', e1, e2, e3⟩ := zrc hzc h0 hi (zah hs hx) hA c4 c2 hf
 refine ⟨v, w', g', .inl ?_, e2, e3⟩
 rw [he, ha, hty]
 simp only [List.map_toArray, List.map_cons, List.map_nil]
 exact zcx e1
theorem zu5 (hi : Inv (Env.of w Z hp g)) (hs : SlotsRep (Env.of w Z hp g) s a) {t u e : TypeId} {z : List AV} {x y : Operand} {x' y' : Opd} (ho : o.op = .call c) (hb : c.callee = .builtin .append) (h1 : c.args.toList = [x, y]) (h2 : c.argTypes.toList = [t, u]) (hx : copd x = some x') (hy : copd y = some y')
   (ht : zdw P t = some e) (hu : P.underlying u = some .string) (hz : zeroOf P e = some z) (hsz : szOf P e = some 1) (hzl : z.length = 1) (hsl : slim P e = true) (hf : aop cx (.appstr e x' y') d s hp = some fx) : Runs P a o w Z hp g fx := by
 obtain ⟨ha, hty⟩ := zhm h1 h2
 obtain ⟨cs, he⟩ := zb9 (ρ := a.eval) ho hb
 obtain ⟨i, hinf, hi1⟩ := zf4 hsz
 obtain ⟨i', zv, hinf', hzv, hzr, _, _, _⟩ := zck hz
 rw [hinf] at hinf'
 injection hinf' with hinf'
 subst hinf'
 have hzc : zv.cells.size = i.size := by rw [← Array.length_toList, (hzr (Env.of w Z hp g)).length, hzl, hi1]
 simp only [aop, zaa] at hf
 obtain ⟨l, hc, hf⟩ := hf
 have hr := zah hs hy
 have hye : ev s y' = .str l := by
   revert hc
   cases ev s y' <;> simp [strOf]
 rw [hye] at hr
 simp only [Rep] at hr
 have hbc : byteCells ⟨l.toArray⟩ = l.map fun c => Value.int .u8 (c.toNat : Int) := by simp [byteCells]
 have hsrc : Src P i.size u (a.eval y) (zg1 l).length (l.map fun c => Value.int .u8 (c.toNat : Int)) w := by
   have := Src.ofString (P := P) w hu ⟨l.toArray⟩
   rw [hbc, zgk] at this
   rw [hr, zfw, hi1]
   exact this
 have hA := App.src (P := P) (ty := o.type) (zb8 ht) hinf hzv (zhw hinf hsl) hsrc
 rw [← hi1] at hf
 obtain ⟨v, w', g', e1, e2, e3⟩ := zj1 hzc (by omega) hi (zah hs hx) hA (RepEs.sz_eq hi1 (zky _ l)) (zmd l) (zlr l) hf
 refine ⟨v, w', g', .inl ?_, e2, e3⟩
 rw [he, ha, hty]
 simp only [List.map_toArray, List.map_cons, List.map_nil]
 exact zcx e1
theorem zz7 (hi : Inv (Env.of w Z hp g)) (hs : SlotsRep (Env.of w Z hp g) s a) {t u e : TypeId} {k : IntKind} {sz : Nat} {z : List AV} {x y : Operand} {x' y' : Opd} (ho : o.op = .call c) (hb : c.callee = .builtin .append) (h1 : c.args.toList = [x, y]) (h2 : c.argTypes.toList = [t, u]) (hx : copd x = some x') (hy : copd y = some y')
   (ht : zdw P t = some e) (hu : P.underlying u = some (.int k)) (hz : zeroOf P e = some z) (hsz : szOf P e = some sz) (h0 : 0 < sz) (hzl : z.length = sz) (hsl : slim P e = true) (hf : aop cx (.appz e z x' y') d s hp = some fx) : Runs P a o w Z hp g fx := by
 obtain ⟨ha, hty⟩ := zhm h1 h2
 obtain ⟨cs, he⟩ := zb9 (ρ := a.eval) ho hb
 obtain ⟨i, hinf, rfl⟩ := zf4 hsz
 obtain ⟨i', zv, hinf', hzv, hzr, hzf, hz1, _⟩ := zck hz
 rw [hinf] at hinf'
 injection hinf' with hinf'
 subst hinf'
 have hzc : zv.cells.size = i.size := by rw [← Array.length_toList, (hzr (Env.of w Z hp g)).length, hzl]
 simp only [aop, zaa] at hf
 obtain ⟨m, hc, hf⟩ := hf
 have hr := zah hs hy
 obtain ⟨hml, hye⟩ : m ≤ LIM ∧ a.eval y = .int .i64 (m : Int) := by
   revert hc hr
   cases ev s y' <;> simp only [zlg] <;> intro hc hr <;> try cases hc
   rename_i k n
   revert hc
   cases k <;> simp only [zlg] <;> intro hc <;> try cases hc
   simp only [zac, Option.some.injEq] at hc
   obtain ⟨⟨h0, hl⟩, rfl⟩ := hc
   simp only [Rep] at hr
   exact ⟨hl, by rw [hr, Int.toNat_of_nonneg h0]⟩
 have hA := App.zero (P := P) (ty := o.type) (kx := .i64) (w := w) (zb8 ht) hu hinf hzv hzc h0 (zhw hinf hsl) hml (Reps.oneCell hz1 (hzr (Env.of w Z hp g)))
 have hzl2 := zgw zv.cells (by omega) m
 have hlen : (List.replicate m z).length = m := by simp
 rw [← hye] at hA
 rw [← hlen] at hA
 rw [hzl] at hf
 obtain ⟨v, w', g', e1, e2, e3⟩ := zj1 hzc h0 hi (zah hs hx) hA (by rw [hlen, hzl2]; exact RepEs.sz_eq hzl.symm (RepEs.replicate (hzr _) m)) (zda hzf m) (zcr hz1 m) hf
 refine ⟨v, w', g', .inl ?_, e2, e3⟩
 rw [he, ha, hty]
 simp only [List.map_toArray, List.map_cons, List.map_nil]
 exact zcx e1
end
end Go.Abs
end
section
set_option linter.unusedSimpArgs false
set_option linter.unusedVariables false
namespace Go.Abs
section
variable {P : Program} {a : Act} {w : World} {Z : Nat → Prop} {hp : Hp} {g : Gm} {s : Sl} {cx : Cx} {d : Nat} {fx : Fx} {o : Oper}
theorem zw1 (hi : Inv (Env.of w Z hp g)) (hs : SlotsRep (Env.of w Z hp g) s a) {c : Call} {op' : AOp} (ho : o.op = .call c) (hc : ccall P c = some op') (hn : zqp op' = true) (hf : aop cx op' d s hp = some fx) : Runs P a o w Z hp g fx := by
 unfold ccall at hc
 split at hc
 · split at hc <;> try cases hc
   simp only [Option.map_eq_some_iff] at hc
   obtain ⟨_, _, rfl⟩ := hc
   cases hn
 · simp only [Option.map_eq_some_iff] at hc
   obtain ⟨_, _, rfl⟩ := hc
   cases hn
 · cases hc
 · cases hc
 · rename_i b hb
   split at hc
   · rename_i x t h1 h2
     split at hc <;> try cases hc
     · rename_i hu hx
       exact zxw hi hs ho hb h1 h2 hx (by simpa using hu) hf
     · rename_i hu hx
       exact zxw hi hs ho hb h1 h2 hx (by simpa using ⟨_, hu⟩) hf
   · rename_i x y t u h1 h2
     split at hc <;> try cases hc
     rename_i e x' y' ht hx hy
     split at hc <;> try cases hc
     · rename_i u' z sz hu hz hsz
       split at hc <;> try cases hc
       rename_i hcond
       obtain ⟨k1, k2, k3, k4⟩ := hcond
       exact z5o hi hs ho hb h1 h2 hx hy ht hu hz hsz k1 k2 k4 hf
     · rename_i z sz hu hz hsz
       split at hc <;> try cases hc
       rename_i hcond
       obtain ⟨rfl, k2, k4⟩ := hcond
       exact zu5 hi hs ho hb h1 h2 hx hy ht hu hz hsz k2 k4 hf
     · rename_i k z sz hu hz hsz
       split at hc <;> try cases hc
       rename_i hcond
       obtain ⟨k1, k2, k4⟩ := hcond
       exact zz7 hi hs ho hb h1 h2 hx hy ht hu hz hsz k1 k2 k4 hf
   · rename_i x y t u h1 h2
     split at hc <;> try cases hc
     rename_i e x' y' u' ht hx hy hu
     split at hc <;> try cases hc
     rename_i sz hsz
     split at hc <;> try cases hc
     exact z08 hi hs ho hb h1 h2 hx hy ht hu hsz hf
   · rename_i x t h1 h2
     split at hc <;> try cases hc
     rename_i e x' ht hx
     split at hc <;> try cases hc
     rename_i z sz hz hsz
     split at hc <;> try cases hc
     rename_i hcond
     exact zxs hi hs ho hb h1 h2 hx ht hz (by omega) hf
   · simp only [Option.map_eq_some_iff] at hc
     obtain ⟨l, hl, rfl⟩ := hc
     exact mx_op hi hs ho hb hl hf
   · simp only [Option.map_eq_some_iff] at hc
     obtain ⟨l, hl, rfl⟩ := hc
     exact mn_op hi hs ho hb hl hf
   · cases hc
theorem op_ok (hi : Inv (Env.of w Z hp g)) (hs : SlotsRep (Env.of w Z hp g) s a) {op' : AOp} (hc : cop P o.op = some op') (hn : zqp op' = true) (hf : aop cx op' d s hp = some fx) : Runs P a o w Z hp g fx := by
 cases hop : o.op <;> rw [hop] at hc <;> simp only [cop] at hc <;> try cases hc
 case move x =>
   simp only [Option.map_eq_some_iff] at hc
   obtain ⟨x', hx, rfl⟩ := hc
   exact zui hi hs hx (.inl hop) hf
 case assign x =>
   simp only [Option.map_eq_some_iff] at hc
   obtain ⟨x', hx, rfl⟩ := hc
   exact zui hi hs hx (.inr hop) hf
 case pick c x y =>
   split at hc <;> try cases hc
   rename_i c' x' y' h1 h2 h3
   exact zzx hi hs h1 h2 h3 hop hf
 case alloc t =>
   split at hc <;> try cases hc
   rename_i z hz
   exact zwu hi hz hop hf
 case box t x =>
   simp only [Option.map_eq_some_iff] at hc
   obtain ⟨x', hx, rfl⟩ := hc
   exact z5u hi hs hx hop hf
 case build t parts =>
   split at hc <;> try cases hc
   rename_i fs z ht hz
   split at hc <;> try cases hc
   rename_i pl hpl
   split at hc <;> try cases hc
   rename_i l hl
   exact zwc hi hs ht hz hpl hl hop hf
 case buildSlice t len parts =>
   split at hc <;> try cases hc
   rename_i e ht
   split at hc <;> try cases hc
   rename_i z sz l hz hsz hl
   split at hc <;> try cases hc
   rename_i hcond
   exact zuj hi hs ht hz hsz hl hcond.1 hcond.2.1 hcond.2.2 hop hf
 case load t x =>
   split at hc <;> try cases hc
   rename_i c n x' h1 h2 h3
   split at hc <;> try cases hc
   rename_i hcond
   exact z1g hi hs h1 h2 h3 hcond.1 hop hf
 case store t x y =>
   split at hc <;> try cases hc
   rename_i n x' y' h1 h2 h3
   exact zv8 hi hs h1 h2 h3 hop hf
 case nilCheck x =>
   simp only [Option.map_eq_some_iff] at hc
   obtain ⟨x', hx, rfl⟩ := hc
   exact zxt hi hs hx hop hf
 case binOp op t x y u =>
   split at hc
   · rename_i ht
     split at hc <;> try cases hc
     rename_i x' y' hx hy
     exact zyu (neg := false) hi hs ht hx hy (by simpa using hop) hf
   · rename_i ht
     split at hc <;> try cases hc
     rename_i x' y' hx hy
     exact zyu (neg := true) hi hs ht hx hy (by simpa using hop) hf
   · rename_i dd ht
     split at hc <;> try cases hc
     · rename_i k x' _ hk hx
       exact zp8 (neg := false) hi hs ht hk hx (by simpa using hop) hf
     · rename_i x' y' _ hx hy
       exact zsr hi hs hx hy hop hf
   · rename_i dd ht
     split at hc <;> try cases hc
     · rename_i k x' _ hk hx
       exact zp8 (neg := true) hi hs ht hk hx (by simpa using hop) hf
     · rename_i x' y' _ hx hy
       exact zsr hi hs hx hy hop hf
   · split at hc <;> try cases hc
     rename_i x' y' hx hy
     exact zsr hi hs hx hy hop hf
 case unOp op t x =>
   simp only [Option.map_eq_some_iff] at hc
   obtain ⟨x', hx, rfl⟩ := hc
   exact un_ok hi hs hx hop hf
 case convert src dst x =>
   split at hc <;> try cases hc
   · rename_i k' k x' h1 h2 hx
     exact zmp hi hs (c := .int k) ⟨⟨_, h1⟩, h2⟩ hx hop hf
   · rename_i x' h1 h2 hx
     exact zmp hi hs (c := .id) ⟨h1, h2⟩ hx hop hf
   · rename_i e x' h1 h2 hx
     split at hc <;> try cases hc
     rename_i he
     exact zmp hi hs (c := .b2s) ⟨e, h1, he, h2⟩ hx hop hf
   · rename_i e x' h1 h2 hx
     split at hc <;> try cases hc
     rename_i he
     exact zmp hi hs (c := .s2b) ⟨e, h1, he, h2⟩ hx hop hf
   · rename_i e0 e x' h1 h2 hx
     split at hc <;> try cases hc
     rename_i hsd
     split at hc <;> try cases hc
     rename_i he
     subst hsd
     simp only [aop] at hf
     obtain ⟨w', e1, e2, e3⟩ := zze (P := P) hi h2 he hf (zah hs hx)
     refine ⟨_, w', g, .inl ?_, e2, e3⟩
     unfold execOp
     rw [hop]
     exact zcx e1
 case makeFunc fn first caps =>
   split at hc <;> try cases hc
   rename_i f l h1 h2
   split at hc <;> try cases hc
   rename_i hrf
   exact zz5 hi hs h1 h2 hrf hop hf
 case makeSlice t l c =>
   split at hc <;> try cases hc
   rename_i e l' c' ht hl hc2
   split at hc <;> try cases hc
   rename_i z sz hz hsz heq
   split at hc <;> try cases hc
   rename_i hcond
   have hlc : l = c := by
     revert heq
     cases l <;> cases c <;> simp
   subst hlc
   exact zrz hi hs ht hz hsz hcond.1 hcond.2.1 hcond.2.2 hl hop hf
 case slice t x lo hi' mx =>
   split at hc <;> try cases hc
   · rename_i x' lo' hi'' ht hx h1 h2 h3
     have hm : mx = none := by
       cases mx with
       | none => rfl
       | some m => simp [copt] at h3
     subst hm
     exact zp0 hi hs hx h1 h2 h3 (.inl ⟨rfl, ht, rfl⟩) hop hf
   · rename_i e x' lo' hi'' mx' ht hx h1 h2 h3
     split at hc <;> try cases hc
     rename_i sz hsz
     split at hc <;> try cases hc
     rename_i hcond
     exact zp0 hi hs hx h1 h2 h3 (.inr ⟨hcond, e, ht, hsz⟩) hop hf
 case fieldAddr t x f =>
   split at hc <;> try cases hc
   rename_i fs x' ht hx
   split at hc <;> try cases hc
   rename_i fd hfd
   split at hc <;> try cases hc
   rename_i sz hsz
   split at hc <;> try cases hc
   rename_i hcond
   exact zw9 hi hs ht hfd hsz hcond hx hop hf
 case field t x f =>
   split at hc <;> try cases hc
   rename_i fs x' ht hx
   split at hc <;> try cases hc
   rename_i fd hfd
   split at hc <;> try cases hc
   rename_i sz c hsz hag
   split at hc <;> try cases hc
   rename_i hcond
   exact z38 hi hs ht hfd hag hsz hcond hx hop hf
 case indexAddr t x i =>
   split at hc <;> try cases hc
   rename_i e x' i' ht hx hy
   split at hc <;> try cases hc
   rename_i sz hsz
   split at hc <;> try cases hc
   exact zxr hi hs ht hsz hx hy hop hf
 case index t x i =>
   split at hc <;> try cases hc
   rename_i x' i' ht hx hy
   exact z4i hi hs ht hx hy hop hf
 case extract x i =>
   split at hc <;> try cases hc
   rename_i x' hx
   exact z4h hi hs hx hop hf
 case makeMap t r =>
   cases r with
   | some x => cases hc
   | none =>
     simp only at hc
     split at hc <;> try cases hc
     simp only [aop] at hf
     obtain ⟨s1, s2⟩ := zu2 hi hf
     refine ⟨_, _, _, .inl ?_, s1, s2⟩
     unfold execOp
     rw [hop]
     exact zcx rfl
 case lookup t x k ok =>
   split at hc <;> try cases hc
   rename_i kt e x' k' ht hx hk
   split at hc <;> try cases hc
   rename_i z kk hz hkk
   simp only [aop] at hf
   obtain ⟨h1, v, h2, h3⟩ := zvz (P := P) hi ht hz hkk hf (zah hs hx) (zah hs hk)
   refine Runs.same hi h1 ⟨v, ?_, h3⟩
   unfold execOp
   rw [hop]
   exact zcx h2
 case mapUpdate t x k y =>
   split at hc <;> try cases hc
   rename_i kt e x' k' y' ht hx hk hy
   split at hc <;> try cases hc
   rename_i kk hkk
   simp only [aop] at hf
   obtain ⟨w', h1, h2, h3⟩ := zw2 (P := P) hi ht hkk hf (zah hs hx) (zah hs hk) (zah hs hy)
   refine ⟨Go.undef, w', g, .inr ⟨?_, rfl⟩, h2, ?_⟩
   · unfold execOp
     rw [hop]
     exact z6p h1
   · rw [h3]
     simp [Rep, Abs.undef, Reps, Go.undef]
 case call c => exact zw1 hi hs hop hc hn hf
theorem zw0 (hi : Inv (Env.of w Z hp g)) (hs : SlotsRep (Env.of w Z hp g) s a) {c : Call} {op' : AOp} (ho : o.op = .call c) (hc : ccall P c = some op') (h2 : ibox 2 op' ≠ op') (hf : aop cx (ibox 2 op') d s hp = some fx) : Runs P a o w Z hp g fx := by
 unfold ccall at hc
 split at hc
 · split at hc <;> try cases hc
   simp only [Option.map_eq_some_iff] at hc
   obtain ⟨_, _, rfl⟩ := hc
   exact absurd rfl h2
 · simp only [Option.map_eq_some_iff] at hc
   obtain ⟨_, _, rfl⟩ := hc
   exact absurd rfl h2
 · cases hc
 · cases hc
 · rename_i b hb
   split at hc
   · rename_i x t h1 h2'
     split at hc <;> try cases hc
     · exact absurd rfl h2
     · exact absurd rfl h2
   · rename_i x y t u h1 h2'
     split at hc <;> try cases hc
     rename_i e x' y' ht hx hy
     split at hc <;> try cases hc
     · rename_i u' z sz hu hz hsz
       split at hc <;> try cases hc
       rename_i hcond
       obtain ⟨k1, k2, k3, k4⟩ := hcond
       exact z0j hi hs ho hb h1 h2' hx hy ht hu hz hsz k1 k2 k4 hf
     · split at hc <;> try cases hc
       exact absurd rfl h2
     · split at hc <;> try cases hc
       exact absurd rfl h2
   · split at hc <;> try cases hc
     split at hc <;> try cases hc
     split at hc <;> try cases hc
     exact absurd rfl h2
   · split at hc <;> try cases hc
     split at hc <;> try cases hc
     split at hc <;> try cases hc
     exact absurd rfl h2
   · simp only [Option.map_eq_some_iff] at hc
     obtain ⟨l, hl, rfl⟩ := hc
     exact absurd rfl h2
   · simp only [Option.map_eq_some_iff] at hc
     obtain ⟨l, hl, rfl⟩ := hc
     exact absurd rfl h2
   · cases hc
theorem zzy (hi : Inv (Env.of w Z hp g)) (hs : SlotsRep (Env.of w Z hp g) s a) {op' : AOp} (hc : cop P o.op = some op') (h2 : ibox 2 op' ≠ op') (hf : aop cx (ibox 2 op') d s hp = some fx) : Runs P a o w Z hp g fx := by
 cases hop : o.op
 case call c =>
   rw [hop] at hc
   exact zw0 hi hs hop hc h2 hf
 case buildSlice t len parts =>
   rw [hop] at hc
   simp only [cop] at hc
   split at hc <;> try cases hc
   rename_i e ht
   split at hc <;> try cases hc
   rename_i z sz l hz hsz hl
   split at hc <;> try cases hc
   rename_i hcond
   exact zrw hi hs ht hz hsz hl hcond.1 hcond.2.1 hcond.2.2 hop hf
 case makeMap t r =>
   rw [hop] at hc
   cases r with
   | some x => simp [cop] at hc
   | none =>
     simp only [cop] at hc
     split at hc
     · injection hc with hc
       subst hc
       exact absurd rfl h2
     · cases hc
 all_goals
   exfalso
   rw [hop] at hc
   simp only [cop] at hc
   first
     | (cases hc; done)
     | (simp only [Option.map_eq_some_iff] at hc; obtain ⟨_, _, rfl⟩ := hc; exact h2 rfl)
     | ((repeat' split at hc) <;> (try cases hc) <;> exact h2 rfl)
end
end Go.Abs
end
