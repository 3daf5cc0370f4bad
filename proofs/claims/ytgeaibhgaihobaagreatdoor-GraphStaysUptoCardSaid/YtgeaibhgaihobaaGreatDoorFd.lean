/-
 Own work. An abstract machine for the loaded programs, and that it is sound: many texts, merged by program.
-/
import Derived.Test.YtgeaibhgaihobaaGreatDoorFe
import Derived.KernelRfl
import Derived.Laws.IdiomCopy
import Derived.Laws.CopyRow
import Derived.Deep.Slices
import Derived.ChangeSame
import Derived.JoinedCond
import Derived.WideKeyArgs
import Derived.RowKit
import Derived.Lib.Bytealg
import Derived.Attr
set_option linter.unusedSimpArgs false
set_option linter.unusedVariables false
section
set_option linter.unusedSimpArgs false
set_option linter.unusedVariables false
namespace Go.Abs
def eqAs (f : AV → AV → Bool) : List AV → List AV → Bool
 | [], [] => true
 | a :: r, b :: s => f a b && eqAs f r s
 | _, _ => false
def zpq (f : AV → AV → Bool) : List (List AV) → List (List AV) → Bool
 | [], [] => true
 | a :: r, b :: s => eqAs f a b && zpq f r s
 | _, _ => false
def eqA : Nat → AV → AV → Bool
 | 0, _, _ => false
 | _ + 1, .i k a, .i k' b => decide (k = k') && decide (a = b)
 | _ + 1, .b a, .b b => decide (a = b)
 | _ + 1, .str a, .str b => decide (a = b)
 | n + 1, .sl k z es, .sl k' z' es' => decide (k = k') && (decide (z = z') && zpq (eqA n) es es')
 | n + 1, .agg a, .agg b => eqAs (eqA n) a b
 | _ + 1, .nilp, .nilp => true
 | _ + 1, .nilf, .nilf => true
 | _, _, _ => false
theorem zpr {f : AV → AV → Bool} (h : ∀ a b, f a b = true → a = b) : ∀ {a b : List AV}, eqAs f a b = true → a = b
 | [], [], _ => rfl
 | a :: r, b :: s, e => by
   simp only [eqAs, Bool.and_eq_true] at e
   rw [h _ _ e.1, zpr h e.2]
 | [], _ :: _, e => by simp [eqAs] at e
 | _ :: _, [], e => by simp [eqAs] at e
theorem zmt {f : AV → AV → Bool} (h : ∀ a b, f a b = true → a = b) : ∀ {a b : List (List AV)}, zpq f a b = true → a = b
 | [], [], _ => rfl
 | a :: r, b :: s, e => by
   simp only [zpq, Bool.and_eq_true] at e
   rw [zpr h e.1, zmt h e.2]
 | [], _ :: _, e => by simp [zpq] at e
 | _ :: _, [], e => by simp [zpq] at e
theorem zvh : ∀ (n : Nat) (a b : AV), eqA n a b = true → a = b
 | 0, _, _, e => by simp [eqA] at e
 | n + 1, a, b, e => by
   cases a <;> cases b <;> simp only [eqA, Bool.false_eq_true, Bool.and_eq_true, decide_eq_true_eq] at e
   · rw [e.1, e.2]
   · rw [e]
   · rw [e]
   · rw [e.1, e.2.1, zmt (zvh n) e.2.2]
   · rw [zpr (zvh n) e]
   · rfl
   · rfl
def xexec (L : Nat) (cx : Cx) : ACode → St → Res
 | .skip, st => some (.normal, st)
 | .reg l, st => bnd (areg cx l st) fun st => some (.normal, st)
 | .draw l ps, st => bnd (adraw cx l [] st) fun x => ask (zci x.2 ps = true) (some (.normal, x.1))
 | .seq a b, st => bnd (xexec L cx a st) (andThen (xexec L cx b))
 | .cond c a b, st => zib (xexec L cx a st) (xexec L cx b st) (ev st.sl c)
 | .block id c, st => bnd (xexec L cx c st) (outOf id)
 | .loop keep c, st => bnd (zcp keep st.sl st.hp) fun vs => zc7 (xexec L cx c) keep L vs
 | .rangef t ps keep a b, st => bnd (zcp keep st.sl st.hp) fun vs => bnd (zh2 cx (get (zar keep vs [] []).sl t)) fun es => arange (fun st => bnd (xexec L cx a st) (zc0 (xexec L cx b))) ps keep es vs
 | .exit id, st => some (.exit id, st)
 | .ret, st => some (.ret, st)
 | .fail, _ => none
def xbody (L : Nat) (cx : Cx) (fs : FSpec) (f : AFun) (args : List AV) : Option (AV × List AV) :=
 bnd (xexec L cx f.body (zae 0 args [] [])) fun x => bnd (zc1 x) fun st => answer fs f.nparams f.res st
def ixexec (L : Nat) (cx : Cx) (it : Bool) : ACode → IS → IRes
 | .skip, s => some (.normal, s)
 | .reg l, s => bnd (ireg cx l s) fun s => some (.normal, s)
 | .draw l ps, s => bnd (adraw cx l [] s.st) fun x => ask (zci x.2 ps = true) (some (.normal, s.at x.1))
 | .seq a b, s => bnd (ixexec L cx it a s) (zdb (ixexec L cx it b))
 | .cond c a b, s => zj2 (ixexec L cx it a s) (ixexec L cx it b s) (ev s.st.sl c)
 | .block id c, s => bnd (ixexec L cx it c s) (ze5 id)
 | .loop keep c, s => bnd (zcp keep s.st.sl s.st.hp) fun vs => zde it (ixexec L cx it c) keep L vs s.tr s.md
 | .rangef t ps keep a b, s => bnd (zcp keep s.st.sl s.st.hp) fun vs => bnd (zh2 cx (get (zar keep vs [] []).sl t)) fun es => irange it (fun s => bnd (ixexec L cx it a s) (zbz (ixexec L cx it b))) ps keep es vs s.tr s.md
 | .exit id, s => some (.exit id, s)
 | .ret, s => some (.ret, s)
 | .fail, _ => none
def xirun (L : Nat) (cx : Cx) (fn : AFun) (caps : List AV) (md : YM) : Option IS := ifin (ixexec L cx true fn.body ⟨zae 0 (.yl :: caps) [] [], [], md⟩)
def xstop (es : List (List AV)) (n : Nat) : Option IS → Bool
 | some s => zpq (eqA 9) s.tr (es.take (n + 1)) && s.md.isOff
 | none => false
def xstops (L : Nat) (cx : Cx) (fn : AFun) (caps : List AV) (es : List (List AV)) : Nat → Bool
 | 0 => true
 | n + 1 => xstop es n (xirun L cx fn caps (.cnt n)) && xstops L cx fn caps es n
def xgive (L : Nat) (cx : Cx) (fs : FSpec) (fn : AFun) : List AV → Option (AV × List AV)
 | .yq :: caps => bnd (xirun L cx fn caps .go) fun s => ask ((fn.res.isEmpty && (s.md.isGo && (io0 fs.pm && (flats caps && xstops L cx fn caps s.tr s.tr.length)))) = true) (some (.sl .open_ 0 s.tr, []))
 | _ => none
def zya (L : Nat) (S : Sys) (call : Nat → List AV → Option (AV × List AV)) (f : Nat) (args : List AV) : Option (AV × List AV) :=
 match (S.spec f).it with
 | true => bnd (S.fs f) fun fn => ask (args.length = fn.nparams) (xgive L (cxOf S call) (S.spec f) fn args)
 | false => match S.prim f with
   | some p => p args
   | none => bnd (S.fs f) fun fn => ask (args.length = fn.nparams) (xbody L (cxOf S call) (S.spec f) fn args)
def xcall (L : Nat) (S : Sys) : Nat → Nat → List AV → Option (AV × List AV)
 | 0, _, _ => none
 | n + 1, f, args => zya L S (xcall L S n) f args
theorem zxi {L : Nat} {cx : Cx} : ∀ {k : ACode} {st : St} {r : AExit × St}, xexec L cx k st = some r → aexec cx k st = some r := by
 intro k
 induction k with
 | seq a b iha ihb =>
   intro st r e
   simp only [xexec, aexec, zaa] at e ⊢
   obtain ⟨⟨ex, s1⟩, hx, e⟩ := e
   refine ⟨_, iha hx, ?_⟩
   cases ex <;> simp only [andThen] at e ⊢ <;> try exact e
   exact ihb e
 | cond cc a b iha ihb =>
   intro st r e
   simp only [xexec, aexec] at e ⊢
   revert e
   generalize ev st.sl cc = v
   intro e
   cases v <;> simp only [zib] at e ⊢ <;> try exact e
   rename_i t
   cases t with
   | true => exact iha e
   | false => exact ihb e
 | block id a iha =>
   intro st r e
   simp only [xexec, aexec, zaa] at e ⊢
   obtain ⟨x, hx, e⟩ := e
   exact ⟨x, iha hx, e⟩
 | loop keep a iha =>
   intro st r e
   simp only [xexec, aexec, zaa] at e ⊢
   obtain ⟨vs, hv, e⟩ := e
   exact ⟨vs, hv, zhh (zfp (fun st r e => iha e) e)⟩
 | rangef t ps keep a b iha ihb =>
   intro st r e
   simp only [xexec, aexec, zaa] at e ⊢
   obtain ⟨vs, hv, es, hs, e⟩ := e
   refine ⟨vs, hv, es, hs, zer (fun st r e => ?_) e⟩
   simp only [zaa] at e ⊢
   obtain ⟨⟨ex, s1⟩, h1, e⟩ := e
   refine ⟨_, iha h1, ?_⟩
   cases ex <;> simp only [zc0] at e ⊢ <;> try exact e
   exact ihb e
 | _ => intro st r e; exact e
theorem zs4 {L : Nat} {cx : Cx} {it : Bool} : ∀ {k : ACode} {s : IS} {r : AExit × IS}, ixexec L cx it k s = some r → iexec cx it k s = some r := by
 intro k
 induction k with
 | seq a b iha ihb =>
   intro st r e
   simp only [ixexec, iexec, zaa] at e ⊢
   obtain ⟨⟨ex, s1⟩, hx, e⟩ := e
   refine ⟨_, iha hx, ?_⟩
   cases ex <;> simp only [zdb] at e ⊢ <;> try exact e
   exact ihb e
 | cond cc a b iha ihb =>
   intro st r e
   simp only [ixexec, iexec] at e ⊢
   revert e
   generalize ev st.st.sl cc = v
   intro e
   cases v <;> simp only [zj2] at e ⊢ <;> try exact e
   rename_i t
   cases t with
   | true => exact iha e
   | false => exact ihb e
 | block id a iha =>
   intro st r e
   simp only [ixexec, iexec, zaa] at e ⊢
   obtain ⟨x, hx, e⟩ := e
   exact ⟨x, iha hx, e⟩
 | loop keep a iha =>
   intro st r e
   simp only [ixexec, iexec, zaa] at e ⊢
   obtain ⟨vs, hv, e⟩ := e
   exact ⟨vs, hv, zm3 (zhc (fun st r e => iha e) e)⟩
 | rangef t ps keep a b iha ihb =>
   intro st r e
   simp only [ixexec, iexec, zaa] at e ⊢
   obtain ⟨vs, hv, es, hs, e⟩ := e
   refine ⟨vs, hv, es, hs, zg6 (fun st r e => ?_) e⟩
   simp only [zaa] at e ⊢
   obtain ⟨⟨ex, s1⟩, h1, e⟩ := e
   refine ⟨_, iha h1, ?_⟩
   cases ex <;> simp only [zbz] at e ⊢ <;> try exact e
   exact ihb e
 | _ => intro st r e; exact e
theorem zq1 {L : Nat} {cx : Cx} {fn : AFun} {caps : List AV} {md : YM} {s : IS} (e : xirun L cx fn caps md = some s) : irun cx fn caps md = some s := by
 unfold xirun at e
 unfold irun
 obtain ⟨ex, hx, hne⟩ := zk4 e
 rw [zs4 hx]
 rw [hx] at e
 exact e
theorem zn4 {L : Nat} {cx : Cx} {fn : AFun} {caps : List AV} {es : List (List AV)} : ∀ (m : Nat), xstops L cx fn caps es m = true → ∀ n, n < m → ∃ s, irun cx fn caps (.cnt n) = some s ∧ s.tr = es.take (n + 1) ∧ s.md.isOff = true
 | 0, _, n, hn => by omega
 | m + 1, e, n, hn => by
   simp only [xstops, Bool.and_eq_true] at e
   by_cases h : n = m
   · subst h
     have e1 := e.1
     cases hx : xirun L cx fn caps (.cnt n) with
     | none => rw [hx] at e1; cases e1
     | some s =>
       rw [hx] at e1
       simp only [xstop, Bool.and_eq_true] at e1
       exact ⟨s, zq1 hx, zmt (zvh 9) e1.1, e1.2⟩
   · exact zn4 m e.2 n (by omega)
theorem zxe {L : Nat} {cx : Cx} {fs : FSpec} {fn : AFun} {args : List AV} {r : AV × List AV} (e : xgive L cx fs fn args = some r) : igive cx fs fn args = some r := by
 unfold xgive at e
 split at e
 · unfold igive
   simp only [zaa, zac, Bool.and_eq_true] at e ⊢
   obtain ⟨s, hs, ⟨h1, h2, h3, h4, h5⟩, hr⟩ := e
   exact ⟨s, zq1 hs, ⟨h1, h2, h3, h4, zn4 _ h5⟩, hr⟩
 · cases e
theorem zqt {L : Nat} {S : Sys} : ∀ n, CFLe (xcall L S n) (zc6 S n)
 | 0 => fun f args r e => by simp [xcall] at e
 | n + 1 => fun f args r e => by
   have h := zqt (L := L) (S := S) n
   simp only [xcall, zc6] at e ⊢
   refine zol h f args r ?_
   unfold zya at e
   unfold zh4
   cases hit : (S.spec f).it with
   | true =>
     simp only [hit, zaa, zac] at e ⊢
     obtain ⟨fn, hf, hl, e⟩ := e
     exact ⟨fn, hf, hl, zxe e⟩
   | false =>
     simp only [hit] at e ⊢
     split
     · rename_i p hp
       rw [hp] at e
       exact e
     · rename_i hp
       rw [hp] at e
       simp only [zaa, zac] at e ⊢
       obtain ⟨fn, hf, hl, e⟩ := e
       refine ⟨fn, hf, hl, ?_⟩
       unfold xbody at e
       unfold abody
       simp only [zaa] at e ⊢
       obtain ⟨x, hx, e⟩ := e
       exact ⟨x, zxi hx, e⟩
theorem zsz (L n : Nat) {S : Sys} {f : Nat} {args : List AV} {r : AV × List AV} (h : xcall L S n f args = some r) : acall S f args = some r := zig (zqt n f args r h)
end Go.Abs
end
section
set_option linter.unusedSimpArgs false
set_option linter.unusedVariables false
namespace Go.Abs
theorem zdt {P : Program} (w : World) (dT sT ty elem : TypeId) (b o dLen dCap : Nat) (a : Addr) (sLen sCap : Nat) (cs : List Value) {i : TypeInfo}
   (hu : P.underlying dT = some (.slice elem)) (hi : P.info? elem = some i) (hn : cs.length = Nat.min sLen dLen * i.size)
   (hsrc : ∀ j v, cs[j]? = some v → w.cell? (a.add j) = some v) (hc : ∀ j, j < cs.length → (w.cell? ⟨b, o + j, none⟩).isSome = true) (hf : ∀ j, j < cs.length → w.frozen? ⟨b, o + j, none⟩ = false) (h1 : ∀ v ∈ cs, v.oneCell' = true) :
   (Builtin.copy_ #[dT, sT] ty #[.slice (some ⟨b, o, none⟩) dLen dCap, .slice (some a) sLen sCap]).run P w = .ok (goInt (Nat.min sLen dLen : Nat)) (w.setCells b o cs) := by
 have hl := run_loadCells_list (P := P) w a cs hsrc
 have hst := run_storeCells_cells (P := P) b o cs 0 w (by simpa using hc) (by simpa using hf) h1
 rw [hn] at hl
 simp [Builtin.copy_, run_underlying hu, Builtin.lenOf, Builtin.firstCells, sizeOf, typeInfo, hi, hl, hst]
theorem zex {w : World} {g o : Nat} {vs : List Value} {cur : Array Value} {t : TypeId} (hg : w.heap[g]? = some (.cells cur t (0, 0))) (hl : o + vs.length ≤ cur.size) (h1 : ∀ v ∈ vs, v.oneCell' = true) :
   w.setCells g o vs = w.setRow g (cur.toList.take o ++ vs ++ cur.toList.drop (o + vs.length)).toArray := by
 have h2 := zc8 (P := (default : Program)) (o := o) (us := vs) hg hl h1
 have h3 := run_storeCells_cells (P := (default : Program)) g o vs 0 w (fun j hj => by
   have : o + j < cur.size := by omega
   rw [Nat.add_zero, cell_of_row w g (o + j) cur t _ hg]
   rw [Array.getElem?_eq_getElem this]; rfl) (fun j hj => by simp [World.frozen?, hg]) h1
 rw [h2] at h3
 injection h3 with _ h3
 rw [Nat.add_zero] at h3
 exact h3.symm
theorem zsv {arr : Array Value} {vs rest us : List Value} {a k l : Nat} (h : arr.toList = vs ++ rest) (hl : vs.length = l) (ha : a ≤ l) (hk : us.length = k) (hfit : l + k ≤ arr.size) :
   ((((arr.toList.take (a + k) ++ vs.drop a ++ arr.toList.drop (a + k + (l - a))).toArray.toList.take a ++ us ++ (arr.toList.take (a + k) ++ vs.drop a ++ arr.toList.drop (a + k + (l - a))).toArray.toList.drop (a + k)).toArray).toList
     = (vs.take a ++ us ++ vs.drop a) ++ rest.drop k) := by
 have hs : arr.size = l + rest.length := by rw [← Array.length_toList, h, List.length_append, hl]
 have h1 : (arr.toList.take (a + k)).length = a + k := by rw [List.length_take, Array.length_toList]; omega
 simp only [List.toList_toArray]
 have e1 : (arr.toList.take (a + k) ++ vs.drop a ++ arr.toList.drop (a + k + (l - a))).take a = vs.take a := by
   rw [List.append_assoc, List.take_append_of_le_length (by omega), List.take_take, Nat.min_eq_left (by omega), h, List.take_append_of_le_length (by omega)]
 have e2 : (arr.toList.take (a + k) ++ vs.drop a ++ arr.toList.drop (a + k + (l - a))).drop (a + k) = vs.drop a ++ rest.drop k := by
   rw [List.append_assoc, List.drop_append_of_le_length (by omega), List.drop_of_length_le (by omega), List.nil_append]
   congr 1
   rw [h, show a + k + (l - a) = l + k by omega, List.drop_append, List.drop_of_length_le (by omega), List.nil_append]
   congr 1
   omega
 rw [e1, e2]
 simp only [List.append_assoc]
theorem zjd {w : World} {Z : Nat → Prop} {gb vb sz ty n m c i : Nat} {arr : Array Value} {vs rest us : List Value} {es ys : List (List AV)} (hF : ¬ Z gb)
   (g1 : w.heap[gb]? = some (.cells arr ty (0, 0))) (h1 : arr.toList = vs ++ rest) (r1 : RepEs (Env.imm w (Zp Z [gb, vb])) sz es vs) (f1 : flatEs es = true) (o1 : za2 es = true) (hn : es.length = n)
   (r2 : RepEs (Env.imm w (Zp Z [gb, vb])) sz ys us) (f2 : flatEs ys = true) (o2 : za2 ys = true) (hm : ys.length = m) (hc : n + m ≤ c) (hs : c * sz ≤ arr.size) (hi : i ≤ n) (h0 : 0 < m) :
   Brings w Z [gb, vb] [] (.ow ty sz false (es.take i ++ ys ++ es.drop i), []) (.slice (some ⟨gb, 0, none⟩) (n + m) c) [gb] ((w.drew.setCells gb ((i + m) * sz) (vs.drop (i * sz))).setCells gb (i * sz) us) := by
 have hvl := r1.length
 have hul := r2.length
 rw [hn] at hvl
 rw [hm] at hul
 have hnm : (n + m) * sz ≤ c * sz := Nat.mul_le_mul_right _ hc
 have hnm2 : (n + m) * sz = n * sz + m * sz := Nat.add_mul _ _ _
 have him : (i + m) * sz = i * sz + m * sz := Nat.add_mul _ _ _
 have hin : i * sz ≤ n * sz := Nat.mul_le_mul_right _ hi
 have hd1 : (vs.drop (i * sz)).length = n * sz - i * sz := by rw [List.length_drop, hvl]
 have hfit1 : (i + m) * sz + (vs.drop (i * sz)).length ≤ arr.size := by rw [hd1]; omega
 have e1 := zex (w := w.drew) (o := (i + m) * sz) g1 hfit1 fun v hv => RepEs.oneCell o1 r1 v (List.mem_of_mem_drop hv)
 have hg1 : w.drew.heap[gb]? = some (.cells arr ty (0, 0)) := g1
 obtain ⟨A1, hA1⟩ : ∃ A1, A1 = (arr.toList.take ((i + m) * sz) ++ vs.drop (i * sz) ++ arr.toList.drop ((i + m) * sz + (vs.drop (i * sz)).length)).toArray := ⟨_, rfl⟩
 rw [← hA1] at e1
 have hs1 : A1.size = arr.size := by rw [hA1]; exact zb4 arr _ _ hfit1
 have g2 := setRow_heap w.drew gb arr A1 ty (0, 0) hg1
 have hfit2 : i * sz + us.length ≤ A1.size := by rw [hul, hs1]; omega
 have e2 := zex (o := i * sz) g2 hfit2 (RepEs.oneCell o2 r2)
 obtain ⟨A2, hA2⟩ : ∃ A2, A2 = (A1.toList.take (i * sz) ++ us ++ A1.toList.drop (i * sz + us.length)).toArray := ⟨_, rfl⟩
 rw [← hA2] at e2
 have hs2 : A2.size = arr.size := by rw [hA2, ← hs1]; exact zb4 A1 _ _ hfit2
 have hl2 : A2.toList = (vs.take (i * sz) ++ us ++ vs.drop (i * sz)) ++ rest.drop (m * sz) := by
   have := zsv (a := i * sz) (k := m * sz) (l := n * sz) h1 hvl hin hul (by omega)
   rw [hA2, hA1, hd1, him, hul]
   exact this
 rw [e1, e2, setRow_setRow]
 have hnew : (w.drew.setRow gb A2).heap[gb]? = some (.cells A2 ty (0, 0)) := setRow_heap w.drew gb arr A2 ty (0, 0) hg1
 have hoth : ∀ j, j ≠ gb → (w.drew.setRow gb A2).heap[j]? = w.heap[j]? := fun j hj => setRow_other w.drew gb j A2 hj
 have hsizes : ∀ g k, zay w g k → zay (w.drew.setRow gb A2) g k := fun g k h => zdm hg1 hs2 h
 have hce : ∀ b, ¬ Zp Z [gb, vb] b → ∀ off u, w.cell? ⟨b, off, none⟩ = some u → (w.drew.setRow gb A2).cell? ⟨b, off, none⟩ = some u ∧ ¬ Zp Z [gb] b := fun b hb off u hu => by
   have hbg : b ≠ gb := fun e => hb (.inr (by simp [e]))
   refine ⟨?_, fun h => hb (h.imp id fun h => by simp at h; simp [h])⟩
   rw [World.cell?_of_block (hoth b hbg)]
   exact hu
 have hes : es.take i ++ ys ++ es.drop i ≠ [] := fun e => by
   have := congrArg List.length e
   simp [hm] at this
   omega
 have hlen : (es.take i ++ ys ++ es.drop i).length = n + m := by simp [hn, hm]; omega
 have hmem : ∀ x ∈ es.take i ++ ys ++ es.drop i, x ∈ es ∨ x ∈ ys := by
   intro x hx
   simp only [List.mem_append] at hx
   rcases hx with (hx | hx) | hx
   · exact .inl (List.mem_of_mem_take hx)
   · exact .inr hx
   · exact .inl (List.mem_of_mem_drop hx)
 refine ⟨?_, by simp, fun j hj => ?_, by simp [World.setRow], rfl, rfl, rfl, hsizes, fun j hj hnF => hoth j fun e => hnF (by simp [e])⟩
 · simp only [RepPs, RepP]
   refine ⟨_, [], [gb], [], rfl, rfl, ⟨_, c, by rw [hlen], by simp, by simp, zav.2 fun x hx => (hmem x hx).elim (zav.1 f1 x) (zav.1 f2 x), zau.2 fun x hx => (hmem x hx).elim (zau.1 o1 x) (zau.1 o2 x), fun e => absurd e hes, fun _ => ?_⟩, rfl, rfl⟩
   refine ⟨gb, A2, _, _, rfl, rfl, hnew, hl2, ?_, by rw [hlen]; exact hc, by rw [hs2]; exact hs⟩
   exact (((r1.take i).append r2).append (r1.drop i)).imm hce hsizes
 · simp only [List.mem_singleton] at hj
   subst hj
   exact ⟨.inl (by simp), hF⟩
theorem zjx {w : World} {Z : Nat → Prop} {gb vb sz ty n m G i : Nat} {z : Value} {vs us : List Value} {es ys : List (List AV)} (hz : ∀ i, Z i → i < w.heap.size) (hzs : z.cells.size = sz)
   (r1 : RepEs (Env.imm w (Zp Z [gb, vb])) sz es vs) (f1 : flatEs es = true) (o1 : za2 es = true) (hn : es.length = n)
   (r2 : RepEs (Env.imm w (Zp Z [gb, vb])) sz ys us) (f2 : flatEs ys = true) (o2 : za2 ys = true) (hm : ys.length = m) (hG : n + m ≤ G) (hi : i ≤ n) (h0 : 0 < m) :
   Brings w Z [gb, vb] [] (.ow ty sz false (es.take i ++ ys ++ es.drop i), []) (.slice (some ⟨w.heap.size, 0, none⟩) (n + m) G) [w.heap.size]
     ((((w.alloc (.cells ((vs.take (i * sz)).toArray ++ Builtin.zeroCells z.cells (n + m - i) ++ Builtin.zeroCells z.cells (G - (n + m))) ty)).drew.setCells w.heap.size (i * sz) us).drew).setCells w.heap.size ((i + m) * sz) (vs.drop (i * sz))) := by
 have hvl := r1.length
 have hul := r2.length
 rw [hn] at hvl
 rw [hm] at hul
 have hnm : (n + m) * sz ≤ G * sz := Nat.mul_le_mul_right _ hG
 have hnm2 : (n + m) * sz = n * sz + m * sz := Nat.add_mul _ _ _
 have him : (i + m) * sz = i * sz + m * sz := Nat.add_mul _ _ _
 have hin : i * sz ≤ n * sz := Nat.mul_le_mul_right _ hi
 obtain ⟨ROW, hROW⟩ : ∃ ROW : Array Value, ROW = (vs.take (i * sz)).toArray ++ Builtin.zeroCells z.cells (n + m - i) ++ Builtin.zeroCells z.cells (G - (n + m)) := ⟨_, rfl⟩
 have hRs : ROW.size = G * sz := by
   rw [hROW]
   simp only [Array.size_append, List.size_toArray, size_zeroCells, hzs, List.length_take, hvl]
   have e1 : (n + m - i) * sz = (n + m) * sz - i * sz := Nat.sub_mul _ _ _
   have e2 : (G - (n + m)) * sz = G * sz - (n + m) * sz := Nat.sub_mul _ _ _
   omega
 have hRt : ROW.toList.take (i * sz) = vs.take (i * sz) := by
   rw [hROW]
   simp only [Array.toList_append, List.append_assoc]
   rw [List.take_append_of_le_length (by simp only [List.toList_toArray, List.length_take, hvl]; omega)]
   simp [List.take_take]
 rw [← hROW]
 have g0 : (w.alloc (.cells ROW ty)).drew.heap[w.heap.size]? = some (.cells ROW ty (0, 0)) := heap_alloc_new w _
 have e1 := zex (o := i * sz) g0 (by rw [hul, hRs]; omega) (RepEs.oneCell o2 r2)
 obtain ⟨B1, hB1⟩ : ∃ B1, B1 = (ROW.toList.take (i * sz) ++ us ++ ROW.toList.drop (i * sz + us.length)).toArray := ⟨_, rfl⟩
 rw [← hB1] at e1
 have hs1 : B1.size = G * sz := by rw [hB1, zb4 ROW _ _ (by rw [hul, hRs]; omega), hRs]
 have hd1 : (vs.drop (i * sz)).length = n * sz - i * sz := by rw [List.length_drop, hvl]
 rw [e1]
 have g2 : ((w.alloc (.cells ROW ty)).drew.setRow w.heap.size B1).drew.heap[w.heap.size]? = some (.cells B1 ty (0, 0)) := setRow_heap _ _ ROW B1 ty (0, 0) g0
 have e2 := zex (o := (i + m) * sz) g2 (by rw [hd1, hs1]; omega) fun v hv => RepEs.oneCell o1 r1 v (List.mem_of_mem_drop hv)
 obtain ⟨B2, hB2⟩ : ∃ B2, B2 = (B1.toList.take ((i + m) * sz) ++ vs.drop (i * sz) ++ B1.toList.drop ((i + m) * sz + (vs.drop (i * sz)).length)).toArray := ⟨_, rfl⟩
 rw [← hB2] at e2
 have hs2 : B2.size = G * sz := by rw [hB2, zb4 B1 _ _ (by rw [hd1, hs1]; omega), hs1]
 have hl2 : B2.toList = (vs.take (i * sz) ++ us ++ vs.drop (i * sz)) ++ B1.toList.drop ((i + m) * sz + (vs.drop (i * sz)).length) := by
   rw [hB2, List.toList_toArray]
   congr 2
   rw [hB1, List.toList_toArray, hRt]
   have hlen : (vs.take (i * sz) ++ us).length = (i + m) * sz := by rw [List.length_append, List.length_take, hvl, hul]; omega
   rw [List.take_append_of_le_length (by omega), List.take_of_length_le (by omega)]
 rw [e2]
 obtain ⟨w', hw'⟩ : ∃ w', w' = ((w.alloc (.cells ROW ty)).drew.setRow w.heap.size B1).drew.setRow w.heap.size B2 := ⟨_, rfl⟩
 rw [← hw']
 have hnew : w'.heap[w.heap.size]? = some (.cells B2 ty (0, 0)) := by rw [hw']; exact setRow_heap _ _ B1 B2 ty (0, 0) g2
 have hoth : ∀ j, j < w.heap.size → w'.heap[j]? = w.heap[j]? := fun j hj => by
   rw [hw', setRow_other _ _ _ _ (by omega)]
   show ((w.alloc (.cells ROW ty)).drew.setRow w.heap.size B1).heap[j]? = _
   rw [setRow_other _ _ _ _ (by omega)]
   exact heap_alloc_old w _ hj
 have hsize : w.heap.size ≤ w'.heap.size := by
   have := za6 hnew
   omega
 have hsizes : ∀ g k, zay w g k → zay w' g k := fun g k h => by
   obtain ⟨a, t, fr, q1, q2⟩ := h
   exact ⟨a, t, fr, by rw [hoth g (za6 q1)]; exact q1, q2⟩
 have hce : ∀ b, ¬ Zp Z [gb, vb] b → ∀ off u, w.cell? ⟨b, off, none⟩ = some u → w'.cell? ⟨b, off, none⟩ = some u ∧ ¬ Zp Z [w.heap.size] b := fun b hb off u hu => by
   have hlt : b < w.heap.size := block_lt_of_cell hu
   refine ⟨?_, ?_⟩
   · rw [World.cell?_of_block (hoth b hlt)]
     exact hu
   · rintro (h | h)
     · exact hb (.inl h)
     · simp at h
       omega
 have hes : es.take i ++ ys ++ es.drop i ≠ [] := fun e => by
   have := congrArg List.length e
   simp [hm] at this
   omega
 have hlen : (es.take i ++ ys ++ es.drop i).length = n + m := by simp [hn, hm]; omega
 have hmem : ∀ x ∈ es.take i ++ ys ++ es.drop i, x ∈ es ∨ x ∈ ys := by
   intro x hx
   simp only [List.mem_append] at hx
   rcases hx with (hx | hx) | hx
   · exact .inl (List.mem_of_mem_take hx)
   · exact .inr hx
   · exact .inl (List.mem_of_mem_drop hx)
 refine ⟨?_, by simp, fun j hj => ?_, hsize, by rw [hw']; rfl, by rw [hw']; rfl, by rw [hw']; rfl, hsizes, fun j hj _ => hoth j hj⟩
 · simp only [RepPs, RepP]
   refine ⟨_, [], [w.heap.size], [], rfl, rfl, ⟨_, G, by rw [hlen], by simp, by simp, zav.2 fun x hx => (hmem x hx).elim (zav.1 f1 x) (zav.1 f2 x), zau.2 fun x hx => (hmem x hx).elim (zau.1 o1 x) (zau.1 o2 x), fun e => absurd e hes, fun _ => ?_⟩, rfl, rfl⟩
   refine ⟨w.heap.size, B2, _, _, rfl, rfl, hnew, hl2, ?_, by rw [hlen]; exact hG, by rw [hs2]; exact Nat.le_refl _⟩
   exact (((r1.take i).append r2).append (r1.drop i)).imm hce hsizes
 · simp only [List.mem_singleton] at hj
   subst hj
   exact ⟨.inr (Nat.le_refl _), fun h => by have := hz _ h; omega⟩
end Go.Abs
end
section
set_option linter.unusedSimpArgs false
set_option linter.unusedVariables false
namespace Go.Abs
def tiled (P : Program) : Nat → List Field → Bool
 | _, [] => true
 | off, f :: r => (f.offset == off) && tiled P (off + P.cellsOf f.type) r
def wide (P : Program) : List Field → Nat
 | [] => 0
 | f :: r => P.cellsOf f.type + wide P r
def ztt (P : Program) (L : List TypeId) (t : TypeId) : Bool := match P.underlying t with
   | some .bool => true
   | some (.int _) => true
   | some .string => true
   | some (.slice e) => decide (0 < P.cellsOf e) && L.contains e
   | some (.struct fs) => tiled P 0 fs.toList && (wide P fs.toList == P.cellsOf t) && fs.toList.all fun f => L.contains f.type
   | _ => false
def zsy (P : Program) (L : List TypeId) : Bool := L.all (ztt P L)
theorem zut {P : Program} {L : List TypeId} (h : zsy P L = true) {t : TypeId} (ht : L.contains t = true) : ztt P L t = true := List.all_eq_true.1 h t (by simpa using ht)
def Ty (P : Program) : Nat → TypeId → List AV → Prop
 | 0, _, _ => False
 | n + 1, t, cs => match P.underlying t with
   | some .bool => ∃ b, cs = [.b b]
   | some (.int k) => ∃ x, cs = [.i k x] ∧ (Lit.int k x).wf = true
   | some .string => ∃ l, cs = [.str l]
   | some (.slice e) => cs = [.sl .nil (P.cellsOf e) []] ∨ ∃ es, cs = [.sl .open_ (P.cellsOf e) es] ∧ ∀ x ∈ es, Ty P n e x
   | some (.struct fs) => cs.length = P.cellsOf t ∧ ∀ f ∈ fs.toList, Ty P n f.type ((cs.drop f.offset).take (P.cellsOf f.type))
   | _ => False
mutual
def zjf : AV → Nat
 | .str l => l.length + 1
 | .sl _ _ es => zec es + 1
 | _ => 1
def zb1 : List AV → Nat
 | [] => 0
 | v :: r => zjf v + zb1 r
def zec : List (List AV) → Nat
 | [] => 0
 | e :: r => zb1 e + zec r
end
mutual
def zeb {H : Type} : DataW H → Nat
 | .lit (.string bytes) => bytes.length + 1
 | .lit _ => 1
 | .nil => 1
 | .ptr d => zeb d + 1
 | .slice elems spare => zcz elems + zcz spare + 1
 | .agg parts => zcz parts + 1
 | .iface _ d => zeb d + 1
 | .map _ => 1
 | .held _ => 1
def zcz {H : Type} : List (DataW H) → Nat
 | [] => 0
 | d :: r => zeb d + zcz r
end
theorem zia {H : Type} {d : DataW H} : ∀ {l : List (DataW H)}, d ∈ l → zeb d ≤ zcz l
 | [], h => by simp at h
 | x :: r, h => by
   simp only [zcz]
   rcases List.mem_cons.1 h with rfl | h
   · omega
   · have := zia h; omega
theorem zh1 : ∀ (a b : List AV), zb1 (a ++ b) = zb1 a + zb1 b
 | [], b => by simp [zb1]
 | x :: r, b => by simp only [List.cons_append, zb1, zh1 r b]; omega
theorem zvv {w : World} {base : Nat} {a : Addr} {n : Nat} {cs : List Value} (h : w.cells? base a n = some cs) : cs.length = n ∧ ∀ j v, cs[j]? = some v → w.cell? (a.add j) = some v := by
 unfold World.cells? at h
 split at h
 · have : ∀ (l : List Nat) (cs : List Value), (l.mapM fun i => w.cell? (a.add i)) = some cs → cs.length = l.length ∧ ∀ (j : Nat) v i, l[j]? = some i → cs[j]? = some v → w.cell? (a.add i) = some v := by
     intro l
     induction l with
     | nil => intro cs h; simp at h; subst h; exact ⟨rfl, fun j v i hi => by simp at hi⟩
     | cons x r ih =>
       intro cs h
       simp only [List.mapM_cons, Option.bind_eq_bind, Option.pure_def, Option.bind_eq_some_iff, Option.some.injEq] at h
       obtain ⟨v, hv, cs', hc, rfl⟩ := h
       obtain ⟨e1, e2⟩ := ih cs' hc
       refine ⟨by simp [e1], fun j v' i hi hj => ?_⟩
       cases j with
       | zero => simp at hi hj; subst hi; subst hj; exact hv
       | succ j => exact e2 j v' i (by simpa using hi) (by simpa using hj)
   obtain ⟨e1, e2⟩ := this _ _ h
   refine ⟨by simpa using e1, fun j v hj => ?_⟩
   have hlt := (List.getElem?_eq_some_iff.1 hj).1
   rw [e1, List.length_range] at hlt
   exact e2 j v j (List.getElem?_range hlt) hj
 · cases h
abbrev NoY : Nat → Prop := fun _ => False
section
variable {H : Type} {enc : TypeId × Value → H} {P : Program} {w : World} {base : Nat} {spare : Nat → Bool} {held : Bool}
theorem zpl {L : List TypeId} (hL : zsy P L = true) : ∀ (m : Nat) (t : TypeId) (fuel : Nat) (cs : List Value) (x : DataW H × List MemPlace), zeb x.1 < m → L.contains t = true → DataW.trod enc P w base spare held fuel t cs = some x →
   ∃ as, Reps (Env.imm w NoY) as cs ∧ flats as = true ∧ ones as = true ∧ Ty P m t as ∧ zb1 as ≤ zeb x.1
 | 0, t, fuel, cs, x, hm, h, _ => by omega
 | m + 1, t, fuel, cs, x, hm, hc, ht => by
   have h := zut hL hc
   unfold ztt at h
   split at h
   · rename_i hu
     obtain ⟨b, rfl, rfl⟩ := DataW.trod_bool hu ht
     refine ⟨[.b b], by simp [Reps, Rep], rfl, rfl, ?_, by simp [zb1, zjf, zeb]⟩
     unfold Ty
     rw [hu]
     exact ⟨b, rfl⟩
   · rename_i k hu
     obtain ⟨n, rfl, rfl, hw⟩ := DataW.trod_int hu ht
     refine ⟨[.i k n], by simp [Reps, Rep], rfl, rfl, ?_, by simp [zb1, zjf, zeb]⟩
     unfold Ty
     rw [hu]
     exact ⟨n, rfl, hw⟩
   · rename_i hu
     obtain ⟨s, rfl, rfl, hl⟩ := DataW.trod_string hu ht
     refine ⟨[.str s.data.toList], by simp [Reps, Rep], rfl, rfl, ?_, by simp [zb1, zjf, zeb]⟩
     unfold Ty
     rw [hu]
     exact ⟨_, rfl⟩
   · rename_i e hu
     simp only [Bool.and_eq_true, decide_eq_true_eq] at h
     obtain ⟨h0, hre⟩ := h
     rcases Deep.open_slice hu ht with ⟨rfl, rfl⟩ | ⟨a, len, cap, mm, n, D, Pl, rfl, hb, hlc, hcm, hmm, rfl, hel⟩
     · refine ⟨[.sl .nil (P.cellsOf e) []], by simp [Reps, Rep, flatEs, za2], rfl, rfl, ?_, by simp [zb1, zjf, zeb, zec]⟩
       unfold Ty
       rw [hu]
       exact .inl rfl
     · have hlen : len ≤ mm := by rw [hmm]; split <;> omega
       have hDm : ∀ i, i < len → zeb (D i) < m := by
         intro i hi
         have := zia (d := D i) (l := (List.range len).map D) (List.mem_map.2 ⟨i, by simpa using hi, rfl⟩)
         simp only [zeb] at hm
         omega
       have go : ∀ (k off : Nat), off + k ≤ len → ∃ es vs, es.length = k ∧ RepEs (Env.imm w NoY) (P.cellsOf e) es vs ∧ flatEs es = true ∧ za2 es = true ∧ (∀ x ∈ es, Ty P m e x) ∧ zec es ≤ zcz ((List.range' off k).map D) ∧ vs.length = k * P.cellsOf e ∧
           ∀ j v, vs[j]? = some v → w.cell? (a.add (off * P.cellsOf e + j)) = some v := by
         intro k
         induction k with
         | zero => intro off _; exact ⟨[], [], rfl, by simp [RepEs], rfl, rfl, by simp, by simp [zec], by simp, by simp⟩
         | succ k ih =>
           intro off hle
           obtain ⟨cs', hc, htr⟩ := hel off (by omega)
           obtain ⟨as, r1, r2, r3, r4, r5⟩ := zpl hL m e n cs' (D off, Pl off) (hDm off (by omega)) hre htr
           obtain ⟨es, vs, k1, k2, k3, k4, k5, k6, k7, k8⟩ := ih (off + 1) (by omega)
           obtain ⟨c1, c2⟩ := zvv hc
           have hal := r1.length
           refine ⟨as :: es, cs' ++ vs, by simp [k1], ?_, by simp [flatEs, r2, k3], by simp [za2, r3, k4], ?_, ?_, ?_, ?_⟩
           · simp only [RepEs]
             exact ⟨cs', vs, rfl, by omega, r1, k2⟩
           · intro x hx
             rcases List.mem_cons.1 hx with rfl | hx
             · exact r4
             · exact k5 x hx
           · simp only [zec, List.range'_succ, List.map_cons, zcz]
             simp only at r5
             omega
           · simp only [List.length_append, c1, k7, Nat.succ_mul]; omega
           · intro j v hj
             by_cases hlt : j < cs'.length
             · rw [List.getElem?_append_left hlt] at hj
               have := c2 j v hj
               rwa [Deep.add_add] at this
             · rw [List.getElem?_append_right (by omega)] at hj
               have := k8 _ v hj
               rw [show (off + 1) * P.cellsOf e + (j - cs'.length) = off * P.cellsOf e + j by rw [Nat.succ_mul]; omega] at this
               exact this
       obtain ⟨es, vs, k1, k2, k3, k4, k5, k6, k7, k8⟩ := go len 0 (by omega)
       have hsp : es ≠ [] → ∃ b off, a = ⟨b, off, none⟩ := by
         intro hne
         have hl0 : 0 < len := by rw [← k1]; exact List.length_pos_iff.2 hne
         have hv0 : 0 < vs.length := by rw [k7]; exact Nat.mul_pos hl0 h0
         have h1 := k8 0 vs[0] (List.getElem?_eq_getElem hv0)
         have ha0 : a.add 0 = a := by simp [Addr.add]
         simp only [Nat.zero_mul, Nat.zero_add, ha0] at h1
         obtain ⟨b, off, sp⟩ := a
         cases sp with
         | none => exact ⟨b, off, rfl⟩
         | some q =>
           exfalso
           unfold World.cell? at h1
           split at h1 <;> simp at h1
       refine ⟨[.sl .open_ (P.cellsOf e) es], ?_, rfl, rfl, ?_, ?_⟩
       · simp only [Reps, Rep]
         refine ⟨_, [], rfl, ⟨some a, cap, by rw [k1], by omega, by simp, by simp, by simp, k3, k4, fun hne => ?_⟩, rfl⟩
         obtain ⟨b, off, rfl⟩ := hsp hne
         refine ⟨b, off, vs, rfl, fun j v hj => ⟨?_, by simp [Env.X, Env.imm]⟩, k2⟩
         have := k8 j v hj
         rwa [zb5, Nat.zero_mul, Nat.zero_add] at this
       · unfold Ty
         rw [hu]
         exact .inr ⟨es, rfl, k5⟩
       · simp only [zb1, zjf, zeb]
         rw [← List.range_eq_range'] at k6
         omega
   · rename_i fs hu
     simp only [Bool.and_eq_true, beq_iff_eq, List.all_eq_true] at h
     obtain ⟨⟨htl, hwd⟩, hrf⟩ := h
     obtain ⟨xs, n, rfl, rfl, hlc, hxl, hxs⟩ := DataW.trod_struct hu ht
     have go : ∀ (l : List Field) (ys : List (DataW H × List MemPlace)) (off : Nat), tiled P off l = true → (∀ f ∈ l, L.contains f.type = true) → (∀ y ∈ ys, zeb y.1 < m) → off + wide P l = cs.length → l.length = ys.length →
         (∀ (i : Nat) (f : Field), l[i]? = some f → DataW.trod enc P w base spare held n f.type ((cs.drop f.offset).take (P.cellsOf f.type)) = ys[i]?) →
         ∃ as, Reps (Env.imm w NoY) as (cs.drop off) ∧ flats as = true ∧ ones as = true ∧ (∀ f ∈ l, off ≤ f.offset ∧ Ty P m f.type ((as.drop (f.offset - off)).take (P.cellsOf f.type))) ∧ zb1 as ≤ zcz (ys.map (·.1)) := by
       intro l
       induction l with
       | nil =>
         intro ys off _ _ _ hw _ _
         have hd : cs.drop off = [] := List.drop_of_length_le (by simp only [wide] at hw; omega)
         exact ⟨[], by rw [hd]; simp [Reps], rfl, rfl, by simp, by simp [zb1]⟩
       | cons f l ih =>
         intro ys off htl hrf hbm hw hly hys
         simp only [tiled, Bool.and_eq_true, beq_iff_eq] at htl
         obtain ⟨hfo, htl⟩ := htl
         cases ys with
         | nil => simp at hly
         | cons y ys =>
           have hy := hys 0 f rfl
           simp only [List.getElem?_cons_zero] at hy
           simp only [wide] at hw
           obtain ⟨as1, r1, r2, r3, r4, r5⟩ := zpl hL m f.type n _ y (hbm y (by simp)) (hrf f (by simp)) hy
           obtain ⟨as2, q1, q2, q3, q4, q5⟩ := ih ys (off + P.cellsOf f.type) htl (fun f hf => hrf f (by simp [hf])) (fun y hy => hbm y (by simp [hy])) (by omega) (by simpa using hly) (fun i g hg => by simpa using hys (i + 1) g (by simpa using hg))
           have hl1 : as1.length = P.cellsOf f.type := by
             have := r1.length
             rw [List.length_take, List.length_drop] at this
             omega
           refine ⟨as1 ++ as2, ?_, by rw [zi4, r2, q2]; rfl, by rw [zkb, r3, q3]; rfl, ?_, ?_⟩
           · have := r1.append q1
             rw [hfo, ← List.drop_drop, List.take_append_drop] at this
             exact this
           · intro g hg
             rcases List.mem_cons.1 hg with rfl | hg
             · refine ⟨by omega, ?_⟩
               rw [hfo, Nat.sub_self, List.drop_zero, ← hl1, List.take_left]
               exact r4
             · obtain ⟨p1, p2⟩ := q4 g hg
               refine ⟨by omega, ?_⟩
               rw [show g.offset - off = as1.length + (g.offset - (off + P.cellsOf f.type)) by omega, ← List.drop_drop, List.drop_left]
               exact p2
           · rw [zh1]
             simp only [List.map_cons, zcz]
             omega
     obtain ⟨as, q1, q2, q3, q4, q5⟩ := go fs.toList xs 0 htl hrf (fun y hy => by
       have := zia (d := y.1) (l := xs.map (·.1)) (List.mem_map.2 ⟨y, hy, rfl⟩)
       simp only [zeb] at hm
       omega) (by rw [hwd, hlc]; omega) (by simpa using hxl.symm) (fun i f hf => hxs i f (by simpa using hf))
     refine ⟨as, by simpa using q1, q2, q3, ?_, by simp only [zeb]; omega⟩
     unfold Ty
     rw [hu]
     refine ⟨?_, fun f hf => by simpa using (q4 f hf).2⟩
     have := q1.length
     simp at this
     omega
   · cases h
def zla (P : Program) (t : TypeId) (as : List AV) : AV := match P.underlying t with
 | some (.struct _) => .agg as
 | _ => as.headD .junk
theorem z0m {L : List TypeId} {t : TypeId} {v : Value} {W : World} {b0 : Nat} (hr : ztt P L t = true) (hv : Value.okWide P W .any b0 t v) {as : List AV} {E : Env} (h : Reps E as v.cells.toList) (ho : ones as = true) (hf : flats as = true) : Rep E (zla P t as) v ∧ flat (zla P t as) = true := by
 have one : v.cells = #[v] → (∀ fs, P.underlying t ≠ some (.struct fs)) → Rep E (zla P t as) v ∧ flat (zla P t as) = true := by
   intro hc hns
   rw [hc] at h
   cases as with
   | nil => simp [Reps] at h
   | cons a r =>
     simp only [Reps] at h
     obtain ⟨u, us, he, h1, h2⟩ := h
     injection he with he1 he2
     subst he1
     have ha : zla P t (a :: r) = a := by
       unfold zla
       split
       · rename_i fs hu; exact absurd hu (hns fs)
       · rfl
     rw [ha]
     simp only [flats, Bool.and_eq_true] at hf
     exact ⟨h1, hf.1⟩
 unfold ztt at hr
 unfold Value.okWide at hv
 split at hr
 · rename_i hu
   rw [hu] at hv
   refine one ?_ (by rw [hu]; simp)
   cases v with
   | agg cs => exfalso; simp only [Cell.okWide, hu, Cell.ok] at hv
   | _ => rfl
 · rename_i k hu
   rw [hu] at hv
   refine one ?_ (by rw [hu]; simp)
   cases v with
   | agg cs => exfalso; simp only [Cell.okWide, hu, Cell.ok] at hv
   | _ => rfl
 · rename_i hu
   rw [hu] at hv
   refine one ?_ (by rw [hu]; simp)
   cases v with
   | agg cs => exfalso; simp only [Cell.okWide, hu, Cell.ok] at hv
   | _ => rfl
 · rename_i e hu
   rw [hu] at hv
   refine one ?_ (by rw [hu]; simp)
   cases v with
   | agg cs => exfalso; simp only [Cell.okWide, hu, Cell.ok] at hv
   | _ => rfl
 · rename_i fs hu
   rw [hu] at hv
   obtain ⟨cs, rfl, _⟩ := hv
   unfold zla
   rw [hu]
   simp only [Rep, flat]
   exact ⟨⟨cs, rfl, ho, h⟩, hf⟩
 · cases hr
end
section
variable {P : Program} {m : Nat} {t : TypeId} {cs : List AV}
theorem Ty.int {k : IntKind} (h : Ty P m t cs) (hu : P.underlying t = some (.int k)) : ∃ x, cs = [.i k x] ∧ (Lit.int k x).wf = true := by
 cases m with
 | zero => exact h.elim
 | succ m => unfold Ty at h; rw [hu] at h; exact h
theorem Ty.str (h : Ty P m t cs) (hu : P.underlying t = some .string) : ∃ l, cs = [.str l] := by
 cases m with
 | zero => exact h.elim
 | succ m => unfold Ty at h; rw [hu] at h; exact h
def OkS {α : Type} (k : SK) (z n : Nat) (l : List α) : Prop := (z = n ∨ l = []) ∧ (k = .nil → l = [])
theorem OkS.open_ {α : Type} (n : Nat) (l : List α) : OkS .open_ n n l := ⟨.inl rfl, by simp⟩
theorem Ty.struct {fs : Array Field} (h : Ty P m t cs) (hu : P.underlying t = some (.struct fs)) : cs.length = P.cellsOf t ∧ ∃ n, m = n + 1 ∧ ∀ f ∈ fs.toList, Ty P n f.type ((cs.drop f.offset).take (P.cellsOf f.type)) := by
 cases m with
 | zero => exact h.elim
 | succ m => unfold Ty at h; rw [hu] at h; exact ⟨h.1, m, rfl, h.2⟩
end
end Go.Abs
end
section
set_option linter.unusedSimpArgs false
set_option linter.unusedVariables false
namespace Go.Abs
open Go.ChangeShapes
section
variable {H : Type} {enc : TypeId × Value → H} {P : Program}
theorem zu6 {f : Func} {s : ChangeSpec} {apart fresh handsOn again : Bool} {W W' : World} {args : Array Value} {v : Value} {ds gs : List (DataW H)} {before pa pv : List MemPlace}
   (hW : DataW.Whole enc P f.params.toList s.vars apart W args.toList ds gs before)
   (hres : ∀ (b : Nat) (sp : Nat → Bool) (hd : Bool), DataW.TrodAll enc P W' b sp hd f.resultTypes.toList (v.resultList f.resultTypes.size) (s.fn H (ds ++ gs)).results [])
   (hargs : ∀ sp : Nat → Bool, (∀ p ∈ before, sp p.block = true) → DataW.TrodAll enc P W' 0 sp true f.params.toList args.toList (s.fn H (ds ++ gs)).args pa)
   (hvars : ∀ sp : Nat → Bool, (∀ p ∈ before, sp p.block = true) → DataW.TrodVars enc P W' sp s.vars (s.fn H (ds ++ gs)).vars pv)
   (hps : before = pa ++ pv) (hk : W.keptBut W' (· ∈ before)) (hfz : ∀ b off, b < W.heap.size → W'.frozen? ⟨b, off, none⟩ = W.frozen? ⟨b, off, none⟩)
   (hok : ∀ (j : Nat) (t : TypeId) (r : Value), f.resultTypes[j]? = some t → (v.resultList f.resultTypes.size)[j]? = some r → Value.okWide P W' .any 0 t r) :
   s.post enc P f apart fresh handsOn again W args v W' := by
 have hlt := fun p hp => hW.lt p hp
 have hold : ∀ p ∈ before, (fun b => decide (b < W.heap.size)) p.block = true := fun p hp => by simpa using hlt p hp
 refine ⟨ds, gs, before, [], pa, pv, hW, hres _ _ _, hargs _ hold, hvars _ hold, World.keptBut_mono (fun p hp => ⟨hp, ?_⟩) hk, fun _ => ?_⟩
 · rw [hps, List.mem_append] at hp
   exact Or.inr hp
 · obtain ⟨_, _, _, _, _, hz, hn⟩ := hW
   refine ⟨hok, _, _, ([] ++ pa) ++ pv, ⟨[] ++ pa, pv, trodAll_append (hargs _ (fun _ _ => rfl)) (hres _ _ _), hvars _ (fun _ _ => rfl), rfl, ?_, ?_⟩, ?_⟩
   · intro b off hp
     have hm : MemPlace.cell b off ∈ before := by rw [hps]; simpa using hp
     rw [hfz b off (hlt _ hm)]
     exact hz b off hm
   · intro ha
     have := hn ha
     rw [hps] at this
     simpa using this
   · intro p hp _
     rw [hps]
     simpa using hp
theorem zy5 {W W' : World} (hos : W'.os = W.os) (hout : W'.output = W.output) (hh : ∀ i, i < W.heap.size → W'.heap[i]? = W.heap[i]?) (may : MemPlace → Prop) : W.keptBut W' may := by
 refine ⟨hos, hout, fun i hi => ?_⟩
 rw [hh i hi]
 cases h : W.heap[i]? with
 | none => rfl
 | some o => cases o <;> simp
theorem zv2 {W W' : World} (hh : ∀ i, i < W.heap.size → W'.heap[i]? = W.heap[i]?) {a : Addr} (h : a.block < W.heap.size) : W'.cell? a = W.cell? a := by
 unfold World.cell?
 rw [hh _ h]
theorem zsh {W W' : World} (hh : ∀ i, i < W.heap.size → W'.heap[i]? = W.heap[i]?) {a : Addr} (h : a.block < W.heap.size) : W'.frozen? a = W.frozen? a := by
 unfold World.frozen?
 rw [hh _ h]
theorem zxn {W W' : World} (hh : ∀ i, i < W.heap.size → W'.heap[i]? = W.heap[i]?) {p : MemPlace} (h : p.block < W.heap.size) : W.sameAt W' p := by
 cases p with
 | cell b off => exact zv2 hh (a := ⟨b, off, none⟩) h
 | map b => exact hh b h
theorem zhi (hl : laidOutB P = true) {W W' : World} {sp : Nat → Bool} : ∀ (ts : List TypeId) (vs : List Value) (ds : List (DataW H)) (ps : List MemPlace), (∀ t ∈ ts, P.readableRec t = true ∧ t < P.types.size) →
   DataW.TrodAll enc P W 0 (fun _ => true) true ts vs ds ps → (∀ p ∈ ps, W.sameAt W' p) → (∀ p ∈ ps, sp p.block = true) → DataW.TrodAll enc P W' 0 sp true ts vs ds ps
 | [], vs, ds, ps, _, h, _, _ => by
   obtain ⟨rfl, rfl, rfl⟩ := trodAll_nil h
   exact trodAll_mk0
 | t :: ts, vs, ds, ps, ht, h, hs, hsp => by
   obtain ⟨v, vs', d, ds', p, q, rfl, rfl, rfl, h1, h2⟩ := trodAll_cons h
   obtain ⟨t1, t2⟩ := ht t (by simp)
   exact ⟨p, q, WideElems.Trod_stays hl t1 t2 h1 (fun x hx => hs x (by simp [hx])) (fun x hx => hsp x (by simp [hx])),
     zhi hl ts vs' ds' q (fun t h => ht t (by simp [h])) h2 (fun x hx => hs x (by simp [hx])) (fun x hx => hsp x (by simp [hx])), rfl⟩
theorem trodAll_length {W : World} {b : Nat} {sp : Nat → Bool} {hd : Bool} : ∀ (ts : List TypeId) (vs : List Value) (ds : List (DataW H)) (ps : List MemPlace), DataW.TrodAll enc P W b sp hd ts vs ds ps → ds.length = ts.length
 | [], vs, ds, ps, h => by
   obtain ⟨rfl, rfl, rfl⟩ := trodAll_nil h
   rfl
 | t :: ts, vs, ds, ps, h => by
   obtain ⟨v, vs', d, ds', p, q, rfl, rfl, rfl, h1, h2⟩ := trodAll_cons h
   simp [trodAll_length ts vs' ds' q h2]
def zgs (P : Program) : List TypeId → List (List AV) → List AV
 | t :: ts, as :: ass => zla P t as :: zgs P ts ass
 | _, _ => []
def zxb (P : Program) (m : Nat) : List TypeId → List (List AV) → Prop
 | [], [] => True
 | t :: ts, as :: ass => Ty P m t as ∧ zxb P m ts ass
 | _, _ => False
theorem zp3 {L : List TypeId} (hL : zsy P L = true) {w : World} {base b0 : Nat} {spare : Nat → Bool} {held : Bool} {m : Nat} : ∀ (ts : List TypeId) (vs : List Value) (ds : List (DataW H)) (ps : List MemPlace), zcz ds < m → (∀ t ∈ ts, L.contains t = true) →
   DataW.TrodAll enc P w base spare held ts vs ds ps → (∀ (j : Nat) t v, ts[j]? = some t → vs[j]? = some v → Value.okWide P w .any b0 t v) →
   ∃ ass, zxb P m ts ass ∧ zec ass ≤ zcz ds ∧ flats (zgs P ts ass) = true ∧ Reps (Env.imm w NoY) (zgs P ts ass) vs
 | [], vs, ds, ps, _, _, h, _ => by
   obtain ⟨rfl, rfl, rfl⟩ := trodAll_nil h
   exact ⟨[], trivial, by simp [zec], rfl, by simp [zgs, Reps]⟩
 | t :: ts, vs, ds, ps, hm, ht, h, hv => by
   obtain ⟨v, vs', d, ds', p, q, rfl, rfl, rfl, h1, h2⟩ := trodAll_cons h
   obtain ⟨n, h1⟩ := h1
   simp only [zcz] at hm
   obtain ⟨as, r1, r2, r3, r4, r5⟩ := zpl hL m t n _ _ (by simp only; omega) (ht t (by simp)) h1
   obtain ⟨a1, a2⟩ := z0m (zut hL (ht t (by simp))) (hv 0 t v rfl rfl) r1 r3 r2
   obtain ⟨ass, k1, k2, k3, k4⟩ := zp3 (m := m) hL ts vs' ds' q (by omega) (fun t h => ht t (by simp [h])) h2 (fun j t v e1 e2 => hv (j + 1) t v (by simpa using e1) (by simpa using e2))
   refine ⟨as :: ass, ⟨r4, k1⟩, ?_, ?_, ?_⟩
   · simp only [zec, zcz]; simp only at r5; omega
   · simp only [zgs, flats, a2, k3, Bool.and_self]
   · simp only [zgs, Reps]
     exact ⟨v, vs', rfl, a1, k4⟩
theorem zgx (a : Array Value) : a.toList.toArray = a := by simp
theorem zn8 {S : Sys} (hS : SysOk P S) {T : List TypeId} (hL : zsy P T = true) {L : Nat} (hprim : S.prim L = none) (hpm : (S.spec L).pm = []) {f : Func} {tb : Nat} (hl : laidOutB P = true) (htb : P.underlying tb = some .bool) (hrt : f.resultTypes = #[tb])
   (hpar : f.params.toList.all (fun t => T.contains t && (P.readableRec t && decide (t < P.types.size))) = true)
   {s : ChangeSpec} (hvars : s.vars = []) (hfr : ∀ ds : List (DataW H), ds.length = f.params.toList.length → (s.fn H (ds ++ [])).results = [.lit (.bool true)]) (hfa : ∀ ds : List (DataW H), ds.length = f.params.toList.length → (s.fn H (ds ++ [])).args = ds) (hfv : ∀ ds : List (DataW H), ds.length = f.params.toList.length → (s.fn H (ds ++ [])).vars = [])
   {B : Nat} (hans : ∀ m ass, zxb P m f.params.toList ass → zec ass ≤ B → acall S L (zgs P f.params.toList ass) = some (.b true, []))
   {apart fresh handsOn again : Bool} {W : World} {base : Nat} {args : Array Value} {ds gs : List (DataW H)} {before : List MemPlace}
   (hval : ∀ (j : Nat) t v, f.params[j]? = some t → args[j]? = some v → Value.okWide P W .any base t v)
   (hW : DataW.Whole enc P f.params.toList s.vars apart W args.toList ds gs before) (hk : zcz ds ≤ B) (hit : (S.spec L).it = false := by rfl) (hreal : real L = L := by rfl) :
   Calls P L args W fun e W' => ∃ v, e = .returned v ∧ s.post enc P f apart fresh handsOn again W args v W' := by
 have hpar' : ∀ t ∈ f.params.toList, T.contains t = true ∧ P.readableRec t = true ∧ t < P.types.size := by
   intro t ht
   have := List.all_eq_true.1 hpar t ht
   simpa only [Bool.and_eq_true, decide_eq_true_eq] using this
 have hW0 := hW
 obtain ⟨p, q, hA, hV, rfl, hfz, hnd⟩ := hW0
 rw [hvars] at hV
 obtain ⟨rfl, rfl⟩ := trodVars_none hV
 have hlt : ∀ x ∈ p ++ [], x.block < W.heap.size := fun x hx => hW.lt x hx
 obtain ⟨ass, h1, h2, h3, h4⟩ := zp3 (b0 := base) (m := B + 1) hL f.params.toList args.toList ds p (by omega) (fun t ht => (hpar' t ht).1) hA (fun j t v e1 e2 => hval j t v (by simpa using e1) (by simpa using e2))
 have hdl := trodAll_length f.params.toList args.toList ds p hA
 have hm := zsf hS hit hprim (hans _ ass h1 (Nat.le_trans h2 hk))
 rw [hreal] at hm
 rw [hpm] at hm
 have hZ : ∀ i, ¬ Zp NoY [] i := by intro i h; rcases h with h | h; exact h; simp at h
 have hr : RepPs W (Zp NoY []) (zgs P f.params.toList ass) args.toList [] :=
   RepPs.of_flat _ _ h3 (Reps.flat (E := Env.imm W NoY) (E' := Env.imm W (Zp NoY [])) rfl (fun i hx => absurd ((Env.imm_X W (Zp NoY []) i).1 hx) (hZ i)) _ _ h3 h4)
 have hc := hm.2 W NoY args.toList [] (fun i h => h.elim) hr (by simp) (by simp)
 rw [zgx] at hc
 refine hc.mono fun e W' h => ?_
 cases e with
 | returned v =>
   obtain ⟨F', hb⟩ := h
   have hrep := hb.rep
   simp only [RepPs, RepP, Rep] at hrep
   obtain ⟨v', vs', F1, F2, e1, -, ⟨-, e2⟩, -⟩ := hrep
   injection e1 with e1 e1'
   subst e1
   subst e2
   have hh : ∀ i, i < W.heap.size → W'.heap[i]? = W.heap[i]? := fun i hi => hb.frame i hi (by simp)
   refine ⟨_, rfl, zu6 (pa := p) (pv := []) hW ?_ ?_ ?_ rfl (zy5 hb.os hb.output hh _) (fun b off hb => zsh hh hb) ?_⟩
   · intro b sp hd
     rw [hfr _ hdl, hrt]
     exact ⟨[], [], RowKit.shut_bool htb true, trodAll_mk0, rfl⟩
   · intro sp hsp
     rw [hfa _ hdl]
     exact zhi hl _ _ _ _ (fun t ht => (hpar' t ht).2) hA (fun x hx => zxn hh (hlt x (by simpa using hx))) (fun x hx => hsp x (by simpa using hx))
   · intro sp hsp
     rw [hfv _ hdl, hvars]
     rfl
   · exact RowKit.ok_one hrt rfl (RowKit.okWide_bool_mk htb true)
 | _ => exact h.elim
end
end Go.Abs
end
section
set_option linter.unusedSimpArgs false
set_option linter.unusedVariables false
namespace Go.Abs
def zt2 {α : Type} : List (Nat × α) → Nat → Option α
 | [], _ => none
 | p :: r, n => if n = p.1 then some p.2 else zt2 r n
def z5n {α : Type} (d : α) : List (Nat × α) → Nat → α
 | [], _ => d
 | p :: r, n => if n = p.1 then p.2 else z5n d r n
def AllL {α : Type} (Q : Nat → α → Prop) : List (Nat × α) → Prop
 | [] => True
 | p :: r => Q p.1 p.2 ∧ AllL Q r
theorem zkc {α : Type} {Q : Nat → α → Prop} : ∀ (l : List (Nat × α)), AllL Q l → ∀ n a, zt2 l n = some a → Q n a
 | [], _, n, a, h => by cases h
 | p :: r, hq, n, a, h => by
   simp only [zt2] at h
   split at h
   · rename_i e
     injection h with h
     subst h
     rw [e]
     exact hq.1
   · exact zkc r hq.2 n a h
def zx4 : AV → Option (List UInt8)
 | .sl _ sz es => ask (sz = 1 ∨ es = []) (u8s es)
 | _ => none
def z04 : List AV → Option (AV × List AV)
 | [a, b] => bnd (zx4 a) fun x => bnd (zx4 b) fun y => some (.i .i64 (Lib.compareBytes x y), [])
 | _ => none
end Go.Abs
end
section
namespace Go.Abs
attribute [go_sem] zai zmv zbu zbk zd3
attribute [go_sem] List.headD_cons List.headD_nil List.tail_cons List.tail_nil List.cons_append List.nil_append List.append_nil List.append_assoc Option.getD_some Option.getD_none Option.isSome_some Option.isSome_none Option.isNone_some Option.isNone_none List.length_cons List.length_nil List.length_append List.take_succ_cons List.take_zero List.take_nil List.drop_succ_cons List.drop_zero List.drop_nil List.head?_cons List.getElem?_cons_zero List.getElem?_cons_succ List.set_cons_zero List.set_cons_succ List.isEmpty_nil List.isEmpty_cons List.map_cons List.map_nil List.replicate_succ List.replicate_zero List.all_cons List.all_nil List.contains_cons List.contains_nil List.take_length List.drop_length List.length_map List.map_append and_true true_and and_self and_false false_and or_true true_or or_false false_or not_true_eq_false not_false_eq_true ne_eq eq_self decide_true decide_false decide_eq_true_eq decide_eq_false_iff_not Bool.not_true Bool.not_false Bool.true_and Bool.and_true Bool.false_and Bool.and_false Bool.or_true Bool.true_or Bool.or_false Bool.false_or Bool.not_not beq_self_eq_true bne_self_eq_false beq_true beq_false beq_iff_eq bne_iff_ne Option.some.injEq Prod.mk.injEq true_implies false_implies implies_true forall_const forall_eq' Nat.add_zero Nat.zero_add Nat.zero_le Nat.le_refl Nat.sub_zero Nat.sub_self Int.toNat_natCast Int.natCast_nonneg Nat.le_add_right Bool.true_eq_false Bool.false_eq_true if_true if_false ite_true ite_false ite_self imp_self Bool.not_eq_true Bool.not_eq_false Bool.and_eq_true Bool.or_eq_true Bool.not_eq_eq_eq_not Bool.and_eq_false_imp Nat.mul_zero Nat.zero_mul Nat.one_mul Nat.mul_one Option.map_some Option.map_none List.mem_cons List.not_mem_nil
variable (cx : Cx) (s : Sl) (hp : Hp)
@[go_sem] theorem z6y (st : St) : zf9 cx [] st = some st := rfl
@[go_sem] theorem z2b (o : AIns) (r : List AIns) : zf9 cx (o :: r) ⟨s, hp⟩ = bnd (zhb cx o ⟨s, hp⟩) fun x => zf9 cx r x := rfl
@[go_sem] theorem z1p (d : Option Nat) (op : AOp) : zhb cx ⟨d, op, none⟩ ⟨s, hp⟩ = bnd (aop cx op (700000 + d.getD 0) s hp) fun fx => some ⟨put s d fx.val, fx.hp⟩ := rfl
@[go_sem] theorem z1t (d : Option Nat) (op : AOp) (t : Nat) (w : Bool) : zhb cx ⟨d, op, some (t, w)⟩ ⟨s, hp⟩ = bnd (zfo w (get s t)) fun w => way w
   (bnd (aop cx op (700000 + d.getD 0) s hp) fun fx => some ⟨put s d fx.val, fx.hp⟩) (some ⟨put s d undef, hp⟩) := rfl
@[go_sem] theorem zvm (f : St → Res) (st : St) : andThen f (.normal, st) = f st := rfl
@[go_sem] theorem zx8 (f : St → Res) (id : Nat) (st : St) : andThen f (.exit id, st) = some (.exit id, st) := rfl
@[go_sem] theorem zz3 (f : St → Res) (st : St) : andThen f (.ret, st) = some (.ret, st) := rfl
@[go_sem] theorem zx9 (id : Nat) (st : St) : outOf id (.normal, st) = some (.normal, st) := rfl
@[go_sem] theorem z2a (id id' : Nat) (st : St) : outOf id (.exit id', st) = if id' = id then some (.normal, st) else some (.exit id', st) := rfl
@[go_sem] theorem z5l (id : Nat) (st : St) : outOf id (.ret, st) = some (.ret, st) := rfl
@[go_sem] theorem condV_b (x y : Res) (c : Bool) : zib x y (.b c) = way c x y := rfl
@[go_sem] theorem zvt (st : St) : zc1 (.normal, st) = some st := rfl
@[go_sem] theorem z1c (st : St) : zc1 (.ret, st) = some st := rfl
@[go_sem] theorem zo5 (f) (keep) : goOn f keep (.normal, ⟨s, hp⟩) = bnd (zcp keep s hp) f := rfl
@[go_sem] theorem z6v (f) (keep) (id : Nat) (st : St) : goOn f keep (.exit id, st) = some (.exit id, st) := rfl
@[go_sem] theorem goOn_ret (f) (keep) (st : St) : goOn f keep (.ret, st) = some (.ret, st) := rfl
@[go_sem] theorem areg_nil (st : St) : areg cx [] st = some st := rfl
@[go_sem] theorem z44 (o : AIns) (r : List AIns) : areg cx (o :: r) ⟨s, hp⟩ = bnd (ains cx o ⟨s, hp⟩) fun x => areg cx r x.1 := rfl
@[go_sem] theorem z4e (l) (st : St) : adraw cx [] l st = some (st, l) := rfl
@[go_sem] theorem z3b (o : AIns) (r : List AIns) (l) : adraw cx (o :: r) l ⟨s, hp⟩ = ask (calm o.op = true) (bnd (ains cx o ⟨s, hp⟩) fun x => adraw cx r (l ++ [x.2]) x.1) := rfl
@[go_sem] theorem z2e (d : Option Nat) (op : AOp) : ains cx ⟨d, op, none⟩ ⟨s, hp⟩ = bnd (aop cx op (d.getD 0) s hp) fun fx => some (⟨put s d fx.val, fx.hp⟩, fx.rd, fx.wr) := rfl
@[go_sem] theorem z19 (d : Option Nat) (op : AOp) (t : Nat) (w : Bool) : ains cx ⟨d, op, some (t, w)⟩ ⟨s, hp⟩ = bnd (zfo w (get s t)) fun w => way w
   (bnd (aop cx op (d.getD 0) s hp) fun fx => some (⟨put s d fx.val, fx.hp⟩, fx.rd, fx.wr)) (some (⟨put s d undef, hp⟩, [], [])) := rfl
@[go_sem] theorem z52 (w x : Bool) : zfo w (.b x) = some (x == w) := rfl
@[go_sem] theorem zxm (w : Bool) : zfo w undef = some false := rfl
@[go_sem] theorem z05 (w : Bool) : zfo w (.tup []) = some false := rfl
@[go_sem] theorem put_some (d : Nat) (v : AV) : put s (some d) v = (d, v) :: s := rfl
@[go_sem] theorem put_none (v : AV) : put s none v = s := rfl
@[go_sem] theorem get_cons (k : Nat) (v : AV) (r : Sl) (t : Nat) : get ((k, v) :: r) t = if t = k then v else get r t := rfl
@[go_sem] theorem look_nil (t : Nat) : look [] t = none := rfl
@[go_sem] theorem z6j (k : Nat) (v : Blk) (r : Hp) (t : Nat) : look ((k, .live v) :: r) t = if t = k then some v else look r t := rfl
@[go_sem] theorem z5h (k n : Nat) (r : Hp) (t : Nat) : look ((k, .dead n) :: r) t = if t = k then none else look r t := rfl
@[go_sem] theorem zz4 (t : Nat) : zad [] t = 0 := rfl
@[go_sem] theorem zx5 (k : Nat) (v : Blk) (r : Hp) (t : Nat) : zad ((k, .live v) :: r) t = if t = k then v.ver + 1 else zad r t := rfl
@[go_sem] theorem zyy (k n : Nat) (r : Hp) (t : Nat) : zad ((k, .dead n) :: r) t = if t = k then n else zad r t := rfl
@[go_sem] theorem drop_eq (k : Nat) : drop hp k = (k, .dead (zad hp k)) :: hp := rfl
@[go_sem] theorem z4c : drops [] hp = hp := rfl
@[go_sem] theorem z2h (k : Nat) (r : List Nat) : drops (k :: r) hp = drops r (drop hp k) := rfl
@[go_sem] theorem ev_tmp (t : Nat) : ev s (.tmp t) = get s t := rfl
@[go_sem] theorem ev_con (v : AV) : ev s (.con v) = v := rfl
@[go_sem] theorem evs_nil : evs s [] = [] := rfl
@[go_sem] theorem evs_cons (x : Opd) (r : List Opd) : evs s (x :: r) = ev s x :: evs s r := rfl
@[go_sem] theorem evo_none : evo s none = none := rfl
@[go_sem] theorem evo_some (x : Opd) : evo s (some x) = some (ev s x) := rfl
@[go_sem] theorem keyOf_eq (t : Nat) : keyOf t = 64 * t := rfl
@[go_sem] theorem znk (k v : Nat) : zb2 hp k v = bnd (look hp k) fun b => ask (b.ver = v) (some b) := rfl
@[go_sem] theorem only_one (cs : List AV) : only [cs] = some cs := rfl
@[go_sem] theorem quiet_eq (v : AV) : quiet v hp = some ⟨v, hp, [], []⟩ := rfl
@[go_sem] theorem z3f : skOf true = .nil := rfl
@[go_sem] theorem za3 : skOf false = .open_ := rfl
section ops
variable (dst : Nat)
@[go_sem] theorem aop_mov (x) : aop cx (.mov x) dst s hp = some ⟨ev s x, hp, [], []⟩ := rfl
@[go_sem] theorem aop_pick (c a b) : aop cx (.pick c a b) dst s hp = bnd (zxf (ev s a) (ev s b) (ev s c)) fun v => some ⟨v, hp, [], []⟩ := rfl
@[go_sem] theorem aop_boxi (x) : aop cx (.boxi x) dst s hp = bnd (cells (ev s x)) fun cs => ask (flats cs = true) (quiet (.ip cs) hp) := rfl
@[go_sem] theorem aop_box (x) : aop cx (.box x) dst s hp = bnd (cells (ev s x)) fun cs => zhs (keyOf dst) cs hp := rfl
@[go_sem] theorem z4k (z) : aop cx (.alloc z) dst s hp = zhs (keyOf dst) z hp := rfl
@[go_sem] theorem z31 (z l) : aop cx (.build z l) dst s hp = bnd (zk8 s l z) fun cs => some ⟨.agg cs, hp, [], []⟩ := rfl
@[go_sem] theorem z1z (ty z n l) : aop cx (.bslice ty z n l) dst s hp = bnd (zf8 s z.length l (List.replicate n z) [] hp) fun x => newRow ty z.length (keyOf dst) x.1 x.2.2 x.2.1 := rfl
@[go_sem] theorem aop_load (g n a) : aop cx (.load g n a) dst s hp = zlf g n hp (ev s a) := rfl
@[go_sem] theorem z3l (n a x) : aop cx (.store n a x) dst s hp = zkn n (ev s x) hp (ev s a) := rfl
@[go_sem] theorem z5b (x) : aop cx (.nilck x) dst s hp = bnd (zkd (ev s x)) fun v => some ⟨v, hp, [], []⟩ := rfl
@[go_sem] theorem aop_bin (op x y) : aop cx (.bin op x y) dst s hp = bnd (zl7 op (ev s x) (ev s y)) fun v => some ⟨v, hp, [], []⟩ := rfl
@[go_sem] theorem z50 (k g x) : aop cx (.eqnil k g x) dst s hp = bnd (isNil hp k (ev s x)) fun r => some ⟨.b (r.1 != g), hp, r.2, []⟩ := rfl
@[go_sem] theorem aop_eqb (g x y) : aop cx (.eqb g x y) dst s hp = bnd (eqbV g (ev s x) (ev s y)) fun v => some ⟨v, hp, [], []⟩ := rfl
@[go_sem] theorem aop_un (op x) : aop cx (.un op x) dst s hp = bnd (unV op (ev s x)) fun v => some ⟨v, hp, [], []⟩ := rfl
@[go_sem] theorem aop_conv (c x) : aop cx (.conv c x) dst s hp = zjk hp c (ev s x) := rfl
@[go_sem] theorem aop_mkfn (f l) : aop cx (.mkfn f l) dst s hp = some ⟨.fn f (evs s l), hp, [], []⟩ := rfl
@[go_sem] theorem z5j (n x a b c) : aop cx (.slice n x a b c) dst s hp = bnd (cut n (evo s a) (evo s b) (evo s c) hp (ev s x)) fun r => some ⟨r.1, hp, r.2, []⟩ := rfl
@[go_sem] theorem z33 (n x) : aop cx (.faddr n x) dst s hp = bnd (zmi n (ev s x)) fun v => some ⟨v, hp, [], []⟩ := rfl
@[go_sem] theorem aop_fld (g a b x) : aop cx (.fld g a b x) dst s hp = fldV g a b hp (ev s x) := rfl
@[go_sem] theorem z4a (n x i) : aop cx (.iaddr n x i) dst s hp = ziz n hp (ev s x) (ev s i) := rfl
@[go_sem] theorem aop_idx (x i) : aop cx (.idx x i) dst s hp = bnd (idxV (ev s x) (ev s i)) fun v => some ⟨v, hp, [], []⟩ := rfl
@[go_sem] theorem aop_ext (x i) : aop cx (.ext x i) dst s hp = bnd (extV i (ev s x)) fun v => some ⟨v, hp, [], []⟩ := rfl
@[go_sem] theorem aop_call (f l) : aop cx (.call f l) dst s hp = zed cx f (evs s l) dst hp := rfl
@[go_sem] theorem z5c (x l) : aop cx (.callv x l) dst s hp = zn6 cx (evs s l) dst hp (ev s x) := rfl
@[go_sem] theorem aop_frz (x) : aop cx (.frz x) dst s hp = frzV hp (ev s x) := rfl
@[go_sem] theorem frzV_ms (k v off len) : frzV hp (.ms k v off len) = bnd (zb2 hp k v) fun b => ask (b.row = true ∧ b.dp = false ∧ off + len ≤ b.es.length ∧ b.es.length ≠ 0 ∧ (len ≠ 0 ∨ off = 0))
     (some { val := .sl (skOf b.nl) b.sz ((b.es.drop off).take len), hp := drop hp k, rd := [], wr := [k] }) := rfl
@[go_sem] theorem aop_len (t x) : aop cx (.len t x) dst s hp = bnd (lenV t (ev s x)) fun v => some ⟨v, hp, [], []⟩ := rfl
@[go_sem] theorem aop_app (ty n x y) : aop cx (.app ty n x y) dst s hp = bnd (content n hp (ev s y)) fun c => appRow ty n (keyOf dst) c.1 hp c.2 (ev s x) := rfl
@[go_sem] theorem z14 (ty x y) : aop cx (.appstr ty x y) dst s hp = bnd (strOf (ev s y)) fun l => appRow ty 1 (keyOf dst) (zg1 l) hp [] (ev s x) := rfl
@[go_sem] theorem aop_appz (ty z x n) : aop cx (.appz ty z x n) dst s hp = bnd (zlg (ev s n)) fun m => appRow ty z.length (keyOf dst) (List.replicate m z) hp [] (ev s x) := rfl
@[go_sem] theorem aop_copy (n x y) : aop cx (.copy n x y) dst s hp = bnd (content n hp (ev s y)) fun c => copyV n c.1 c.2 hp (ev s x) := rfl
@[go_sem] theorem zzs (ty z n) : aop cx (.mkslice ty z n) dst s hp = bnd (zlg (ev s n)) fun m => newRow ty z.length (keyOf dst) (List.replicate m z) hp [] := rfl
@[go_sem] theorem aop_mx (l) : aop cx (.mx l) dst s hp = bnd (ints (evs s l)) fun x => bnd (maxL x.2) fun n => some ⟨.i x.1 n, hp, [], []⟩ := rfl
@[go_sem] theorem aop_mn (l) : aop cx (.mn l) dst s hp = bnd (ints (evs s l)) fun x => bnd (minL x.2) fun n => some ⟨.i x.1 n, hp, [], []⟩ := rfl
@[go_sem] theorem z62 (z x) : aop cx (.clear z x) dst s hp = zk6 z hp (ev s x) := rfl
@[go_sem] theorem z37 : aop cx .mkmap dst s hp = zj7 (keyOf dst) hp := rfl
@[go_sem] theorem z5g (k : Nat) : zj7 k hp = some { val := .mr k (zad hp k), hp := (k, .live { ver := zad hp k, row := false, nl := false, ty := 0, sz := 2, es := [], mp := true }) :: hp, rd := [], wr := [k] } := rfl
@[go_sem] theorem aop_mget (kk z ok x k) : aop cx (.mget kk z ok x k) dst s hp = zpd kk z ok (ev s k) hp (ev s x) := rfl
@[go_sem] theorem aop_mput (kk x k v) : aop cx (.mput kk x k v) dst s hp = zpb kk (ev s k) (ev s v) hp (ev s x) := rfl
@[go_sem] theorem mgetV_mr (kk z ok k a v) : zpd kk z ok k hp (.mr a v) = bnd (zb2 hp a v) fun b => ask (b.row = false ∧ b.mp = true) (bnd (zka kk k b.es 0) fun r => some { val := zgv z ok r, hp, rd := [a], wr := [] }) := rfl
@[go_sem] theorem mputV_mr (kk k u a v) : zpb kk k u hp (.mr a v) = ask (flat k = true ∧ flat u = true) (bnd (zb2 hp a v) fun b => ask (b.row = false ∧ b.mp = true) (bnd (zka kk k b.es 0) fun r =>
     some { val := undef, hp := (a, .live { b with es := putM b.es k u r }) :: hp, rd := [], wr := [a] })) := rfl
@[go_sem] theorem z57 (kk k i) : zka kk k [] i = some none := rfl
@[go_sem] theorem z0g (z) : zgv z false none = z := rfl
@[go_sem] theorem zvs (z) : zgv z true none = .tup [z, .b false] := rfl
@[go_sem] theorem z1r (z i v) : zgv z false (some (i, v)) = v := rfl
@[go_sem] theorem zvk (z i v) : zgv z true (some (i, v)) = .tup [v, .b true] := rfl
@[go_sem] theorem z5d (m k v) : putM m k v none = m ++ [[k, v]] := rfl
@[go_sem] theorem z60 (m k v i u) : putM m k v (some (i, u)) = m.set i [k, v] := rfl
@[go_sem] theorem aop_fail : aop cx .fail dst s hp = none := rfl
@[go_sem] theorem z3j (f : Nat) (args : List AV) : zed cx f args dst hp = bnd (hand (cx.spec f).pm args hp) fun h => ask (zbx h.rd h.wr = true) (bnd (cx.call f h.args) fun r =>
   ask (sh r.1 = true) (bnd (back h.io r.2 (keyOf dst + 32) (if plain r.1 && h.io.isEmpty then h.hp else drops h.rd h.hp)) fun x => some (took h dst r.1 x.1 x.2))) := rfl
@[go_sem] theorem z10 (f : Nat) (args : List AV) : zd0 cx f args dst hp = bnd (hand (cx.spec f).pm args hp) fun h => ask (zbx h.rd h.wr = true) (bnd (cx.call f h.args) fun r =>
   bnd (back h.io r.2 (keyOf dst + 32) (if plain r.1 && h.io.isEmpty then h.hp else drops h.rd h.hp)) fun x => some (took h dst r.1 x.1 x.2)) := rfl
@[go_sem] theorem z4d (f l) : aop cx (.calld f l) dst s hp = if f < 2000000 then zd0 cx f (evs s l) dst hp else zeo cx (f - 2000000) (evs s l) dst hp := rfl
@[go_sem] theorem z25 (f : Nat) (args : List AV) : zeo cx f args dst hp = bnd (hand (cx.spec f).pm args hp) fun h => ask (zbx h.rd h.wr = true ∧ h.io.isEmpty = true) (bnd (cx.call f h.args) fun r => ask (r.2.isEmpty = true)
   (bnd (ask (flat r.1 = true) (wkn (keyOf dst) (zad h.hp (keyOf dst)) r.1)) fun v => some { val := v, hp := (keyOf dst, .dead (zad h.hp (keyOf dst) + 1)) :: h.hp, rd := h.rd, wr := h.wr ++ [keyOf dst] })) := rfl
attribute [go_sem] wkn wkTs wkT wkCs wkC
@[go_sem] theorem aop_inl (f l) : aop cx (.inl f l) dst s hp = bnd (cx.inl f (evs s l) hp) fun x => some { val := x.1, hp := x.2, rd := [], wr := [] } := rfl
@[go_sem] theorem z0n (ty z n l) : aop cx (.bsliced ty z n l) dst s hp = bnd (zk9 s z.length l (List.replicate n z)) fun es => zhe ty z.length (keyOf dst) es hp := rfl
@[go_sem] theorem aop_appd (ty n x y) : aop cx (.appd ty n x y) dst s hp = bnd (zfj n hp (ev s y)) fun c => zfk ty n c.1 hp c.2 (ev s x) := rfl
@[go_sem] theorem z2u (ty sz key : Nat) (es : List (List AV)) : zhe ty sz key es hp = some { val := .ms key (zad hp key) 0 es.length, hp := (key, .live { ver := zad hp key, row := true, nl := false, ty, sz, es, dp := true }) :: hp, rd := [], wr := [key] } := rfl
@[go_sem] theorem z1k (sz k v off len) : zfj sz hp (.ms k v off len) = bnd (zb2 hp k v) fun b => ask (b.row = true ∧ b.sz = sz ∧ off + len ≤ b.es.length) (some ((b.es.drop off).take len, [k])) := rfl
@[go_sem] theorem z17 (ty sz ys rd kx ver off len) : zfk ty sz ys hp rd (.ms kx ver off len) = bnd (zb2 hp kx ver) fun b => ask (b.row = true ∧ b.dp = true ∧ b.ty = ty ∧ b.sz = sz ∧ off = 0) (ze4 kx ver len b ys hp rd) := rfl
@[go_sem] theorem callV_fn (f : Nat) (caps args : List AV) : zn6 cx args dst hp (.fn f caps) = zed cx f (args ++ caps) dst hp := rfl
end ops
section values
@[go_sem] theorem z6h (cs) : cells (.agg cs) = some cs := rfl
@[go_sem] theorem cells_i (k n) : cells (.i k n) = some [.i k n] := rfl
@[go_sem] theorem cells_b (c) : cells (.b c) = some [.b c] := rfl
@[go_sem] theorem z55 (l) : cells (.str l) = some [.str l] := rfl
@[go_sem] theorem cells_sl (k n es) : cells (.sl k n es) = some [.sl k n es] := rfl
@[go_sem] theorem cells_ms (a b c d) : cells (.ms a b c d) = some [.ms a b c d] := rfl
@[go_sem] theorem cells_pt (a b c d) : cells (.pt a b c d) = some [.pt a b c d] := rfl
@[go_sem] theorem cells_ip (cs) : cells (.ip cs) = some [.ip cs] := rfl
@[go_sem] theorem cells_fn (f cs) : cells (.fn f cs) = some [.fn f cs] := rfl
@[go_sem] theorem cells_mr (a b) : cells (.mr a b) = some [.mr a b] := rfl
@[go_sem] theorem z2l : cells .nilp = some [.nilp] := rfl
@[go_sem] theorem z2d : cells .nilf = some [.nilf] := rfl
@[go_sem] theorem pickV_b (a b : AV) (c : Bool) : zxf a b (.b c) = way c (some a) (some b) := rfl
@[go_sem] theorem z4m (a b c d) : zkd (.pt a b c d) = some (.pt a b c d) := rfl
@[go_sem] theorem z3z (cs) : zkd (.ip cs) = some (.ip cs) := rfl
@[go_sem] theorem z40 (f cs) : zkd (.fn f cs) = some (.fn f cs) := rfl
@[go_sem] theorem unV_not (c) : unV .not (.b c) = some (.b !c) := rfl
@[go_sem] theorem unV_neg (k n) : unV .neg (.i k n) = some (.i k (k.wrap (0 - n))) := rfl
@[go_sem] theorem z4r (k k' n) : zjk hp (.int k) (.i k' n) = some ⟨.i k (k.wrap n), hp, [], []⟩ := rfl
@[go_sem] theorem convV_id (l) : zjk hp .id (.str l) = some ⟨.str l, hp, [], []⟩ := rfl
@[go_sem] theorem z6a (l) : zjk hp .s2b (.str l) = some ⟨.sl .open_ 1 (zg1 l), hp, [], []⟩ := rfl
@[go_sem] theorem zxz (k n es) : zjk hp .b2s (.sl k n es) = bnd (content 1 hp (.sl k n es)) fun x => bnd (u8s x.1) fun l => some ⟨.str l, hp, x.2, []⟩ := rfl
@[go_sem] theorem zyn (a b c d) : zjk hp .b2s (.ms a b c d) = bnd (content 1 hp (.ms a b c d)) fun x => bnd (u8s x.1) fun l => some ⟨.str l, hp, x.2, []⟩ := rfl
@[go_sem] theorem z3y (off k v e o) : zmi off (.pt k v e o) = some (.pt k v e (o + off)) := rfl
@[go_sem] theorem z3w (off cs) : zmi off (.ip cs) = some (.ip (cs.drop off)) := rfl
@[go_sem] theorem fldV_agg (g off n cs) : fldV g off n hp (.agg cs) = load1 g n (cs.drop off) hp [] := rfl
@[go_sem] theorem z3g (sz k sz' es k' n) : ziz sz hp (.sl k sz' es) (.i k' n) = ask (0 ≤ n ∧ (sz' = sz ∨ es = [])) (bnd (es[n.toNat]?) fun cs => some ⟨.ip cs, hp, [], []⟩) := rfl
@[go_sem] theorem z6g (sz k v off len k' n) : ziz sz hp (.ms k v off len) (.i k' n) = bnd (zb2 hp k v) fun b => ask (b.row = true ∧ b.sz = sz ∧ off + len ≤ b.es.length ∧ 0 ≤ n ∧ n < len) (some ⟨.pt k v (off + n.toNat) 0, hp, [k], []⟩) := rfl
@[go_sem] theorem idxV_str (l k n) : idxV (.str l) (.i k n) = ask (0 ≤ n) (bnd (l[n.toNat]?) fun c => some (.i .u8 c.toNat)) := rfl
@[go_sem] theorem extV_tup (i vs) : extV i (.tup vs) = vs[i]? := rfl
@[go_sem] theorem lenV_sl (k n es) : lenV false (.sl k n es) = some (.i .i64 es.length) := rfl
@[go_sem] theorem lenV_ms (a b c d) : lenV false (.ms a b c d) = some (.i .i64 d) := rfl
@[go_sem] theorem lenV_str (l) : lenV true (.str l) = some (.i .i64 l.length) := rfl
@[go_sem] theorem z5m (l) : strOf (.str l) = some l := rfl
@[go_sem] theorem cntOf_i (n) : zlg (.i .i64 n) = ask (0 ≤ n ∧ n.toNat ≤ LIM) (some n.toNat) := rfl
@[go_sem] theorem z2g (sz k sz' es) : content sz hp (.sl k sz' es) = ask (sz' = sz ∨ es = []) (some (es, [])) := rfl
@[go_sem] theorem z2w (sz k v off len) : content sz hp (.ms k v off len) = bnd (zb2 hp k v) fun b => ask (b.row = true ∧ b.dp = false ∧ b.sz = sz ∧ off + len ≤ b.es.length) (some ((b.es.drop off).take len, [k])) := rfl
@[go_sem] theorem isNil_sl (k n es) : isNil hp .sl (.sl k n es) = some (decide (k = .nil), []) := rfl
@[go_sem] theorem isNil_ms (k v off len) : isNil hp .sl (.ms k v off len) = bnd (zb2 hp k v) fun b => ask (b.row = true ∧ off = 0 ∧ len = b.es.length) (some (b.nl, [k])) := rfl
@[go_sem] theorem isNil_pt (a b c d) : isNil hp .pt (.pt a b c d) = some (false, []) := rfl
@[go_sem] theorem isNil_ip (cs) : isNil hp .pt (.ip cs) = some (false, []) := rfl
@[go_sem] theorem isNil_fn (f cs) : isNil hp .fn (.fn f cs) = some (false, []) := rfl
@[go_sem] theorem z2v : isNil hp .pt .nilp = some (true, []) := rfl
@[go_sem] theorem z15 : isNil hp .fn .nilf = some (true, []) := rfl
@[go_sem] theorem natOf_i (k n) : zv6 (.i k n) = ask (0 ≤ n) (some n.toNat) := rfl
@[go_sem] theorem z13 (d) : zd5 d none = some d := rfl
@[go_sem] theorem z26 (d v) : zd5 d (some v) = zv6 v := rfl
@[go_sem] theorem binVal_i (op k x k' y) : zl7 op (.i k x) (.i k' y) = way (zik op) (zhk op k x y) (ask (k = k') (zno op k x y)) := rfl
@[go_sem] theorem z18 (op x y) : zl7 op (.str x) (.str y) = zn1 op x y := rfl
@[go_sem] theorem eqbV_b (g x y) : eqbV g (.b x) (.b y) = some (.b ((x == y) != g)) := rfl
attribute [go_sem] zik zhk zno zn1
@[go_sem] theorem cut_str (sz lo hi mx l) : cut sz lo hi mx hp (.str l) = ask (mx.isNone = true ∧ sz = 0) (bnd (zd5 0 lo) fun a => bnd (zd5 l.length hi) fun h => ask (a ≤ h ∧ h ≤ l.length) (some (.str ((l.drop a).take (h - a)), []))) := rfl
@[go_sem] theorem cut_sl (sz lo hi mx k sz' es) : cut sz lo hi mx hp (.sl k sz' es) = ask ((sz' = sz ∨ es = []) ∧ 0 < sz ∧ (mx.isSome = true → hi.isSome = true)) (bnd (zd5 0 lo) fun l => bnd (zd5 es.length hi) fun h => bnd (zd5 es.length mx) fun m =>
     ask (l ≤ h ∧ h ≤ m ∧ m ≤ es.length)
       (some (.sl (if k = .nil then .nil else if (mx.isSome = true ∨ k = .full) ∧ h = m then .full else .open_) sz' ((es.drop l).take (h - l)), []))) := rfl
@[go_sem] theorem cut_ms (sz lo hi mx k v off len) : cut sz lo hi mx hp (.ms k v off len) = ask (mx.isNone = true ∧ 0 < sz) (bnd (zb2 hp k v) fun b => ask (b.row = true ∧ b.sz = sz ∧ off + len ≤ b.es.length)
     (bnd (zd5 0 lo) fun l => bnd (zd5 len hi) fun h => ask (l ≤ h ∧ h ≤ len) (some (.ms k v (off + l) (h - l), [k])))) := rfl
@[go_sem] theorem z6n (ty sz key ys rd k sz' es) : appRow ty sz key ys hp rd (.sl k sz' es) =
   way (ys.isEmpty && (decide (k = .open_) || !es.isEmpty)) (some { val := .sl k sz' es, hp, rd, wr := [] })
   (ask (k ≠ .open_ ∧ (sz' = sz ∨ es = []) ∧ es.length + ys.length ≤ LIM)
     (some { val := .ms key (zad hp key) 0 (es.length + ys.length), hp := (key, .live { ver := zad hp key, row := true, nl := decide (k = .nil) && ys.isEmpty, ty, sz, es := es ++ ys }) :: hp, rd, wr := [key] })) := rfl
@[go_sem] theorem z4g (ty sz key ys rd kx ver off len) : appRow ty sz key ys hp rd (.ms kx ver off len) = bnd (zb2 hp kx ver) fun b => ask (b.row = true ∧ b.dp = false ∧ b.ty = ty ∧ b.sz = sz ∧ off = 0) (ze4 kx ver len b ys hp rd) := rfl
attribute [go_sem] ze4 oneA ones za2
@[go_sem] theorem loadA_pt (g n k v e o) : zlf g n hp (.pt k v e o) = bnd (zb2 hp k v) fun b => ask (b.mp = false) (bnd (b.es[e]?) fun cs => load1 g n (cs.drop o) hp [k]) := rfl
@[go_sem] theorem loadA_ip (g n cs) : zlf g n hp (.ip cs) = load1 g n cs hp [] := rfl
@[go_sem] theorem z3v (n cs rd) : load1 true n cs hp rd = ask (n ≤ cs.length) (some ⟨.agg (cs.take n), hp, rd, []⟩) := rfl
@[go_sem] theorem z1x (n v r rd) : load1 false n (v :: r) hp rd = ask (n ≤ r.length + 1) (some ⟨v, hp, rd, []⟩) := rfl
@[go_sem] theorem z63 (n v k ver e o) : zkn n v hp (.pt k ver e o) = bnd (zb2 hp k ver) fun b => ask (b.mp = false) (way (b.row && !b.dp)
     (bnd (frz v hp) fun x => ask (k ∉ x.2.1) (store1 n k e o x.1 b x.2.2 x.2.1)) (store1 n k e o v b hp [])) := rfl
@[go_sem] theorem z5f (n k e o v b ks) : store1 n k e o v b hp ks = bnd (b.es[e]?) fun cs => bnd (cells v) fun xs => ask (xs.length = n ∧ o + n ≤ cs.length)
   (some { val := undef, hp := (k, .live { b with es := b.es.set e (splice cs o xs) }) :: hp, rd := [], wr := k :: ks }) := rfl
@[go_sem] theorem zz6 (l cs) : splice l 0 cs = cs ++ l.drop cs.length := by unfold splice; rfl
@[go_sem] theorem z06 (x r n cs) : splice (x :: r) (n + 1) cs = x :: splice r n cs := rfl
@[go_sem] theorem z4t (k cs) : zhs k cs hp = some { val := .pt k (zad hp k) 0 0, hp := (k, .live { ver := zad hp k, row := false, nl := false, ty := 0, sz := cs.length, es := [cs] }) :: hp, rd := [], wr := [k] } := rfl
@[go_sem] theorem z5t (ty sz k es ks) : newRow ty sz k es hp ks = some { val := .ms k (zad hp k) 0 es.length, hp := (k, .live { ver := zad hp k, row := true, nl := false, ty, sz, es }) :: hp, rd := [], wr := k :: ks } := rfl
@[go_sem] theorem copyV_ms (sz ys ks k v off len) : copyV sz ys ks hp (.ms k v off len) = bnd (zb2 hp k v) fun b => ask (b.row = true ∧ b.dp = false ∧ b.sz = sz ∧ off + len ≤ b.es.length)
     (some { val := .i .i64 (min ys.length len : Nat), hp := (k, .live { b with es := b.es.take off ++ (ys.take (min ys.length len) ++ b.es.drop (off + min ys.length len)) }) :: hp, rd := ks, wr := [k] }) := rfl
@[go_sem] theorem z3r (z k v off len) : zk6 z hp (.ms k v off len) = bnd (zb2 hp k v) fun b => ask (b.row = true ∧ b.dp = false ∧ b.sz = z.length ∧ off + len ≤ b.es.length)
     (some { val := undef, hp := (k, .live { b with es := b.es.take off ++ (List.replicate len z ++ b.es.drop (off + len)) }) :: hp, rd := [], wr := [k] }) := rfl
attribute [go_sem] subK sh shs calm zk8 zf8 zk9 frz flat flats flatEs plain plains span zci zm8 maxL minL H.kids
@[go_sem] theorem zwt (b : List Nat) : zbx [] b = true := rfl
@[go_sem] theorem zvl (k : Nat) (a b : List Nat) : zbx (k :: a) b = (!b.contains k && zbx a b) := rfl
end values
section packs
variable (n : Nat) (own : Bool) (h : H)
@[go_sem] theorem FUEL_eq : FUEL = 6 := rfl
@[go_sem] theorem z1i (f) : zbm f [] = some ([], []) := rfl
@[go_sem] theorem zy1 (f) (v : AV) (r) : zbm f (v :: r) = bnd (f v) fun x => bnd (zbm f r) fun y => some (x.1 :: y.1, x.2 ++ y.2) := rfl
@[go_sem] theorem snap_i (k x) : snap hp (n + 1) (.i k x) = some (.i k x, []) := rfl
@[go_sem] theorem snap_b (x) : snap hp (n + 1) (.b x) = some (.b x, []) := rfl
@[go_sem] theorem snap_str (x) : snap hp (n + 1) (.str x) = some (.str x, []) := rfl
@[go_sem] theorem snap_sl (k z x) : snap hp (n + 1) (.sl k z x) = some (.sl k z x, []) := rfl
@[go_sem] theorem snap_ip (x) : snap hp (n + 1) (.ip x) = some (.ip x, []) := rfl
@[go_sem] theorem z6i : snap hp (n + 1) .nilp = some (.nilp, []) := rfl
@[go_sem] theorem z47 : snap hp (n + 1) .nilf = some (.nilf, []) := rfl
@[go_sem] theorem z39 : snap hp (n + 1) .junk = some (.junk, []) := rfl
@[go_sem] theorem snap_agg (cs) : snap hp (n + 1) (.agg cs) = bnd (zbm (snap hp n) cs) fun y => some (.agg y.1, y.2) := rfl
@[go_sem] theorem snap_tup (cs) : snap hp (n + 1) (.tup cs) = bnd (zbm (snap hp n) cs) fun y => some (.tup y.1, y.2) := rfl
@[go_sem] theorem snap_fn (f cs) : snap hp (n + 1) (.fn f cs) = bnd (zbm (snap hp n) cs) fun y => some (.fn f y.1, y.2) := rfl
@[go_sem] theorem snap_ms (k v off len) : snap hp (n + 1) (.ms k v off len) = bnd (zb2 hp k v) fun b => ask (b.row = true ∧ off + len ≤ b.es.length) (way b.dp
       (bnd (zb3 (snap hp n) ((b.es.drop off).take len)) fun y => some (.sl (skOf b.nl) b.sz y.1, k :: y.2))
       (some (.sl (skOf b.nl) b.sz ((b.es.drop off).take len), [k]))) := rfl
@[go_sem] theorem snap_pt (k v e o) : snap hp (n + 1) (.pt k v e o) = bnd (zb2 hp k v) fun b => ask (b.row = false ∧ b.mp = false ∧ e = 0) (bnd (only b.es) fun cs => bnd (zbm (snap hp n) (cs.drop o)) fun y => some (.ip y.1, k :: y.2)) := rfl
@[go_sem] theorem zxq (f) : zb3 f [] = some ([], []) := rfl
@[go_sem] theorem zvi (f e r) : zb3 f (e :: r) = bnd (zbm f e) fun x => bnd (zb3 f r) fun y => some (x.1 :: y.1, x.2 ++ y.2) := rfl
@[go_sem] theorem zwl (f) : zaf f [] hp = some ([], [], hp) := rfl
@[go_sem] theorem zvj (f e r) : zaf f (e :: r) hp = bnd (zax f [] e hp) fun x => bnd (zaf f r x.2.2) fun y => some (x.1 :: y.1, x.2.1 ++ y.2.1, y.2.2) := rfl
@[go_sem] theorem zz8 (ty sz v) : zj8 own (.rowd ty sz) v = if own then .od ty sz true [] else v := rfl
@[go_sem] theorem z01 (f hs) : zax f hs [] hp = some ([], [], hp) := by unfold zax; rfl
@[go_sem] theorem zyw (f hs) (v : AV) (r) : zax f hs (v :: r) hp = bnd (f (hs.headD .none) v hp) fun x => bnd (zax f hs.tail r x.2.2) fun y => some (x.1 :: y.1, x.2.1 ++ y.2.1, y.2.2) := rfl
@[go_sem] theorem zza (v) : zj8 own .none v = v := rfl
@[go_sem] theorem zyo (l v) : zj8 own (.cells l) v = v := rfl
@[go_sem] theorem z2m (ty sz v) : zj8 own (.row ty sz) v = if own then .ow ty sz true [] else v := rfl
@[go_sem] theorem pack_i (k x) : pack own (n + 1) h (.i k x) hp = some (.i k x, [], hp) := rfl
@[go_sem] theorem pack_b (x) : pack own (n + 1) h (.b x) hp = some (.b x, [], hp) := rfl
@[go_sem] theorem pack_str (x) : pack own (n + 1) h (.str x) hp = some (.str x, [], hp) := rfl
@[go_sem] theorem pack_ip (x) : pack own (n + 1) h (.ip x) hp = some (.ip x, [], hp) := rfl
@[go_sem] theorem z54 : pack own (n + 1) h .nilp hp = some (.nilp, [], hp) := rfl
@[go_sem] theorem z3h : pack own (n + 1) h .nilf hp = some (.nilf, [], hp) := rfl
@[go_sem] theorem z4n : pack own (n + 1) h .junk hp = some (.junk, [], hp) := rfl
@[go_sem] theorem pack_nil (z) : pack own (n + 1) h (.sl .nil z []) hp = some (zj8 own h (.sl .nil z []), [], hp) := rfl
@[go_sem] theorem zth (z es) : pack own (n + 1) h (.sl .open_ z es) hp = some (.sl .open_ z es, [], hp) := rfl
@[go_sem] theorem z6r (z es) : pack own (n + 1) h (.sl .full z es) hp = some (.sl .full z es, [], hp) := rfl
@[go_sem] theorem zyi (k z es) : pack own (n + 1) .none (.sl k z es) hp = some (.sl k z es, [], hp) := by
 cases k <;> cases es <;> rfl
@[go_sem] theorem pack_agg (cs) : pack own (n + 1) h (.agg cs) hp = bnd (zax (pack own n) h.kids cs hp) fun y => some (.agg y.1, y.2.1, y.2.2) := rfl
@[go_sem] theorem pack_tup (cs) : pack own (n + 1) h (.tup cs) hp = bnd (zax (pack own n) h.kids cs hp) fun y => some (.tup y.1, y.2.1, y.2.2) := rfl
@[go_sem] theorem pack_fn (f cs) : pack own (n + 1) h (.fn f cs) hp = bnd (zax (pack false n) [] cs hp) fun y => some (.fn f y.1, y.2.1, y.2.2) := rfl
@[go_sem] theorem pack_ms (k v off len) : pack own (n + 1) h (.ms k v off len) hp = bnd (zb2 hp k v) fun b => ask (b.row = true ∧ off + len ≤ b.es.length) (way b.dp
       (way (own && decide (off = 0 ∧ len = b.es.length))
         (bnd (zaf (pack true n) b.es (drop hp k)) fun y => some (.od b.ty b.sz b.nl y.1, k :: y.2.1, y.2.2))
         (bnd (zaf (pack false n) ((b.es.drop off).take len) (drop hp k)) fun y => some (.sl (skOf b.nl) b.sz y.1, k :: y.2.1, y.2.2)))
       (some (if own = true ∧ off = 0 ∧ len = b.es.length then .ow b.ty b.sz b.nl b.es else .sl (skOf b.nl) b.sz ((b.es.drop off).take len), [k], drop hp k))) := rfl
@[go_sem] theorem pack_pt (k v e o) : pack own (n + 1) h (.pt k v e o) hp = bnd (zb2 hp k v) fun b => ask (b.row = false ∧ b.mp = false ∧ e = 0 ∧ o = 0) (bnd (only b.es) fun cs =>
       bnd (zax (pack own n) h.kids cs (drop hp k)) fun y => some (if own then .bx y.1 else .ip y.1, k :: y.2.1, y.2.2)) := rfl
@[go_sem] theorem pack_mr (k v) : pack own (n + 1) h (.mr k v) hp = bnd (zb2 hp k v) fun b => ask (b.row = false ∧ b.mp = true ∧ own = true) (some (.om b.es, [k], drop hp k)) := rfl
variable (k : Nat)
@[go_sem] theorem z4q (es) : unpack (.om es) k hp = (.mr k (zad hp k), k + 1, (k, .live { ver := zad hp k, row := false, nl := false, ty := 0, sz := 2, es, mp := true }) :: hp) := by simp only [unpack]
@[go_sem] theorem z36 (ty sz nl es) : unpack (.ow ty sz nl es) k hp = (.ms k (zad hp k) 0 es.length, k + 1, (k, .live { ver := zad hp k, row := true, nl, ty, sz, es }) :: hp) := by simp only [unpack]
@[go_sem] theorem z3x (cs) : unpack (.bx cs) k hp = (.pt k (zad (unpacks cs (k + 1) hp).2.2 k) 0 0, (unpacks cs (k + 1) hp).2.1,
     (k, .live { ver := zad (unpacks cs (k + 1) hp).2.2 k, row := false, nl := false, ty := 0, sz := (unpacks cs (k + 1) hp).1.length, es := [(unpacks cs (k + 1) hp).1] }) :: (unpacks cs (k + 1) hp).2.2) := by simp only [unpack]
@[go_sem] theorem z4y (ty sz nl es) : unpack (.od ty sz nl es) k hp = (.ms k (zad (zaw es (subK k) hp).2 k) 0 es.length, k + 1,
     (k, .live { ver := zad (zaw es (subK k) hp).2 k, row := true, nl, ty, sz, es := (zaw es (subK k) hp).1, dp := true }) :: (zaw es (subK k) hp).2) := by simp only [unpack]
@[go_sem] theorem z2j (cs) : unpack (.agg cs) k hp = (.agg (unpacks cs k hp).1, (unpacks cs k hp).2) := by simp only [unpack]
@[go_sem] theorem z2t (cs) : unpack (.tup cs) k hp = (.tup (unpacks cs k hp).1, (unpacks cs k hp).2) := by simp only [unpack]
@[go_sem] theorem unpack_i (a b) : unpack (.i a b) k hp = (.i a b, k, hp) := by simp only [unpack]
@[go_sem] theorem unpack_b (a) : unpack (.b a) k hp = (.b a, k, hp) := by simp only [unpack]
@[go_sem] theorem z3c (a) : unpack (.str a) k hp = (.str a, k, hp) := by simp only [unpack]
@[go_sem] theorem z5y (a b c) : unpack (.sl a b c) k hp = (.sl a b c, k, hp) := by simp only [unpack]
@[go_sem] theorem z6w (a) : unpack (.ip a) k hp = (.ip a, k, hp) := by simp only [unpack]
@[go_sem] theorem z30 (a b) : unpack (.fn a b) k hp = (.fn a b, k, hp) := by simp only [unpack]
@[go_sem] theorem zzi : unpack .nilp k hp = (.nilp, k, hp) := by simp only [unpack]
@[go_sem] theorem z1l : unpacks [] k hp = ([], k, hp) := by simp only [unpacks]
@[go_sem] theorem zx3 (v r) : unpacks (v :: r) k hp = ((unpack v k hp).1 :: (unpacks r (unpack v k hp).2.1 (unpack v k hp).2.2).1, (unpacks r (unpack v k hp).2.1 (unpack v k hp).2.2).2) := by simp only [unpacks]
@[go_sem] theorem z0y (vs) : zar [] vs s hp = ⟨s, hp⟩ := by unfold zar; rfl
@[go_sem] theorem zyj (p r) (v : AV) (vs) : zar (p :: r) (v :: vs) s hp = zar r vs ((p.1, (unpack v (keyOf p.1) hp).1) :: s) (unpack v (keyOf p.1) hp).2.2 := by rw [zar]
@[go_sem] theorem zzf (t) : zae t [] s hp = ⟨s, hp⟩ := by unfold zae; rfl
@[go_sem] theorem zyl (t) (v : AV) (vs) : zae t (v :: vs) s hp = zae (t + 1) vs ((t, (unpack v (keyOf t) hp).1) :: s) (unpack v (keyOf t) hp).2.2 := by rw [zae]
@[go_sem] theorem packK_eq (keep) : zcp keep s hp = bnd (zes keep s hp) fun x => zb6 keep x.1 s x.2 := rfl
@[go_sem] theorem z0i : zes [] s hp = some ([], hp) := rfl
@[go_sem] theorem zyf (p r) : zes (p :: r) s hp = way (zcy p.2 (get s p.1))
     (bnd (pack true FUEL p.2 (get s p.1) hp) fun x => bnd (zes r s x.2.2) fun y => some (some x.1 :: y.1, y.2))
     (bnd (zes r s hp) fun y => some (none :: y.1, y.2)) := rfl
@[go_sem] theorem zyb : zb6 [] [] s hp = some [] := by unfold zb6; rfl
@[go_sem] theorem zxj (p r v vs) : zb6 (p :: r) (some v :: vs) s hp = bnd (zb6 r vs s hp) fun l => some (v :: l) := by rw [zb6]
@[go_sem] theorem zww (p r vs) : zb6 (p :: r) (none :: vs) s hp = bnd (snap hp FUEL (get s p.1)) fun x => bnd (zb6 r vs s hp) fun l => some (x.1 :: l) := by rw [zb6]
@[go_sem] theorem z1u (a b c d) : zcy h (.pt a b c d) = true := rfl
@[go_sem] theorem z2c (a b) : zcy h (.mr a b) = true := rfl
@[go_sem] theorem z0z (ty sz v) : zcy (.row ty sz) v = true := by cases v <;> rfl
@[go_sem] theorem z2q (a b c d) : zcy .none (.ms a b c d) = false := rfl
@[go_sem] theorem z6z (a b) : zcy .none (.i a b) = false := rfl
@[go_sem] theorem z6q (a) : zcy .none (.b a) = false := rfl
@[go_sem] theorem zzw (a) : zcy .none (.str a) = false := rfl
@[go_sem] theorem z2n (a b c) : zcy .none (.sl a b c) = false := rfl
@[go_sem] theorem z2p (a) : zcy .none (.ip a) = false := rfl
@[go_sem] theorem z2s (a b) : zcy .none (.fn a b) = false := rfl
@[go_sem] theorem z0e (a) : zcy .none (.agg a) = false := rfl
@[go_sem] theorem z07 (a) : zcy .none (.tup a) = false := rfl
@[go_sem] theorem zyv : zcy .none .junk = false := rfl
@[go_sem] theorem zxy : zcy .none .nilp = false := rfl
@[go_sem] theorem zx6 : zcy .none .nilf = false := rfl
@[go_sem] theorem zyt (v) : hand1 v hp .borrow = bnd (snap hp FUEL v) fun x => some { args := [x.1], rd := x.2, io := [], wr := [], hp } := rfl
@[go_sem] theorem z23 (v h) : hand1 v hp (.give h) = bnd (pack true FUEL h v hp) fun x => some { args := [x.1], rd := [], io := [], wr := x.2.1, hp := x.2.2 } := rfl
@[go_sem] theorem z02 (v h) : hand1 v hp (.inout h) = bnd (place hp v) fun p => bnd (pack true FUEL h v hp) fun x => some { args := [x.1], rd := [], io := [p], wr := x.2.1, hp := x.2.2 } := rfl
@[go_sem] theorem place_pt (a b) : place hp (.pt a b 0 0) = bnd (zb2 hp a b) fun bl => ask (bl.row = false) (some ⟨a, b, 0, 0, false⟩) := rfl
@[go_sem] theorem place_ms (a b d) : place hp (.ms a b 0 d) = bnd (zb2 hp a b) fun bl => ask (bl.row = true ∧ d = bl.es.length) (some ⟨a, b, d, bl.sz, bl.nl⟩) := rfl
@[go_sem] theorem hand_nil (pms) : hand pms [] hp = some { args := [], rd := [], io := [], wr := [], hp } := by unfold hand; rfl
@[go_sem] theorem z6s (pms v r) : hand pms (v :: r) hp = bnd (hand1 v hp (pms.headD .borrow)) fun x => bnd (hand pms.tail r x.hp) fun y =>
     some { args := x.args ++ y.args, rd := x.rd ++ y.rd, io := x.io ++ y.io, wr := x.wr ++ y.wr, hp := y.hp } := rfl
@[go_sem] theorem back1_bx (p : Place) (cs) : back1 p k hp (.bx cs) = ask (shs cs = true ∧ zad (unpacks cs k hp).2.2 p.key = p.ver + 1 ∧ p.len = 0)
     (some ((unpacks cs k hp).2.1, (p.key, .live { ver := p.ver, row := false, nl := false, ty := 0, sz := (unpacks cs k hp).1.length, es := [(unpacks cs k hp).1] }) :: (unpacks cs k hp).2.2)) := rfl
@[go_sem] theorem back1_ow (p : Place) (ty sz nl es) : back1 p k hp (.ow ty sz nl es) = ask (es.length = p.len ∧ sz = p.sz ∧ nl = p.nl ∧ zad hp p.key = p.ver + 1) (some (k, (p.key, .live { ver := p.ver, row := true, nl, ty, sz, es }) :: hp)) := rfl
@[go_sem] theorem back_nil : back [] [] k hp = some (k, hp) := by unfold back; rfl
@[go_sem] theorem took_eq (hd : Handed) (dst : Nat) (r : AV) (k2 : Nat) : took hd dst r k2 hp = { val := (unpack r (keyOf dst) hp).1, hp := (unpack r (keyOf dst) hp).2.2, rd := hd.rd, wr := hd.wr ++ (hd.io.map (·.key) ++ ((if plain r && hd.io.isEmpty then [] else hd.rd) ++ (span (keyOf dst + 32) (k2 - (keyOf dst + 32)) ++ span (keyOf dst) ((unpack r (keyOf dst) hp).2.1 - keyOf dst)))) } := rfl
end packs
@[go_sem] theorem abody_eq (fs : FSpec) (f : AFun) (args : List AV) : abody cx fs f args = bnd (aexec cx f.body (zae 0 args [] [])) fun x => bnd (zc1 x) fun st => answer fs f.nparams f.res st := rfl
@[go_sem] theorem z3n (fs : FSpec) (np : Nat) (res : List ARes) : answer fs np res ⟨s, hp⟩ =
   bnd (zc3 ⟨s, hp⟩ res) fun vs => bnd (pack fs.rm.isSome FUEL (fs.rm.getD .none) (weak fs.nn (one vs)) hp) fun x => bnd (outs s 0 np fs.pm x.2.2) fun os => some (x.1, os) := rfl
attribute [go_sem] weak zwm
@[go_sem] theorem z1q (st : St) : zc3 st [] = some [] := rfl
@[go_sem] theorem zx1 (r l) : zc3 ⟨s, hp⟩ (r :: l) = bnd (zml ⟨s, hp⟩ r) fun v => bnd (zc3 ⟨s, hp⟩ l) fun vs => some (v :: vs) := rfl
@[go_sem] theorem z3e (t) : zml ⟨s, hp⟩ (.tmp t) = some (get s t) := rfl
@[go_sem] theorem zy4 (t g n) : zml ⟨s, hp⟩ (.cell t g n) = bnd (zlf g n hp (get s t)) fun fx => some fx.val := rfl
@[go_sem] theorem one_one (v) : one [v] = v := rfl
@[go_sem] theorem one_nil : one [] = .tup [] := rfl
@[go_sem] theorem one_two (v u r) : one (v :: u :: r) = .tup (v :: u :: r) := rfl
@[go_sem] theorem outs_nil (t n) : outs s t n [] hp = some [] := by cases n <;> (unfold outs; rfl)
@[go_sem] theorem zzt (t n r) : outs s t (n + 1) (.borrow :: r) hp = outs s (t + 1) n r hp := by rw [outs]
@[go_sem] theorem z6e (t n h r) : outs s t (n + 1) (.give h :: r) hp = outs s (t + 1) n r hp := by rw [outs]
end Go.Abs
end
section
namespace Go.Abs
theorem zzj {α β γ : Type} (x : Option α) (f : α → Option β) (g : β → Option γ) : bnd (bnd x f) g = bnd x fun a => bnd (f a) g := by cases x <;> rfl
theorem z0w {α β : Type} {c : Prop} [Decidable c] (x : Option α) (f : α → Option β) : bnd (ask c x) f = ask c (bnd x f) := by unfold ask; split <;> rfl
@[go_sem] theorem bnd_ask' {α β : Type} {c : Prop} [Decidable c] (x : Option α) (f : α → Option β) : bnd (ask c x) f = ask c (bnd x f) := z0w x f
@[go_sem] theorem zxx (b : Bool) : (b != false) = b := by cases b <;> rfl
attribute [go_sem] zzj
theorem zma {body : St → Res} {keep : List (Nat × H)} {vs vs' : List AV} {st : St} {r : AExit × St} (h : body (zar keep vs [] []) = some (.normal, st)) (hp : zcp keep st.sl st.hp = some vs') (hr : aloop body keep vs' = some r) : aloop body keep vs = some r := by
 obtain ⟨n, hn⟩ := zfd hr
 refine zhh (m := n + 1) ?_
 simp only [zc7, h, zai]
 show goOn _ _ (.normal, st) = _
 obtain ⟨sl, hp'⟩ := st
 rw [zo5, hp, zai]
 exact hn
theorem zel {body : St → Res} {keep : List (Nat × H)} {vs : List AV} {e : AExit} {st : St} (h : body (zar keep vs [] []) = some (e, st)) (he : e ≠ .normal) : aloop body keep vs = some (e, st) := by
 refine zhh (m := 1) ?_
 simp only [zc7, h, zai]
 cases e with
 | normal => exact absurd rfl he
 | exit id => rfl
 | ret => rfl
inductive Round {ι : Type} (body : St → Res) (keep : List (Nat × H)) (V : ι → List AV) (I : ι → Prop) (μ : ι → Nat) (Q : AExit × St → Prop) (x : ι) : Prop where
 | next (sl : Sl) (hp : Hp) (y : ι) (h : body (zar keep (V x) [] []) = some (.normal, ⟨sl, hp⟩)) (hp : zcp keep sl hp = some (V y)) (hi : I y) (hm : μ y < μ x)
 | stop (e : AExit) (st : St) (h : body (zar keep (V x) [] []) = some (e, st)) (he : e ≠ .normal) (hq : Q (e, st))
theorem z4o {ι : Type} {body : St → Res} {keep : List (Nat × H)} (V : ι → List AV) (I : ι → Prop) (μ : ι → Nat) (Q : AExit × St → Prop)
   (step : ∀ x, I x → Round body keep V I μ Q x) : ∀ x, I x → ∃ r, aloop body keep (V x) = some r ∧ Q r := by
 have go : ∀ n x, μ x ≤ n → I x → ∃ r, aloop body keep (V x) = some r ∧ Q r := by
   intro n
   induction n with
   | zero =>
     intro x hn hi
     cases step x hi with
     | next sl hp y h hp' hi' hm => omega
     | stop e st h he hq => exact ⟨_, zel h he, hq⟩
   | succ n ih =>
     intro x hn hi
     cases step x hi with
     | next sl hp y h hp' hi' hm =>
       obtain ⟨r, h1, h2⟩ := ih y (by omega) hi'
       exact ⟨r, zma h hp' h1, h2⟩
     | stop e st h he hq => exact ⟨_, zel h he, hq⟩
 exact fun x hi => go (μ x) x (Nat.le_refl _) hi
attribute [go_sem] List.take_of_length_le
end Go.Abs
end
section
namespace Go.Abs
def W {α : Type} (x : Option α) (P : α → Prop) : Prop := ∃ a, x = some a ∧ P a
theorem zcu {α : Type} (a : α) (P : α → Prop) : W (some a) P ↔ P a := by simp [W]
theorem zfg {α β : Type} (x : Option α) (f : α → Option β) (P : β → Prop) : W (bnd x f) P ↔ W x fun a => W (f a) P := by
 cases x <;> simp [W]
theorem zqc {α : Type} {x : Option α} {P Q : α → Prop} (h : W x P) (k : ∀ a, P a → Q a) : W x Q := by
 obtain ⟨a, e, p⟩ := h
 exact ⟨a, e, k a p⟩
inductive KF where
 | code (c : ACode)
 | norm (c : ACode)
 | out (id : Nat)
section
variable (cx : Cx)
def kont : List KF → (AExit → St → Prop) → AExit × St → Prop
 | [], P, r => P r.1 r.2
 | .code c :: ks, P, r => W (andThen (aexec cx c) r) (kont ks P)
 | .norm c :: ks, P, r => W (zc0 (aexec cx c) r) (kont ks P)
 | .out id :: ks, P, r => W (outOf id r) (kont ks P)
def kexec (c : ACode) (ks : List KF) (P : AExit → St → Prop) (st : St) : Prop := W (aexec cx c st) (kont cx ks P)
def kreg (l : List AIns) (ks : List KF) (P : AExit → St → Prop) (st : St) : Prop := W (areg cx l st) fun st => kont cx ks P (.normal, st)
def kop (x : Option Fx) (d : Option Nat) (l : List AIns) (ks : List KF) (P : AExit → St → Prop) (s : Sl) : Prop := W x fun fx => kreg cx l ks P ⟨put s d fx.val, fx.hp⟩
def kgd (x : Option Bool) (o : AIns) (l : List AIns) (ks : List KF) (P : AExit → St → Prop) (s : Sl) (hp : Hp) : Prop :=
 W x fun b => match b with | true => kop cx (aop cx o.op (o.dst.getD 0) s hp) o.dst l ks P s | false => kreg cx l ks P ⟨put s o.dst undef, hp⟩
def kdraw (l : List AIns) (acc : List (List Nat × List Nat)) (ps : List (Nat × Nat)) (ks : List KF) (P : AExit → St → Prop) (st : St) : Prop :=
 W (adraw cx l acc st) fun x => zci x.2 ps = true ∧ kont cx ks P (.normal, x.1)
def kopd (x : Option Fx) (d : Option Nat) (l : List AIns) (acc : List (List Nat × List Nat)) (ps : List (Nat × Nat)) (ks : List KF) (P : AExit → St → Prop) (s : Sl) : Prop :=
 W x fun fx => kdraw cx l (acc ++ [(fx.rd, fx.wr)]) ps ks P ⟨put s d fx.val, fx.hp⟩
def kgdd (x : Option Bool) (o : AIns) (l : List AIns) (acc : List (List Nat × List Nat)) (ps : List (Nat × Nat)) (ks : List KF) (P : AExit → St → Prop) (s : Sl) (hp : Hp) : Prop :=
 W x fun b => match b with | true => kopd cx (aop cx o.op (o.dst.getD 0) s hp) o.dst l acc ps ks P s | false => kdraw cx l (acc ++ [([], [])]) ps ks P ⟨put s o.dst undef, hp⟩
def kcond (v : AV) (a b : ACode) (ks : List KF) (P : AExit → St → Prop) (st : St) : Prop := W (zib (aexec cx a st) (aexec cx b st) v) (kont cx ks P)
def kway (c : Bool) (a b : ACode) (ks : List KF) (P : AExit → St → Prop) (st : St) : Prop := match c with | true => kexec cx a ks P st | false => kexec cx b ks P st
def kpack (x : Option (List AV)) (keep : List (Nat × H)) (c : ACode) (ks : List KF) (P : AExit → St → Prop) : Prop := W x fun vs => W (aloop (aexec cx c) keep vs) (kont cx ks P)
def kloop (keep : List (Nat × H)) (c : ACode) (vs : List AV) (ks : List KF) (P : AExit → St → Prop) : Prop := W (aloop (aexec cx c) keep vs) (kont cx ks P)
end
variable {cx : Cx} {s : Sl} {hp : Hp} {ks : List KF} {P : AExit → St → Prop}
@[go_sem] theorem kont_nil (e : AExit) (st : St) : kont cx [] P (e, st) ↔ P e st := Iff.rfl
theorem zab {c : ACode} {st : St} (h : kexec cx c ks P st) : kont cx (.code c :: ks) P (.normal, st) := h
theorem zan {c : ACode} {st : St} (h : kexec cx c ks P st) : kont cx (.norm c :: ks) P (.normal, st) := h
@[go_sem] theorem zvp (c : ACode) (id : Nat) (st : St) : kont cx (.code c :: ks) P (.exit id, st) ↔ kont cx ks P (.exit id, st) := by simp [kont, andThen, W]
@[go_sem] theorem zw8 (c : ACode) (st : St) : kont cx (.code c :: ks) P (.ret, st) ↔ kont cx ks P (.ret, st) := by simp [kont, andThen, W]
@[go_sem] theorem kont_out (id : Nat) (st : St) : kont cx (.out id :: ks) P (.normal, st) ↔ kont cx ks P (.normal, st) := by simp [kont, outOf, W]
@[go_sem] theorem zxu (id : Nat) (st : St) : kont cx (.out id :: ks) P (.ret, st) ↔ kont cx ks P (.ret, st) := by simp [kont, outOf, W]
@[go_sem] theorem zw6 (id id' : Nat) (st : St) : kont cx (.out id :: ks) P (.exit id', st) ↔ if id' = id then kont cx ks P (.normal, st) else kont cx ks P (.exit id', st) := by
 simp only [kont, outOf, W]
 split <;> simp
@[go_sem] theorem z2x (st : St) : kexec cx .skip ks P st ↔ kont cx ks P (.normal, st) := by simp [kexec, aexec, W]
@[go_sem] theorem z28 (id : Nat) (st : St) : kexec cx (.exit id) ks P st ↔ kont cx ks P (.exit id, st) := by simp [kexec, aexec, W]
@[go_sem] theorem z5i (st : St) : kexec cx .ret ks P st ↔ kont cx ks P (.ret, st) := by simp [kexec, aexec, W]
@[go_sem] theorem z4f (l : List AIns) : kexec cx (.reg l) ks P ⟨s, hp⟩ ↔ kreg cx l ks P ⟨s, hp⟩ := by
 simp only [kexec, aexec, zfg, zcu, kreg]
@[go_sem] theorem z2r (l : List AIns) (ps) : kexec cx (.draw l ps) ks P ⟨s, hp⟩ ↔ kdraw cx l [] ps ks P ⟨s, hp⟩ := by
 simp only [kexec, aexec, zfg, kdraw]
 have : ∀ x : St × List (List Nat × List Nat), W (ask (zci x.2 ps = true) (some (AExit.normal, x.1))) (kont cx ks P) ↔ zci x.2 ps = true ∧ kont cx ks P (.normal, x.1) := by
   intro x
   by_cases h : zci x.2 ps = true <;> simp [W, ask, h]
 simp only [this]
@[go_sem] theorem z34 (a b : ACode) (st : St) : kexec cx (.seq a b) ks P st ↔ kexec cx a (.code b :: ks) P st := by
 simp only [kexec, aexec, zfg]
 have : (fun a : AExit × St => W (andThen (aexec cx b) a) (kont cx ks P)) = kont cx (.code b :: ks) P := by funext a; rfl
 rw [this]
@[go_sem] theorem zzk (id : Nat) (c : ACode) (st : St) : kexec cx (.block id c) ks P st ↔ kexec cx c (.out id :: ks) P st := by
 simp only [kexec, aexec, zfg]
 have : (fun a : AExit × St => W (outOf id a) (kont cx ks P)) = kont cx (.out id :: ks) P := by funext a; rfl
 rw [this]
@[go_sem] theorem z27 (c : Opd) (a b : ACode) : kexec cx (.cond c a b) ks P ⟨s, hp⟩ ↔ kcond cx (ev s c) a b ks P ⟨s, hp⟩ := by simp only [kexec, aexec, kcond]
@[go_sem] theorem kcond_b (c : Bool) (a b : ACode) (st : St) : kcond cx (.b c) a b ks P st ↔ kway cx c a b ks P st := by cases c <;> rfl
@[go_sem] theorem z5z (a b : ACode) (st : St) : kway cx true a b ks P st ↔ kexec cx a ks P st := Iff.rfl
@[go_sem] theorem z2k (a b : ACode) (st : St) : kway cx false a b ks P st ↔ kexec cx b ks P st := Iff.rfl
@[go_sem] theorem kway_not (c : Bool) (a b : ACode) (st : St) : kway cx (!c) a b ks P st ↔ kway cx c b a ks P st := by cases c <;> rfl
@[go_sem] theorem z1v (keep) (c : ACode) : kexec cx (.loop keep c) ks P ⟨s, hp⟩ ↔ kpack cx (zcp keep s hp) keep c ks P := by simp only [kexec, aexec, zfg, kpack]
@[go_sem] theorem z3d (vs keep) (c : ACode) : kpack cx (some vs) keep c ks P ↔ kloop cx keep c vs ks P := by simp only [kpack, zcu, kloop]
@[go_sem] theorem kreg_nil (st : St) : kreg cx [] ks P st ↔ kont cx ks P (.normal, st) := by simp only [kreg, areg, zcu]
theorem zku (o : AIns) (l : List AIns) (st : St) : kreg cx (o :: l) ks P st ↔ W (ains cx o st) fun x => kreg cx l ks P x.1 := by
 simp only [kreg, areg, zfg]
@[go_sem] theorem z2y (d : Option Nat) (op : AOp) (l : List AIns) : kreg cx (⟨d, op, none⟩ :: l) ks P ⟨s, hp⟩ ↔ kop cx (aop cx op (d.getD 0) s hp) d l ks P s := by
 rw [zku]
 simp only [ains, wanted, zai, zbu, zfg, zcu, kop]
@[go_sem] theorem z1w (d : Option Nat) (op : AOp) (t : Nat) (w : Bool) (l : List AIns) : kreg cx (⟨d, op, some (t, w)⟩ :: l) ks P ⟨s, hp⟩ ↔ kgd cx (zfo w (get s t)) ⟨d, op, none⟩ l ks P s hp := by
 rw [zku]
 simp only [ains, wanted, zfg, kgd]
 constructor <;> refine fun h => zqc h fun b hb => ?_ <;> cases b <;> simpa only [zbu, zbk, zcu, zfg, kop] using hb
@[go_sem] theorem zqo (o : AIns) (l : List AIns) : kgd cx (some true) o l ks P s hp ↔ kop cx (aop cx o.op (o.dst.getD 0) s hp) o.dst l ks P s := by simp only [kgd, zcu]
@[go_sem] theorem zoo (o : AIns) (l : List AIns) : kgd cx (some false) o l ks P s hp ↔ kreg cx l ks P ⟨put s o.dst undef, hp⟩ := by simp only [kgd, zcu]
@[go_sem] theorem kop_some (v : AV) (hp' : Hp) (rd wr : List Nat) (d : Option Nat) (l : List AIns) : kop cx (some ⟨v, hp', rd, wr⟩) d l ks P s ↔ kreg cx l ks P ⟨put s d v, hp'⟩ := by simp only [kop, zcu]
@[go_sem] theorem z5q (acc ps) (st : St) : kdraw cx [] acc ps ks P st ↔ zci acc ps = true ∧ kont cx ks P (.normal, st) := by simp only [kdraw, adraw, zcu]
theorem zi6 (o : AIns) (l : List AIns) (acc ps) (st : St) : kdraw cx (o :: l) acc ps ks P st ↔ calm o.op = true ∧ W (ains cx o st) fun x => kdraw cx l (acc ++ [x.2]) ps ks P x.1 := by
 have : ∀ (c : Prop) [Decidable c] (x : Option (St × List (List Nat × List Nat))) (Q : St × List (List Nat × List Nat) → Prop), W (ask c x) Q ↔ c ∧ W x Q := by
   intro c _ x Q
   by_cases h : c <;> simp [W, ask, h]
 simp only [kdraw, adraw, this, zfg]
@[go_sem] theorem zz0 (d : Option Nat) (op : AOp) (l : List AIns) (acc ps) : kdraw cx (⟨d, op, none⟩ :: l) acc ps ks P ⟨s, hp⟩ ↔ calm op = true ∧ kopd cx (aop cx op (d.getD 0) s hp) d l acc ps ks P s := by
 rw [zi6]
 simp only [ains, wanted, zai, zbu, zfg, zcu, kopd]
@[go_sem] theorem z1f (d : Option Nat) (op : AOp) (t : Nat) (w : Bool) (l : List AIns) (acc ps) : kdraw cx (⟨d, op, some (t, w)⟩ :: l) acc ps ks P ⟨s, hp⟩ ↔ calm op = true ∧ kgdd cx (zfo w (get s t)) ⟨d, op, none⟩ l acc ps ks P s hp := by
 rw [zi6]
 simp only [ains, wanted, zfg, kgdd]
 refine and_congr Iff.rfl ?_
 constructor <;> refine fun h => zqc h fun b hb => ?_ <;> cases b <;> simpa only [zbu, zbk, zcu, zfg, kopd] using hb
@[go_sem] theorem zod (o : AIns) (l : List AIns) (acc ps) : kgdd cx (some true) o l acc ps ks P s hp ↔ kopd cx (aop cx o.op (o.dst.getD 0) s hp) o.dst l acc ps ks P s := by simp only [kgdd, zcu]
@[go_sem] theorem zli (o : AIns) (l : List AIns) (acc ps) : kgdd cx (some false) o l acc ps ks P s hp ↔ kdraw cx l (acc ++ [([], [])]) ps ks P ⟨put s o.dst undef, hp⟩ := by simp only [kgdd, zcu]
@[go_sem] theorem z4z (v : AV) (hp' : Hp) (rd wr : List Nat) (d : Option Nat) (l : List AIns) (acc ps) : kopd cx (some ⟨v, hp', rd, wr⟩) d l acc ps ks P s ↔ kdraw cx l (acc ++ [(rd, wr)]) ps ks P ⟨put s d v, hp'⟩ := by simp only [kopd, zcu]
theorem zbp {c : Bool} {a b : ACode} {st : St} (h1 : c = true → kexec cx a ks P st) (h0 : c = false → kexec cx b ks P st) : kway cx c a b ks P st := by cases c; exact h0 rfl; exact h1 rfl
theorem zco {c : Bool} {o : AIns} {l : List AIns} (h1 : c = true → kop cx (aop cx o.op (o.dst.getD 0) s hp) o.dst l ks P s) (h0 : c = false → kreg cx l ks P ⟨put s o.dst undef, hp⟩) : kgd cx (some c) o l ks P s hp := by
 cases c
 · rw [zoo]; exact h0 rfl
 · rw [zqo]; exact h1 rfl
theorem zbs {c : Bool} {o : AIns} {l : List AIns} (h1 : c = false → kop cx (aop cx o.op (o.dst.getD 0) s hp) o.dst l ks P s) (h0 : c = true → kreg cx l ks P ⟨put s o.dst undef, hp⟩) : kgd cx (some !c) o l ks P s hp := by
 cases c
 · simp only [Bool.not_false]; rw [zqo]; exact h1 rfl
 · simp only [Bool.not_true]; rw [zoo]; exact h0 rfl
theorem zbr {c : Bool} {o : AIns} {l : List AIns} {acc ps} (h1 : c = true → kopd cx (aop cx o.op (o.dst.getD 0) s hp) o.dst l acc ps ks P s) (h0 : c = false → kdraw cx l (acc ++ [([], [])]) ps ks P ⟨put s o.dst undef, hp⟩) : kgdd cx (some c) o l acc ps ks P s hp := by
 cases c
 · rw [zli]; exact h0 rfl
 · rw [zod]; exact h1 rfl
theorem za9 {c : Bool} {o : AIns} {l : List AIns} {acc ps} (h1 : c = false → kopd cx (aop cx o.op (o.dst.getD 0) s hp) o.dst l acc ps ks P s) (h0 : c = true → kdraw cx l (acc ++ [([], [])]) ps ks P ⟨put s o.dst undef, hp⟩) : kgdd cx (some !c) o l acc ps ks P s hp := by
 cases c
 · simp only [Bool.not_false]; rw [zod]; exact h1 rfl
 · simp only [Bool.not_true]; rw [zli]; exact h0 rfl
theorem zbt {c : Bool} {x y : Option Fx} {d : Option Nat} {l : List AIns} (h1 : c = true → kop cx x d l ks P s) (h0 : c = false → kop cx y d l ks P s) : kop cx (way c x y) d l ks P s := by cases c; exact h0 rfl; exact h1 rfl
theorem zbb {α : Type} {c : Bool} {x y : Option α} {f : α → Option Fx} {d : Option Nat} {l : List AIns} (h1 : c = true → kop cx (bnd x f) d l ks P s) (h0 : c = false → kop cx (bnd y f) d l ks P s) : kop cx (bnd (way c x y) f) d l ks P s := by cases c; exact h0 rfl; exact h1 rfl
theorem zbo {c : Prop} [Decidable c] {x : Option Fx} {d : Option Nat} {l : List AIns} (h1 : c) (h0 : kop cx x d l ks P s) : kop cx (ask c x) d l ks P s := by rw [ze1 x h1]; exact h0
theorem za7 {c : Bool} {x y : Option Fx} {d : Option Nat} {l : List AIns} {acc ps} (h1 : c = true → kopd cx x d l acc ps ks P s) (h0 : c = false → kopd cx y d l acc ps ks P s) : kopd cx (way c x y) d l acc ps ks P s := by cases c; exact h0 rfl; exact h1 rfl
theorem za1 {α : Type} {c : Bool} {x y : Option α} {f : α → Option Fx} {d : Option Nat} {l : List AIns} {acc ps} (h1 : c = true → kopd cx (bnd x f) d l acc ps ks P s) (h0 : c = false → kopd cx (bnd y f) d l acc ps ks P s) : kopd cx (bnd (way c x y) f) d l acc ps ks P s := by cases c; exact h0 rfl; exact h1 rfl
theorem zba {c : Prop} [Decidable c] {x : Option Fx} {d : Option Nat} {l : List AIns} {acc ps} (h1 : c) (h0 : kopd cx x d l acc ps ks P s) : kopd cx (ask c x) d l acc ps ks P s := by rw [ze1 x h1]; exact h0
theorem zaz {c : Prop} [Decidable c] {x : Option (List AV)} {keep} {b : ACode} (h1 : c) (h0 : kpack cx x keep b ks P) : kpack cx (ask c x) keep b ks P := by rw [ze1 x h1]; exact h0
def kans (x : Option (AV × List AV)) (Φ : AV × List AV → Prop) : Prop := W x Φ
@[go_sem] theorem z32 (v : AV) (os : List AV) (Φ : AV × List AV → Prop) : kans (some (v, os)) Φ ↔ Φ (v, os) := zcu _ _
theorem za8 {c : Prop} [Decidable c] {x : Option (AV × List AV)} {Φ : AV × List AV → Prop} (h1 : c) (h0 : kans x Φ) : kans (ask c x) Φ := by rw [ze1 x h1]; exact h0
def kfin (fs : FSpec) (np : Nat) (res : List ARes) (Φ : AV × List AV → Prop) (e : AExit) (st : St) : Prop := W (bnd (zc1 (e, st)) fun st => answer fs np res st) Φ
@[go_sem] theorem kfin_ret (fs np res Φ) : kfin fs np res Φ .ret ⟨s, hp⟩ ↔ kans (answer fs np res ⟨s, hp⟩) Φ := by simp only [kfin, zc1, zai, kans]
theorem kbody {fs : FSpec} {f : AFun} {args : List AV} {Φ : AV × List AV → Prop} (h : kexec cx f.body [] (kfin fs f.nparams f.res Φ) (zae 0 args [] [])) : W (abody cx fs f args) Φ := by
 unfold abody
 rw [zfg]
 refine zqc h fun x hx => ?_
 exact hx
theorem kcall {S : Sys} {f : Nat} {fn : AFun} {args : List AV} {Φ : AV × List AV → Prop} (hit : (S.spec f).it = false) (hp : S.prim f = none) (hf : S.fs f = some fn) (hl : args.length = fn.nparams)
   (h : kexec ⟨acall S, S.spec, inlF S (acall S)⟩ fn.body [] (kfin (S.spec f) fn.nparams fn.res Φ) (zae 0 args [] [])) : W (acall S f args) Φ := by
 obtain ⟨r, e, p⟩ := kbody h
 exact ⟨r, zr2 hit hp hf hl e, p⟩
theorem W_eq {α : Type} {x : Option α} {r : α} (h : W x (· = r)) : x = some r := by
 obtain ⟨a, e, rfl⟩ := h
 exact e
theorem leafb {x y : Bool} (h : x = true ↔ y = true) : AV.b x = AV.b y := by
 rw [show x = y from Bool.eq_iff_iff.2 h]
def kpk (x : Option (List AV)) (Ψ : List AV → Prop) : Prop := W x Ψ
@[go_sem] theorem kpk_some (vs : List AV) (Ψ : List AV → Prop) : kpk (some vs) Ψ ↔ Ψ vs := zcu _ _
theorem zbq {c : Prop} [Decidable c] {x : Option (List AV)} {Ψ : List AV → Prop} (h1 : c) (h0 : kpk x Ψ) : kpk (ask c x) Ψ := by rw [ze1 x h1]; exact h0
def krd (cx : Cx) (keep : List (Nat × H)) (Ψ : List AV → Prop) (ks : List KF) (P : AExit → St → Prop) (e : AExit) (st : St) : Prop :=
 match e with
 | .normal => kpk (zcp keep st.sl st.hp) Ψ
 | e => kont cx ks P (e, st)
@[go_sem] theorem z22 (keep Ψ) : krd cx keep Ψ ks P .normal ⟨s, hp⟩ ↔ kpk (zcp keep s hp) Ψ := Iff.rfl
@[go_sem] theorem krd_exit (keep Ψ id st) : krd cx keep Ψ ks P (.exit id) st ↔ kont cx ks P (.exit id, st) := Iff.rfl
@[go_sem] theorem krd_ret (keep Ψ st) : krd cx keep Ψ ks P .ret st ↔ kont cx ks P (.ret, st) := Iff.rfl
theorem zag {ι : Type} {keep : List (Nat × H)} {c : ACode} {vs : List AV} (V : ι → List AV) (I : ι → Prop) (μ : ι → Nat) (x : ι) (hv : vs = V x) (hx : I x)
   (round : ∀ x, I x → kexec cx c [] (krd cx keep (fun vs' => ∃ y, vs' = V y ∧ I y ∧ μ y < μ x) ks P) (zar keep (V x) [] [])) : kloop cx keep c vs ks P := by
 subst hv
 have go : ∀ n x, μ x ≤ n → I x → kloop cx keep c (V x) ks P := by
   intro n
   induction n with
   | zero =>
     intro x hn hi
     obtain ⟨⟨e, sl, hp⟩, h1, h2⟩ := round x hi
     cases e with
     | normal =>
       obtain ⟨vs, h3, y, rfl, h4, h5⟩ := h2
       omega
     | exit id => exact ⟨_, zel h1 (by simp), h2⟩
     | ret => exact ⟨_, zel h1 (by simp), h2⟩
   | succ n ih =>
     intro x hn hi
     obtain ⟨⟨e, sl, hp⟩, h1, h2⟩ := round x hi
     cases e with
     | normal =>
       obtain ⟨vs, h3, y, rfl, h4, h5⟩ := h2
       obtain ⟨r, k1, k2⟩ := ih y (by omega) h4
       exact ⟨r, zma h1 h3 k1, k2⟩
     | exit id => exact ⟨_, zel h1 (by simp), h2⟩
     | ret => exact ⟨_, zel h1 (by simp), h2⟩
 exact go (μ x) x (Nat.le_refl _) hx
theorem wrap_succ {k : Nat} (h : k < 4611686018427387904) : IntKind.i64.wrap ((k : Int) + 1) = ((k + 1 : Nat) : Int) := by
 simp [IntKind.wrap, IntKind.bits, IntKind.signed]
 omega
theorem wrap_i64 {n : Int} (h : -9223372036854775808 ≤ n) (h' : n < 9223372036854775808) : IntKind.i64.wrap n = n := by
 simp [IntKind.wrap, IntKind.bits, IntKind.signed]
 omega
theorem zdu {α : Type} {l : List α} {k : Nat} {b : α} (h : l[k]? = some b) : l.take (k + 1) = l.take k ++ [b] := by
 rw [List.take_add_one, h]; rfl
theorem zbe {α : Type} {l : List α} {k : Nat} (h : k < l.length) : ∃ b, l[k]? = some b := ⟨l[k], List.getElem?_eq_getElem h⟩
attribute [go_sem] List.getElem?_map List.map_eq_nil_iff
end Go.Abs
end
section
namespace Go.Abs
section
variable {cx : Cx} {s : Sl} {hp : Hp} {ks : List KF} {P : AExit → St → Prop}
@[go_sem] theorem seqOf_cx (f : Nat) (caps : List AV) : zh2 cx (.fn f caps) = ask ((cx.spec f).it = true) (bnd (cx.call f (.yq :: caps)) elemsOf) := rfl
@[go_sem] theorem z20 (k n es os) : elemsOf (.sl k n es, os) = some es := rfl
@[go_sem] theorem zzz (p ps x xs) : zgt (p :: ps) (x :: xs) s = zgt ps xs ((p, x) :: s) := rfl
def krf (cx : Cx) (x : Option (List (List AV))) (ps : List Nat) (keep : List (Nat × H)) (a b : ACode) (vs : List AV) (ks : List KF) (P : AExit → St → Prop) : Prop :=
 W x fun es => W (arange (fun st => bnd (aexec cx a st) (zc0 (aexec cx b))) ps keep es vs) (kont cx ks P)
def krange (cx : Cx) (es : List (List AV)) (ps : List Nat) (keep : List (Nat × H)) (a b : ACode) (vs : List AV) (ks : List KF) (P : AExit → St → Prop) : Prop :=
 W (arange (fun st => bnd (aexec cx a st) (zc0 (aexec cx b))) ps keep es vs) (kont cx ks P)
def krpack (cx : Cx) (x : Option (List AV)) (t : Nat) (ps : List Nat) (keep : List (Nat × H)) (a b : ACode) (ks : List KF) (P : AExit → St → Prop) : Prop :=
 W x fun vs => krf cx (zh2 cx (get (zar keep vs [] []).sl t)) ps keep a b vs ks P
theorem zao {c : Prop} [Decidable c] {x : Option (List AV)} {t ps keep} {a b : ACode} (h1 : c) (h0 : krpack cx x t ps keep a b ks P) : krpack cx (ask c x) t ps keep a b ks P := by rw [ze1 x h1]; exact h0
def krr (cx : Cx) (keep : List (Nat × H)) (Ψ : List AV → Prop) (ks : List KF) (P : AExit → St → Prop) (e : AExit) (st : St) : Prop :=
 match e with
 | .normal => kpk (zcp keep st.sl st.hp) Ψ
 | e => kpk (zcp keep st.sl st.hp) fun vs => kont cx ks P (e, zar keep vs [] [])
@[go_sem] theorem z11 (keep Ψ) : krr cx keep Ψ ks P .normal ⟨s, hp⟩ ↔ kpk (zcp keep s hp) Ψ := Iff.rfl
@[go_sem] theorem krr_exit (keep Ψ id) : krr cx keep Ψ ks P (.exit id) ⟨s, hp⟩ ↔ kpk (zcp keep s hp) fun vs => kont cx ks P (.exit id, zar keep vs [] []) := Iff.rfl
@[go_sem] theorem krr_ret (keep Ψ) : krr cx keep Ψ ks P .ret ⟨s, hp⟩ ↔ kpk (zcp keep s hp) fun vs => kont cx ks P (.ret, zar keep vs [] []) := Iff.rfl
end
def mdk : Option Nat → Nat → YM
 | none, _ => .go
 | some n, k => .cnt (n - k)
section
variable {cx : Cx} {s : Sl} {hp : Hp} {ks : List KF} {P : AExit → IS → Prop} {tr : List (List AV)} {md : YM}
def ikont (cx : Cx) : List KF → (AExit → IS → Prop) → AExit × IS → Prop
 | [], P, r => P r.1 r.2
 | .code c :: ks, P, r => W (zdb (iexec cx true c) r) (ikont cx ks P)
 | .norm c :: ks, P, r => W (zbz (iexec cx true c) r) (ikont cx ks P)
 | .out id :: ks, P, r => W (ze5 id r) (ikont cx ks P)
def ikexec (cx : Cx) (c : ACode) (ks : List KF) (P : AExit → IS → Prop) (s : IS) : Prop := W (iexec cx true c s) (ikont cx ks P)
def ikreg (cx : Cx) (l : List AIns) (ks : List KF) (P : AExit → IS → Prop) (s : IS) : Prop := W (ireg cx l s) fun s => ikont cx ks P (.normal, s)
def ikop (cx : Cx) (x : Option Fx) (d : Option Nat) (l : List AIns) (ks : List KF) (P : AExit → IS → Prop) (s : Sl) (tr : List (List AV)) (md : YM) : Prop := W x fun fx => ikreg cx l ks P ⟨⟨put s d fx.val, fx.hp⟩, tr, md⟩
def iky (cx : Cx) (y : Option (List AV)) (d : Option Nat) (op : AOp) (l : List AIns) (ks : List KF) (P : AExit → IS → Prop) (s : Sl) (hp : Hp) (tr : List (List AV)) (md : YM) : Prop :=
 match y with
 | some args => W (iyield d args ⟨⟨s, hp⟩, tr, md⟩) (ikreg cx l ks P)
 | none => ikop cx (aop cx op (d.getD 0) s hp) d l ks P s tr md
def ikdraw (cx : Cx) (l : List AIns) (acc : List (List Nat × List Nat)) (ps : List (Nat × Nat)) (ks : List KF) (P : AExit → IS → Prop) (st : St) (tr : List (List AV)) (md : YM) : Prop :=
 W (adraw cx l acc st) fun x => zci x.2 ps = true ∧ ikont cx ks P (.normal, ⟨x.1, tr, md⟩)
def ikopd (cx : Cx) (x : Option Fx) (d : Option Nat) (l : List AIns) (acc : List (List Nat × List Nat)) (ps : List (Nat × Nat)) (ks : List KF) (P : AExit → IS → Prop) (s : Sl) (tr : List (List AV)) (md : YM) : Prop :=
 W x fun fx => ikdraw cx l (acc ++ [(fx.rd, fx.wr)]) ps ks P ⟨put s d fx.val, fx.hp⟩ tr md
def ikcond (cx : Cx) (v : AV) (a b : ACode) (ks : List KF) (P : AExit → IS → Prop) (s : IS) : Prop := W (zj2 (iexec cx true a s) (iexec cx true b s) v) (ikont cx ks P)
def ikway (cx : Cx) (c : Bool) (a b : ACode) (ks : List KF) (P : AExit → IS → Prop) (s : IS) : Prop := match c with | true => ikexec cx a ks P s | false => ikexec cx b ks P s
def ikpack (cx : Cx) (x : Option (List AV)) (keep : List (Nat × H)) (c : ACode) (ks : List KF) (P : AExit → IS → Prop) (tr : List (List AV)) (md : YM) : Prop := W x fun vs => W (iloop true (iexec cx true c) keep vs tr md) (ikont cx ks P)
def ikloop (cx : Cx) (keep : List (Nat × H)) (c : ACode) (vs : List AV) (tr : List (List AV)) (md : YM) (ks : List KF) (P : AExit → IS → Prop) : Prop := W (iloop true (iexec cx true c) keep vs tr md) (ikont cx ks P)
@[go_sem] theorem z6k (e : AExit) (x : IS) : ikont cx [] P (e, x) ↔ P e x := Iff.rfl
theorem zap {c : ACode} {x : IS} (h : ikexec cx c ks P x) : ikont cx (.code c :: ks) P (.normal, x) := h
theorem zak {c : ACode} {x : IS} (h : ikexec cx c ks P x) : ikont cx (.norm c :: ks) P (.normal, x) := h
@[go_sem] theorem z1y (a b : ACode) (x : IS) : ikway cx true a b ks P x ↔ ikexec cx a ks P x := Iff.rfl
@[go_sem] theorem z0l (a b : ACode) (x : IS) : ikway cx false a b ks P x ↔ ikexec cx b ks P x := Iff.rfl
theorem zbc {c : Bool} {a b : ACode} {x : IS} (h1 : c = true → ikexec cx a ks P x) (h0 : c = false → ikexec cx b ks P x) : ikway cx c a b ks P x := by cases c; exact h0 rfl; exact h1 rfl
@[go_sem] theorem iky_none (d : Option Nat) (op : AOp) (l : List AIns) : iky cx none d op l ks P s hp tr md ↔ ikop cx (aop cx op (d.getD 0) s hp) d l ks P s tr md := Iff.rfl
def ikyd (cx : Cx) (x : Option (List AV × Hp)) (y : Option (Bool × YM)) (d : Option Nat) (l : List AIns) (ks : List KF) (P : AExit → IS → Prop) (s : Sl) (tr : List (List AV)) : Prop :=
 W x fun x => W y fun y => ikreg cx l ks P ⟨⟨put s d (.b y.1), deads x.2⟩, tr ++ [x.1], y.2⟩
theorem zbd {c : Prop} [Decidable c] {x : Option Fx} {d : Option Nat} {l : List AIns} (h1 : c) (h0 : ikop cx x d l ks P s tr md) : ikop cx (ask c x) d l ks P s tr md := by rw [ze1 x h1]; exact h0
theorem za0 {c : Prop} [Decidable c] {x : Option Fx} {d : Option Nat} {l : List AIns} {acc ps} (h1 : c) (h0 : ikopd cx x d l acc ps ks P s tr md) : ikopd cx (ask c x) d l acc ps ks P s tr md := by rw [ze1 x h1]; exact h0
theorem zaq {c : Prop} [Decidable c] {x : Option (List AV)} {keep} {b : ACode} (h1 : c) (h0 : ikpack cx x keep b ks P tr md) : ikpack cx (ask c x) keep b ks P tr md := by rw [ze1 x h1]; exact h0
def ikgd (cx : Cx) (x : Option Bool) (d : Option Nat) (op : AOp) (l : List AIns) (ks : List KF) (P : AExit → IS → Prop) (s : Sl) (hp : Hp) (tr : List (List AV)) (md : YM) : Prop :=
 W x fun b => match b with | true => iky cx (zaj s op) d op l ks P s hp tr md | false => ikreg cx l ks P ⟨⟨put s d undef, hp⟩, tr, md⟩
@[go_sem] theorem ya_mov (x) : zaj s (.mov x) = none := rfl
@[go_sem] theorem ya_pick (c a b) : zaj s (.pick c a b) = none := rfl
@[go_sem] theorem ya_boxi (x) : zaj s (.boxi x) = none := rfl
@[go_sem] theorem ya_box (x) : zaj s (.box x) = none := rfl
@[go_sem] theorem ya_alloc (z) : zaj s (.alloc z) = none := rfl
@[go_sem] theorem ya_build (z l) : zaj s (.build z l) = none := rfl
@[go_sem] theorem z4p (t z n l) : zaj s (.bslice t z n l) = none := rfl
@[go_sem] theorem ya_load (g n a) : zaj s (.load g n a) = none := rfl
@[go_sem] theorem ya_store (n a v) : zaj s (.store n a v) = none := rfl
@[go_sem] theorem ya_nilck (x) : zaj s (.nilck x) = none := rfl
@[go_sem] theorem ya_bin (o x y) : zaj s (.bin o x y) = none := rfl
@[go_sem] theorem ya_eqnil (k g x) : zaj s (.eqnil k g x) = none := rfl
@[go_sem] theorem ya_eqb (g x y) : zaj s (.eqb g x y) = none := rfl
@[go_sem] theorem ya_un (o x) : zaj s (.un o x) = none := rfl
@[go_sem] theorem ya_conv (c x) : zaj s (.conv c x) = none := rfl
@[go_sem] theorem ya_mkfn (f l) : zaj s (.mkfn f l) = none := rfl
@[go_sem] theorem ya_slice (n x a b c) : zaj s (.slice n x a b c) = none := rfl
@[go_sem] theorem ya_faddr (n x) : zaj s (.faddr n x) = none := rfl
@[go_sem] theorem ya_fld (g a b x) : zaj s (.fld g a b x) = none := rfl
@[go_sem] theorem ya_iaddr (n x i) : zaj s (.iaddr n x i) = none := rfl
@[go_sem] theorem ya_idx (x i) : zaj s (.idx x i) = none := rfl
@[go_sem] theorem ya_ext (x i) : zaj s (.ext x i) = none := rfl
@[go_sem] theorem ya_call (f l) : zaj s (.call f l) = none := rfl
@[go_sem] theorem ya_len (t x) : zaj s (.len t x) = none := rfl
@[go_sem] theorem ya_app (t n x y) : zaj s (.app t n x y) = none := rfl
@[go_sem] theorem z3q (t x y) : zaj s (.appstr t x y) = none := rfl
@[go_sem] theorem ya_appz (t z x n) : zaj s (.appz t z x n) = none := rfl
@[go_sem] theorem ya_copy (n x y) : zaj s (.copy n x y) = none := rfl
@[go_sem] theorem z16 (t z n) : zaj s (.mkslice t z n) = none := rfl
@[go_sem] theorem ya_mx (l) : zaj s (.mx l) = none := rfl
@[go_sem] theorem ya_mn (l) : zaj s (.mn l) = none := rfl
@[go_sem] theorem ya_clear (z x) : zaj s (.clear z x) = none := rfl
@[go_sem] theorem ya_frz (x) : zaj s (.frz x) = none := rfl
@[go_sem] theorem ya_mkmap  : zaj s (.mkmap) = none := rfl
@[go_sem] theorem ya_mget (k z o x y) : zaj s (.mget k z o x y) = none := rfl
@[go_sem] theorem ya_mput (k x y z) : zaj s (.mput k x y z) = none := rfl
@[go_sem] theorem ya_fail  : zaj s (.fail) = none := rfl
@[go_sem] theorem yaV_yl (l) : yaV .yl l = some l := rfl
@[go_sem] theorem yaV_fn (f c l) : yaV (.fn f c) l = none := rfl
@[go_sem] theorem zsp (x l) : zaj s (.callv x l) = yaV (ev s x) (evs s l) := rfl
end
def igfin (es : List (List AV)) (o : Option Nat) (e : AExit) (x : IS) : Prop :=
 (∀ id, e ≠ .exit id) ∧ x.tr = (match o with | none => es | some n => es.take (n + 1)) ∧ x.md = (match o with | none => .go | some _ => .off)
section
variable {cx : Cx} {s : Sl} {hp : Hp} {ks : List KF} {P : AExit → IS → Prop}
def ikrd (cx : Cx) (keep : List (Nat × H)) (Ψ : List AV → List (List AV) → YM → Prop) (ks : List KF) (P : AExit → IS → Prop) (e : AExit) (x : IS) : Prop :=
 match e with
 | .normal => kpk (zcp keep x.st.sl x.st.hp) fun vs => Ψ vs x.tr x.md
 | e => ikont cx ks P (e, x)
@[go_sem] theorem zz1 (keep Ψ tr md) : ikrd cx keep Ψ ks P .normal ⟨⟨s, hp⟩, tr, md⟩ ↔ kpk (zcp keep s hp) fun vs => Ψ vs tr md := Iff.rfl
@[go_sem] theorem z3o (keep Ψ id x) : ikrd cx keep Ψ ks P (.exit id) x ↔ ikont cx ks P (.exit id, x) := Iff.rfl
@[go_sem] theorem ikrd_ret (keep Ψ x) : ikrd cx keep Ψ ks P .ret x ↔ ikont cx ks P (.ret, x) := Iff.rfl
@[go_sem] theorem zye (keep vs) : unpackY true keep vs = ⟨(0, .yl) :: (zar keep vs [] []).sl, (zar keep vs [] []).hp⟩ := rfl
@[go_sem] theorem z6d : deads [] = [] := rfl
@[go_sem] theorem z29 (k b r) : deads ((k, .live b) :: r) = (k, .dead (b.ver + 1)) :: deads r := rfl
@[go_sem] theorem z2f (k n r) : deads ((k, .dead n) :: r) = (k, .dead n) :: deads r := rfl
@[go_sem] theorem frzs_nil : frzs [] hp = some ([], hp) := rfl
@[go_sem] theorem z6o (v r) : frzs (v :: r) hp = bnd (frz v hp) fun x => bnd (frzs r x.2.2) fun y => some (x.1 :: y.1, y.2) := rfl
@[go_sem] theorem z6u (k) : unpack .yl k hp = (.yl, k, hp) := rfl
end
section
variable {cx : Cx} {s : Sl} {hp : Hp} {ks : List KF} {P : AExit → IS → Prop} {tr : List (List AV)} {md : YM}
def ikrf (cx : Cx) (x : Option (List (List AV))) (ps : List Nat) (keep : List (Nat × H)) (a b : ACode) (vs : List AV) (ks : List KF) (P : AExit → IS → Prop) (tr : List (List AV)) (md : YM) : Prop :=
 W x fun es => W (irange true (fun s => bnd (iexec cx true a s) (zbz (iexec cx true b))) ps keep es vs tr md) (ikont cx ks P)
def ikrange (cx : Cx) (es : List (List AV)) (ps : List Nat) (keep : List (Nat × H)) (a b : ACode) (vs : List AV) (ks : List KF) (P : AExit → IS → Prop) (tr : List (List AV)) (md : YM) : Prop :=
 W (irange true (fun s => bnd (iexec cx true a s) (zbz (iexec cx true b))) ps keep es vs tr md) (ikont cx ks P)
def ikrpack (cx : Cx) (x : Option (List AV)) (t : Nat) (ps : List Nat) (keep : List (Nat × H)) (a b : ACode) (ks : List KF) (P : AExit → IS → Prop) (tr : List (List AV)) (md : YM) : Prop :=
 W x fun vs => ikrf cx (zh2 cx (get (zar keep vs [] []).sl t)) ps keep a b vs ks P tr md
def ikrr (cx : Cx) (keep : List (Nat × H)) (Ψ : List AV → List (List AV) → YM → Prop) (ks : List KF) (P : AExit → IS → Prop) (e : AExit) (x : IS) : Prop :=
 match e with
 | .normal => kpk (zcp keep x.st.sl x.st.hp) fun vs => Ψ vs x.tr x.md
 | e => kpk (zcp keep x.st.sl x.st.hp) fun vs => ikont cx ks P (e, ⟨unpackY true keep vs, x.tr, x.md⟩)
@[go_sem] theorem z1o (keep Ψ tr md) : ikrr cx keep Ψ ks P .normal ⟨⟨s, hp⟩, tr, md⟩ ↔ kpk (zcp keep s hp) fun vs => Ψ vs tr md := Iff.rfl
@[go_sem] theorem z53 (keep Ψ id tr md) : ikrr cx keep Ψ ks P (.exit id) ⟨⟨s, hp⟩, tr, md⟩ ↔ kpk (zcp keep s hp) fun vs => ikont cx ks P (.exit id, ⟨unpackY true keep vs, tr, md⟩) := Iff.rfl
@[go_sem] theorem ikrr_ret (keep Ψ tr md) : ikrr cx keep Ψ ks P .ret ⟨⟨s, hp⟩, tr, md⟩ ↔ kpk (zcp keep s hp) fun vs => ikont cx ks P (.ret, ⟨unpackY true keep vs, tr, md⟩) := Iff.rfl
end
end Go.Abs
end
