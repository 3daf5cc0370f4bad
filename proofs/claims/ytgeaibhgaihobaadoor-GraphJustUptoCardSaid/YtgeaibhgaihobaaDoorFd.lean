import Derived.Test.YtgeaibhgaihobaaDoorFe
import Derived.KernelRfl
import Derived.Laws.IdiomCopy
import Derived.Laws.CopyRow
import Derived.Deep.Slices
import Derived.ChangeSame
import Derived.JoinedCond
import Derived.WideKeyArgs
import Derived.RowKit
import Derived.Lib.Bytealg
import Derived.Attr
set_option linter.unusedSimpArgs false
set_option linter.unusedVariables false
section
set_option linter.unusedSimpArgs false
set_option linter.unusedVariables false
namespace Go.Abs
def eqAs (f : AV → AV → Bool) : List AV → List AV → Bool
  | [], [] => true
  | a :: r, b :: s => f a b && eqAs f r s
  | _, _ => false
def eqAss (f : AV → AV → Bool) : List (List AV) → List (List AV) → Bool
  | [], [] => true
  | a :: r, b :: s => eqAs f a b && eqAss f r s
  | _, _ => false
def eqA : Nat → AV → AV → Bool
  | 0, _, _ => false
  | _ + 1, .i k a, .i k' b => decide (k = k') && decide (a = b)
  | _ + 1, .b a, .b b => decide (a = b)
  | _ + 1, .str a, .str b => decide (a = b)
  | n + 1, .sl k z es, .sl k' z' es' => decide (k = k') && (decide (z = z') && eqAss (eqA n) es es')
  | n + 1, .agg a, .agg b => eqAs (eqA n) a b
  | _ + 1, .nilp, .nilp => true
  | _ + 1, .nilf, .nilf => true
  | _, _, _ => false
theorem eqAs_eq {f : AV → AV → Bool} (h : ∀ a b, f a b = true → a = b) : ∀ {a b : List AV}, eqAs f a b = true → a = b
  | [], [], _ => rfl
  | a :: r, b :: s, e => by
    simp only [eqAs, Bool.and_eq_true] at e
    rw [h _ _ e.1, eqAs_eq h e.2]
  | [], _ :: _, e => by simp [eqAs] at e
  | _ :: _, [], e => by simp [eqAs] at e
theorem eqAss_eq {f : AV → AV → Bool} (h : ∀ a b, f a b = true → a = b) : ∀ {a b : List (List AV)}, eqAss f a b = true → a = b
  | [], [], _ => rfl
  | a :: r, b :: s, e => by
    simp only [eqAss, Bool.and_eq_true] at e
    rw [eqAs_eq h e.1, eqAss_eq h e.2]
  | [], _ :: _, e => by simp [eqAss] at e
  | _ :: _, [], e => by simp [eqAss] at e
theorem eqA_eq : ∀ (n : Nat) (a b : AV), eqA n a b = true → a = b
  | 0, _, _, e => by simp [eqA] at e
  | n + 1, a, b, e => by
    cases a <;> cases b <;> simp only [eqA, Bool.false_eq_true, Bool.and_eq_true, decide_eq_true_eq] at e
    · rw [e.1, e.2]
    · rw [e]
    · rw [e]
    · rw [e.1, e.2.1, eqAss_eq (eqA_eq n) e.2.2]
    · rw [eqAs_eq (eqA_eq n) e]
    · rfl
    · rfl
def xexec (L : Nat) (cx : Cx) : ACode → St → Res
  | .skip, st => some (.normal, st)
  | .reg l, st => bnd (areg cx l st) fun st => some (.normal, st)
  | .draw l ps, st => bnd (adraw cx l [] st) fun x => ask (apartAll x.2 ps = true) (some (.normal, x.1))
  | .seq a b, st => bnd (xexec L cx a st) (andThen (xexec L cx b))
  | .cond c a b, st => condV (xexec L cx a st) (xexec L cx b st) (ev st.sl c)
  | .block id c, st => bnd (xexec L cx c st) (outOf id)
  | .loop keep c, st => bnd (packK keep st.sl st.hp) fun vs => aloopN (xexec L cx c) keep L vs
  | .rangef t ps keep a b, st => bnd (packK keep st.sl st.hp) fun vs => bnd (seqOf cx (get (unpackK keep vs [] []).sl t)) fun es => arange (fun st => bnd (xexec L cx a st) (andNorm (xexec L cx b))) ps keep es vs
  | .exit id, st => some (.exit id, st)
  | .ret, st => some (.ret, st)
  | .fail, _ => none
def xbody (L : Nat) (cx : Cx) (fs : FSpec) (f : AFun) (args : List AV) : Option (AV × List AV) :=
  bnd (xexec L cx f.body (unpackP 0 args [] [])) fun x => bnd (notExit x) fun st => answer fs f.nparams f.res st
def ixexec (L : Nat) (cx : Cx) (it : Bool) : ACode → IS → IRes
  | .skip, s => some (.normal, s)
  | .reg l, s => bnd (ireg cx l s) fun s => some (.normal, s)
  | .draw l ps, s => bnd (adraw cx l [] s.st) fun x => ask (apartAll x.2 ps = true) (some (.normal, s.at x.1))
  | .seq a b, s => bnd (ixexec L cx it a s) (iandThen (ixexec L cx it b))
  | .cond c a b, s => icondV (ixexec L cx it a s) (ixexec L cx it b s) (ev s.st.sl c)
  | .block id c, s => bnd (ixexec L cx it c s) (ioutOf id)
  | .loop keep c, s => bnd (packK keep s.st.sl s.st.hp) fun vs => iloopN it (ixexec L cx it c) keep L vs s.tr s.md
  | .rangef t ps keep a b, s => bnd (packK keep s.st.sl s.st.hp) fun vs => bnd (seqOf cx (get (unpackK keep vs [] []).sl t)) fun es => irange it (fun s => bnd (ixexec L cx it a s) (iandNorm (ixexec L cx it b))) ps keep es vs s.tr s.md
  | .exit id, s => some (.exit id, s)
  | .ret, s => some (.ret, s)
  | .fail, _ => none
def xirun (L : Nat) (cx : Cx) (fn : AFun) (caps : List AV) (md : YM) : Option IS := ifin (ixexec L cx true fn.body ⟨unpackP 0 (.yl :: caps) [] [], [], md⟩)
def xstop (es : List (List AV)) (n : Nat) : Option IS → Bool
  | some s => eqAss (eqA 9) s.tr (es.take (n + 1)) && s.md.isOff
  | none => false
def xstops (L : Nat) (cx : Cx) (fn : AFun) (caps : List AV) (es : List (List AV)) : Nat → Bool
  | 0 => true
  | n + 1 => xstop es n (xirun L cx fn caps (.cnt n)) && xstops L cx fn caps es n
def xgive (L : Nat) (cx : Cx) (fs : FSpec) (fn : AFun) : List AV → Option (AV × List AV)
  | .yq :: caps => bnd (xirun L cx fn caps .go) fun s => ask ((fn.res.isEmpty && (s.md.isGo && (io0 fs.pm && (flats caps && xstops L cx fn caps s.tr s.tr.length)))) = true) (some (.sl .open_ 0 s.tr, []))
  | _ => none
def xcallF (L : Nat) (S : Sys) (call : Nat → List AV → Option (AV × List AV)) (f : Nat) (args : List AV) : Option (AV × List AV) :=
  match (S.spec f).it with
  | true => bnd (S.fs f) fun fn => ask (args.length = fn.nparams) (xgive L (cxOf S call) (S.spec f) fn args)
  | false => match S.prim f with
    | some p => p args
    | none => bnd (S.fs f) fun fn => ask (args.length = fn.nparams) (xbody L (cxOf S call) (S.spec f) fn args)
def xcall (L : Nat) (S : Sys) : Nat → Nat → List AV → Option (AV × List AV)
  | 0, _, _ => none
  | n + 1, f, args => xcallF L S (xcall L S n) f args
theorem xexec_ok {L : Nat} {cx : Cx} : ∀ {k : ACode} {st : St} {r : AExit × St}, xexec L cx k st = some r → aexec cx k st = some r := by
  intro k
  induction k with
  | seq a b iha ihb =>
    intro st r e
    simp only [xexec, aexec, bnd_eq_some] at e ⊢
    obtain ⟨⟨ex, s1⟩, hx, e⟩ := e
    refine ⟨_, iha hx, ?_⟩
    cases ex <;> simp only [andThen] at e ⊢ <;> try exact e
    exact ihb e
  | cond cc a b iha ihb =>
    intro st r e
    simp only [xexec, aexec] at e ⊢
    revert e
    generalize ev st.sl cc = v
    intro e
    cases v <;> simp only [condV] at e ⊢ <;> try exact e
    rename_i t
    cases t with
    | true => exact iha e
    | false => exact ihb e
  | block id a iha =>
    intro st r e
    simp only [xexec, aexec, bnd_eq_some] at e ⊢
    obtain ⟨x, hx, e⟩ := e
    exact ⟨x, iha hx, e⟩
  | loop keep a iha =>
    intro st r e
    simp only [xexec, aexec, bnd_eq_some] at e ⊢
    obtain ⟨vs, hv, e⟩ := e
    exact ⟨vs, hv, aloop_of (aloopN_body (fun st r e => iha e) e)⟩
  | rangef t ps keep a b iha ihb =>
    intro st r e
    simp only [xexec, aexec, bnd_eq_some] at e ⊢
    obtain ⟨vs, hv, es, hs, e⟩ := e
    refine ⟨vs, hv, es, hs, arange_body (fun st r e => ?_) e⟩
    simp only [bnd_eq_some] at e ⊢
    obtain ⟨⟨ex, s1⟩, h1, e⟩ := e
    refine ⟨_, iha h1, ?_⟩
    cases ex <;> simp only [andNorm] at e ⊢ <;> try exact e
    exact ihb e
  | _ => intro st r e; exact e
theorem ixexec_ok {L : Nat} {cx : Cx} {it : Bool} : ∀ {k : ACode} {s : IS} {r : AExit × IS}, ixexec L cx it k s = some r → iexec cx it k s = some r := by
  intro k
  induction k with
  | seq a b iha ihb =>
    intro st r e
    simp only [ixexec, iexec, bnd_eq_some] at e ⊢
    obtain ⟨⟨ex, s1⟩, hx, e⟩ := e
    refine ⟨_, iha hx, ?_⟩
    cases ex <;> simp only [iandThen] at e ⊢ <;> try exact e
    exact ihb e
  | cond cc a b iha ihb =>
    intro st r e
    simp only [ixexec, iexec] at e ⊢
    revert e
    generalize ev st.st.sl cc = v
    intro e
    cases v <;> simp only [icondV] at e ⊢ <;> try exact e
    rename_i t
    cases t with
    | true => exact iha e
    | false => exact ihb e
  | block id a iha =>
    intro st r e
    simp only [ixexec, iexec, bnd_eq_some] at e ⊢
    obtain ⟨x, hx, e⟩ := e
    exact ⟨x, iha hx, e⟩
  | loop keep a iha =>
    intro st r e
    simp only [ixexec, iexec, bnd_eq_some] at e ⊢
    obtain ⟨vs, hv, e⟩ := e
    exact ⟨vs, hv, iloop_of (iloopN_body (fun st r e => iha e) e)⟩
  | rangef t ps keep a b iha ihb =>
    intro st r e
    simp only [ixexec, iexec, bnd_eq_some] at e ⊢
    obtain ⟨vs, hv, es, hs, e⟩ := e
    refine ⟨vs, hv, es, hs, irange_body (fun st r e => ?_) e⟩
    simp only [bnd_eq_some] at e ⊢
    obtain ⟨⟨ex, s1⟩, h1, e⟩ := e
    refine ⟨_, iha h1, ?_⟩
    cases ex <;> simp only [iandNorm] at e ⊢ <;> try exact e
    exact ihb e
  | _ => intro st r e; exact e
theorem xirun_ok {L : Nat} {cx : Cx} {fn : AFun} {caps : List AV} {md : YM} {s : IS} (e : xirun L cx fn caps md = some s) : irun cx fn caps md = some s := by
  unfold xirun at e
  unfold irun
  obtain ⟨ex, hx, hne⟩ := ifin_some e
  rw [ixexec_ok hx]
  rw [hx] at e
  exact e
theorem xstops_ok {L : Nat} {cx : Cx} {fn : AFun} {caps : List AV} {es : List (List AV)} : ∀ (m : Nat), xstops L cx fn caps es m = true → ∀ n, n < m → ∃ s, irun cx fn caps (.cnt n) = some s ∧ s.tr = es.take (n + 1) ∧ s.md.isOff = true
  | 0, _, n, hn => by omega
  | m + 1, e, n, hn => by
    simp only [xstops, Bool.and_eq_true] at e
    by_cases h : n = m
    · subst h
      have e1 := e.1
      cases hx : xirun L cx fn caps (.cnt n) with
      | none => rw [hx] at e1; cases e1
      | some s =>
        rw [hx] at e1
        simp only [xstop, Bool.and_eq_true] at e1
        exact ⟨s, xirun_ok hx, eqAss_eq (eqA_eq 9) e1.1, e1.2⟩
    · exact xstops_ok m e.2 n (by omega)
theorem xgive_ok {L : Nat} {cx : Cx} {fs : FSpec} {fn : AFun} {args : List AV} {r : AV × List AV} (e : xgive L cx fs fn args = some r) : igive cx fs fn args = some r := by
  unfold xgive at e
  split at e
  · unfold igive
    simp only [bnd_eq_some, ask_some, Bool.and_eq_true] at e ⊢
    obtain ⟨s, hs, ⟨h1, h2, h3, h4, h5⟩, hr⟩ := e
    exact ⟨s, xirun_ok hs, ⟨h1, h2, h3, h4, xstops_ok _ h5⟩, hr⟩
  · cases e
theorem xcall_le {L : Nat} {S : Sys} : ∀ n, CFLe (xcall L S n) (acallN S n)
  | 0 => fun f args r e => by simp [xcall] at e
  | n + 1 => fun f args r e => by
    have h := xcall_le (L := L) (S := S) n
    simp only [xcall, acallN] at e ⊢
    refine acallF_le h f args r ?_
    unfold xcallF at e
    unfold acallF
    cases hit : (S.spec f).it with
    | true =>
      simp only [hit, bnd_eq_some, ask_some] at e ⊢
      obtain ⟨fn, hf, hl, e⟩ := e
      exact ⟨fn, hf, hl, xgive_ok e⟩
    | false =>
      simp only [hit] at e ⊢
      split
      · rename_i p hp
        rw [hp] at e
        exact e
      · rename_i hp
        rw [hp] at e
        simp only [bnd_eq_some, ask_some] at e ⊢
        obtain ⟨fn, hf, hl, e⟩ := e
        refine ⟨fn, hf, hl, ?_⟩
        unfold xbody at e
        unfold abody
        simp only [bnd_eq_some] at e ⊢
        obtain ⟨x, hx, e⟩ := e
        exact ⟨x, xexec_ok hx, e⟩
theorem acall_run (L n : Nat) {S : Sys} {f : Nat} {args : List AV} {r : AV × List AV} (h : xcall L S n f args = some r) : acall S f args = some r := acall_of_N (xcall_le n f args r h)
end Go.Abs
end
section
set_option linter.unusedSimpArgs false
set_option linter.unusedVariables false
namespace Go.Abs
theorem run_copy_cellsN {P : Program} (w : World) (dT sT ty elem : TypeId) (b o dLen dCap : Nat) (a : Addr) (sLen sCap : Nat) (cs : List Value) {i : TypeInfo}
    (hu : P.underlying dT = some (.slice elem)) (hi : P.info? elem = some i) (hn : cs.length = Nat.min sLen dLen * i.size)
    (hsrc : ∀ j v, cs[j]? = some v → w.cell? (a.add j) = some v) (hc : ∀ j, j < cs.length → (w.cell? ⟨b, o + j, none⟩).isSome = true) (hf : ∀ j, j < cs.length → w.frozen? ⟨b, o + j, none⟩ = false) (h1 : ∀ v ∈ cs, v.oneCell' = true) :
    (Builtin.copy_ #[dT, sT] ty #[.slice (some ⟨b, o, none⟩) dLen dCap, .slice (some a) sLen sCap]).run P w = .ok (goInt (Nat.min sLen dLen : Nat)) (w.setCells b o cs) := by
  have hl := run_loadCells_list (P := P) w a cs hsrc
  have hst := run_storeCells_cells (P := P) b o cs 0 w (by simpa using hc) (by simpa using hf) h1
  rw [hn] at hl
  simp [Builtin.copy_, run_underlying hu, Builtin.lenOf, Builtin.firstCells, sizeOf, typeInfo, hi, hl, hst]
theorem setCells_row {w : World} {g o : Nat} {vs : List Value} {cur : Array Value} {t : TypeId} (hg : w.heap[g]? = some (.cells cur t (0, 0))) (hl : o + vs.length ≤ cur.size) (h1 : ∀ v ∈ vs, v.oneCell' = true) :
    w.setCells g o vs = w.setRow g (cur.toList.take o ++ vs ++ cur.toList.drop (o + vs.length)).toArray := by
  have h2 := storeCells_run (P := (default : Program)) (o := o) (us := vs) hg hl h1
  have h3 := run_storeCells_cells (P := (default : Program)) g o vs 0 w (fun j hj => by
    have : o + j < cur.size := by omega
    rw [Nat.add_zero, cell_of_row w g (o + j) cur t _ hg]
    rw [Array.getElem?_eq_getElem this]; rfl) (fun j hj => by simp [World.frozen?, hg]) h1
  rw [h2] at h3
  injection h3 with _ h3
  rw [Nat.add_zero] at h3
  exact h3.symm
theorem ins_cells {arr : Array Value} {vs rest us : List Value} {a k l : Nat} (h : arr.toList = vs ++ rest) (hl : vs.length = l) (ha : a ≤ l) (hk : us.length = k) (hfit : l + k ≤ arr.size) :
    ((((arr.toList.take (a + k) ++ vs.drop a ++ arr.toList.drop (a + k + (l - a))).toArray.toList.take a ++ us ++ (arr.toList.take (a + k) ++ vs.drop a ++ arr.toList.drop (a + k + (l - a))).toArray.toList.drop (a + k)).toArray).toList
      = (vs.take a ++ us ++ vs.drop a) ++ rest.drop k) := by
  have hs : arr.size = l + rest.length := by rw [← Array.length_toList, h, List.length_append, hl]
  have h1 : (arr.toList.take (a + k)).length = a + k := by rw [List.length_take, Array.length_toList]; omega
  simp only [List.toList_toArray]
  have e1 : (arr.toList.take (a + k) ++ vs.drop a ++ arr.toList.drop (a + k + (l - a))).take a = vs.take a := by
    rw [List.append_assoc, List.take_append_of_le_length (by omega), List.take_take, Nat.min_eq_left (by omega), h, List.take_append_of_le_length (by omega)]
  have e2 : (arr.toList.take (a + k) ++ vs.drop a ++ arr.toList.drop (a + k + (l - a))).drop (a + k) = vs.drop a ++ rest.drop k := by
    rw [List.append_assoc, List.drop_append_of_le_length (by omega), List.drop_of_length_le (by omega), List.nil_append]
    congr 1
    rw [h, show a + k + (l - a) = l + k by omega, List.drop_append, List.drop_of_length_le (by omega), List.nil_append]
    congr 1
    omega
  rw [e1, e2]
  simp only [List.append_assoc]
theorem ins_place_brings {w : World} {Z : Nat → Prop} {gb vb sz ty n m c i : Nat} {arr : Array Value} {vs rest us : List Value} {es ys : List (List AV)} (hF : ¬ Z gb)
    (g1 : w.heap[gb]? = some (.cells arr ty (0, 0))) (h1 : arr.toList = vs ++ rest) (r1 : RepEs (Env.imm w (Zp Z [gb, vb])) sz es vs) (f1 : flatEs es = true) (o1 : onesEs es = true) (hn : es.length = n)
    (r2 : RepEs (Env.imm w (Zp Z [gb, vb])) sz ys us) (f2 : flatEs ys = true) (o2 : onesEs ys = true) (hm : ys.length = m) (hc : n + m ≤ c) (hs : c * sz ≤ arr.size) (hi : i ≤ n) (h0 : 0 < m) :
    Brings w Z [gb, vb] [] (.ow ty sz false (es.take i ++ ys ++ es.drop i), []) (.slice (some ⟨gb, 0, none⟩) (n + m) c) [gb] ((w.drew.setCells gb ((i + m) * sz) (vs.drop (i * sz))).setCells gb (i * sz) us) := by
  have hvl := r1.length
  have hul := r2.length
  rw [hn] at hvl
  rw [hm] at hul
  have hnm : (n + m) * sz ≤ c * sz := Nat.mul_le_mul_right _ hc
  have hnm2 : (n + m) * sz = n * sz + m * sz := Nat.add_mul _ _ _
  have him : (i + m) * sz = i * sz + m * sz := Nat.add_mul _ _ _
  have hin : i * sz ≤ n * sz := Nat.mul_le_mul_right _ hi
  have hd1 : (vs.drop (i * sz)).length = n * sz - i * sz := by rw [List.length_drop, hvl]
  have hfit1 : (i + m) * sz + (vs.drop (i * sz)).length ≤ arr.size := by rw [hd1]; omega
  have e1 := setCells_row (w := w.drew) (o := (i + m) * sz) g1 hfit1 fun v hv => RepEs.oneCell o1 r1 v (List.mem_of_mem_drop hv)
  have hg1 : w.drew.heap[gb]? = some (.cells arr ty (0, 0)) := g1
  obtain ⟨A1, hA1⟩ : ∃ A1, A1 = (arr.toList.take ((i + m) * sz) ++ vs.drop (i * sz) ++ arr.toList.drop ((i + m) * sz + (vs.drop (i * sz)).length)).toArray := ⟨_, rfl⟩
  rw [← hA1] at e1
  have hs1 : A1.size = arr.size := by rw [hA1]; exact toList_over arr _ _ hfit1
  have g2 := setRow_heap w.drew gb arr A1 ty (0, 0) hg1
  have hfit2 : i * sz + us.length ≤ A1.size := by rw [hul, hs1]; omega
  have e2 := setCells_row (o := i * sz) g2 hfit2 (RepEs.oneCell o2 r2)
  obtain ⟨A2, hA2⟩ : ∃ A2, A2 = (A1.toList.take (i * sz) ++ us ++ A1.toList.drop (i * sz + us.length)).toArray := ⟨_, rfl⟩
  rw [← hA2] at e2
  have hs2 : A2.size = arr.size := by rw [hA2, ← hs1]; exact toList_over A1 _ _ hfit2
  have hl2 : A2.toList = (vs.take (i * sz) ++ us ++ vs.drop (i * sz)) ++ rest.drop (m * sz) := by
    have := ins_cells (a := i * sz) (k := m * sz) (l := n * sz) h1 hvl hin hul (by omega)
    rw [hA2, hA1, hd1, him, hul]
    exact this
  rw [e1, e2, setRow_setRow]
  have hnew : (w.drew.setRow gb A2).heap[gb]? = some (.cells A2 ty (0, 0)) := setRow_heap w.drew gb arr A2 ty (0, 0) hg1
  have hoth : ∀ j, j ≠ gb → (w.drew.setRow gb A2).heap[j]? = w.heap[j]? := fun j hj => setRow_other w.drew gb j A2 hj
  have hsizes : ∀ g k, SizeIn w g k → SizeIn (w.drew.setRow gb A2) g k := fun g k h => sizeIn_setRow hg1 hs2 h
  have hce : ∀ b, ¬ Zp Z [gb, vb] b → ∀ off u, w.cell? ⟨b, off, none⟩ = some u → (w.drew.setRow gb A2).cell? ⟨b, off, none⟩ = some u ∧ ¬ Zp Z [gb] b := fun b hb off u hu => by
    have hbg : b ≠ gb := fun e => hb (.inr (by simp [e]))
    refine ⟨?_, fun h => hb (h.imp id fun h => by simp at h; simp [h])⟩
    rw [World.cell?_of_block (hoth b hbg)]
    exact hu
  have hes : es.take i ++ ys ++ es.drop i ≠ [] := fun e => by
    have := congrArg List.length e
    simp [hm] at this
    omega
  have hlen : (es.take i ++ ys ++ es.drop i).length = n + m := by simp [hn, hm]; omega
  have hmem : ∀ x ∈ es.take i ++ ys ++ es.drop i, x ∈ es ∨ x ∈ ys := by
    intro x hx
    simp only [List.mem_append] at hx
    rcases hx with (hx | hx) | hx
    · exact .inl (List.mem_of_mem_take hx)
    · exact .inr hx
    · exact .inl (List.mem_of_mem_drop hx)
  refine ⟨?_, by simp, fun j hj => ?_, by simp [World.setRow], rfl, rfl, rfl, hsizes, fun j hj hnF => hoth j fun e => hnF (by simp [e])⟩
  · simp only [RepPs, RepP]
    refine ⟨_, [], [gb], [], rfl, rfl, ⟨_, c, by rw [hlen], by simp, by simp, flatEs_iff.2 fun x hx => (hmem x hx).elim (flatEs_iff.1 f1 x) (flatEs_iff.1 f2 x), onesEs_iff.2 fun x hx => (hmem x hx).elim (onesEs_iff.1 o1 x) (onesEs_iff.1 o2 x), fun e => absurd e hes, fun _ => ?_⟩, rfl, rfl⟩
    refine ⟨gb, A2, _, _, rfl, rfl, hnew, hl2, ?_, by rw [hlen]; exact hc, by rw [hs2]; exact hs⟩
    exact (((r1.take i).append r2).append (r1.drop i)).imm hce hsizes
  · simp only [List.mem_singleton] at hj
    subst hj
    exact ⟨.inl (by simp), hF⟩
theorem ins_grow_brings {w : World} {Z : Nat → Prop} {gb vb sz ty n m G i : Nat} {z : Value} {vs us : List Value} {es ys : List (List AV)} (hz : ∀ i, Z i → i < w.heap.size) (hzs : z.cells.size = sz)
    (r1 : RepEs (Env.imm w (Zp Z [gb, vb])) sz es vs) (f1 : flatEs es = true) (o1 : onesEs es = true) (hn : es.length = n)
    (r2 : RepEs (Env.imm w (Zp Z [gb, vb])) sz ys us) (f2 : flatEs ys = true) (o2 : onesEs ys = true) (hm : ys.length = m) (hG : n + m ≤ G) (hi : i ≤ n) (h0 : 0 < m) :
    Brings w Z [gb, vb] [] (.ow ty sz false (es.take i ++ ys ++ es.drop i), []) (.slice (some ⟨w.heap.size, 0, none⟩) (n + m) G) [w.heap.size]
      ((((w.alloc (.cells ((vs.take (i * sz)).toArray ++ Builtin.zeroCells z.cells (n + m - i) ++ Builtin.zeroCells z.cells (G - (n + m))) ty)).drew.setCells w.heap.size (i * sz) us).drew).setCells w.heap.size ((i + m) * sz) (vs.drop (i * sz))) := by
  have hvl := r1.length
  have hul := r2.length
  rw [hn] at hvl
  rw [hm] at hul
  have hnm : (n + m) * sz ≤ G * sz := Nat.mul_le_mul_right _ hG
  have hnm2 : (n + m) * sz = n * sz + m * sz := Nat.add_mul _ _ _
  have him : (i + m) * sz = i * sz + m * sz := Nat.add_mul _ _ _
  have hin : i * sz ≤ n * sz := Nat.mul_le_mul_right _ hi
  obtain ⟨ROW, hROW⟩ : ∃ ROW : Array Value, ROW = (vs.take (i * sz)).toArray ++ Builtin.zeroCells z.cells (n + m - i) ++ Builtin.zeroCells z.cells (G - (n + m)) := ⟨_, rfl⟩
  have hRs : ROW.size = G * sz := by
    rw [hROW]
    simp only [Array.size_append, List.size_toArray, size_zeroCells, hzs, List.length_take, hvl]
    have e1 : (n + m - i) * sz = (n + m) * sz - i * sz := Nat.sub_mul _ _ _
    have e2 : (G - (n + m)) * sz = G * sz - (n + m) * sz := Nat.sub_mul _ _ _
    omega
  have hRt : ROW.toList.take (i * sz) = vs.take (i * sz) := by
    rw [hROW]
    simp only [Array.toList_append, List.append_assoc]
    rw [List.take_append_of_le_length (by simp only [List.toList_toArray, List.length_take, hvl]; omega)]
    simp [List.take_take]
  rw [← hROW]
  have g0 : (w.alloc (.cells ROW ty)).drew.heap[w.heap.size]? = some (.cells ROW ty (0, 0)) := heap_alloc_new w _
  have e1 := setCells_row (o := i * sz) g0 (by rw [hul, hRs]; omega) (RepEs.oneCell o2 r2)
  obtain ⟨B1, hB1⟩ : ∃ B1, B1 = (ROW.toList.take (i * sz) ++ us ++ ROW.toList.drop (i * sz + us.length)).toArray := ⟨_, rfl⟩
  rw [← hB1] at e1
  have hs1 : B1.size = G * sz := by rw [hB1, toList_over ROW _ _ (by rw [hul, hRs]; omega), hRs]
  have hd1 : (vs.drop (i * sz)).length = n * sz - i * sz := by rw [List.length_drop, hvl]
  rw [e1]
  have g2 : ((w.alloc (.cells ROW ty)).drew.setRow w.heap.size B1).drew.heap[w.heap.size]? = some (.cells B1 ty (0, 0)) := setRow_heap _ _ ROW B1 ty (0, 0) g0
  have e2 := setCells_row (o := (i + m) * sz) g2 (by rw [hd1, hs1]; omega) fun v hv => RepEs.oneCell o1 r1 v (List.mem_of_mem_drop hv)
  obtain ⟨B2, hB2⟩ : ∃ B2, B2 = (B1.toList.take ((i + m) * sz) ++ vs.drop (i * sz) ++ B1.toList.drop ((i + m) * sz + (vs.drop (i * sz)).length)).toArray := ⟨_, rfl⟩
  rw [← hB2] at e2
  have hs2 : B2.size = G * sz := by rw [hB2, toList_over B1 _ _ (by rw [hd1, hs1]; omega), hs1]
  have hl2 : B2.toList = (vs.take (i * sz) ++ us ++ vs.drop (i * sz)) ++ B1.toList.drop ((i + m) * sz + (vs.drop (i * sz)).length) := by
    rw [hB2, List.toList_toArray]
    congr 2
    rw [hB1, List.toList_toArray, hRt]
    have hlen : (vs.take (i * sz) ++ us).length = (i + m) * sz := by rw [List.length_append, List.length_take, hvl, hul]; omega
    rw [List.take_append_of_le_length (by omega), List.take_of_length_le (by omega)]
  rw [e2]
  obtain ⟨w', hw'⟩ : ∃ w', w' = ((w.alloc (.cells ROW ty)).drew.setRow w.heap.size B1).drew.setRow w.heap.size B2 := ⟨_, rfl⟩
  rw [← hw']
  have hnew : w'.heap[w.heap.size]? = some (.cells B2 ty (0, 0)) := by rw [hw']; exact setRow_heap _ _ B1 B2 ty (0, 0) g2
  have hoth : ∀ j, j < w.heap.size → w'.heap[j]? = w.heap[j]? := fun j hj => by
    rw [hw', setRow_other _ _ _ _ (by omega)]
    show ((w.alloc (.cells ROW ty)).drew.setRow w.heap.size B1).heap[j]? = _
    rw [setRow_other _ _ _ _ (by omega)]
    exact heap_alloc_old w _ hj
  have hsize : w.heap.size ≤ w'.heap.size := by
    have := heap_lt hnew
    omega
  have hsizes : ∀ g k, SizeIn w g k → SizeIn w' g k := fun g k h => by
    obtain ⟨a, t, fr, q1, q2⟩ := h
    exact ⟨a, t, fr, by rw [hoth g (heap_lt q1)]; exact q1, q2⟩
  have hce : ∀ b, ¬ Zp Z [gb, vb] b → ∀ off u, w.cell? ⟨b, off, none⟩ = some u → w'.cell? ⟨b, off, none⟩ = some u ∧ ¬ Zp Z [w.heap.size] b := fun b hb off u hu => by
    have hlt : b < w.heap.size := block_lt_of_cell hu
    refine ⟨?_, ?_⟩
    · rw [World.cell?_of_block (hoth b hlt)]
      exact hu
    · rintro (h | h)
      · exact hb (.inl h)
      · simp at h
        omega
  have hes : es.take i ++ ys ++ es.drop i ≠ [] := fun e => by
    have := congrArg List.length e
    simp [hm] at this
    omega
  have hlen : (es.take i ++ ys ++ es.drop i).length = n + m := by simp [hn, hm]; omega
  have hmem : ∀ x ∈ es.take i ++ ys ++ es.drop i, x ∈ es ∨ x ∈ ys := by
    intro x hx
    simp only [List.mem_append] at hx
    rcases hx with (hx | hx) | hx
    · exact .inl (List.mem_of_mem_take hx)
    · exact .inr hx
    · exact .inl (List.mem_of_mem_drop hx)
  refine ⟨?_, by simp, fun j hj => ?_, hsize, by rw [hw']; rfl, by rw [hw']; rfl, by rw [hw']; rfl, hsizes, fun j hj _ => hoth j hj⟩
  · simp only [RepPs, RepP]
    refine ⟨_, [], [w.heap.size], [], rfl, rfl, ⟨_, G, by rw [hlen], by simp, by simp, flatEs_iff.2 fun x hx => (hmem x hx).elim (flatEs_iff.1 f1 x) (flatEs_iff.1 f2 x), onesEs_iff.2 fun x hx => (hmem x hx).elim (onesEs_iff.1 o1 x) (onesEs_iff.1 o2 x), fun e => absurd e hes, fun _ => ?_⟩, rfl, rfl⟩
    refine ⟨w.heap.size, B2, _, _, rfl, rfl, hnew, hl2, ?_, by rw [hlen]; exact hG, by rw [hs2]; exact Nat.le_refl _⟩
    exact (((r1.take i).append r2).append (r1.drop i)).imm hce hsizes
  · simp only [List.mem_singleton] at hj
    subst hj
    exact ⟨.inr (Nat.le_refl _), fun h => by have := hz _ h; omega⟩
end Go.Abs
end
section
set_option linter.unusedSimpArgs false
set_option linter.unusedVariables false
namespace Go.Abs
def tiled (P : Program) : Nat → List Field → Bool
  | _, [] => true
  | off, f :: r => (f.offset == off) && tiled P (off + P.cellsOf f.type) r
def wide (P : Program) : List Field → Nat
  | [] => 0
  | f :: r => P.cellsOf f.type + wide P r
def fineU (P : Program) (L : List TypeId) (t : TypeId) : Bool := match P.underlying t with
    | some .bool => true
    | some (.int _) => true
    | some .string => true
    | some (.slice e) => decide (0 < P.cellsOf e) && L.contains e
    | some (.struct fs) => tiled P 0 fs.toList && (wide P fs.toList == P.cellsOf t) && fs.toList.all fun f => L.contains f.type
    | _ => false
def fineL (P : Program) (L : List TypeId) : Bool := L.all (fineU P L)
theorem fine_of {P : Program} {L : List TypeId} (h : fineL P L = true) {t : TypeId} (ht : L.contains t = true) : fineU P L t = true := List.all_eq_true.1 h t (by simpa using ht)
def Ty (P : Program) : Nat → TypeId → List AV → Prop
  | 0, _, _ => False
  | n + 1, t, cs => match P.underlying t with
    | some .bool => ∃ b, cs = [.b b]
    | some (.int k) => ∃ x, cs = [.i k x] ∧ (Lit.int k x).wf = true
    | some .string => ∃ l, cs = [.str l]
    | some (.slice e) => cs = [.sl .nil (P.cellsOf e) []] ∨ ∃ es, cs = [.sl .open_ (P.cellsOf e) es] ∧ ∀ x ∈ es, Ty P n e x
    | some (.struct fs) => cs.length = P.cellsOf t ∧ ∀ f ∈ fs.toList, Ty P n f.type ((cs.drop f.offset).take (P.cellsOf f.type))
    | _ => False
mutual
def bulkA : AV → Nat
  | .str l => l.length + 1
  | .sl _ _ es => bulkEs es + 1
  | _ => 1
def bulkAs : List AV → Nat
  | [] => 0
  | v :: r => bulkA v + bulkAs r
def bulkEs : List (List AV) → Nat
  | [] => 0
  | e :: r => bulkAs e + bulkEs r
end
mutual
def bulkD {H : Type} : DataW H → Nat
  | .lit (.string bytes) => bytes.length + 1
  | .lit _ => 1
  | .nil => 1
  | .ptr d => bulkD d + 1
  | .slice elems spare => bulkDs elems + bulkDs spare + 1
  | .agg parts => bulkDs parts + 1
  | .iface _ d => bulkD d + 1
  | .map _ => 1
  | .held _ => 1
def bulkDs {H : Type} : List (DataW H) → Nat
  | [] => 0
  | d :: r => bulkD d + bulkDs r
end
theorem bulkDs_mem {H : Type} {d : DataW H} : ∀ {l : List (DataW H)}, d ∈ l → bulkD d ≤ bulkDs l
  | [], h => by simp at h
  | x :: r, h => by
    simp only [bulkDs]
    rcases List.mem_cons.1 h with rfl | h
    · omega
    · have := bulkDs_mem h; omega
theorem bulkAs_append : ∀ (a b : List AV), bulkAs (a ++ b) = bulkAs a + bulkAs b
  | [], b => by simp [bulkAs]
  | x :: r, b => by simp only [List.cons_append, bulkAs, bulkAs_append r b]; omega
theorem cells_in {w : World} {base : Nat} {a : Addr} {n : Nat} {cs : List Value} (h : w.cells? base a n = some cs) : cs.length = n ∧ ∀ j v, cs[j]? = some v → w.cell? (a.add j) = some v := by
  unfold World.cells? at h
  split at h
  · have : ∀ (l : List Nat) (cs : List Value), (l.mapM fun i => w.cell? (a.add i)) = some cs → cs.length = l.length ∧ ∀ (j : Nat) v i, l[j]? = some i → cs[j]? = some v → w.cell? (a.add i) = some v := by
      intro l
      induction l with
      | nil => intro cs h; simp at h; subst h; exact ⟨rfl, fun j v i hi => by simp at hi⟩
      | cons x r ih =>
        intro cs h
        simp only [List.mapM_cons, Option.bind_eq_bind, Option.pure_def, Option.bind_eq_some_iff, Option.some.injEq] at h
        obtain ⟨v, hv, cs', hc, rfl⟩ := h
        obtain ⟨e1, e2⟩ := ih cs' hc
        refine ⟨by simp [e1], fun j v' i hi hj => ?_⟩
        cases j with
        | zero => simp at hi hj; subst hi; subst hj; exact hv
        | succ j => exact e2 j v' i (by simpa using hi) (by simpa using hj)
    obtain ⟨e1, e2⟩ := this _ _ h
    refine ⟨by simpa using e1, fun j v hj => ?_⟩
    have hlt := (List.getElem?_eq_some_iff.1 hj).1
    rw [e1, List.length_range] at hlt
    exact e2 j v j (List.getElem?_range hlt) hj
  · cases h
abbrev NoY : Nat → Prop := fun _ => False
section
variable {H : Type} {enc : TypeId × Value → H} {P : Program} {w : World} {base : Nat} {spare : Nat → Bool} {held : Bool}
theorem read_ok {L : List TypeId} (hL : fineL P L = true) : ∀ (m : Nat) (t : TypeId) (fuel : Nat) (cs : List Value) (x : DataW H × List MemPlace), bulkD x.1 < m → L.contains t = true → DataW.trod enc P w base spare held fuel t cs = some x →
    ∃ as, Reps (Env.imm w NoY) as cs ∧ flats as = true ∧ ones as = true ∧ Ty P m t as ∧ bulkAs as ≤ bulkD x.1
  | 0, t, fuel, cs, x, hm, h, _ => by omega
  | m + 1, t, fuel, cs, x, hm, hc, ht => by
    have h := fine_of hL hc
    unfold fineU at h
    split at h
    · rename_i hu
      obtain ⟨b, rfl, rfl⟩ := DataW.trod_bool hu ht
      refine ⟨[.b b], by simp [Reps, Rep], rfl, rfl, ?_, by simp [bulkAs, bulkA, bulkD]⟩
      unfold Ty
      rw [hu]
      exact ⟨b, rfl⟩
    · rename_i k hu
      obtain ⟨n, rfl, rfl, hw⟩ := DataW.trod_int hu ht
      refine ⟨[.i k n], by simp [Reps, Rep], rfl, rfl, ?_, by simp [bulkAs, bulkA, bulkD]⟩
      unfold Ty
      rw [hu]
      exact ⟨n, rfl, hw⟩
    · rename_i hu
      obtain ⟨s, rfl, rfl, hl⟩ := DataW.trod_string hu ht
      refine ⟨[.str s.data.toList], by simp [Reps, Rep], rfl, rfl, ?_, by simp [bulkAs, bulkA, bulkD]⟩
      unfold Ty
      rw [hu]
      exact ⟨_, rfl⟩
    · rename_i e hu
      simp only [Bool.and_eq_true, decide_eq_true_eq] at h
      obtain ⟨h0, hre⟩ := h
      rcases Deep.open_slice hu ht with ⟨rfl, rfl⟩ | ⟨a, len, cap, mm, n, D, Pl, rfl, hb, hlc, hcm, hmm, rfl, hel⟩
      · refine ⟨[.sl .nil (P.cellsOf e) []], by simp [Reps, Rep, flatEs, onesEs], rfl, rfl, ?_, by simp [bulkAs, bulkA, bulkD, bulkEs]⟩
        unfold Ty
        rw [hu]
        exact .inl rfl
      · have hlen : len ≤ mm := by rw [hmm]; split <;> omega
        have hDm : ∀ i, i < len → bulkD (D i) < m := by
          intro i hi
          have := bulkDs_mem (d := D i) (l := (List.range len).map D) (List.mem_map.2 ⟨i, by simpa using hi, rfl⟩)
          simp only [bulkD] at hm
          omega
        have go : ∀ (k off : Nat), off + k ≤ len → ∃ es vs, es.length = k ∧ RepEs (Env.imm w NoY) (P.cellsOf e) es vs ∧ flatEs es = true ∧ onesEs es = true ∧ (∀ x ∈ es, Ty P m e x) ∧ bulkEs es ≤ bulkDs ((List.range' off k).map D) ∧ vs.length = k * P.cellsOf e ∧
            ∀ j v, vs[j]? = some v → w.cell? (a.add (off * P.cellsOf e + j)) = some v := by
          intro k
          induction k with
          | zero => intro off _; exact ⟨[], [], rfl, by simp [RepEs], rfl, rfl, by simp, by simp [bulkEs], by simp, by simp⟩
          | succ k ih =>
            intro off hle
            obtain ⟨cs', hc, htr⟩ := hel off (by omega)
            obtain ⟨as, r1, r2, r3, r4, r5⟩ := read_ok hL m e n cs' (D off, Pl off) (hDm off (by omega)) hre htr
            obtain ⟨es, vs, k1, k2, k3, k4, k5, k6, k7, k8⟩ := ih (off + 1) (by omega)
            obtain ⟨c1, c2⟩ := cells_in hc
            have hal := r1.length
            refine ⟨as :: es, cs' ++ vs, by simp [k1], ?_, by simp [flatEs, r2, k3], by simp [onesEs, r3, k4], ?_, ?_, ?_, ?_⟩
            · simp only [RepEs]
              exact ⟨cs', vs, rfl, by omega, r1, k2⟩
            · intro x hx
              rcases List.mem_cons.1 hx with rfl | hx
              · exact r4
              · exact k5 x hx
            · simp only [bulkEs, List.range'_succ, List.map_cons, bulkDs]
              simp only at r5
              omega
            · simp only [List.length_append, c1, k7, Nat.succ_mul]; omega
            · intro j v hj
              by_cases hlt : j < cs'.length
              · rw [List.getElem?_append_left hlt] at hj
                have := c2 j v hj
                rwa [Deep.add_add] at this
              · rw [List.getElem?_append_right (by omega)] at hj
                have := k8 _ v hj
                rw [show (off + 1) * P.cellsOf e + (j - cs'.length) = off * P.cellsOf e + j by rw [Nat.succ_mul]; omega] at this
                exact this
        obtain ⟨es, vs, k1, k2, k3, k4, k5, k6, k7, k8⟩ := go len 0 (by omega)
        have hsp : es ≠ [] → ∃ b off, a = ⟨b, off, none⟩ := by
          intro hne
          have hl0 : 0 < len := by rw [← k1]; exact List.length_pos_iff.2 hne
          have hv0 : 0 < vs.length := by rw [k7]; exact Nat.mul_pos hl0 h0
          have h1 := k8 0 vs[0] (List.getElem?_eq_getElem hv0)
          have ha0 : a.add 0 = a := by simp [Addr.add]
          simp only [Nat.zero_mul, Nat.zero_add, ha0] at h1
          obtain ⟨b, off, sp⟩ := a
          cases sp with
          | none => exact ⟨b, off, rfl⟩
          | some q =>
            exfalso
            unfold World.cell? at h1
            split at h1 <;> simp at h1
        refine ⟨[.sl .open_ (P.cellsOf e) es], ?_, rfl, rfl, ?_, ?_⟩
        · simp only [Reps, Rep]
          refine ⟨_, [], rfl, ⟨some a, cap, by rw [k1], by omega, by simp, by simp, by simp, k3, k4, fun hne => ?_⟩, rfl⟩
          obtain ⟨b, off, rfl⟩ := hsp hne
          refine ⟨b, off, vs, rfl, fun j v hj => ⟨?_, by simp [Env.X, Env.imm]⟩, k2⟩
          have := k8 j v hj
          rwa [add_addr, Nat.zero_mul, Nat.zero_add] at this
        · unfold Ty
          rw [hu]
          exact .inr ⟨es, rfl, k5⟩
        · simp only [bulkAs, bulkA, bulkD]
          rw [← List.range_eq_range'] at k6
          omega
    · rename_i fs hu
      simp only [Bool.and_eq_true, beq_iff_eq, List.all_eq_true] at h
      obtain ⟨⟨htl, hwd⟩, hrf⟩ := h
      obtain ⟨xs, n, rfl, rfl, hlc, hxl, hxs⟩ := DataW.trod_struct hu ht
      have go : ∀ (l : List Field) (ys : List (DataW H × List MemPlace)) (off : Nat), tiled P off l = true → (∀ f ∈ l, L.contains f.type = true) → (∀ y ∈ ys, bulkD y.1 < m) → off + wide P l = cs.length → l.length = ys.length →
          (∀ (i : Nat) (f : Field), l[i]? = some f → DataW.trod enc P w base spare held n f.type ((cs.drop f.offset).take (P.cellsOf f.type)) = ys[i]?) →
          ∃ as, Reps (Env.imm w NoY) as (cs.drop off) ∧ flats as = true ∧ ones as = true ∧ (∀ f ∈ l, off ≤ f.offset ∧ Ty P m f.type ((as.drop (f.offset - off)).take (P.cellsOf f.type))) ∧ bulkAs as ≤ bulkDs (ys.map (·.1)) := by
        intro l
        induction l with
        | nil =>
          intro ys off _ _ _ hw _ _
          have hd : cs.drop off = [] := List.drop_of_length_le (by simp only [wide] at hw; omega)
          exact ⟨[], by rw [hd]; simp [Reps], rfl, rfl, by simp, by simp [bulkAs]⟩
        | cons f l ih =>
          intro ys off htl hrf hbm hw hly hys
          simp only [tiled, Bool.and_eq_true, beq_iff_eq] at htl
          obtain ⟨hfo, htl⟩ := htl
          cases ys with
          | nil => simp at hly
          | cons y ys =>
            have hy := hys 0 f rfl
            simp only [List.getElem?_cons_zero] at hy
            simp only [wide] at hw
            obtain ⟨as1, r1, r2, r3, r4, r5⟩ := read_ok hL m f.type n _ y (hbm y (by simp)) (hrf f (by simp)) hy
            obtain ⟨as2, q1, q2, q3, q4, q5⟩ := ih ys (off + P.cellsOf f.type) htl (fun f hf => hrf f (by simp [hf])) (fun y hy => hbm y (by simp [hy])) (by omega) (by simpa using hly) (fun i g hg => by simpa using hys (i + 1) g (by simpa using hg))
            have hl1 : as1.length = P.cellsOf f.type := by
              have := r1.length
              rw [List.length_take, List.length_drop] at this
              omega
            refine ⟨as1 ++ as2, ?_, by rw [flats_append, r2, q2]; rfl, by rw [ones_append, r3, q3]; rfl, ?_, ?_⟩
            · have := r1.append q1
              rw [hfo, ← List.drop_drop, List.take_append_drop] at this
              exact this
            · intro g hg
              rcases List.mem_cons.1 hg with rfl | hg
              · refine ⟨by omega, ?_⟩
                rw [hfo, Nat.sub_self, List.drop_zero, ← hl1, List.take_left]
                exact r4
              · obtain ⟨p1, p2⟩ := q4 g hg
                refine ⟨by omega, ?_⟩
                rw [show g.offset - off = as1.length + (g.offset - (off + P.cellsOf f.type)) by omega, ← List.drop_drop, List.drop_left]
                exact p2
            · rw [bulkAs_append]
              simp only [List.map_cons, bulkDs]
              omega
      obtain ⟨as, q1, q2, q3, q4, q5⟩ := go fs.toList xs 0 htl hrf (fun y hy => by
        have := bulkDs_mem (d := y.1) (l := xs.map (·.1)) (List.mem_map.2 ⟨y, hy, rfl⟩)
        simp only [bulkD] at hm
        omega) (by rw [hwd, hlc]; omega) (by simpa using hxl.symm) (fun i f hf => hxs i f (by simpa using hf))
      refine ⟨as, by simpa using q1, q2, q3, ?_, by simp only [bulkD]; omega⟩
      unfold Ty
      rw [hu]
      refine ⟨?_, fun f hf => by simpa using (q4 f hf).2⟩
      have := q1.length
      simp at this
      omega
    · cases h
def argOf (P : Program) (t : TypeId) (as : List AV) : AV := match P.underlying t with
  | some (.struct _) => .agg as
  | _ => as.headD .junk
theorem arg_rep {L : List TypeId} {t : TypeId} {v : Value} {W : World} {b0 : Nat} (hr : fineU P L t = true) (hv : Value.okWide P W .any b0 t v) {as : List AV} {E : Env} (h : Reps E as v.cells.toList) (ho : ones as = true) (hf : flats as = true) : Rep E (argOf P t as) v ∧ flat (argOf P t as) = true := by
  have one : v.cells = #[v] → (∀ fs, P.underlying t ≠ some (.struct fs)) → Rep E (argOf P t as) v ∧ flat (argOf P t as) = true := by
    intro hc hns
    rw [hc] at h
    cases as with
    | nil => simp [Reps] at h
    | cons a r =>
      simp only [Reps] at h
      obtain ⟨u, us, he, h1, h2⟩ := h
      injection he with he1 he2
      subst he1
      have ha : argOf P t (a :: r) = a := by
        unfold argOf
        split
        · rename_i fs hu; exact absurd hu (hns fs)
        · rfl
      rw [ha]
      simp only [flats, Bool.and_eq_true] at hf
      exact ⟨h1, hf.1⟩
  unfold fineU at hr
  unfold Value.okWide at hv
  split at hr
  · rename_i hu
    rw [hu] at hv
    refine one ?_ (by rw [hu]; simp)
    cases v with
    | agg cs => exfalso; simp only [Cell.okWide, hu, Cell.ok] at hv
    | _ => rfl
  · rename_i k hu
    rw [hu] at hv
    refine one ?_ (by rw [hu]; simp)
    cases v with
    | agg cs => exfalso; simp only [Cell.okWide, hu, Cell.ok] at hv
    | _ => rfl
  · rename_i hu
    rw [hu] at hv
    refine one ?_ (by rw [hu]; simp)
    cases v with
    | agg cs => exfalso; simp only [Cell.okWide, hu, Cell.ok] at hv
    | _ => rfl
  · rename_i e hu
    rw [hu] at hv
    refine one ?_ (by rw [hu]; simp)
    cases v with
    | agg cs => exfalso; simp only [Cell.okWide, hu, Cell.ok] at hv
    | _ => rfl
  · rename_i fs hu
    rw [hu] at hv
    obtain ⟨cs, rfl, _⟩ := hv
    unfold argOf
    rw [hu]
    simp only [Rep, flat]
    exact ⟨⟨cs, rfl, ho, h⟩, hf⟩
  · cases hr
end
section
variable {P : Program} {m : Nat} {t : TypeId} {cs : List AV}
theorem Ty.bool (h : Ty P m t cs) (hu : P.underlying t = some .bool) : ∃ b, cs = [.b b] := by
  cases m with
  | zero => exact h.elim
  | succ m => unfold Ty at h; rw [hu] at h; exact h
theorem Ty.int {k : IntKind} (h : Ty P m t cs) (hu : P.underlying t = some (.int k)) : ∃ x, cs = [.i k x] ∧ (Lit.int k x).wf = true := by
  cases m with
  | zero => exact h.elim
  | succ m => unfold Ty at h; rw [hu] at h; exact h
theorem Ty.str (h : Ty P m t cs) (hu : P.underlying t = some .string) : ∃ l, cs = [.str l] := by
  cases m with
  | zero => exact h.elim
  | succ m => unfold Ty at h; rw [hu] at h; exact h
theorem exists_map {α β : Type} {f : α → β} : ∀ {l : List β}, (∀ x ∈ l, ∃ a, x = f a) → ∃ r : List α, l = r.map f
  | [], _ => ⟨[], rfl⟩
  | b :: l, h => by
    obtain ⟨a, rfl⟩ := h b (by simp)
    obtain ⟨r, rfl⟩ := exists_map (l := l) (f := f) (fun x hx => h x (by simp [hx]))
    exact ⟨a :: r, rfl⟩
def OkS {α : Type} (k : SK) (z n : Nat) (l : List α) : Prop := (z = n ∨ l = []) ∧ (k = .nil → l = [])
theorem OkS.open_ {α : Type} (n : Nat) (l : List α) : OkS .open_ n n l := ⟨.inl rfl, by simp⟩
theorem OkS.sz {α : Type} {k : SK} {z n : Nat} {l : List α} (h : OkS k z n l) : z = n ∨ l = [] := h.1
theorem Ty.sl {α : Type} {e : TypeId} {z : Nat} {f : α → List AV} (h : Ty P m t cs) (hu : P.underlying t = some (.slice e)) (hz : P.cellsOf e = z) (g : ∀ n x, m = n + 1 → Ty P n e x → ∃ a, x = f a) :
    ∃ (k : SK) (l : List α), cs = [.sl k z (l.map f)] ∧ OkS k z z l := by
  cases m with
  | zero => exact h.elim
  | succ m =>
    unfold Ty at h
    rw [hu] at h
    subst hz
    rcases h with rfl | ⟨es, rfl, h⟩
    · exact ⟨.nil, [], rfl, .inl rfl, fun _ => rfl⟩
    · obtain ⟨l, rfl⟩ := exists_map (f := f) (fun x hx => g m x rfl (h x hx))
      exact ⟨.open_, l, rfl, OkS.open_ _ l⟩
theorem Ty.struct {fs : Array Field} (h : Ty P m t cs) (hu : P.underlying t = some (.struct fs)) : cs.length = P.cellsOf t ∧ ∃ n, m = n + 1 ∧ ∀ f ∈ fs.toList, Ty P n f.type ((cs.drop f.offset).take (P.cellsOf f.type)) := by
  cases m with
  | zero => exact h.elim
  | succ m => unfold Ty at h; rw [hu] at h; exact ⟨h.1, m, rfl, h.2⟩
end
end Go.Abs
end
section
set_option linter.unusedSimpArgs false
set_option linter.unusedVariables false
namespace Go.Abs
open Go.ChangeShapes
section
variable {H : Type} {enc : TypeId × Value → H} {P : Program}
theorem post_kept {f : Func} {s : ChangeSpec} {apart fresh handsOn again : Bool} {W W' : World} {args : Array Value} {v : Value} {ds gs : List (DataW H)} {before pa pv : List MemPlace}
    (hW : DataW.Whole enc P f.params.toList s.vars apart W args.toList ds gs before)
    (hres : ∀ (b : Nat) (sp : Nat → Bool) (hd : Bool), DataW.TrodAll enc P W' b sp hd f.resultTypes.toList (v.resultList f.resultTypes.size) (s.fn H (ds ++ gs)).results [])
    (hargs : ∀ sp : Nat → Bool, (∀ p ∈ before, sp p.block = true) → DataW.TrodAll enc P W' 0 sp true f.params.toList args.toList (s.fn H (ds ++ gs)).args pa)
    (hvars : ∀ sp : Nat → Bool, (∀ p ∈ before, sp p.block = true) → DataW.TrodVars enc P W' sp s.vars (s.fn H (ds ++ gs)).vars pv)
    (hps : before = pa ++ pv) (hk : W.keptBut W' (· ∈ before)) (hfz : ∀ b off, b < W.heap.size → W'.frozen? ⟨b, off, none⟩ = W.frozen? ⟨b, off, none⟩)
    (hok : ∀ (j : Nat) (t : TypeId) (r : Value), f.resultTypes[j]? = some t → (v.resultList f.resultTypes.size)[j]? = some r → Value.okWide P W' .any 0 t r) :
    s.post enc P f apart fresh handsOn again W args v W' := by
  have hlt := fun p hp => hW.lt p hp
  have hold : ∀ p ∈ before, (fun b => decide (b < W.heap.size)) p.block = true := fun p hp => by simpa using hlt p hp
  refine ⟨ds, gs, before, [], pa, pv, hW, hres _ _ _, hargs _ hold, hvars _ hold, World.keptBut_mono (fun p hp => ⟨hp, ?_⟩) hk, fun _ => ?_⟩
  · rw [hps, List.mem_append] at hp
    exact Or.inr hp
  · obtain ⟨_, _, _, _, _, hz, hn⟩ := hW
    refine ⟨hok, _, _, ([] ++ pa) ++ pv, ⟨[] ++ pa, pv, trodAll_append (hargs _ (fun _ _ => rfl)) (hres _ _ _), hvars _ (fun _ _ => rfl), rfl, ?_, ?_⟩, ?_⟩
    · intro b off hp
      have hm : MemPlace.cell b off ∈ before := by rw [hps]; simpa using hp
      rw [hfz b off (hlt _ hm)]
      exact hz b off hm
    · intro ha
      have := hn ha
      rw [hps] at this
      simpa using this
    · intro p hp _
      rw [hps]
      simpa using hp
theorem kept_of {W W' : World} (hos : W'.os = W.os) (hout : W'.output = W.output) (hh : ∀ i, i < W.heap.size → W'.heap[i]? = W.heap[i]?) (may : MemPlace → Prop) : W.keptBut W' may := by
  refine ⟨hos, hout, fun i hi => ?_⟩
  rw [hh i hi]
  cases h : W.heap[i]? with
  | none => rfl
  | some o => cases o <;> simp
theorem cell_old {W W' : World} (hh : ∀ i, i < W.heap.size → W'.heap[i]? = W.heap[i]?) {a : Addr} (h : a.block < W.heap.size) : W'.cell? a = W.cell? a := by
  unfold World.cell?
  rw [hh _ h]
theorem frozen_old {W W' : World} (hh : ∀ i, i < W.heap.size → W'.heap[i]? = W.heap[i]?) {a : Addr} (h : a.block < W.heap.size) : W'.frozen? a = W.frozen? a := by
  unfold World.frozen?
  rw [hh _ h]
theorem same_old {W W' : World} (hh : ∀ i, i < W.heap.size → W'.heap[i]? = W.heap[i]?) {p : MemPlace} (h : p.block < W.heap.size) : W.sameAt W' p := by
  cases p with
  | cell b off => exact cell_old hh (a := ⟨b, off, none⟩) h
  | map b => exact hh b h
theorem trodAll_stays (hl : laidOutB P = true) {W W' : World} {sp : Nat → Bool} : ∀ (ts : List TypeId) (vs : List Value) (ds : List (DataW H)) (ps : List MemPlace), (∀ t ∈ ts, P.readableRec t = true ∧ t < P.types.size) →
    DataW.TrodAll enc P W 0 (fun _ => true) true ts vs ds ps → (∀ p ∈ ps, W.sameAt W' p) → (∀ p ∈ ps, sp p.block = true) → DataW.TrodAll enc P W' 0 sp true ts vs ds ps
  | [], vs, ds, ps, _, h, _, _ => by
    obtain ⟨rfl, rfl, rfl⟩ := trodAll_nil h
    exact trodAll_mk0
  | t :: ts, vs, ds, ps, ht, h, hs, hsp => by
    obtain ⟨v, vs', d, ds', p, q, rfl, rfl, rfl, h1, h2⟩ := trodAll_cons h
    obtain ⟨t1, t2⟩ := ht t (by simp)
    exact ⟨p, q, WideElems.Trod_stays hl t1 t2 h1 (fun x hx => hs x (by simp [hx])) (fun x hx => hsp x (by simp [hx])),
      trodAll_stays hl ts vs' ds' q (fun t h => ht t (by simp [h])) h2 (fun x hx => hs x (by simp [hx])) (fun x hx => hsp x (by simp [hx])), rfl⟩
theorem trodAll_length {W : World} {b : Nat} {sp : Nat → Bool} {hd : Bool} : ∀ (ts : List TypeId) (vs : List Value) (ds : List (DataW H)) (ps : List MemPlace), DataW.TrodAll enc P W b sp hd ts vs ds ps → ds.length = ts.length
  | [], vs, ds, ps, h => by
    obtain ⟨rfl, rfl, rfl⟩ := trodAll_nil h
    rfl
  | t :: ts, vs, ds, ps, h => by
    obtain ⟨v, vs', d, ds', p, q, rfl, rfl, rfl, h1, h2⟩ := trodAll_cons h
    simp [trodAll_length ts vs' ds' q h2]
def argsOf (P : Program) : List TypeId → List (List AV) → List AV
  | t :: ts, as :: ass => argOf P t as :: argsOf P ts ass
  | _, _ => []
def TyAll (P : Program) (m : Nat) : List TypeId → List (List AV) → Prop
  | [], [] => True
  | t :: ts, as :: ass => Ty P m t as ∧ TyAll P m ts ass
  | _, _ => False
theorem all_read {L : List TypeId} (hL : fineL P L = true) {w : World} {base b0 : Nat} {spare : Nat → Bool} {held : Bool} {m : Nat} : ∀ (ts : List TypeId) (vs : List Value) (ds : List (DataW H)) (ps : List MemPlace), bulkDs ds < m → (∀ t ∈ ts, L.contains t = true) →
    DataW.TrodAll enc P w base spare held ts vs ds ps → (∀ (j : Nat) t v, ts[j]? = some t → vs[j]? = some v → Value.okWide P w .any b0 t v) →
    ∃ ass, TyAll P m ts ass ∧ bulkEs ass ≤ bulkDs ds ∧ flats (argsOf P ts ass) = true ∧ Reps (Env.imm w NoY) (argsOf P ts ass) vs
  | [], vs, ds, ps, _, _, h, _ => by
    obtain ⟨rfl, rfl, rfl⟩ := trodAll_nil h
    exact ⟨[], trivial, by simp [bulkEs], rfl, by simp [argsOf, Reps]⟩
  | t :: ts, vs, ds, ps, hm, ht, h, hv => by
    obtain ⟨v, vs', d, ds', p, q, rfl, rfl, rfl, h1, h2⟩ := trodAll_cons h
    obtain ⟨n, h1⟩ := h1
    simp only [bulkDs] at hm
    obtain ⟨as, r1, r2, r3, r4, r5⟩ := read_ok hL m t n _ _ (by simp only; omega) (ht t (by simp)) h1
    obtain ⟨a1, a2⟩ := arg_rep (fine_of hL (ht t (by simp))) (hv 0 t v rfl rfl) r1 r3 r2
    obtain ⟨ass, k1, k2, k3, k4⟩ := all_read (m := m) hL ts vs' ds' q (by omega) (fun t h => ht t (by simp [h])) h2 (fun j t v e1 e2 => hv (j + 1) t v (by simpa using e1) (by simpa using e2))
    refine ⟨as :: ass, ⟨r4, k1⟩, ?_, ?_, ?_⟩
    · simp only [bulkEs, bulkDs]; simp only at r5; omega
    · simp only [argsOf, flats, a2, k3, Bool.and_self]
    · simp only [argsOf, Reps]
      exact ⟨v, vs', rfl, a1, k4⟩
theorem toArray_toList_args (a : Array Value) : a.toList.toArray = a := by simp
theorem law_contract {S : Sys} (hS : SysOk P S) {T : List TypeId} (hL : fineL P T = true) {L : Nat} (hprim : S.prim L = none) (hpm : (S.spec L).pm = []) {f : Func} {tb : Nat} (hl : laidOutB P = true) (htb : P.underlying tb = some .bool) (hrt : f.resultTypes = #[tb])
    (hpar : f.params.toList.all (fun t => T.contains t && (P.readableRec t && decide (t < P.types.size))) = true)
    {s : ChangeSpec} (hvars : s.vars = []) (hfr : ∀ ds : List (DataW H), ds.length = f.params.toList.length → (s.fn H (ds ++ [])).results = [.lit (.bool true)]) (hfa : ∀ ds : List (DataW H), ds.length = f.params.toList.length → (s.fn H (ds ++ [])).args = ds) (hfv : ∀ ds : List (DataW H), ds.length = f.params.toList.length → (s.fn H (ds ++ [])).vars = [])
    {B : Nat} (hans : ∀ m ass, TyAll P m f.params.toList ass → bulkEs ass ≤ B → acall S L (argsOf P f.params.toList ass) = some (.b true, []))
    {apart fresh handsOn again : Bool} {W : World} {base : Nat} {args : Array Value} {ds gs : List (DataW H)} {before : List MemPlace}
    (hval : ∀ (j : Nat) t v, f.params[j]? = some t → args[j]? = some v → Value.okWide P W .any base t v)
    (hW : DataW.Whole enc P f.params.toList s.vars apart W args.toList ds gs before) (hk : bulkDs ds ≤ B) (hit : (S.spec L).it = false := by rfl) (hreal : real L = L := by rfl) :
    Calls P L args W fun e W' => ∃ v, e = .returned v ∧ s.post enc P f apart fresh handsOn again W args v W' := by
  have hpar' : ∀ t ∈ f.params.toList, T.contains t = true ∧ P.readableRec t = true ∧ t < P.types.size := by
    intro t ht
    have := List.all_eq_true.1 hpar t ht
    simpa only [Bool.and_eq_true, decide_eq_true_eq] using this
  have hW0 := hW
  obtain ⟨p, q, hA, hV, rfl, hfz, hnd⟩ := hW0
  rw [hvars] at hV
  obtain ⟨rfl, rfl⟩ := trodVars_none hV
  have hlt : ∀ x ∈ p ++ [], x.block < W.heap.size := fun x hx => hW.lt x hx
  obtain ⟨ass, h1, h2, h3, h4⟩ := all_read (b0 := base) (m := B + 1) hL f.params.toList args.toList ds p (by omega) (fun t ht => (hpar' t ht).1) hA (fun j t v e1 e2 => hval j t v (by simpa using e1) (by simpa using e2))
  have hdl := trodAll_length f.params.toList args.toList ds p hA
  have hm := acall_owes hS hit hprim (hans _ ass h1 (Nat.le_trans h2 hk))
  rw [hreal] at hm
  rw [hpm] at hm
  have hZ : ∀ i, ¬ Zp NoY [] i := by intro i h; rcases h with h | h; exact h; simp at h
  have hr : RepPs W (Zp NoY []) (argsOf P f.params.toList ass) args.toList [] :=
    RepPs.of_flat _ _ h3 (Reps.flat (E := Env.imm W NoY) (E' := Env.imm W (Zp NoY [])) rfl (fun i hx => absurd ((Env.imm_X W (Zp NoY []) i).1 hx) (hZ i)) _ _ h3 h4)
  have hc := hm.2 W NoY args.toList [] (fun i h => h.elim) hr (by simp) (by simp)
  rw [toArray_toList_args] at hc
  refine hc.mono fun e W' h => ?_
  cases e with
  | returned v =>
    obtain ⟨F', hb⟩ := h
    have hrep := hb.rep
    simp only [RepPs, RepP, Rep] at hrep
    obtain ⟨v', vs', F1, F2, e1, -, ⟨-, e2⟩, -⟩ := hrep
    injection e1 with e1 e1'
    subst e1
    subst e2
    have hh : ∀ i, i < W.heap.size → W'.heap[i]? = W.heap[i]? := fun i hi => hb.frame i hi (by simp)
    refine ⟨_, rfl, post_kept (pa := p) (pv := []) hW ?_ ?_ ?_ rfl (kept_of hb.os hb.output hh _) (fun b off hb => frozen_old hh hb) ?_⟩
    · intro b sp hd
      rw [hfr _ hdl, hrt]
      exact ⟨[], [], RowKit.shut_bool htb true, trodAll_mk0, rfl⟩
    · intro sp hsp
      rw [hfa _ hdl]
      exact trodAll_stays hl _ _ _ _ (fun t ht => (hpar' t ht).2) hA (fun x hx => same_old hh (hlt x (by simpa using hx))) (fun x hx => hsp x (by simpa using hx))
    · intro sp hsp
      rw [hfv _ hdl, hvars]
      rfl
    · exact RowKit.ok_one hrt rfl (RowKit.okWide_bool_mk htb true)
  | _ => exact h.elim
end
end Go.Abs
end
section
set_option linter.unusedSimpArgs false
set_option linter.unusedVariables false
namespace Go.Abs
def findO {α : Type} : List (Nat × α) → Nat → Option α
  | [], _ => none
  | p :: r, n => if n = p.1 then some p.2 else findO r n
def findD {α : Type} (d : α) : List (Nat × α) → Nat → α
  | [], _ => d
  | p :: r, n => if n = p.1 then p.2 else findD d r n
def AllL {α : Type} (Q : Nat → α → Prop) : List (Nat × α) → Prop
  | [] => True
  | p :: r => Q p.1 p.2 ∧ AllL Q r
theorem findO_all {α : Type} {Q : Nat → α → Prop} : ∀ (l : List (Nat × α)), AllL Q l → ∀ n a, findO l n = some a → Q n a
  | [], _, n, a, h => by cases h
  | p :: r, hq, n, a, h => by
    simp only [findO] at h
    split at h
    · rename_i e
      injection h with h
      subst h
      rw [e]
      exact hq.1
    · exact findO_all r hq.2 n a h
def bytesA : AV → Option (List UInt8)
  | .sl _ sz es => ask (sz = 1 ∨ es = []) (u8s es)
  | _ => none
def primCompare : List AV → Option (AV × List AV)
  | [a, b] => bnd (bytesA a) fun x => bnd (bytesA b) fun y => some (.i .i64 (Lib.compareBytes x y), [])
  | _ => none
end Go.Abs
end
section
namespace Go.Abs
attribute [go_sem] bnd_some bnd_none way_true way_false ask_true ask_false
attribute [go_sem] List.headD_cons List.headD_nil List.tail_cons List.tail_nil List.cons_append List.nil_append List.append_nil List.append_assoc Option.getD_some Option.getD_none Option.isSome_some Option.isSome_none Option.isNone_some Option.isNone_none List.length_cons List.length_nil List.length_append List.take_succ_cons List.take_zero List.take_nil List.drop_succ_cons List.drop_zero List.drop_nil List.head?_cons List.getElem?_cons_zero List.getElem?_cons_succ List.set_cons_zero List.set_cons_succ List.isEmpty_nil List.isEmpty_cons List.map_cons List.map_nil List.replicate_succ List.replicate_zero List.all_cons List.all_nil List.contains_cons List.contains_nil List.take_length List.drop_length List.length_map List.map_append and_true true_and and_self and_false false_and or_true true_or or_false false_or not_true_eq_false not_false_eq_true ne_eq eq_self decide_true decide_false decide_eq_true_eq decide_eq_false_iff_not Bool.not_true Bool.not_false Bool.true_and Bool.and_true Bool.false_and Bool.and_false Bool.or_true Bool.true_or Bool.or_false Bool.false_or Bool.not_not beq_self_eq_true bne_self_eq_false beq_true beq_false beq_iff_eq bne_iff_ne Option.some.injEq Prod.mk.injEq true_implies false_implies implies_true forall_const forall_eq' Nat.add_zero Nat.zero_add Nat.zero_le Nat.le_refl Nat.sub_zero Nat.sub_self Int.toNat_natCast Int.natCast_nonneg Nat.le_add_right Bool.true_eq_false Bool.false_eq_true if_true if_false ite_true ite_false ite_self imp_self Bool.not_eq_true Bool.not_eq_false Bool.and_eq_true Bool.or_eq_true Bool.not_eq_eq_eq_not Bool.and_eq_false_imp Nat.mul_zero Nat.zero_mul Nat.one_mul Nat.mul_one Option.map_some Option.map_none List.mem_cons List.not_mem_nil
variable (cx : Cx) (s : Sl) (hp : Hp)
@[go_sem] theorem aregL_nil (st : St) : aregL cx [] st = some st := rfl
@[go_sem] theorem aregL_cons (o : AIns) (r : List AIns) : aregL cx (o :: r) ⟨s, hp⟩ = bnd (ainsL cx o ⟨s, hp⟩) fun x => aregL cx r x := rfl
@[go_sem] theorem ainsL_plain (d : Option Nat) (op : AOp) : ainsL cx ⟨d, op, none⟩ ⟨s, hp⟩ = bnd (aop cx op (700000 + d.getD 0) s hp) fun fx => some ⟨put s d fx.val, fx.hp⟩ := rfl
@[go_sem] theorem ainsL_guard (d : Option Nat) (op : AOp) (t : Nat) (w : Bool) : ainsL cx ⟨d, op, some (t, w)⟩ ⟨s, hp⟩ = bnd (wantedV w (get s t)) fun w => way w
    (bnd (aop cx op (700000 + d.getD 0) s hp) fun fx => some ⟨put s d fx.val, fx.hp⟩) (some ⟨put s d undef, hp⟩) := rfl
@[go_sem] theorem andThen_normal (f : St → Res) (st : St) : andThen f (.normal, st) = f st := rfl
@[go_sem] theorem andThen_exit (f : St → Res) (id : Nat) (st : St) : andThen f (.exit id, st) = some (.exit id, st) := rfl
@[go_sem] theorem andThen_ret (f : St → Res) (st : St) : andThen f (.ret, st) = some (.ret, st) := rfl
@[go_sem] theorem outOf_normal (id : Nat) (st : St) : outOf id (.normal, st) = some (.normal, st) := rfl
@[go_sem] theorem outOf_exit (id id' : Nat) (st : St) : outOf id (.exit id', st) = if id' = id then some (.normal, st) else some (.exit id', st) := rfl
@[go_sem] theorem outOf_ret (id : Nat) (st : St) : outOf id (.ret, st) = some (.ret, st) := rfl
@[go_sem] theorem condV_b (x y : Res) (c : Bool) : condV x y (.b c) = way c x y := rfl
@[go_sem] theorem notExit_normal (st : St) : notExit (.normal, st) = some st := rfl
@[go_sem] theorem notExit_ret (st : St) : notExit (.ret, st) = some st := rfl
@[go_sem] theorem goOn_normal (f) (keep) : goOn f keep (.normal, ⟨s, hp⟩) = bnd (packK keep s hp) f := rfl
@[go_sem] theorem goOn_exit (f) (keep) (id : Nat) (st : St) : goOn f keep (.exit id, st) = some (.exit id, st) := rfl
@[go_sem] theorem goOn_ret (f) (keep) (st : St) : goOn f keep (.ret, st) = some (.ret, st) := rfl
@[go_sem] theorem areg_nil (st : St) : areg cx [] st = some st := rfl
@[go_sem] theorem areg_cons (o : AIns) (r : List AIns) : areg cx (o :: r) ⟨s, hp⟩ = bnd (ains cx o ⟨s, hp⟩) fun x => areg cx r x.1 := rfl
@[go_sem] theorem adraw_nil (l) (st : St) : adraw cx [] l st = some (st, l) := rfl
@[go_sem] theorem adraw_cons (o : AIns) (r : List AIns) (l) : adraw cx (o :: r) l ⟨s, hp⟩ = ask (calm o.op = true) (bnd (ains cx o ⟨s, hp⟩) fun x => adraw cx r (l ++ [x.2]) x.1) := rfl
@[go_sem] theorem ains_plain (d : Option Nat) (op : AOp) : ains cx ⟨d, op, none⟩ ⟨s, hp⟩ = bnd (aop cx op (d.getD 0) s hp) fun fx => some (⟨put s d fx.val, fx.hp⟩, fx.rd, fx.wr) := rfl
@[go_sem] theorem ains_guard (d : Option Nat) (op : AOp) (t : Nat) (w : Bool) : ains cx ⟨d, op, some (t, w)⟩ ⟨s, hp⟩ = bnd (wantedV w (get s t)) fun w => way w
    (bnd (aop cx op (d.getD 0) s hp) fun fx => some (⟨put s d fx.val, fx.hp⟩, fx.rd, fx.wr)) (some (⟨put s d undef, hp⟩, [], [])) := rfl
@[go_sem] theorem wantedV_b (w x : Bool) : wantedV w (.b x) = some (x == w) := rfl
@[go_sem] theorem wantedV_undef (w : Bool) : wantedV w undef = some false := rfl
@[go_sem] theorem wantedV_tup (w : Bool) : wantedV w (.tup []) = some false := rfl
@[go_sem] theorem put_some (d : Nat) (v : AV) : put s (some d) v = (d, v) :: s := rfl
@[go_sem] theorem put_none (v : AV) : put s none v = s := rfl
@[go_sem] theorem get_cons (k : Nat) (v : AV) (r : Sl) (t : Nat) : get ((k, v) :: r) t = if t = k then v else get r t := rfl
@[go_sem] theorem look_nil (t : Nat) : look [] t = none := rfl
@[go_sem] theorem look_live (k : Nat) (v : Blk) (r : Hp) (t : Nat) : look ((k, .live v) :: r) t = if t = k then some v else look r t := rfl
@[go_sem] theorem look_dead (k n : Nat) (r : Hp) (t : Nat) : look ((k, .dead n) :: r) t = if t = k then none else look r t := rfl
@[go_sem] theorem nextVer_nil (t : Nat) : nextVer [] t = 0 := rfl
@[go_sem] theorem nextVer_live (k : Nat) (v : Blk) (r : Hp) (t : Nat) : nextVer ((k, .live v) :: r) t = if t = k then v.ver + 1 else nextVer r t := rfl
@[go_sem] theorem nextVer_dead (k n : Nat) (r : Hp) (t : Nat) : nextVer ((k, .dead n) :: r) t = if t = k then n else nextVer r t := rfl
@[go_sem] theorem drop_eq (k : Nat) : drop hp k = (k, .dead (nextVer hp k)) :: hp := rfl
@[go_sem] theorem drops_nil : drops [] hp = hp := rfl
@[go_sem] theorem drops_cons (k : Nat) (r : List Nat) : drops (k :: r) hp = drops r (drop hp k) := rfl
@[go_sem] theorem ev_tmp (t : Nat) : ev s (.tmp t) = get s t := rfl
@[go_sem] theorem ev_con (v : AV) : ev s (.con v) = v := rfl
@[go_sem] theorem evs_nil : evs s [] = [] := rfl
@[go_sem] theorem evs_cons (x : Opd) (r : List Opd) : evs s (x :: r) = ev s x :: evs s r := rfl
@[go_sem] theorem evo_none : evo s none = none := rfl
@[go_sem] theorem evo_some (x : Opd) : evo s (some x) = some (ev s x) := rfl
@[go_sem] theorem keyOf_eq (t : Nat) : keyOf t = 64 * t := rfl
@[go_sem] theorem blkAt_ev (k v : Nat) : blkAt hp k v = bnd (look hp k) fun b => ask (b.ver = v) (some b) := rfl
@[go_sem] theorem only_one (cs : List AV) : only [cs] = some cs := rfl
@[go_sem] theorem quiet_eq (v : AV) : quiet v hp = some ⟨v, hp, [], []⟩ := rfl
@[go_sem] theorem skOf_true : skOf true = .nil := rfl
@[go_sem] theorem skOf_false : skOf false = .open_ := rfl
section ops
variable (dst : Nat)
@[go_sem] theorem aop_mov (x) : aop cx (.mov x) dst s hp = some ⟨ev s x, hp, [], []⟩ := rfl
@[go_sem] theorem aop_pick (c a b) : aop cx (.pick c a b) dst s hp = bnd (pickV (ev s a) (ev s b) (ev s c)) fun v => some ⟨v, hp, [], []⟩ := rfl
@[go_sem] theorem aop_boxi (x) : aop cx (.boxi x) dst s hp = bnd (cells (ev s x)) fun cs => ask (flats cs = true) (quiet (.ip cs) hp) := rfl
@[go_sem] theorem aop_box (x) : aop cx (.box x) dst s hp = bnd (cells (ev s x)) fun cs => newBox (keyOf dst) cs hp := rfl
@[go_sem] theorem aop_alloc (z) : aop cx (.alloc z) dst s hp = newBox (keyOf dst) z hp := rfl
@[go_sem] theorem aop_build (z l) : aop cx (.build z l) dst s hp = bnd (fillB s l z) fun cs => some ⟨.agg cs, hp, [], []⟩ := rfl
@[go_sem] theorem aop_bslice (ty z n l) : aop cx (.bslice ty z n l) dst s hp = bnd (fillS s z.length l (List.replicate n z) [] hp) fun x => newRow ty z.length (keyOf dst) x.1 x.2.2 x.2.1 := rfl
@[go_sem] theorem aop_load (g n a) : aop cx (.load g n a) dst s hp = loadA g n hp (ev s a) := rfl
@[go_sem] theorem aop_store (n a x) : aop cx (.store n a x) dst s hp = storeA n (ev s x) hp (ev s a) := rfl
@[go_sem] theorem aop_nilck (x) : aop cx (.nilck x) dst s hp = bnd (nilckV (ev s x)) fun v => some ⟨v, hp, [], []⟩ := rfl
@[go_sem] theorem aop_bin (op x y) : aop cx (.bin op x y) dst s hp = bnd (binVal op (ev s x) (ev s y)) fun v => some ⟨v, hp, [], []⟩ := rfl
@[go_sem] theorem aop_eqnil (k g x) : aop cx (.eqnil k g x) dst s hp = bnd (isNil hp k (ev s x)) fun r => some ⟨.b (r.1 != g), hp, r.2, []⟩ := rfl
@[go_sem] theorem aop_eqb (g x y) : aop cx (.eqb g x y) dst s hp = bnd (eqbV g (ev s x) (ev s y)) fun v => some ⟨v, hp, [], []⟩ := rfl
@[go_sem] theorem aop_un (op x) : aop cx (.un op x) dst s hp = bnd (unV op (ev s x)) fun v => some ⟨v, hp, [], []⟩ := rfl
@[go_sem] theorem aop_conv (c x) : aop cx (.conv c x) dst s hp = convV hp c (ev s x) := rfl
@[go_sem] theorem aop_mkfn (f l) : aop cx (.mkfn f l) dst s hp = some ⟨.fn f (evs s l), hp, [], []⟩ := rfl
@[go_sem] theorem aop_slice (n x a b c) : aop cx (.slice n x a b c) dst s hp = bnd (cut n (evo s a) (evo s b) (evo s c) hp (ev s x)) fun r => some ⟨r.1, hp, r.2, []⟩ := rfl
@[go_sem] theorem aop_faddr (n x) : aop cx (.faddr n x) dst s hp = bnd (faddrV n (ev s x)) fun v => some ⟨v, hp, [], []⟩ := rfl
@[go_sem] theorem aop_fld (g a b x) : aop cx (.fld g a b x) dst s hp = fldV g a b hp (ev s x) := rfl
@[go_sem] theorem aop_iaddr (n x i) : aop cx (.iaddr n x i) dst s hp = iaddrV n hp (ev s x) (ev s i) := rfl
@[go_sem] theorem aop_idx (x i) : aop cx (.idx x i) dst s hp = bnd (idxV (ev s x) (ev s i)) fun v => some ⟨v, hp, [], []⟩ := rfl
@[go_sem] theorem aop_ext (x i) : aop cx (.ext x i) dst s hp = bnd (extV i (ev s x)) fun v => some ⟨v, hp, [], []⟩ := rfl
@[go_sem] theorem aop_call (f l) : aop cx (.call f l) dst s hp = callFx cx f (evs s l) dst hp := rfl
@[go_sem] theorem aop_callv (x l) : aop cx (.callv x l) dst s hp = callV cx (evs s l) dst hp (ev s x) := rfl
@[go_sem] theorem aop_frz (x) : aop cx (.frz x) dst s hp = frzV hp (ev s x) := rfl
@[go_sem] theorem frzV_ms (k v off len) : frzV hp (.ms k v off len) = bnd (blkAt hp k v) fun b => ask (b.row = true ∧ b.dp = false ∧ off + len ≤ b.es.length ∧ b.es.length ≠ 0 ∧ (len ≠ 0 ∨ off = 0))
      (some { val := .sl (skOf b.nl) b.sz ((b.es.drop off).take len), hp := drop hp k, rd := [], wr := [k] }) := rfl
@[go_sem] theorem aop_len (t x) : aop cx (.len t x) dst s hp = bnd (lenV t (ev s x)) fun v => some ⟨v, hp, [], []⟩ := rfl
@[go_sem] theorem aop_app (ty n x y) : aop cx (.app ty n x y) dst s hp = bnd (content n hp (ev s y)) fun c => appRow ty n (keyOf dst) c.1 hp c.2 (ev s x) := rfl
@[go_sem] theorem aop_appstr (ty x y) : aop cx (.appstr ty x y) dst s hp = bnd (strOf (ev s y)) fun l => appRow ty 1 (keyOf dst) (ofU8s l) hp [] (ev s x) := rfl
@[go_sem] theorem aop_appz (ty z x n) : aop cx (.appz ty z x n) dst s hp = bnd (cntOf (ev s n)) fun m => appRow ty z.length (keyOf dst) (List.replicate m z) hp [] (ev s x) := rfl
@[go_sem] theorem aop_copy (n x y) : aop cx (.copy n x y) dst s hp = bnd (content n hp (ev s y)) fun c => copyV n c.1 c.2 hp (ev s x) := rfl
@[go_sem] theorem aop_mkslice (ty z n) : aop cx (.mkslice ty z n) dst s hp = bnd (cntOf (ev s n)) fun m => newRow ty z.length (keyOf dst) (List.replicate m z) hp [] := rfl
@[go_sem] theorem aop_mx (l) : aop cx (.mx l) dst s hp = bnd (ints (evs s l)) fun x => bnd (maxL x.2) fun n => some ⟨.i x.1 n, hp, [], []⟩ := rfl
@[go_sem] theorem aop_mn (l) : aop cx (.mn l) dst s hp = bnd (ints (evs s l)) fun x => bnd (minL x.2) fun n => some ⟨.i x.1 n, hp, [], []⟩ := rfl
@[go_sem] theorem aop_clear (z x) : aop cx (.clear z x) dst s hp = clearV z hp (ev s x) := rfl
@[go_sem] theorem aop_mkmap : aop cx .mkmap dst s hp = newMap (keyOf dst) hp := rfl
@[go_sem] theorem newMap_eq (k : Nat) : newMap k hp = some { val := .mr k (nextVer hp k), hp := (k, .live { ver := nextVer hp k, row := false, nl := false, ty := 0, sz := 2, es := [], mp := true }) :: hp, rd := [], wr := [k] } := rfl
@[go_sem] theorem aop_mget (kk z ok x k) : aop cx (.mget kk z ok x k) dst s hp = mgetV kk z ok (ev s k) hp (ev s x) := rfl
@[go_sem] theorem aop_mput (kk x k v) : aop cx (.mput kk x k v) dst s hp = mputV kk (ev s k) (ev s v) hp (ev s x) := rfl
@[go_sem] theorem mgetV_mr (kk z ok k a v) : mgetV kk z ok k hp (.mr a v) = bnd (blkAt hp a v) fun b => ask (b.row = false ∧ b.mp = true) (bnd (findM kk k b.es 0) fun r => some { val := foundV z ok r, hp, rd := [a], wr := [] }) := rfl
@[go_sem] theorem mputV_mr (kk k u a v) : mputV kk k u hp (.mr a v) = ask (flat k = true ∧ flat u = true) (bnd (blkAt hp a v) fun b => ask (b.row = false ∧ b.mp = true) (bnd (findM kk k b.es 0) fun r =>
      some { val := undef, hp := (a, .live { b with es := putM b.es k u r }) :: hp, rd := [], wr := [a] })) := rfl
@[go_sem] theorem findM_nil (kk k i) : findM kk k [] i = some none := rfl
@[go_sem] theorem foundV_none (z) : foundV z false none = z := rfl
@[go_sem] theorem foundV_none_ok (z) : foundV z true none = .tup [z, .b false] := rfl
@[go_sem] theorem foundV_some (z i v) : foundV z false (some (i, v)) = v := rfl
@[go_sem] theorem foundV_some_ok (z i v) : foundV z true (some (i, v)) = .tup [v, .b true] := rfl
@[go_sem] theorem putM_none (m k v) : putM m k v none = m ++ [[k, v]] := rfl
@[go_sem] theorem putM_some (m k v i u) : putM m k v (some (i, u)) = m.set i [k, v] := rfl
@[go_sem] theorem aop_fail : aop cx .fail dst s hp = none := rfl
@[go_sem] theorem callFx_eq (f : Nat) (args : List AV) : callFx cx f args dst hp = bnd (hand (cx.spec f).pm args hp) fun h => ask (apartKeys h.rd h.wr = true) (bnd (cx.call f h.args) fun r =>
    ask (sh r.1 = true) (bnd (back h.io r.2 (keyOf dst + 32) (if plain r.1 && h.io.isEmpty then h.hp else drops h.rd h.hp)) fun x => some (took h dst r.1 x.1 x.2))) := rfl
@[go_sem] theorem callFxD_eq (f : Nat) (args : List AV) : callFxD cx f args dst hp = bnd (hand (cx.spec f).pm args hp) fun h => ask (apartKeys h.rd h.wr = true) (bnd (cx.call f h.args) fun r =>
    bnd (back h.io r.2 (keyOf dst + 32) (if plain r.1 && h.io.isEmpty then h.hp else drops h.rd h.hp)) fun x => some (took h dst r.1 x.1 x.2)) := rfl
@[go_sem] theorem aop_calld (f l) : aop cx (.calld f l) dst s hp = callFxD cx f (evs s l) dst hp := rfl
@[go_sem] theorem aop_inl (f l) : aop cx (.inl f l) dst s hp = bnd (cx.inl f (evs s l) hp) fun x => some { val := x.1, hp := x.2, rd := [], wr := [] } := rfl
@[go_sem] theorem aop_bsliced (ty z n l) : aop cx (.bsliced ty z n l) dst s hp = bnd (fillD s z.length l (List.replicate n z)) fun es => newRowD ty z.length (keyOf dst) es hp := rfl
@[go_sem] theorem aop_appd (ty n x y) : aop cx (.appd ty n x y) dst s hp = bnd (contentD n hp (ev s y)) fun c => appRowD ty n c.1 hp c.2 (ev s x) := rfl
@[go_sem] theorem newRowD_eq (ty sz key : Nat) (es : List (List AV)) : newRowD ty sz key es hp = some { val := .ms key (nextVer hp key) 0 es.length, hp := (key, .live { ver := nextVer hp key, row := true, nl := false, ty, sz, es, dp := true }) :: hp, rd := [], wr := [key] } := rfl
@[go_sem] theorem contentD_ms (sz k v off len) : contentD sz hp (.ms k v off len) = bnd (blkAt hp k v) fun b => ask (b.row = true ∧ b.sz = sz ∧ off + len ≤ b.es.length) (some ((b.es.drop off).take len, [k])) := rfl
@[go_sem] theorem appRowD_ms (ty sz ys rd kx ver off len) : appRowD ty sz ys hp rd (.ms kx ver off len) = bnd (blkAt hp kx ver) fun b => ask (b.row = true ∧ b.dp = true ∧ b.ty = ty ∧ b.sz = sz ∧ off = 0) (growBlk kx ver len b ys hp rd) := rfl
@[go_sem] theorem callV_fn (f : Nat) (caps args : List AV) : callV cx args dst hp (.fn f caps) = callFx cx f (args ++ caps) dst hp := rfl
end ops
section values
@[go_sem] theorem cells_agg (cs) : cells (.agg cs) = some cs := rfl
@[go_sem] theorem cells_i (k n) : cells (.i k n) = some [.i k n] := rfl
@[go_sem] theorem cells_b (c) : cells (.b c) = some [.b c] := rfl
@[go_sem] theorem cells_str (l) : cells (.str l) = some [.str l] := rfl
@[go_sem] theorem cells_sl (k n es) : cells (.sl k n es) = some [.sl k n es] := rfl
@[go_sem] theorem cells_ms (a b c d) : cells (.ms a b c d) = some [.ms a b c d] := rfl
@[go_sem] theorem cells_pt (a b c d) : cells (.pt a b c d) = some [.pt a b c d] := rfl
@[go_sem] theorem cells_ip (cs) : cells (.ip cs) = some [.ip cs] := rfl
@[go_sem] theorem cells_fn (f cs) : cells (.fn f cs) = some [.fn f cs] := rfl
@[go_sem] theorem cells_mr (a b) : cells (.mr a b) = some [.mr a b] := rfl
@[go_sem] theorem cells_nilp : cells .nilp = some [.nilp] := rfl
@[go_sem] theorem cells_nilf : cells .nilf = some [.nilf] := rfl
@[go_sem] theorem pickV_b (a b : AV) (c : Bool) : pickV a b (.b c) = way c (some a) (some b) := rfl
@[go_sem] theorem nilckV_pt (a b c d) : nilckV (.pt a b c d) = some (.pt a b c d) := rfl
@[go_sem] theorem nilckV_ip (cs) : nilckV (.ip cs) = some (.ip cs) := rfl
@[go_sem] theorem nilckV_fn (f cs) : nilckV (.fn f cs) = some (.fn f cs) := rfl
@[go_sem] theorem unV_not (c) : unV .not (.b c) = some (.b !c) := rfl
@[go_sem] theorem unV_neg (k n) : unV .neg (.i k n) = some (.i k (k.wrap (0 - n))) := rfl
@[go_sem] theorem convV_int (k k' n) : convV hp (.int k) (.i k' n) = some ⟨.i k (k.wrap n), hp, [], []⟩ := rfl
@[go_sem] theorem convV_id (l) : convV hp .id (.str l) = some ⟨.str l, hp, [], []⟩ := rfl
@[go_sem] theorem convV_s2b (l) : convV hp .s2b (.str l) = some ⟨.sl .open_ 1 (ofU8s l), hp, [], []⟩ := rfl
@[go_sem] theorem convV_b2s_sl (k n es) : convV hp .b2s (.sl k n es) = bnd (content 1 hp (.sl k n es)) fun x => bnd (u8s x.1) fun l => some ⟨.str l, hp, x.2, []⟩ := rfl
@[go_sem] theorem convV_b2s_ms (a b c d) : convV hp .b2s (.ms a b c d) = bnd (content 1 hp (.ms a b c d)) fun x => bnd (u8s x.1) fun l => some ⟨.str l, hp, x.2, []⟩ := rfl
@[go_sem] theorem faddrV_pt (off k v e o) : faddrV off (.pt k v e o) = some (.pt k v e (o + off)) := rfl
@[go_sem] theorem faddrV_ip (off cs) : faddrV off (.ip cs) = some (.ip (cs.drop off)) := rfl
@[go_sem] theorem fldV_agg (g off n cs) : fldV g off n hp (.agg cs) = load1 g n (cs.drop off) hp [] := rfl
@[go_sem] theorem iaddrV_sl (sz k sz' es k' n) : iaddrV sz hp (.sl k sz' es) (.i k' n) = ask (0 ≤ n ∧ (sz' = sz ∨ es = [])) (bnd (es[n.toNat]?) fun cs => some ⟨.ip cs, hp, [], []⟩) := rfl
@[go_sem] theorem iaddrV_ms (sz k v off len k' n) : iaddrV sz hp (.ms k v off len) (.i k' n) = bnd (blkAt hp k v) fun b => ask (b.row = true ∧ b.sz = sz ∧ off + len ≤ b.es.length ∧ 0 ≤ n ∧ n < len) (some ⟨.pt k v (off + n.toNat) 0, hp, [k], []⟩) := rfl
@[go_sem] theorem idxV_str (l k n) : idxV (.str l) (.i k n) = ask (0 ≤ n) (bnd (l[n.toNat]?) fun c => some (.i .u8 c.toNat)) := rfl
@[go_sem] theorem extV_tup (i vs) : extV i (.tup vs) = vs[i]? := rfl
@[go_sem] theorem lenV_sl (k n es) : lenV false (.sl k n es) = some (.i .i64 es.length) := rfl
@[go_sem] theorem lenV_ms (a b c d) : lenV false (.ms a b c d) = some (.i .i64 d) := rfl
@[go_sem] theorem lenV_str (l) : lenV true (.str l) = some (.i .i64 l.length) := rfl
@[go_sem] theorem strOf_str (l) : strOf (.str l) = some l := rfl
@[go_sem] theorem cntOf_i (n) : cntOf (.i .i64 n) = ask (0 ≤ n ∧ n.toNat ≤ LIM) (some n.toNat) := rfl
@[go_sem] theorem content_sl (sz k sz' es) : content sz hp (.sl k sz' es) = ask (sz' = sz ∨ es = []) (some (es, [])) := rfl
@[go_sem] theorem content_ms (sz k v off len) : content sz hp (.ms k v off len) = bnd (blkAt hp k v) fun b => ask (b.row = true ∧ b.dp = false ∧ b.sz = sz ∧ off + len ≤ b.es.length) (some ((b.es.drop off).take len, [k])) := rfl
@[go_sem] theorem isNil_sl (k n es) : isNil hp .sl (.sl k n es) = some (decide (k = .nil), []) := rfl
@[go_sem] theorem isNil_ms (k v off len) : isNil hp .sl (.ms k v off len) = bnd (blkAt hp k v) fun b => ask (b.row = true ∧ off = 0 ∧ len = b.es.length) (some (b.nl, [k])) := rfl
@[go_sem] theorem isNil_pt (a b c d) : isNil hp .pt (.pt a b c d) = some (false, []) := rfl
@[go_sem] theorem isNil_ip (cs) : isNil hp .pt (.ip cs) = some (false, []) := rfl
@[go_sem] theorem isNil_fn (f cs) : isNil hp .fn (.fn f cs) = some (false, []) := rfl
@[go_sem] theorem isNil_nilp : isNil hp .pt .nilp = some (true, []) := rfl
@[go_sem] theorem isNil_nilf : isNil hp .fn .nilf = some (true, []) := rfl
@[go_sem] theorem natOf_i (k n) : natOf (.i k n) = ask (0 ≤ n) (some n.toNat) := rfl
@[go_sem] theorem natOr_none (d) : natOr d none = some d := rfl
@[go_sem] theorem natOr_some (d v) : natOr d (some v) = natOf v := rfl
@[go_sem] theorem binVal_i (op k x k' y) : binVal op (.i k x) (.i k' y) = way (isShift op) (shiftInt op k x y) (ask (k = k') (binInt op k x y)) := rfl
@[go_sem] theorem binVal_str (op x y) : binVal op (.str x) (.str y) = binStr op x y := rfl
@[go_sem] theorem eqbV_b (g x y) : eqbV g (.b x) (.b y) = some (.b ((x == y) != g)) := rfl
attribute [go_sem] isShift shiftInt binInt binStr
@[go_sem] theorem cut_str (sz lo hi mx l) : cut sz lo hi mx hp (.str l) = ask (mx.isNone = true ∧ sz = 0) (bnd (natOr 0 lo) fun a => bnd (natOr l.length hi) fun h => ask (a ≤ h ∧ h ≤ l.length) (some (.str ((l.drop a).take (h - a)), []))) := rfl
@[go_sem] theorem cut_sl (sz lo hi mx k sz' es) : cut sz lo hi mx hp (.sl k sz' es) = ask ((sz' = sz ∨ es = []) ∧ 0 < sz ∧ (mx.isSome = true → hi.isSome = true)) (bnd (natOr 0 lo) fun l => bnd (natOr es.length hi) fun h => bnd (natOr es.length mx) fun m =>
      ask (l ≤ h ∧ h ≤ m ∧ m ≤ es.length)
        (some (.sl (if k = .nil then .nil else if (mx.isSome = true ∨ k = .full) ∧ h = m then .full else .open_) sz' ((es.drop l).take (h - l)), []))) := rfl
@[go_sem] theorem cut_ms (sz lo hi mx k v off len) : cut sz lo hi mx hp (.ms k v off len) = ask (mx.isNone = true ∧ 0 < sz) (bnd (blkAt hp k v) fun b => ask (b.row = true ∧ b.sz = sz ∧ off + len ≤ b.es.length)
      (bnd (natOr 0 lo) fun l => bnd (natOr len hi) fun h => ask (l ≤ h ∧ h ≤ len) (some (.ms k v (off + l) (h - l), [k])))) := rfl
@[go_sem] theorem appRow_sl (ty sz key ys rd k sz' es) : appRow ty sz key ys hp rd (.sl k sz' es) =
    way (ys.isEmpty && (decide (k = .open_) || !es.isEmpty)) (some { val := .sl k sz' es, hp, rd, wr := [] })
    (ask (k ≠ .open_ ∧ (sz' = sz ∨ es = []) ∧ es.length + ys.length ≤ LIM)
      (some { val := .ms key (nextVer hp key) 0 (es.length + ys.length), hp := (key, .live { ver := nextVer hp key, row := true, nl := decide (k = .nil) && ys.isEmpty, ty, sz, es := es ++ ys }) :: hp, rd, wr := [key] })) := rfl
@[go_sem] theorem appRow_ms (ty sz key ys rd kx ver off len) : appRow ty sz key ys hp rd (.ms kx ver off len) = bnd (blkAt hp kx ver) fun b => ask (b.row = true ∧ b.dp = false ∧ b.ty = ty ∧ b.sz = sz ∧ off = 0) (growBlk kx ver len b ys hp rd) := rfl
attribute [go_sem] growBlk oneA ones onesEs
@[go_sem] theorem loadA_pt (g n k v e o) : loadA g n hp (.pt k v e o) = bnd (blkAt hp k v) fun b => ask (b.mp = false) (bnd (b.es[e]?) fun cs => load1 g n (cs.drop o) hp [k]) := rfl
@[go_sem] theorem loadA_ip (g n cs) : loadA g n hp (.ip cs) = load1 g n cs hp [] := rfl
@[go_sem] theorem load1_agg (n cs rd) : load1 true n cs hp rd = ask (n ≤ cs.length) (some ⟨.agg (cs.take n), hp, rd, []⟩) := rfl
@[go_sem] theorem load1_cell (n v r rd) : load1 false n (v :: r) hp rd = ask (n ≤ r.length + 1) (some ⟨v, hp, rd, []⟩) := rfl
@[go_sem] theorem storeA_pt (n v k ver e o) : storeA n v hp (.pt k ver e o) = bnd (blkAt hp k ver) fun b => ask (b.mp = false) (way (b.row && !b.dp)
      (bnd (frz v hp) fun x => ask (k ∉ x.2.1) (store1 n k e o x.1 b x.2.2 x.2.1)) (store1 n k e o v b hp [])) := rfl
@[go_sem] theorem store1_eq (n k e o v b ks) : store1 n k e o v b hp ks = bnd (b.es[e]?) fun cs => bnd (cells v) fun xs => ask (xs.length = n ∧ o + n ≤ cs.length)
    (some { val := undef, hp := (k, .live { b with es := b.es.set e (splice cs o xs) }) :: hp, rd := [], wr := k :: ks }) := rfl
@[go_sem] theorem splice_zero (l cs) : splice l 0 cs = cs ++ l.drop cs.length := by unfold splice; rfl
@[go_sem] theorem splice_succ (x r n cs) : splice (x :: r) (n + 1) cs = x :: splice r n cs := rfl
@[go_sem] theorem newBox_eq (k cs) : newBox k cs hp = some { val := .pt k (nextVer hp k) 0 0, hp := (k, .live { ver := nextVer hp k, row := false, nl := false, ty := 0, sz := cs.length, es := [cs] }) :: hp, rd := [], wr := [k] } := rfl
@[go_sem] theorem newRow_eq (ty sz k es ks) : newRow ty sz k es hp ks = some { val := .ms k (nextVer hp k) 0 es.length, hp := (k, .live { ver := nextVer hp k, row := true, nl := false, ty, sz, es }) :: hp, rd := [], wr := k :: ks } := rfl
@[go_sem] theorem copyV_ms (sz ys ks k v off len) : copyV sz ys ks hp (.ms k v off len) = bnd (blkAt hp k v) fun b => ask (b.row = true ∧ b.dp = false ∧ b.sz = sz ∧ off + len ≤ b.es.length)
      (some { val := .i .i64 (min ys.length len : Nat), hp := (k, .live { b with es := b.es.take off ++ (ys.take (min ys.length len) ++ b.es.drop (off + min ys.length len)) }) :: hp, rd := ks, wr := [k] }) := rfl
@[go_sem] theorem clearV_ms (z k v off len) : clearV z hp (.ms k v off len) = bnd (blkAt hp k v) fun b => ask (b.row = true ∧ b.dp = false ∧ b.sz = z.length ∧ off + len ≤ b.es.length)
      (some { val := undef, hp := (k, .live { b with es := b.es.take off ++ (List.replicate len z ++ b.es.drop (off + len)) }) :: hp, rd := [], wr := [k] }) := rfl
attribute [go_sem] subK sh shs calm fillB fillS fillD frz flat flats flatEs plain plains span apartAll apartFx maxL minL H.kids
@[go_sem] theorem apartKeys_nil (b : List Nat) : apartKeys [] b = true := rfl
@[go_sem] theorem apartKeys_cons (k : Nat) (a b : List Nat) : apartKeys (k :: a) b = (!b.contains k && apartKeys a b) := rfl
end values
section packs
variable (n : Nat) (own : Bool) (h : H)
@[go_sem] theorem FUEL_eq : FUEL = 6 := rfl
@[go_sem] theorem mapSnap_nil (f) : mapSnap f [] = some ([], []) := rfl
@[go_sem] theorem mapSnap_cons (f) (v : AV) (r) : mapSnap f (v :: r) = bnd (f v) fun x => bnd (mapSnap f r) fun y => some (x.1 :: y.1, x.2 ++ y.2) := rfl
@[go_sem] theorem snap_i (k x) : snap hp (n + 1) (.i k x) = some (.i k x, []) := rfl
@[go_sem] theorem snap_b (x) : snap hp (n + 1) (.b x) = some (.b x, []) := rfl
@[go_sem] theorem snap_str (x) : snap hp (n + 1) (.str x) = some (.str x, []) := rfl
@[go_sem] theorem snap_sl (k z x) : snap hp (n + 1) (.sl k z x) = some (.sl k z x, []) := rfl
@[go_sem] theorem snap_ip (x) : snap hp (n + 1) (.ip x) = some (.ip x, []) := rfl
@[go_sem] theorem snap_nilp : snap hp (n + 1) .nilp = some (.nilp, []) := rfl
@[go_sem] theorem snap_nilf : snap hp (n + 1) .nilf = some (.nilf, []) := rfl
@[go_sem] theorem snap_junk : snap hp (n + 1) .junk = some (.junk, []) := rfl
@[go_sem] theorem snap_agg (cs) : snap hp (n + 1) (.agg cs) = bnd (mapSnap (snap hp n) cs) fun y => some (.agg y.1, y.2) := rfl
@[go_sem] theorem snap_tup (cs) : snap hp (n + 1) (.tup cs) = bnd (mapSnap (snap hp n) cs) fun y => some (.tup y.1, y.2) := rfl
@[go_sem] theorem snap_fn (f cs) : snap hp (n + 1) (.fn f cs) = bnd (mapSnap (snap hp n) cs) fun y => some (.fn f y.1, y.2) := rfl
@[go_sem] theorem snap_ms (k v off len) : snap hp (n + 1) (.ms k v off len) = bnd (blkAt hp k v) fun b => ask (b.row = true ∧ off + len ≤ b.es.length) (way b.dp
        (bnd (mapSnapEs (snap hp n) ((b.es.drop off).take len)) fun y => some (.sl (skOf b.nl) b.sz y.1, k :: y.2))
        (some (.sl (skOf b.nl) b.sz ((b.es.drop off).take len), [k]))) := rfl
@[go_sem] theorem snap_pt (k v e o) : snap hp (n + 1) (.pt k v e o) = bnd (blkAt hp k v) fun b => ask (b.row = false ∧ b.mp = false ∧ e = 0) (bnd (only b.es) fun cs => bnd (mapSnap (snap hp n) (cs.drop o)) fun y => some (.ip y.1, k :: y.2)) := rfl
@[go_sem] theorem mapSnapEs_nil (f) : mapSnapEs f [] = some ([], []) := rfl
@[go_sem] theorem mapSnapEs_cons (f e r) : mapSnapEs f (e :: r) = bnd (mapSnap f e) fun x => bnd (mapSnapEs f r) fun y => some (x.1 :: y.1, x.2 ++ y.2) := rfl
@[go_sem] theorem mapPackEs_nil (f) : mapPackEs f [] hp = some ([], [], hp) := rfl
@[go_sem] theorem mapPackEs_cons (f e r) : mapPackEs f (e :: r) hp = bnd (mapPack f [] e hp) fun x => bnd (mapPackEs f r x.2.2) fun y => some (x.1 :: y.1, x.2.1 ++ y.2.1, y.2.2) := rfl
@[go_sem] theorem ownNil_rowd (ty sz v) : ownNil own (.rowd ty sz) v = if own then .od ty sz true [] else v := rfl
@[go_sem] theorem mapPack_nil (f hs) : mapPack f hs [] hp = some ([], [], hp) := by unfold mapPack; rfl
@[go_sem] theorem mapPack_cons (f hs) (v : AV) (r) : mapPack f hs (v :: r) hp = bnd (f (hs.headD .none) v hp) fun x => bnd (mapPack f hs.tail r x.2.2) fun y => some (x.1 :: y.1, x.2.1 ++ y.2.1, y.2.2) := rfl
@[go_sem] theorem ownNil_none (v) : ownNil own .none v = v := rfl
@[go_sem] theorem ownNil_cells (l v) : ownNil own (.cells l) v = v := rfl
@[go_sem] theorem ownNil_row (ty sz v) : ownNil own (.row ty sz) v = if own then .ow ty sz true [] else v := rfl
@[go_sem] theorem pack_i (k x) : pack own (n + 1) h (.i k x) hp = some (.i k x, [], hp) := rfl
@[go_sem] theorem pack_b (x) : pack own (n + 1) h (.b x) hp = some (.b x, [], hp) := rfl
@[go_sem] theorem pack_str (x) : pack own (n + 1) h (.str x) hp = some (.str x, [], hp) := rfl
@[go_sem] theorem pack_ip (x) : pack own (n + 1) h (.ip x) hp = some (.ip x, [], hp) := rfl
@[go_sem] theorem pack_nilp : pack own (n + 1) h .nilp hp = some (.nilp, [], hp) := rfl
@[go_sem] theorem pack_nilf : pack own (n + 1) h .nilf hp = some (.nilf, [], hp) := rfl
@[go_sem] theorem pack_junk : pack own (n + 1) h .junk hp = some (.junk, [], hp) := rfl
@[go_sem] theorem pack_nil (z) : pack own (n + 1) h (.sl .nil z []) hp = some (ownNil own h (.sl .nil z []), [], hp) := rfl
@[go_sem] theorem pack_open (z es) : pack own (n + 1) h (.sl .open_ z es) hp = some (.sl .open_ z es, [], hp) := rfl
@[go_sem] theorem pack_full (z es) : pack own (n + 1) h (.sl .full z es) hp = some (.sl .full z es, [], hp) := rfl
@[go_sem] theorem pack_sl_none (k z es) : pack own (n + 1) .none (.sl k z es) hp = some (.sl k z es, [], hp) := by
  cases k <;> cases es <;> rfl
@[go_sem] theorem pack_sl_cells (l k z es) : pack own (n + 1) (.cells l) (.sl k z es) hp = some (.sl k z es, [], hp) := by
  cases k <;> cases es <;> rfl
@[go_sem] theorem pack_sl_read (k z es) : pack false (n + 1) h (.sl k z es) hp = some (.sl k z es, [], hp) := by
  cases k <;> cases es <;> cases h <;> rfl
@[go_sem] theorem pack_agg (cs) : pack own (n + 1) h (.agg cs) hp = bnd (mapPack (pack own n) h.kids cs hp) fun y => some (.agg y.1, y.2.1, y.2.2) := rfl
@[go_sem] theorem pack_tup (cs) : pack own (n + 1) h (.tup cs) hp = bnd (mapPack (pack own n) h.kids cs hp) fun y => some (.tup y.1, y.2.1, y.2.2) := rfl
@[go_sem] theorem pack_fn (f cs) : pack own (n + 1) h (.fn f cs) hp = bnd (mapPack (pack false n) [] cs hp) fun y => some (.fn f y.1, y.2.1, y.2.2) := rfl
@[go_sem] theorem pack_ms (k v off len) : pack own (n + 1) h (.ms k v off len) hp = bnd (blkAt hp k v) fun b => ask (b.row = true ∧ off + len ≤ b.es.length) (way b.dp
        (way (own && decide (off = 0 ∧ len = b.es.length))
          (bnd (mapPackEs (pack true n) b.es (drop hp k)) fun y => some (.od b.ty b.sz b.nl y.1, k :: y.2.1, y.2.2))
          (bnd (mapPackEs (pack false n) ((b.es.drop off).take len) (drop hp k)) fun y => some (.sl (skOf b.nl) b.sz y.1, k :: y.2.1, y.2.2)))
        (some (if own = true ∧ off = 0 ∧ len = b.es.length then .ow b.ty b.sz b.nl b.es else .sl (skOf b.nl) b.sz ((b.es.drop off).take len), [k], drop hp k))) := rfl
@[go_sem] theorem pack_pt (k v e o) : pack own (n + 1) h (.pt k v e o) hp = bnd (blkAt hp k v) fun b => ask (b.row = false ∧ b.mp = false ∧ e = 0 ∧ o = 0) (bnd (only b.es) fun cs =>
        bnd (mapPack (pack own n) h.kids cs (drop hp k)) fun y => some (if own then .bx y.1 else .ip y.1, k :: y.2.1, y.2.2)) := rfl
@[go_sem] theorem pack_mr (k v) : pack own (n + 1) h (.mr k v) hp = bnd (blkAt hp k v) fun b => ask (b.row = false ∧ b.mp = true ∧ own = true) (some (.om b.es, [k], drop hp k)) := rfl
variable (k : Nat)
@[go_sem] theorem unpack_om (es) : unpack (.om es) k hp = (.mr k (nextVer hp k), k + 1, (k, .live { ver := nextVer hp k, row := false, nl := false, ty := 0, sz := 2, es, mp := true }) :: hp) := by simp only [unpack]
@[go_sem] theorem unpack_ow (ty sz nl es) : unpack (.ow ty sz nl es) k hp = (.ms k (nextVer hp k) 0 es.length, k + 1, (k, .live { ver := nextVer hp k, row := true, nl, ty, sz, es }) :: hp) := by simp only [unpack]
@[go_sem] theorem unpack_bx (cs) : unpack (.bx cs) k hp = (.pt k (nextVer (unpacks cs (k + 1) hp).2.2 k) 0 0, (unpacks cs (k + 1) hp).2.1,
      (k, .live { ver := nextVer (unpacks cs (k + 1) hp).2.2 k, row := false, nl := false, ty := 0, sz := (unpacks cs (k + 1) hp).1.length, es := [(unpacks cs (k + 1) hp).1] }) :: (unpacks cs (k + 1) hp).2.2) := by simp only [unpack]
@[go_sem] theorem unpack_od (ty sz nl es) : unpack (.od ty sz nl es) k hp = (.ms k (nextVer (unpackEs es (subK k) hp).2 k) 0 es.length, k + 1,
      (k, .live { ver := nextVer (unpackEs es (subK k) hp).2 k, row := true, nl, ty, sz, es := (unpackEs es (subK k) hp).1, dp := true }) :: (unpackEs es (subK k) hp).2) := by simp only [unpack]
@[go_sem] theorem unpackEs_nil : unpackEs [] k hp = ([], hp) := by simp only [unpackEs]
@[go_sem] theorem unpack_agg (cs) : unpack (.agg cs) k hp = (.agg (unpacks cs k hp).1, (unpacks cs k hp).2) := by simp only [unpack]
@[go_sem] theorem unpack_tup (cs) : unpack (.tup cs) k hp = (.tup (unpacks cs k hp).1, (unpacks cs k hp).2) := by simp only [unpack]
@[go_sem] theorem unpack_i (a b) : unpack (.i a b) k hp = (.i a b, k, hp) := by simp only [unpack]
@[go_sem] theorem unpack_b (a) : unpack (.b a) k hp = (.b a, k, hp) := by simp only [unpack]
@[go_sem] theorem unpack_str (a) : unpack (.str a) k hp = (.str a, k, hp) := by simp only [unpack]
@[go_sem] theorem unpack_sl (a b c) : unpack (.sl a b c) k hp = (.sl a b c, k, hp) := by simp only [unpack]
@[go_sem] theorem unpack_ip (a) : unpack (.ip a) k hp = (.ip a, k, hp) := by simp only [unpack]
@[go_sem] theorem unpack_fn (a b) : unpack (.fn a b) k hp = (.fn a b, k, hp) := by simp only [unpack]
@[go_sem] theorem unpack_nilp : unpack .nilp k hp = (.nilp, k, hp) := by simp only [unpack]
@[go_sem] theorem unpack_nilf : unpack .nilf k hp = (.nilf, k, hp) := by simp only [unpack]
@[go_sem] theorem unpack_junk : unpack .junk k hp = (.junk, k, hp) := by simp only [unpack]
@[go_sem] theorem unpacks_nil : unpacks [] k hp = ([], k, hp) := by simp only [unpacks]
@[go_sem] theorem unpacks_cons (v r) : unpacks (v :: r) k hp = ((unpack v k hp).1 :: (unpacks r (unpack v k hp).2.1 (unpack v k hp).2.2).1, (unpacks r (unpack v k hp).2.1 (unpack v k hp).2.2).2) := by simp only [unpacks]
@[go_sem] theorem unpackK_nil (vs) : unpackK [] vs s hp = ⟨s, hp⟩ := by unfold unpackK; rfl
@[go_sem] theorem unpackK_cons (p r) (v : AV) (vs) : unpackK (p :: r) (v :: vs) s hp = unpackK r vs ((p.1, (unpack v (keyOf p.1) hp).1) :: s) (unpack v (keyOf p.1) hp).2.2 := by rw [unpackK]
@[go_sem] theorem unpackP_nil (t) : unpackP t [] s hp = ⟨s, hp⟩ := by unfold unpackP; rfl
@[go_sem] theorem unpackP_cons (t) (v : AV) (vs) : unpackP t (v :: vs) s hp = unpackP (t + 1) vs ((t, (unpack v (keyOf t) hp).1) :: s) (unpack v (keyOf t) hp).2.2 := by rw [unpackP]
@[go_sem] theorem packK_eq (keep) : packK keep s hp = bnd (packOwn keep s hp) fun x => packRest keep x.1 s x.2 := rfl
@[go_sem] theorem packOwn_nil : packOwn [] s hp = some ([], hp) := rfl
@[go_sem] theorem packOwn_cons (p r) : packOwn (p :: r) s hp = way (keptOwn p.2 (get s p.1))
      (bnd (pack true FUEL p.2 (get s p.1) hp) fun x => bnd (packOwn r s x.2.2) fun y => some (some x.1 :: y.1, y.2))
      (bnd (packOwn r s hp) fun y => some (none :: y.1, y.2)) := rfl
@[go_sem] theorem packRest_nil : packRest [] [] s hp = some [] := by unfold packRest; rfl
@[go_sem] theorem packRest_some (p r v vs) : packRest (p :: r) (some v :: vs) s hp = bnd (packRest r vs s hp) fun l => some (v :: l) := by rw [packRest]
@[go_sem] theorem packRest_none (p r vs) : packRest (p :: r) (none :: vs) s hp = bnd (snap hp FUEL (get s p.1)) fun x => bnd (packRest r vs s hp) fun l => some (x.1 :: l) := by rw [packRest]
@[go_sem] theorem keptOwn_pt (a b c d) : keptOwn h (.pt a b c d) = true := rfl
@[go_sem] theorem keptOwn_mr (a b) : keptOwn h (.mr a b) = true := rfl
@[go_sem] theorem keptOwn_row (ty sz v) : keptOwn (.row ty sz) v = true := by cases v <;> rfl
@[go_sem] theorem keptOwn_rowd (ty sz v) : keptOwn (.rowd ty sz) v = true := by cases v <;> rfl
@[go_sem] theorem keptOwn_cells (l v) : keptOwn (.cells l) v = true := by cases v <;> rfl
@[go_sem] theorem keptOwn_ms (a b c d) : keptOwn .none (.ms a b c d) = false := rfl
@[go_sem] theorem keptOwn_i (a b) : keptOwn .none (.i a b) = false := rfl
@[go_sem] theorem keptOwn_b (a) : keptOwn .none (.b a) = false := rfl
@[go_sem] theorem keptOwn_str (a) : keptOwn .none (.str a) = false := rfl
@[go_sem] theorem keptOwn_sl (a b c) : keptOwn .none (.sl a b c) = false := rfl
@[go_sem] theorem keptOwn_ip (a) : keptOwn .none (.ip a) = false := rfl
@[go_sem] theorem keptOwn_fn (a b) : keptOwn .none (.fn a b) = false := rfl
@[go_sem] theorem keptOwn_agg (a) : keptOwn .none (.agg a) = false := rfl
@[go_sem] theorem keptOwn_tup (a) : keptOwn .none (.tup a) = false := rfl
@[go_sem] theorem keptOwn_junk : keptOwn .none .junk = false := rfl
@[go_sem] theorem keptOwn_nilp : keptOwn .none .nilp = false := rfl
@[go_sem] theorem keptOwn_nilf : keptOwn .none .nilf = false := rfl
@[go_sem] theorem hand1_borrow (v) : hand1 v hp .borrow = bnd (snap hp FUEL v) fun x => some { args := [x.1], rd := x.2, io := [], wr := [], hp } := rfl
@[go_sem] theorem hand1_give (v h) : hand1 v hp (.give h) = bnd (pack true FUEL h v hp) fun x => some { args := [x.1], rd := [], io := [], wr := x.2.1, hp := x.2.2 } := rfl
@[go_sem] theorem hand1_inout (v h) : hand1 v hp (.inout h) = bnd (place hp v) fun p => bnd (pack true FUEL h v hp) fun x => some { args := [x.1], rd := [], io := [p], wr := x.2.1, hp := x.2.2 } := rfl
@[go_sem] theorem place_pt (a b) : place hp (.pt a b 0 0) = bnd (blkAt hp a b) fun bl => ask (bl.row = false) (some ⟨a, b, 0, 0, false⟩) := rfl
@[go_sem] theorem place_ms (a b d) : place hp (.ms a b 0 d) = bnd (blkAt hp a b) fun bl => ask (bl.row = true ∧ d = bl.es.length) (some ⟨a, b, d, bl.sz, bl.nl⟩) := rfl
@[go_sem] theorem hand_nil (pms) : hand pms [] hp = some { args := [], rd := [], io := [], wr := [], hp } := by unfold hand; rfl
@[go_sem] theorem hand_cons (pms v r) : hand pms (v :: r) hp = bnd (hand1 v hp (pms.headD .borrow)) fun x => bnd (hand pms.tail r x.hp) fun y =>
      some { args := x.args ++ y.args, rd := x.rd ++ y.rd, io := x.io ++ y.io, wr := x.wr ++ y.wr, hp := y.hp } := rfl
@[go_sem] theorem back1_bx (p : Place) (cs) : back1 p k hp (.bx cs) = ask (shs cs = true ∧ nextVer (unpacks cs k hp).2.2 p.key = p.ver + 1 ∧ p.len = 0)
      (some ((unpacks cs k hp).2.1, (p.key, .live { ver := p.ver, row := false, nl := false, ty := 0, sz := (unpacks cs k hp).1.length, es := [(unpacks cs k hp).1] }) :: (unpacks cs k hp).2.2)) := rfl
@[go_sem] theorem back1_ow (p : Place) (ty sz nl es) : back1 p k hp (.ow ty sz nl es) = ask (es.length = p.len ∧ sz = p.sz ∧ nl = p.nl ∧ nextVer hp p.key = p.ver + 1) (some (k, (p.key, .live { ver := p.ver, row := true, nl, ty, sz, es }) :: hp)) := rfl
@[go_sem] theorem back_nil : back [] [] k hp = some (k, hp) := by unfold back; rfl
@[go_sem] theorem back_cons (p io v os) : back (p :: io) (v :: os) k hp = bnd (back1 p k hp v) fun x => back io os x.1 x.2 := by rw [back]
@[go_sem] theorem took_eq (hd : Handed) (dst : Nat) (r : AV) (k2 : Nat) : took hd dst r k2 hp = { val := (unpack r (keyOf dst) hp).1, hp := (unpack r (keyOf dst) hp).2.2, rd := hd.rd, wr := hd.wr ++ (hd.io.map (·.key) ++ ((if plain r && hd.io.isEmpty then [] else hd.rd) ++ (span (keyOf dst + 32) (k2 - (keyOf dst + 32)) ++ span (keyOf dst) ((unpack r (keyOf dst) hp).2.1 - keyOf dst)))) } := rfl
end packs
@[go_sem] theorem abody_eq (fs : FSpec) (f : AFun) (args : List AV) : abody cx fs f args = bnd (aexec cx f.body (unpackP 0 args [] [])) fun x => bnd (notExit x) fun st => answer fs f.nparams f.res st := rfl
@[go_sem] theorem answer_eq (fs : FSpec) (np : Nat) (res : List ARes) : answer fs np res ⟨s, hp⟩ =
    bnd (resVals ⟨s, hp⟩ res) fun vs => bnd (pack fs.rm.isSome FUEL (fs.rm.getD .none) (weak fs.nn (one vs)) hp) fun x => bnd (outs s 0 np fs.pm x.2.2) fun os => some (x.1, os) := rfl
attribute [go_sem] weak weakV
@[go_sem] theorem resVals_nil (st : St) : resVals st [] = some [] := rfl
@[go_sem] theorem resVals_cons (r l) : resVals ⟨s, hp⟩ (r :: l) = bnd (resVal ⟨s, hp⟩ r) fun v => bnd (resVals ⟨s, hp⟩ l) fun vs => some (v :: vs) := rfl
@[go_sem] theorem resVal_tmp (t) : resVal ⟨s, hp⟩ (.tmp t) = some (get s t) := rfl
@[go_sem] theorem resVal_cell (t g n) : resVal ⟨s, hp⟩ (.cell t g n) = bnd (loadA g n hp (get s t)) fun fx => some fx.val := rfl
@[go_sem] theorem one_one (v) : one [v] = v := rfl
@[go_sem] theorem one_nil : one [] = .tup [] := rfl
@[go_sem] theorem one_two (v u r) : one (v :: u :: r) = .tup (v :: u :: r) := rfl
@[go_sem] theorem outs_zero (t pm) : outs s t 0 pm hp = some [] := by unfold outs; rfl
@[go_sem] theorem outs_nil (t n) : outs s t n [] hp = some [] := by cases n <;> (unfold outs; rfl)
@[go_sem] theorem outs_borrow (t n r) : outs s t (n + 1) (.borrow :: r) hp = outs s (t + 1) n r hp := by rw [outs]
@[go_sem] theorem outs_give (t n h r) : outs s t (n + 1) (.give h :: r) hp = outs s (t + 1) n r hp := by rw [outs]
@[go_sem] theorem outs_inout (t n h r) : outs s t (n + 1) (.inout h :: r) hp = bnd (pack true FUEL h (get s t) hp) fun x => bnd (outs s (t + 1) n r x.2.2) fun vs => some (x.1 :: vs) := by rw [outs]
end Go.Abs
end
section
namespace Go.Abs
theorem bnd_bnd {α β γ : Type} (x : Option α) (f : α → Option β) (g : β → Option γ) : bnd (bnd x f) g = bnd x fun a => bnd (f a) g := by cases x <;> rfl
theorem ask_bnd {α β : Type} {c : Prop} [Decidable c] (x : Option α) (f : α → Option β) : bnd (ask c x) f = ask c (bnd x f) := by unfold ask; split <;> rfl
@[go_sem] theorem bnd_ask' {α β : Type} {c : Prop} [Decidable c] (x : Option α) (f : α → Option β) : bnd (ask c x) f = ask c (bnd x f) := ask_bnd x f
@[go_sem] theorem bne_false_eq (b : Bool) : (b != false) = b := by cases b <;> rfl
@[go_sem] theorem bne_true_eq (b : Bool) : (b != true) = !b := by cases b <;> rfl
attribute [go_sem] bnd_bnd
theorem aloop_step {body : St → Res} {keep : List (Nat × H)} {vs vs' : List AV} {st : St} {r : AExit × St} (h : body (unpackK keep vs [] []) = some (.normal, st)) (hp : packK keep st.sl st.hp = some vs') (hr : aloop body keep vs' = some r) : aloop body keep vs = some r := by
  obtain ⟨n, hn⟩ := aloop_some hr
  refine aloop_of (m := n + 1) ?_
  simp only [aloopN, h, bnd_some]
  show goOn _ _ (.normal, st) = _
  obtain ⟨sl, hp'⟩ := st
  rw [goOn_normal, hp, bnd_some]
  exact hn
theorem aloop_exit {body : St → Res} {keep : List (Nat × H)} {vs : List AV} {e : AExit} {st : St} (h : body (unpackK keep vs [] []) = some (e, st)) (he : e ≠ .normal) : aloop body keep vs = some (e, st) := by
  refine aloop_of (m := 1) ?_
  simp only [aloopN, h, bnd_some]
  cases e with
  | normal => exact absurd rfl he
  | exit id => rfl
  | ret => rfl
inductive Round {ι : Type} (body : St → Res) (keep : List (Nat × H)) (V : ι → List AV) (I : ι → Prop) (μ : ι → Nat) (Q : AExit × St → Prop) (x : ι) : Prop where
  | next (sl : Sl) (hp : Hp) (y : ι) (h : body (unpackK keep (V x) [] []) = some (.normal, ⟨sl, hp⟩)) (hp : packK keep sl hp = some (V y)) (hi : I y) (hm : μ y < μ x)
  | stop (e : AExit) (st : St) (h : body (unpackK keep (V x) [] []) = some (e, st)) (he : e ≠ .normal) (hq : Q (e, st))
theorem aloop_inv {ι : Type} {body : St → Res} {keep : List (Nat × H)} (V : ι → List AV) (I : ι → Prop) (μ : ι → Nat) (Q : AExit × St → Prop)
    (step : ∀ x, I x → Round body keep V I μ Q x) : ∀ x, I x → ∃ r, aloop body keep (V x) = some r ∧ Q r := by
  have go : ∀ n x, μ x ≤ n → I x → ∃ r, aloop body keep (V x) = some r ∧ Q r := by
    intro n
    induction n with
    | zero =>
      intro x hn hi
      cases step x hi with
      | next sl hp y h hp' hi' hm => omega
      | stop e st h he hq => exact ⟨_, aloop_exit h he, hq⟩
    | succ n ih =>
      intro x hn hi
      cases step x hi with
      | next sl hp y h hp' hi' hm =>
        obtain ⟨r, h1, h2⟩ := ih y (by omega) hi'
        exact ⟨r, aloop_step h hp' h1, h2⟩
      | stop e st h he hq => exact ⟨_, aloop_exit h he, hq⟩
  exact fun x hi => go (μ x) x (Nat.le_refl _) hi
attribute [go_sem] List.take_of_length_le
end Go.Abs
end
section
namespace Go.Abs
def W {α : Type} (x : Option α) (P : α → Prop) : Prop := ∃ a, x = some a ∧ P a
theorem W_some {α : Type} (a : α) (P : α → Prop) : W (some a) P ↔ P a := by simp [W]
theorem W_bnd {α β : Type} (x : Option α) (f : α → Option β) (P : β → Prop) : W (bnd x f) P ↔ W x fun a => W (f a) P := by
  cases x <;> simp [W]
theorem W_mono {α : Type} {x : Option α} {P Q : α → Prop} (h : W x P) (k : ∀ a, P a → Q a) : W x Q := by
  obtain ⟨a, e, p⟩ := h
  exact ⟨a, e, k a p⟩
inductive KF where
  | code (c : ACode)
  | norm (c : ACode)
  | out (id : Nat)
section
variable (cx : Cx)
def kont : List KF → (AExit → St → Prop) → AExit × St → Prop
  | [], P, r => P r.1 r.2
  | .code c :: ks, P, r => W (andThen (aexec cx c) r) (kont ks P)
  | .norm c :: ks, P, r => W (andNorm (aexec cx c) r) (kont ks P)
  | .out id :: ks, P, r => W (outOf id r) (kont ks P)
def kexec (c : ACode) (ks : List KF) (P : AExit → St → Prop) (st : St) : Prop := W (aexec cx c st) (kont cx ks P)
def kreg (l : List AIns) (ks : List KF) (P : AExit → St → Prop) (st : St) : Prop := W (areg cx l st) fun st => kont cx ks P (.normal, st)
def kop (x : Option Fx) (d : Option Nat) (l : List AIns) (ks : List KF) (P : AExit → St → Prop) (s : Sl) : Prop := W x fun fx => kreg cx l ks P ⟨put s d fx.val, fx.hp⟩
def kgd (x : Option Bool) (o : AIns) (l : List AIns) (ks : List KF) (P : AExit → St → Prop) (s : Sl) (hp : Hp) : Prop :=
  W x fun b => match b with | true => kop cx (aop cx o.op (o.dst.getD 0) s hp) o.dst l ks P s | false => kreg cx l ks P ⟨put s o.dst undef, hp⟩
def kdraw (l : List AIns) (acc : List (List Nat × List Nat)) (ps : List (Nat × Nat)) (ks : List KF) (P : AExit → St → Prop) (st : St) : Prop :=
  W (adraw cx l acc st) fun x => apartAll x.2 ps = true ∧ kont cx ks P (.normal, x.1)
def kopd (x : Option Fx) (d : Option Nat) (l : List AIns) (acc : List (List Nat × List Nat)) (ps : List (Nat × Nat)) (ks : List KF) (P : AExit → St → Prop) (s : Sl) : Prop :=
  W x fun fx => kdraw cx l (acc ++ [(fx.rd, fx.wr)]) ps ks P ⟨put s d fx.val, fx.hp⟩
def kgdd (x : Option Bool) (o : AIns) (l : List AIns) (acc : List (List Nat × List Nat)) (ps : List (Nat × Nat)) (ks : List KF) (P : AExit → St → Prop) (s : Sl) (hp : Hp) : Prop :=
  W x fun b => match b with | true => kopd cx (aop cx o.op (o.dst.getD 0) s hp) o.dst l acc ps ks P s | false => kdraw cx l (acc ++ [([], [])]) ps ks P ⟨put s o.dst undef, hp⟩
def kcond (v : AV) (a b : ACode) (ks : List KF) (P : AExit → St → Prop) (st : St) : Prop := W (condV (aexec cx a st) (aexec cx b st) v) (kont cx ks P)
def kway (c : Bool) (a b : ACode) (ks : List KF) (P : AExit → St → Prop) (st : St) : Prop := match c with | true => kexec cx a ks P st | false => kexec cx b ks P st
def kpack (x : Option (List AV)) (keep : List (Nat × H)) (c : ACode) (ks : List KF) (P : AExit → St → Prop) : Prop := W x fun vs => W (aloop (aexec cx c) keep vs) (kont cx ks P)
def kloop (keep : List (Nat × H)) (c : ACode) (vs : List AV) (ks : List KF) (P : AExit → St → Prop) : Prop := W (aloop (aexec cx c) keep vs) (kont cx ks P)
end
variable {cx : Cx} {s : Sl} {hp : Hp} {ks : List KF} {P : AExit → St → Prop}
@[go_sem] theorem kont_nil (e : AExit) (st : St) : kont cx [] P (e, st) ↔ P e st := Iff.rfl
theorem kont_code (c : ACode) (st : St) : kont cx (.code c :: ks) P (.normal, st) ↔ kexec cx c ks P st := Iff.rfl
theorem kont_next {c : ACode} {st : St} (h : kexec cx c ks P st) : kont cx (.code c :: ks) P (.normal, st) := h
theorem kont_nextn {c : ACode} {st : St} (h : kexec cx c ks P st) : kont cx (.norm c :: ks) P (.normal, st) := h
@[go_sem] theorem kont_code_exit (c : ACode) (id : Nat) (st : St) : kont cx (.code c :: ks) P (.exit id, st) ↔ kont cx ks P (.exit id, st) := by simp [kont, andThen, W]
@[go_sem] theorem kont_code_ret (c : ACode) (st : St) : kont cx (.code c :: ks) P (.ret, st) ↔ kont cx ks P (.ret, st) := by simp [kont, andThen, W]
@[go_sem] theorem kont_out (id : Nat) (st : St) : kont cx (.out id :: ks) P (.normal, st) ↔ kont cx ks P (.normal, st) := by simp [kont, outOf, W]
@[go_sem] theorem kont_out_ret (id : Nat) (st : St) : kont cx (.out id :: ks) P (.ret, st) ↔ kont cx ks P (.ret, st) := by simp [kont, outOf, W]
@[go_sem] theorem kont_out_exit (id id' : Nat) (st : St) : kont cx (.out id :: ks) P (.exit id', st) ↔ if id' = id then kont cx ks P (.normal, st) else kont cx ks P (.exit id', st) := by
  simp only [kont, outOf, W]
  split <;> simp
@[go_sem] theorem kexec_skip (st : St) : kexec cx .skip ks P st ↔ kont cx ks P (.normal, st) := by simp [kexec, aexec, W]
@[go_sem] theorem kexec_exit (id : Nat) (st : St) : kexec cx (.exit id) ks P st ↔ kont cx ks P (.exit id, st) := by simp [kexec, aexec, W]
@[go_sem] theorem kexec_ret (st : St) : kexec cx .ret ks P st ↔ kont cx ks P (.ret, st) := by simp [kexec, aexec, W]
@[go_sem] theorem kexec_reg (l : List AIns) : kexec cx (.reg l) ks P ⟨s, hp⟩ ↔ kreg cx l ks P ⟨s, hp⟩ := by
  simp only [kexec, aexec, W_bnd, W_some, kreg]
@[go_sem] theorem kexec_draw (l : List AIns) (ps) : kexec cx (.draw l ps) ks P ⟨s, hp⟩ ↔ kdraw cx l [] ps ks P ⟨s, hp⟩ := by
  simp only [kexec, aexec, W_bnd, kdraw]
  have : ∀ x : St × List (List Nat × List Nat), W (ask (apartAll x.2 ps = true) (some (AExit.normal, x.1))) (kont cx ks P) ↔ apartAll x.2 ps = true ∧ kont cx ks P (.normal, x.1) := by
    intro x
    by_cases h : apartAll x.2 ps = true <;> simp [W, ask, h]
  simp only [this]
@[go_sem] theorem kexec_seq (a b : ACode) (st : St) : kexec cx (.seq a b) ks P st ↔ kexec cx a (.code b :: ks) P st := by
  simp only [kexec, aexec, W_bnd]
  have : (fun a : AExit × St => W (andThen (aexec cx b) a) (kont cx ks P)) = kont cx (.code b :: ks) P := by funext a; rfl
  rw [this]
@[go_sem] theorem kexec_block (id : Nat) (c : ACode) (st : St) : kexec cx (.block id c) ks P st ↔ kexec cx c (.out id :: ks) P st := by
  simp only [kexec, aexec, W_bnd]
  have : (fun a : AExit × St => W (outOf id a) (kont cx ks P)) = kont cx (.out id :: ks) P := by funext a; rfl
  rw [this]
@[go_sem] theorem kexec_cond (c : Opd) (a b : ACode) : kexec cx (.cond c a b) ks P ⟨s, hp⟩ ↔ kcond cx (ev s c) a b ks P ⟨s, hp⟩ := by simp only [kexec, aexec, kcond]
@[go_sem] theorem kcond_b (c : Bool) (a b : ACode) (st : St) : kcond cx (.b c) a b ks P st ↔ kway cx c a b ks P st := by cases c <;> rfl
@[go_sem] theorem kway_true (a b : ACode) (st : St) : kway cx true a b ks P st ↔ kexec cx a ks P st := Iff.rfl
@[go_sem] theorem kway_false (a b : ACode) (st : St) : kway cx false a b ks P st ↔ kexec cx b ks P st := Iff.rfl
@[go_sem] theorem kway_not (c : Bool) (a b : ACode) (st : St) : kway cx (!c) a b ks P st ↔ kway cx c b a ks P st := by cases c <;> rfl
@[go_sem] theorem kexec_loop (keep) (c : ACode) : kexec cx (.loop keep c) ks P ⟨s, hp⟩ ↔ kpack cx (packK keep s hp) keep c ks P := by simp only [kexec, aexec, W_bnd, kpack]
@[go_sem] theorem kpack_some (vs keep) (c : ACode) : kpack cx (some vs) keep c ks P ↔ kloop cx keep c vs ks P := by simp only [kpack, W_some, kloop]
@[go_sem] theorem kreg_nil (st : St) : kreg cx [] ks P st ↔ kont cx ks P (.normal, st) := by simp only [kreg, areg, W_some]
theorem kreg_unfold (o : AIns) (l : List AIns) (st : St) : kreg cx (o :: l) ks P st ↔ W (ains cx o st) fun x => kreg cx l ks P x.1 := by
  simp only [kreg, areg, W_bnd]
@[go_sem] theorem kreg_plain (d : Option Nat) (op : AOp) (l : List AIns) : kreg cx (⟨d, op, none⟩ :: l) ks P ⟨s, hp⟩ ↔ kop cx (aop cx op (d.getD 0) s hp) d l ks P s := by
  rw [kreg_unfold]
  simp only [ains, wanted, bnd_some, way_true, W_bnd, W_some, kop]
@[go_sem] theorem kreg_guard (d : Option Nat) (op : AOp) (t : Nat) (w : Bool) (l : List AIns) : kreg cx (⟨d, op, some (t, w)⟩ :: l) ks P ⟨s, hp⟩ ↔ kgd cx (wantedV w (get s t)) ⟨d, op, none⟩ l ks P s hp := by
  rw [kreg_unfold]
  simp only [ains, wanted, W_bnd, kgd]
  constructor <;> refine fun h => W_mono h fun b hb => ?_ <;> cases b <;> simpa only [way_true, way_false, W_some, W_bnd, kop] using hb
@[go_sem] theorem kgd_true (o : AIns) (l : List AIns) : kgd cx (some true) o l ks P s hp ↔ kop cx (aop cx o.op (o.dst.getD 0) s hp) o.dst l ks P s := by simp only [kgd, W_some]
@[go_sem] theorem kgd_false (o : AIns) (l : List AIns) : kgd cx (some false) o l ks P s hp ↔ kreg cx l ks P ⟨put s o.dst undef, hp⟩ := by simp only [kgd, W_some]
@[go_sem] theorem kop_some (v : AV) (hp' : Hp) (rd wr : List Nat) (d : Option Nat) (l : List AIns) : kop cx (some ⟨v, hp', rd, wr⟩) d l ks P s ↔ kreg cx l ks P ⟨put s d v, hp'⟩ := by simp only [kop, W_some]
@[go_sem] theorem kdraw_nil (acc ps) (st : St) : kdraw cx [] acc ps ks P st ↔ apartAll acc ps = true ∧ kont cx ks P (.normal, st) := by simp only [kdraw, adraw, W_some]
theorem kdraw_unfold (o : AIns) (l : List AIns) (acc ps) (st : St) : kdraw cx (o :: l) acc ps ks P st ↔ calm o.op = true ∧ W (ains cx o st) fun x => kdraw cx l (acc ++ [x.2]) ps ks P x.1 := by
  have : ∀ (c : Prop) [Decidable c] (x : Option (St × List (List Nat × List Nat))) (Q : St × List (List Nat × List Nat) → Prop), W (ask c x) Q ↔ c ∧ W x Q := by
    intro c _ x Q
    by_cases h : c <;> simp [W, ask, h]
  simp only [kdraw, adraw, this, W_bnd]
@[go_sem] theorem kdraw_plain (d : Option Nat) (op : AOp) (l : List AIns) (acc ps) : kdraw cx (⟨d, op, none⟩ :: l) acc ps ks P ⟨s, hp⟩ ↔ calm op = true ∧ kopd cx (aop cx op (d.getD 0) s hp) d l acc ps ks P s := by
  rw [kdraw_unfold]
  simp only [ains, wanted, bnd_some, way_true, W_bnd, W_some, kopd]
@[go_sem] theorem kdraw_guard (d : Option Nat) (op : AOp) (t : Nat) (w : Bool) (l : List AIns) (acc ps) : kdraw cx (⟨d, op, some (t, w)⟩ :: l) acc ps ks P ⟨s, hp⟩ ↔ calm op = true ∧ kgdd cx (wantedV w (get s t)) ⟨d, op, none⟩ l acc ps ks P s hp := by
  rw [kdraw_unfold]
  simp only [ains, wanted, W_bnd, kgdd]
  refine and_congr Iff.rfl ?_
  constructor <;> refine fun h => W_mono h fun b hb => ?_ <;> cases b <;> simpa only [way_true, way_false, W_some, W_bnd, kopd] using hb
@[go_sem] theorem kgdd_true (o : AIns) (l : List AIns) (acc ps) : kgdd cx (some true) o l acc ps ks P s hp ↔ kopd cx (aop cx o.op (o.dst.getD 0) s hp) o.dst l acc ps ks P s := by simp only [kgdd, W_some]
@[go_sem] theorem kgdd_false (o : AIns) (l : List AIns) (acc ps) : kgdd cx (some false) o l acc ps ks P s hp ↔ kdraw cx l (acc ++ [([], [])]) ps ks P ⟨put s o.dst undef, hp⟩ := by simp only [kgdd, W_some]
@[go_sem] theorem kopd_some (v : AV) (hp' : Hp) (rd wr : List Nat) (d : Option Nat) (l : List AIns) (acc ps) : kopd cx (some ⟨v, hp', rd, wr⟩) d l acc ps ks P s ↔ kdraw cx l (acc ++ [(rd, wr)]) ps ks P ⟨put s d v, hp'⟩ := by simp only [kopd, W_some]
theorem kway_sp {c : Bool} {a b : ACode} {st : St} (h1 : c = true → kexec cx a ks P st) (h0 : c = false → kexec cx b ks P st) : kway cx c a b ks P st := by cases c; exact h0 rfl; exact h1 rfl
theorem kgd_sp {c : Bool} {o : AIns} {l : List AIns} (h1 : c = true → kop cx (aop cx o.op (o.dst.getD 0) s hp) o.dst l ks P s) (h0 : c = false → kreg cx l ks P ⟨put s o.dst undef, hp⟩) : kgd cx (some c) o l ks P s hp := by
  cases c
  · rw [kgd_false]; exact h0 rfl
  · rw [kgd_true]; exact h1 rfl
theorem kgdn_sp {c : Bool} {o : AIns} {l : List AIns} (h1 : c = false → kop cx (aop cx o.op (o.dst.getD 0) s hp) o.dst l ks P s) (h0 : c = true → kreg cx l ks P ⟨put s o.dst undef, hp⟩) : kgd cx (some !c) o l ks P s hp := by
  cases c
  · simp only [Bool.not_false]; rw [kgd_true]; exact h1 rfl
  · simp only [Bool.not_true]; rw [kgd_false]; exact h0 rfl
theorem kgdd_sp {c : Bool} {o : AIns} {l : List AIns} {acc ps} (h1 : c = true → kopd cx (aop cx o.op (o.dst.getD 0) s hp) o.dst l acc ps ks P s) (h0 : c = false → kdraw cx l (acc ++ [([], [])]) ps ks P ⟨put s o.dst undef, hp⟩) : kgdd cx (some c) o l acc ps ks P s hp := by
  cases c
  · rw [kgdd_false]; exact h0 rfl
  · rw [kgdd_true]; exact h1 rfl
theorem kgddn_sp {c : Bool} {o : AIns} {l : List AIns} {acc ps} (h1 : c = false → kopd cx (aop cx o.op (o.dst.getD 0) s hp) o.dst l acc ps ks P s) (h0 : c = true → kdraw cx l (acc ++ [([], [])]) ps ks P ⟨put s o.dst undef, hp⟩) : kgdd cx (some !c) o l acc ps ks P s hp := by
  cases c
  · simp only [Bool.not_false]; rw [kgdd_true]; exact h1 rfl
  · simp only [Bool.not_true]; rw [kgdd_false]; exact h0 rfl
theorem kop_way {c : Bool} {x y : Option Fx} {d : Option Nat} {l : List AIns} (h1 : c = true → kop cx x d l ks P s) (h0 : c = false → kop cx y d l ks P s) : kop cx (way c x y) d l ks P s := by cases c; exact h0 rfl; exact h1 rfl
theorem kop_bway {α : Type} {c : Bool} {x y : Option α} {f : α → Option Fx} {d : Option Nat} {l : List AIns} (h1 : c = true → kop cx (bnd x f) d l ks P s) (h0 : c = false → kop cx (bnd y f) d l ks P s) : kop cx (bnd (way c x y) f) d l ks P s := by cases c; exact h0 rfl; exact h1 rfl
theorem kop_ask {c : Prop} [Decidable c] {x : Option Fx} {d : Option Nat} {l : List AIns} (h1 : c) (h0 : kop cx x d l ks P s) : kop cx (ask c x) d l ks P s := by rw [ask_pos x h1]; exact h0
theorem kopd_way {c : Bool} {x y : Option Fx} {d : Option Nat} {l : List AIns} {acc ps} (h1 : c = true → kopd cx x d l acc ps ks P s) (h0 : c = false → kopd cx y d l acc ps ks P s) : kopd cx (way c x y) d l acc ps ks P s := by cases c; exact h0 rfl; exact h1 rfl
theorem kopd_bway {α : Type} {c : Bool} {x y : Option α} {f : α → Option Fx} {d : Option Nat} {l : List AIns} {acc ps} (h1 : c = true → kopd cx (bnd x f) d l acc ps ks P s) (h0 : c = false → kopd cx (bnd y f) d l acc ps ks P s) : kopd cx (bnd (way c x y) f) d l acc ps ks P s := by cases c; exact h0 rfl; exact h1 rfl
theorem kopd_ask {c : Prop} [Decidable c] {x : Option Fx} {d : Option Nat} {l : List AIns} {acc ps} (h1 : c) (h0 : kopd cx x d l acc ps ks P s) : kopd cx (ask c x) d l acc ps ks P s := by rw [ask_pos x h1]; exact h0
theorem kpack_ask {c : Prop} [Decidable c] {x : Option (List AV)} {keep} {b : ACode} (h1 : c) (h0 : kpack cx x keep b ks P) : kpack cx (ask c x) keep b ks P := by rw [ask_pos x h1]; exact h0
def kans (x : Option (AV × List AV)) (Φ : AV × List AV → Prop) : Prop := W x Φ
@[go_sem] theorem kans_some (v : AV) (os : List AV) (Φ : AV × List AV → Prop) : kans (some (v, os)) Φ ↔ Φ (v, os) := W_some _ _
theorem kans_ask {c : Prop} [Decidable c] {x : Option (AV × List AV)} {Φ : AV × List AV → Prop} (h1 : c) (h0 : kans x Φ) : kans (ask c x) Φ := by rw [ask_pos x h1]; exact h0
def kfin (fs : FSpec) (np : Nat) (res : List ARes) (Φ : AV × List AV → Prop) (e : AExit) (st : St) : Prop := W (bnd (notExit (e, st)) fun st => answer fs np res st) Φ
@[go_sem] theorem kfin_normal (fs np res Φ) : kfin fs np res Φ .normal ⟨s, hp⟩ ↔ kans (answer fs np res ⟨s, hp⟩) Φ := by simp only [kfin, notExit, bnd_some, kans]
@[go_sem] theorem kfin_ret (fs np res Φ) : kfin fs np res Φ .ret ⟨s, hp⟩ ↔ kans (answer fs np res ⟨s, hp⟩) Φ := by simp only [kfin, notExit, bnd_some, kans]
theorem kbody {fs : FSpec} {f : AFun} {args : List AV} {Φ : AV × List AV → Prop} (h : kexec cx f.body [] (kfin fs f.nparams f.res Φ) (unpackP 0 args [] [])) : W (abody cx fs f args) Φ := by
  unfold abody
  rw [W_bnd]
  refine W_mono h fun x hx => ?_
  exact hx
theorem kcall {S : Sys} {f : Nat} {fn : AFun} {args : List AV} {Φ : AV × List AV → Prop} (hit : (S.spec f).it = false) (hp : S.prim f = none) (hf : S.fs f = some fn) (hl : args.length = fn.nparams)
    (h : kexec ⟨acall S, S.spec, inlF S (acall S)⟩ fn.body [] (kfin (S.spec f) fn.nparams fn.res Φ) (unpackP 0 args [] [])) : W (acall S f args) Φ := by
  obtain ⟨r, e, p⟩ := kbody h
  exact ⟨r, acall_body hit hp hf hl e, p⟩
theorem W_eq {α : Type} {x : Option α} {r : α} (h : W x (· = r)) : x = some r := by
  obtain ⟨a, e, rfl⟩ := h
  exact e
theorem leafb {x y : Bool} (h : x = true ↔ y = true) : AV.b x = AV.b y := by
  rw [show x = y from Bool.eq_iff_iff.2 h]
def kpk (x : Option (List AV)) (Ψ : List AV → Prop) : Prop := W x Ψ
@[go_sem] theorem kpk_some (vs : List AV) (Ψ : List AV → Prop) : kpk (some vs) Ψ ↔ Ψ vs := W_some _ _
theorem kpk_ask {c : Prop} [Decidable c] {x : Option (List AV)} {Ψ : List AV → Prop} (h1 : c) (h0 : kpk x Ψ) : kpk (ask c x) Ψ := by rw [ask_pos x h1]; exact h0
def krd (cx : Cx) (keep : List (Nat × H)) (Ψ : List AV → Prop) (ks : List KF) (P : AExit → St → Prop) (e : AExit) (st : St) : Prop :=
  match e with
  | .normal => kpk (packK keep st.sl st.hp) Ψ
  | e => kont cx ks P (e, st)
@[go_sem] theorem krd_normal (keep Ψ) : krd cx keep Ψ ks P .normal ⟨s, hp⟩ ↔ kpk (packK keep s hp) Ψ := Iff.rfl
@[go_sem] theorem krd_exit (keep Ψ id st) : krd cx keep Ψ ks P (.exit id) st ↔ kont cx ks P (.exit id, st) := Iff.rfl
@[go_sem] theorem krd_ret (keep Ψ st) : krd cx keep Ψ ks P .ret st ↔ kont cx ks P (.ret, st) := Iff.rfl
theorem kloop_inv {ι : Type} {keep : List (Nat × H)} {c : ACode} {vs : List AV} (V : ι → List AV) (I : ι → Prop) (μ : ι → Nat) (x : ι) (hv : vs = V x) (hx : I x)
    (round : ∀ x, I x → kexec cx c [] (krd cx keep (fun vs' => ∃ y, vs' = V y ∧ I y ∧ μ y < μ x) ks P) (unpackK keep (V x) [] [])) : kloop cx keep c vs ks P := by
  subst hv
  have go : ∀ n x, μ x ≤ n → I x → kloop cx keep c (V x) ks P := by
    intro n
    induction n with
    | zero =>
      intro x hn hi
      obtain ⟨⟨e, sl, hp⟩, h1, h2⟩ := round x hi
      cases e with
      | normal =>
        obtain ⟨vs, h3, y, rfl, h4, h5⟩ := h2
        omega
      | exit id => exact ⟨_, aloop_exit h1 (by simp), h2⟩
      | ret => exact ⟨_, aloop_exit h1 (by simp), h2⟩
    | succ n ih =>
      intro x hn hi
      obtain ⟨⟨e, sl, hp⟩, h1, h2⟩ := round x hi
      cases e with
      | normal =>
        obtain ⟨vs, h3, y, rfl, h4, h5⟩ := h2
        obtain ⟨r, k1, k2⟩ := ih y (by omega) h4
        exact ⟨r, aloop_step h1 h3 k1, k2⟩
      | exit id => exact ⟨_, aloop_exit h1 (by simp), h2⟩
      | ret => exact ⟨_, aloop_exit h1 (by simp), h2⟩
  exact go (μ x) x (Nat.le_refl _) hx
theorem wrap_succ {k : Nat} (h : k < 4611686018427387904) : IntKind.i64.wrap ((k : Int) + 1) = ((k + 1 : Nat) : Int) := by
  simp [IntKind.wrap, IntKind.bits, IntKind.signed]
  omega
theorem wrap_i64 {n : Int} (h : -9223372036854775808 ≤ n) (h' : n < 9223372036854775808) : IntKind.i64.wrap n = n := by
  simp [IntKind.wrap, IntKind.bits, IntKind.signed]
  omega
theorem take_get {α : Type} {l : List α} {k : Nat} {b : α} (h : l[k]? = some b) : l.take (k + 1) = l.take k ++ [b] := by
  rw [List.take_add_one, h]; rfl
theorem get_lt {α : Type} {l : List α} {k : Nat} (h : k < l.length) : ∃ b, l[k]? = some b := ⟨l[k], List.getElem?_eq_getElem h⟩
attribute [go_sem] List.getElem?_map List.map_eq_nil_iff
end Go.Abs
end
section
namespace Go.Abs
section
variable {cx : Cx} {s : Sl} {hp : Hp} {ks : List KF} {P : AExit → St → Prop}
@[go_sem] theorem seqOf_cx (f : Nat) (caps : List AV) : seqOf cx (.fn f caps) = ask ((cx.spec f).it = true) (bnd (cx.call f (.yq :: caps)) elemsOf) := rfl
@[go_sem] theorem elemsOf_sl (k n es os) : elemsOf (.sl k n es, os) = some es := rfl
@[go_sem] theorem putAll_cons (p ps x xs) : putAll (p :: ps) (x :: xs) s = putAll ps xs ((p, x) :: s) := rfl
def krf (cx : Cx) (x : Option (List (List AV))) (ps : List Nat) (keep : List (Nat × H)) (a b : ACode) (vs : List AV) (ks : List KF) (P : AExit → St → Prop) : Prop :=
  W x fun es => W (arange (fun st => bnd (aexec cx a st) (andNorm (aexec cx b))) ps keep es vs) (kont cx ks P)
def krange (cx : Cx) (es : List (List AV)) (ps : List Nat) (keep : List (Nat × H)) (a b : ACode) (vs : List AV) (ks : List KF) (P : AExit → St → Prop) : Prop :=
  W (arange (fun st => bnd (aexec cx a st) (andNorm (aexec cx b))) ps keep es vs) (kont cx ks P)
def krpack (cx : Cx) (x : Option (List AV)) (t : Nat) (ps : List Nat) (keep : List (Nat × H)) (a b : ACode) (ks : List KF) (P : AExit → St → Prop) : Prop :=
  W x fun vs => krf cx (seqOf cx (get (unpackK keep vs [] []).sl t)) ps keep a b vs ks P
@[go_sem] theorem kexec_rangef (t ps keep) (a b : ACode) : kexec cx (.rangef t ps keep a b) ks P ⟨s, hp⟩ ↔ krpack cx (packK keep s hp) t ps keep a b ks P := by
  simp only [kexec, aexec, W_bnd, krpack, krf]
@[go_sem] theorem krpack_some (vs t ps keep) (a b : ACode) : krpack cx (some vs) t ps keep a b ks P ↔ krf cx (seqOf cx (get (unpackK keep vs [] []).sl t)) ps keep a b vs ks P := W_some _ _
@[go_sem] theorem krf_some (es ps keep) (a b : ACode) (vs) : krf cx (some es) ps keep a b vs ks P ↔ krange cx es ps keep a b vs ks P := W_some _ _
theorem krpack_ask {c : Prop} [Decidable c] {x : Option (List AV)} {t ps keep} {a b : ACode} (h1 : c) (h0 : krpack cx x t ps keep a b ks P) : krpack cx (ask c x) t ps keep a b ks P := by rw [ask_pos x h1]; exact h0
def krr (cx : Cx) (keep : List (Nat × H)) (Ψ : List AV → Prop) (ks : List KF) (P : AExit → St → Prop) (e : AExit) (st : St) : Prop :=
  match e with
  | .normal => kpk (packK keep st.sl st.hp) Ψ
  | e => kpk (packK keep st.sl st.hp) fun vs => kont cx ks P (e, unpackK keep vs [] [])
@[go_sem] theorem krr_normal (keep Ψ) : krr cx keep Ψ ks P .normal ⟨s, hp⟩ ↔ kpk (packK keep s hp) Ψ := Iff.rfl
@[go_sem] theorem krr_exit (keep Ψ id) : krr cx keep Ψ ks P (.exit id) ⟨s, hp⟩ ↔ kpk (packK keep s hp) fun vs => kont cx ks P (.exit id, unpackK keep vs [] []) := Iff.rfl
@[go_sem] theorem krr_ret (keep Ψ) : krr cx keep Ψ ks P .ret ⟨s, hp⟩ ↔ kpk (packK keep s hp) fun vs => kont cx ks P (.ret, unpackK keep vs [] []) := Iff.rfl
theorem kont_norm_mid {c : ACode} {ks' : List KF} {r : AExit × St} : kont cx (.norm c :: ks') P r ↔ W (andNorm (aexec cx c) r) (kont cx ks' P) := Iff.rfl
theorem krange_inv {ι : Type} {es : List (List AV)} {ps : List Nat} {keep : List (Nat × H)} {a b : ACode} {vs : List AV} (V : ι → List AV) (I : Nat → ι → Prop) (y0 : ι) (hv : vs = V y0) (h0 : I 0 y0)
    (done : ∀ y, I es.length y → kont cx ks P (.normal, unpackK keep (V y) [] []))
    (round : ∀ k x y, es[k]? = some x → I k y → ∃ st, bindK ps x keep (V y) = some st ∧ kexec cx a [.norm b] (krr cx keep (fun vs' => ∃ y', vs' = V y' ∧ I (k + 1) y') ks P) st) : krange cx es ps keep a b vs ks P := by
  subst hv
  have go : ∀ (l : List (List AV)) (k : Nat) (y : ι), es.drop k = l → k ≤ es.length → I k y → krange cx l ps keep a b (V y) ks P := by
    intro l
    induction l with
    | nil =>
      intro k y hl hk hi
      have : k = es.length := by
        have := congrArg List.length hl
        simp at this
        omega
      subst this
      exact ⟨_, rfl, done y hi⟩
    | cons x l ih =>
      intro k y hl hk hi
      have hlt : k < es.length := by
        have := congrArg List.length hl
        simp at this
        omega
      have hx : es[k]? = some x := by
        have := List.drop_eq_getElem_cons hlt
        rw [hl] at this
        injection this with h1 _
        rw [h1]
        exact List.getElem?_eq_getElem hlt
      have hl2 : es.drop (k + 1) = l := by
        have := List.drop_eq_getElem_cons hlt
        rw [hl] at this
        injection this with _ h2
        exact h2.symm
      obtain ⟨st, hb, ⟨ea, sa⟩, h1, hab⟩ := round k x y hx hi
      obtain ⟨⟨e, s1⟩, h2, h3⟩ := hab
      have hea : ea = .normal := by
        cases ea with
        | normal => rfl
        | exit id => simp [andNorm] at h2
        | ret => simp [andNorm] at h2
      subst hea
      simp only [andNorm] at h2
      have hbody : bnd (aexec cx a st) (andNorm (aexec cx b)) = some (e, s1) := by
        rw [h1, bnd_some]
        exact h2
      unfold krange
      simp only [arange, hb, bnd_some, hbody]
      cases e with
      | normal =>
        obtain ⟨vs', h4, y', rfl, h5⟩ := h3
        simp only [goOnR, h4, bnd_some]
        exact ih (k + 1) y' hl2 (by omega) h5
      | exit id =>
        obtain ⟨vs', h4, h5⟩ := h3
        simp only [goOnR, h4, bnd_some]
        exact ⟨_, rfl, h5⟩
      | ret =>
        obtain ⟨vs', h4, h5⟩ := h3
        simp only [goOnR, h4, bnd_some]
        exact ⟨_, rfl, h5⟩
  exact go es 0 y0 rfl (Nat.zero_le _) h0
end
def mdk : Option Nat → Nat → YM
  | none, _ => .go
  | some n, k => .cnt (n - k)
theorem mdk_none (k) : mdk none k = .go := rfl
theorem mdk_next {o : Option Nat} {k : Nat} (h : ∀ n, o = some n → k ≤ n) : (mdk o k).next = some (decide (o ≠ some k), if o = some k then .off else mdk o (k + 1)) := by
  cases o with
  | none => simp [mdk, YM.next]
  | some n =>
    have := h n rfl
    by_cases e : n = k
    · subst e
      simp [mdk, YM.next]
    · obtain ⟨m, hm⟩ : ∃ m, n - k = m + 1 := ⟨n - k - 1, by omega⟩
      simp only [mdk, hm, YM.next, Option.some.injEq, Prod.mk.injEq]
      refine ⟨by simp [e], ?_⟩
      rw [if_neg e, show n - (k + 1) = m by omega]
section
variable {cx : Cx} {s : Sl} {hp : Hp} {ks : List KF} {P : AExit → IS → Prop} {tr : List (List AV)} {md : YM}
def ikont (cx : Cx) : List KF → (AExit → IS → Prop) → AExit × IS → Prop
  | [], P, r => P r.1 r.2
  | .code c :: ks, P, r => W (iandThen (iexec cx true c) r) (ikont cx ks P)
  | .norm c :: ks, P, r => W (iandNorm (iexec cx true c) r) (ikont cx ks P)
  | .out id :: ks, P, r => W (ioutOf id r) (ikont cx ks P)
def ikexec (cx : Cx) (c : ACode) (ks : List KF) (P : AExit → IS → Prop) (s : IS) : Prop := W (iexec cx true c s) (ikont cx ks P)
def ikreg (cx : Cx) (l : List AIns) (ks : List KF) (P : AExit → IS → Prop) (s : IS) : Prop := W (ireg cx l s) fun s => ikont cx ks P (.normal, s)
def ikop (cx : Cx) (x : Option Fx) (d : Option Nat) (l : List AIns) (ks : List KF) (P : AExit → IS → Prop) (s : Sl) (tr : List (List AV)) (md : YM) : Prop := W x fun fx => ikreg cx l ks P ⟨⟨put s d fx.val, fx.hp⟩, tr, md⟩
def iky (cx : Cx) (y : Option (List AV)) (d : Option Nat) (op : AOp) (l : List AIns) (ks : List KF) (P : AExit → IS → Prop) (s : Sl) (hp : Hp) (tr : List (List AV)) (md : YM) : Prop :=
  match y with
  | some args => W (iyield d args ⟨⟨s, hp⟩, tr, md⟩) (ikreg cx l ks P)
  | none => ikop cx (aop cx op (d.getD 0) s hp) d l ks P s tr md
def ikdraw (cx : Cx) (l : List AIns) (acc : List (List Nat × List Nat)) (ps : List (Nat × Nat)) (ks : List KF) (P : AExit → IS → Prop) (st : St) (tr : List (List AV)) (md : YM) : Prop :=
  W (adraw cx l acc st) fun x => apartAll x.2 ps = true ∧ ikont cx ks P (.normal, ⟨x.1, tr, md⟩)
def ikopd (cx : Cx) (x : Option Fx) (d : Option Nat) (l : List AIns) (acc : List (List Nat × List Nat)) (ps : List (Nat × Nat)) (ks : List KF) (P : AExit → IS → Prop) (s : Sl) (tr : List (List AV)) (md : YM) : Prop :=
  W x fun fx => ikdraw cx l (acc ++ [(fx.rd, fx.wr)]) ps ks P ⟨put s d fx.val, fx.hp⟩ tr md
def ikcond (cx : Cx) (v : AV) (a b : ACode) (ks : List KF) (P : AExit → IS → Prop) (s : IS) : Prop := W (icondV (iexec cx true a s) (iexec cx true b s) v) (ikont cx ks P)
def ikway (cx : Cx) (c : Bool) (a b : ACode) (ks : List KF) (P : AExit → IS → Prop) (s : IS) : Prop := match c with | true => ikexec cx a ks P s | false => ikexec cx b ks P s
def ikpack (cx : Cx) (x : Option (List AV)) (keep : List (Nat × H)) (c : ACode) (ks : List KF) (P : AExit → IS → Prop) (tr : List (List AV)) (md : YM) : Prop := W x fun vs => W (iloop true (iexec cx true c) keep vs tr md) (ikont cx ks P)
def ikloop (cx : Cx) (keep : List (Nat × H)) (c : ACode) (vs : List AV) (tr : List (List AV)) (md : YM) (ks : List KF) (P : AExit → IS → Prop) : Prop := W (iloop true (iexec cx true c) keep vs tr md) (ikont cx ks P)
@[go_sem] theorem ikont_nil (e : AExit) (x : IS) : ikont cx [] P (e, x) ↔ P e x := Iff.rfl
theorem ikont_next {c : ACode} {x : IS} (h : ikexec cx c ks P x) : ikont cx (.code c :: ks) P (.normal, x) := h
theorem ikont_nextn {c : ACode} {x : IS} (h : ikexec cx c ks P x) : ikont cx (.norm c :: ks) P (.normal, x) := h
@[go_sem] theorem ikont_code_exit (c : ACode) (id : Nat) (x : IS) : ikont cx (.code c :: ks) P (.exit id, x) ↔ ikont cx ks P (.exit id, x) := by simp [ikont, iandThen, W]
@[go_sem] theorem ikont_code_ret (c : ACode) (x : IS) : ikont cx (.code c :: ks) P (.ret, x) ↔ ikont cx ks P (.ret, x) := by simp [ikont, iandThen, W]
@[go_sem] theorem ikont_out (id : Nat) (x : IS) : ikont cx (.out id :: ks) P (.normal, x) ↔ ikont cx ks P (.normal, x) := by simp [ikont, ioutOf, W]
@[go_sem] theorem ikont_out_ret (id : Nat) (x : IS) : ikont cx (.out id :: ks) P (.ret, x) ↔ ikont cx ks P (.ret, x) := by simp [ikont, ioutOf, W]
@[go_sem] theorem ikont_out_exit (id id' : Nat) (x : IS) : ikont cx (.out id :: ks) P (.exit id', x) ↔ if id' = id then ikont cx ks P (.normal, x) else ikont cx ks P (.exit id', x) := by
  simp only [ikont, ioutOf, W]
  split <;> simp
@[go_sem] theorem ikexec_skip (x : IS) : ikexec cx .skip ks P x ↔ ikont cx ks P (.normal, x) := by simp [ikexec, iexec, W]
@[go_sem] theorem ikexec_exit (id : Nat) (x : IS) : ikexec cx (.exit id) ks P x ↔ ikont cx ks P (.exit id, x) := by simp [ikexec, iexec, W]
@[go_sem] theorem ikexec_ret (x : IS) : ikexec cx .ret ks P x ↔ ikont cx ks P (.ret, x) := by simp [ikexec, iexec, W]
@[go_sem] theorem ikexec_reg (l : List AIns) : ikexec cx (.reg l) ks P ⟨⟨s, hp⟩, tr, md⟩ ↔ ikreg cx l ks P ⟨⟨s, hp⟩, tr, md⟩ := by simp only [ikexec, iexec, W_bnd, W_some, ikreg]
@[go_sem] theorem ikexec_draw (l : List AIns) (ps) : ikexec cx (.draw l ps) ks P ⟨⟨s, hp⟩, tr, md⟩ ↔ ikdraw cx l [] ps ks P ⟨s, hp⟩ tr md := by
  simp only [ikexec, iexec, W_bnd, ikdraw]
  have : ∀ x : St × List (List Nat × List Nat), W (ask (apartAll x.2 ps = true) (some (AExit.normal, IS.at ⟨⟨s, hp⟩, tr, md⟩ x.1))) (ikont cx ks P) ↔ apartAll x.2 ps = true ∧ ikont cx ks P (.normal, ⟨x.1, tr, md⟩) := by
    intro x
    by_cases h : apartAll x.2 ps = true <;> simp [W, ask, h, IS.at]
  simp only [this]
@[go_sem] theorem ikexec_seq (a b : ACode) (x : IS) : ikexec cx (.seq a b) ks P x ↔ ikexec cx a (.code b :: ks) P x := by
  simp only [ikexec, iexec, W_bnd]
  have : (fun r : AExit × IS => W (iandThen (iexec cx true b) r) (ikont cx ks P)) = ikont cx (.code b :: ks) P := by funext r; rfl
  rw [this]
@[go_sem] theorem ikexec_block (id : Nat) (c : ACode) (x : IS) : ikexec cx (.block id c) ks P x ↔ ikexec cx c (.out id :: ks) P x := by
  simp only [ikexec, iexec, W_bnd]
  have : (fun r : AExit × IS => W (ioutOf id r) (ikont cx ks P)) = ikont cx (.out id :: ks) P := by funext r; rfl
  rw [this]
@[go_sem] theorem ikexec_cond (c : Opd) (a b : ACode) : ikexec cx (.cond c a b) ks P ⟨⟨s, hp⟩, tr, md⟩ ↔ ikcond cx (ev s c) a b ks P ⟨⟨s, hp⟩, tr, md⟩ := by simp only [ikexec, iexec, ikcond]
@[go_sem] theorem ikcond_b (c : Bool) (a b : ACode) (x : IS) : ikcond cx (.b c) a b ks P x ↔ ikway cx c a b ks P x := by cases c <;> rfl
@[go_sem] theorem ikway_true (a b : ACode) (x : IS) : ikway cx true a b ks P x ↔ ikexec cx a ks P x := Iff.rfl
@[go_sem] theorem ikway_false (a b : ACode) (x : IS) : ikway cx false a b ks P x ↔ ikexec cx b ks P x := Iff.rfl
@[go_sem] theorem ikway_not (c : Bool) (a b : ACode) (x : IS) : ikway cx (!c) a b ks P x ↔ ikway cx c b a ks P x := by cases c <;> rfl
theorem ikway_sp {c : Bool} {a b : ACode} {x : IS} (h1 : c = true → ikexec cx a ks P x) (h0 : c = false → ikexec cx b ks P x) : ikway cx c a b ks P x := by cases c; exact h0 rfl; exact h1 rfl
@[go_sem] theorem ikexec_loop (keep) (c : ACode) : ikexec cx (.loop keep c) ks P ⟨⟨s, hp⟩, tr, md⟩ ↔ ikpack cx (packK keep s hp) keep c ks P tr md := by simp only [ikexec, iexec, W_bnd, ikpack]
@[go_sem] theorem ikpack_some (vs keep) (c : ACode) : ikpack cx (some vs) keep c ks P tr md ↔ ikloop cx keep c vs tr md ks P := by simp only [ikpack, W_some, ikloop]
@[go_sem] theorem ikreg_nil (x : IS) : ikreg cx [] ks P x ↔ ikont cx ks P (.normal, x) := by simp only [ikreg, ireg, W_some]
@[go_sem] theorem ikreg_plain (d : Option Nat) (op : AOp) (l : List AIns) : ikreg cx (⟨d, op, none⟩ :: l) ks P ⟨⟨s, hp⟩, tr, md⟩ ↔ iky cx (yieldArgs s op) d op l ks P s hp tr md := by
  simp only [ikreg, ireg, W_bnd, iins]
  cases hy : yieldArgs s op with
  | none => simp only [ains, wanted, bnd_some, way_true, W_bnd, W_some, iky, ikop, ikreg]
  | some args =>
    simp only [wanted, bnd_some, way_true, iky]
    exact Iff.rfl
@[go_sem] theorem iky_none (d : Option Nat) (op : AOp) (l : List AIns) : iky cx none d op l ks P s hp tr md ↔ ikop cx (aop cx op (d.getD 0) s hp) d l ks P s tr md := Iff.rfl
def ikyd (cx : Cx) (x : Option (List AV × Hp)) (y : Option (Bool × YM)) (d : Option Nat) (l : List AIns) (ks : List KF) (P : AExit → IS → Prop) (s : Sl) (tr : List (List AV)) : Prop :=
  W x fun x => W y fun y => ikreg cx l ks P ⟨⟨put s d (.b y.1), deads x.2⟩, tr ++ [x.1], y.2⟩
@[go_sem] theorem iky_some (args : List AV) (d : Option Nat) (op : AOp) (l : List AIns) : iky cx (some args) d op l ks P s hp tr md ↔ ikyd cx (frzs args hp) md.next d l ks P s tr := by
  simp only [iky, iyield, W_bnd, W_some, ikyd]
@[go_sem] theorem ikyd_some (x : List AV) (hp' : Hp) (b : Bool) (md' : YM) (d : Option Nat) (l : List AIns) : ikyd cx (some (x, hp')) (some (b, md')) d l ks P s tr ↔ ikreg cx l ks P ⟨⟨put s d (.b b), deads hp'⟩, tr ++ [x], md'⟩ := by simp only [ikyd, W_some]
@[go_sem] theorem ikop_some (v : AV) (hp' : Hp) (rd wr : List Nat) (d : Option Nat) (l : List AIns) : ikop cx (some ⟨v, hp', rd, wr⟩) d l ks P s tr md ↔ ikreg cx l ks P ⟨⟨put s d v, hp'⟩, tr, md⟩ := by simp only [ikop, W_some]
theorem ikop_ask {c : Prop} [Decidable c] {x : Option Fx} {d : Option Nat} {l : List AIns} (h1 : c) (h0 : ikop cx x d l ks P s tr md) : ikop cx (ask c x) d l ks P s tr md := by rw [ask_pos x h1]; exact h0
@[go_sem] theorem ikdraw_nil (acc ps) (st : St) : ikdraw cx [] acc ps ks P st tr md ↔ apartAll acc ps = true ∧ ikont cx ks P (.normal, ⟨st, tr, md⟩) := by simp only [ikdraw, adraw, W_some]
@[go_sem] theorem ikdraw_plain (d : Option Nat) (op : AOp) (l : List AIns) (acc ps) : ikdraw cx (⟨d, op, none⟩ :: l) acc ps ks P ⟨s, hp⟩ tr md ↔ calm op = true ∧ ikopd cx (aop cx op (d.getD 0) s hp) d l acc ps ks P s tr md := by
  have : ∀ (c : Prop) [Decidable c] (x : Option (St × List (List Nat × List Nat))) (Q : St × List (List Nat × List Nat) → Prop), W (ask c x) Q ↔ c ∧ W x Q := by
    intro c _ x Q
    by_cases h : c <;> simp [W, ask, h]
  simp only [ikdraw, adraw, this, W_bnd, ains, wanted, bnd_some, way_true, W_some, ikopd]
@[go_sem] theorem ikopd_some (v : AV) (hp' : Hp) (rd wr : List Nat) (d : Option Nat) (l : List AIns) (acc ps) : ikopd cx (some ⟨v, hp', rd, wr⟩) d l acc ps ks P s tr md ↔ ikdraw cx l (acc ++ [(rd, wr)]) ps ks P ⟨put s d v, hp'⟩ tr md := by simp only [ikopd, W_some]
theorem ikopd_ask {c : Prop} [Decidable c] {x : Option Fx} {d : Option Nat} {l : List AIns} {acc ps} (h1 : c) (h0 : ikopd cx x d l acc ps ks P s tr md) : ikopd cx (ask c x) d l acc ps ks P s tr md := by rw [ask_pos x h1]; exact h0
theorem ikpack_ask {c : Prop} [Decidable c] {x : Option (List AV)} {keep} {b : ACode} (h1 : c) (h0 : ikpack cx x keep b ks P tr md) : ikpack cx (ask c x) keep b ks P tr md := by rw [ask_pos x h1]; exact h0
def ikgd (cx : Cx) (x : Option Bool) (d : Option Nat) (op : AOp) (l : List AIns) (ks : List KF) (P : AExit → IS → Prop) (s : Sl) (hp : Hp) (tr : List (List AV)) (md : YM) : Prop :=
  W x fun b => match b with | true => iky cx (yieldArgs s op) d op l ks P s hp tr md | false => ikreg cx l ks P ⟨⟨put s d undef, hp⟩, tr, md⟩
@[go_sem] theorem ikreg_guard (d : Option Nat) (op : AOp) (t : Nat) (w : Bool) (l : List AIns) : ikreg cx (⟨d, op, some (t, w)⟩ :: l) ks P ⟨⟨s, hp⟩, tr, md⟩ ↔ ikgd cx (wantedV w (get s t)) d op l ks P s hp tr md := by
  simp only [ikreg, ireg, W_bnd, iins, ikgd]
  cases hy : yieldArgs s op with
  | none =>
    simp only [ains, wanted, W_bnd, iky]
    constructor <;> refine fun h => W_mono h fun b hb => ?_ <;> cases b <;> simpa only [way_true, way_false, W_some, W_bnd, ikop, ikreg] using hb
  | some args =>
    simp only [wanted, W_bnd, iky]
    constructor <;> refine fun h => W_mono h fun b hb => ?_ <;> (cases b <;> first | exact hb | (simpa only [way_true, way_false, W_some, ikreg] using hb))
@[go_sem] theorem ikgd_true (d : Option Nat) (op : AOp) (l : List AIns) : ikgd cx (some true) d op l ks P s hp tr md ↔ iky cx (yieldArgs s op) d op l ks P s hp tr md := by simp only [ikgd, W_some]
@[go_sem] theorem ikgd_false (d : Option Nat) (op : AOp) (l : List AIns) : ikgd cx (some false) d op l ks P s hp tr md ↔ ikreg cx l ks P ⟨⟨put s d undef, hp⟩, tr, md⟩ := by simp only [ikgd, W_some]
@[go_sem] theorem ya_mov (x) : yieldArgs s (.mov x) = none := rfl
@[go_sem] theorem ya_pick (c a b) : yieldArgs s (.pick c a b) = none := rfl
@[go_sem] theorem ya_boxi (x) : yieldArgs s (.boxi x) = none := rfl
@[go_sem] theorem ya_box (x) : yieldArgs s (.box x) = none := rfl
@[go_sem] theorem ya_alloc (z) : yieldArgs s (.alloc z) = none := rfl
@[go_sem] theorem ya_build (z l) : yieldArgs s (.build z l) = none := rfl
@[go_sem] theorem ya_bslice (t z n l) : yieldArgs s (.bslice t z n l) = none := rfl
@[go_sem] theorem ya_load (g n a) : yieldArgs s (.load g n a) = none := rfl
@[go_sem] theorem ya_store (n a v) : yieldArgs s (.store n a v) = none := rfl
@[go_sem] theorem ya_nilck (x) : yieldArgs s (.nilck x) = none := rfl
@[go_sem] theorem ya_bin (o x y) : yieldArgs s (.bin o x y) = none := rfl
@[go_sem] theorem ya_eqnil (k g x) : yieldArgs s (.eqnil k g x) = none := rfl
@[go_sem] theorem ya_eqb (g x y) : yieldArgs s (.eqb g x y) = none := rfl
@[go_sem] theorem ya_un (o x) : yieldArgs s (.un o x) = none := rfl
@[go_sem] theorem ya_conv (c x) : yieldArgs s (.conv c x) = none := rfl
@[go_sem] theorem ya_mkfn (f l) : yieldArgs s (.mkfn f l) = none := rfl
@[go_sem] theorem ya_slice (n x a b c) : yieldArgs s (.slice n x a b c) = none := rfl
@[go_sem] theorem ya_faddr (n x) : yieldArgs s (.faddr n x) = none := rfl
@[go_sem] theorem ya_fld (g a b x) : yieldArgs s (.fld g a b x) = none := rfl
@[go_sem] theorem ya_iaddr (n x i) : yieldArgs s (.iaddr n x i) = none := rfl
@[go_sem] theorem ya_idx (x i) : yieldArgs s (.idx x i) = none := rfl
@[go_sem] theorem ya_ext (x i) : yieldArgs s (.ext x i) = none := rfl
@[go_sem] theorem ya_call (f l) : yieldArgs s (.call f l) = none := rfl
@[go_sem] theorem ya_len (t x) : yieldArgs s (.len t x) = none := rfl
@[go_sem] theorem ya_app (t n x y) : yieldArgs s (.app t n x y) = none := rfl
@[go_sem] theorem ya_appstr (t x y) : yieldArgs s (.appstr t x y) = none := rfl
@[go_sem] theorem ya_appz (t z x n) : yieldArgs s (.appz t z x n) = none := rfl
@[go_sem] theorem ya_copy (n x y) : yieldArgs s (.copy n x y) = none := rfl
@[go_sem] theorem ya_mkslice (t z n) : yieldArgs s (.mkslice t z n) = none := rfl
@[go_sem] theorem ya_mx (l) : yieldArgs s (.mx l) = none := rfl
@[go_sem] theorem ya_mn (l) : yieldArgs s (.mn l) = none := rfl
@[go_sem] theorem ya_clear (z x) : yieldArgs s (.clear z x) = none := rfl
@[go_sem] theorem ya_frz (x) : yieldArgs s (.frz x) = none := rfl
@[go_sem] theorem ya_mkmap  : yieldArgs s (.mkmap) = none := rfl
@[go_sem] theorem ya_mget (k z o x y) : yieldArgs s (.mget k z o x y) = none := rfl
@[go_sem] theorem ya_mput (k x y z) : yieldArgs s (.mput k x y z) = none := rfl
@[go_sem] theorem ya_fail  : yieldArgs s (.fail) = none := rfl
@[go_sem] theorem yaV_yl (l) : yaV .yl l = some l := rfl
@[go_sem] theorem yaV_fn (f c l) : yaV (.fn f c) l = none := rfl
@[go_sem] theorem yieldArgs_callv (x l) : yieldArgs s (.callv x l) = yaV (ev s x) (evs s l) := rfl
end
def igfin (es : List (List AV)) (o : Option Nat) (e : AExit) (x : IS) : Prop :=
  (∀ id, e ≠ .exit id) ∧ x.tr = (match o with | none => es | some n => es.take (n + 1)) ∧ x.md = (match o with | none => .go | some _ => .off)
theorem kgive {S : Sys} {f : Nat} {fn : AFun} {caps : List AV} {es : List (List AV)} (hit : (S.spec f).it = true) (hf : S.fs f = some fn) (hl : caps.length + 1 = fn.nparams) (hres : fn.res.isEmpty = true) (hio : io0 (S.spec f).pm = true) (hfc : flats caps = true)
    (h : ∀ o : Option Nat, (∀ n, o = some n → n < es.length) → ikexec ⟨acall S, S.spec, inlF S (acall S)⟩ fn.body [] (igfin es o) ⟨unpackP 0 (.yl :: caps) [] [], [], mdk o 0⟩) : acall S f (.yq :: caps) = some (.sl .open_ 0 es, []) := by
  refine acall_give hit hf (by simpa using hl) ?_
  have run : ∀ (o : Option Nat), (∀ n, o = some n → n < es.length) → ∃ x, irun ⟨acall S, S.spec, inlF S (acall S)⟩ fn caps (mdk o 0) = some x ∧ x.tr = (match o with | none => es | some n => es.take (n + 1)) ∧ x.md = (match o with | none => .go | some _ => .off) := by
    intro o ho
    obtain ⟨⟨e, x⟩, h1, h2, h3, h4⟩ := h o ho
    refine ⟨x, ?_, h3, h4⟩
    unfold irun
    rw [h1]
    cases e with
    | normal => rfl
    | ret => rfl
    | exit id => exact absurd rfl (h2 id)
  obtain ⟨x, h1, h2, h3⟩ := run none (fun _ h => by cases h)
  simp only at h2 h3
  unfold igive
  simp only [bnd_eq_some, ask_some]
  refine ⟨x, h1, ⟨hres, by rw [h3]; rfl, hio, hfc, fun n hn => ?_⟩, by rw [h2]⟩
  rw [h2] at hn ⊢
  obtain ⟨x2, k1, k2, k3⟩ := run (some n) (fun m hm => by injection hm with hm; omega)
  exact ⟨x2, k1, k2, by rw [k3]; rfl⟩
section
variable {cx : Cx} {s : Sl} {hp : Hp} {ks : List KF} {P : AExit → IS → Prop}
def ikrd (cx : Cx) (keep : List (Nat × H)) (Ψ : List AV → List (List AV) → YM → Prop) (ks : List KF) (P : AExit → IS → Prop) (e : AExit) (x : IS) : Prop :=
  match e with
  | .normal => kpk (packK keep x.st.sl x.st.hp) fun vs => Ψ vs x.tr x.md
  | e => ikont cx ks P (e, x)
@[go_sem] theorem ikrd_normal (keep Ψ tr md) : ikrd cx keep Ψ ks P .normal ⟨⟨s, hp⟩, tr, md⟩ ↔ kpk (packK keep s hp) fun vs => Ψ vs tr md := Iff.rfl
@[go_sem] theorem ikrd_exit (keep Ψ id x) : ikrd cx keep Ψ ks P (.exit id) x ↔ ikont cx ks P (.exit id, x) := Iff.rfl
@[go_sem] theorem ikrd_ret (keep Ψ x) : ikrd cx keep Ψ ks P .ret x ↔ ikont cx ks P (.ret, x) := Iff.rfl
theorem iloop_step {body : IS → IRes} {keep : List (Nat × H)} {vs vs' : List AV} {tr : List (List AV)} {md : YM} {x : IS} {r : AExit × IS} (h : body ⟨unpackY true keep vs, tr, md⟩ = some (.normal, x)) (hp : packK keep x.st.sl x.st.hp = some vs') (hr : iloop true body keep vs' x.tr x.md = some r) : iloop true body keep vs tr md = some r := by
  obtain ⟨n, hn⟩ := iloop_some hr
  refine iloop_of (m := n + 1) ?_
  simp only [iloopN, h, bnd_some, igoOn, hp]
  exact hn
theorem iloop_exit {body : IS → IRes} {keep : List (Nat × H)} {vs : List AV} {tr : List (List AV)} {md : YM} {e : AExit} {x : IS} (h : body ⟨unpackY true keep vs, tr, md⟩ = some (e, x)) (he : e ≠ .normal) : iloop true body keep vs tr md = some (e, x) := by
  refine iloop_of (m := 1) ?_
  simp only [iloopN, h, bnd_some]
  cases e with
  | normal => exact absurd rfl he
  | exit id => rfl
  | ret => rfl
theorem ikloop_inv {ι : Type} {keep : List (Nat × H)} {c : ACode} {vs : List AV} {tr : List (List AV)} {md : YM} (V : ι → List AV) (T : ι → List (List AV)) (M : ι → YM) (I : ι → Prop) (μ : ι → Nat) (x : ι) (hv : vs = V x) (ht : tr = T x) (hm : md = M x) (hx : I x)
    (round : ∀ x, I x → ikexec cx c [] (ikrd cx keep (fun vs' tr' md' => ∃ y, vs' = V y ∧ tr' = T y ∧ md' = M y ∧ I y ∧ μ y < μ x) ks P) ⟨unpackY true keep (V x), T x, M x⟩) : ikloop cx keep c vs tr md ks P := by
  subst hv ht hm
  have go : ∀ n x, μ x ≤ n → I x → ikloop cx keep c (V x) (T x) (M x) ks P := by
    intro n
    induction n with
    | zero =>
      intro x hn hi
      obtain ⟨⟨e, y⟩, h1, h2⟩ := round x hi
      cases e with
      | normal =>
        obtain ⟨vs, h3, z, rfl, _, _, h4, h5⟩ := h2
        omega
      | exit id => exact ⟨_, iloop_exit h1 (by simp), h2⟩
      | ret => exact ⟨_, iloop_exit h1 (by simp), h2⟩
    | succ n ih =>
      intro x hn hi
      obtain ⟨⟨e, y⟩, h1, h2⟩ := round x hi
      cases e with
      | normal =>
        obtain ⟨vs, h3, z, rfl, h6, h7, h4, h5⟩ := h2
        obtain ⟨r, k1, k2⟩ := ih z (by omega) h4
        rw [← h6, ← h7] at k1
        exact ⟨r, iloop_step h1 h3 k1, k2⟩
      | exit id => exact ⟨_, iloop_exit h1 (by simp), h2⟩
      | ret => exact ⟨_, iloop_exit h1 (by simp), h2⟩
  exact go (μ x) x (Nat.le_refl _) hx
@[go_sem] theorem unpackY_true (keep vs) : unpackY true keep vs = ⟨(0, .yl) :: (unpackK keep vs [] []).sl, (unpackK keep vs [] []).hp⟩ := rfl
@[go_sem] theorem deads_nil : deads [] = [] := rfl
@[go_sem] theorem deads_live (k b r) : deads ((k, .live b) :: r) = (k, .dead (b.ver + 1)) :: deads r := rfl
@[go_sem] theorem deads_dead (k n r) : deads ((k, .dead n) :: r) = (k, .dead n) :: deads r := rfl
@[go_sem] theorem frzs_nil : frzs [] hp = some ([], hp) := rfl
@[go_sem] theorem frzs_cons (v r) : frzs (v :: r) hp = bnd (frz v hp) fun x => bnd (frzs r x.2.2) fun y => some (x.1 :: y.1, y.2) := rfl
@[go_sem] theorem unpack_yl (k) : unpack .yl k hp = (.yl, k, hp) := rfl
end
section
variable {cx : Cx} {s : Sl} {hp : Hp} {ks : List KF} {P : AExit → IS → Prop} {tr : List (List AV)} {md : YM}
def ikrf (cx : Cx) (x : Option (List (List AV))) (ps : List Nat) (keep : List (Nat × H)) (a b : ACode) (vs : List AV) (ks : List KF) (P : AExit → IS → Prop) (tr : List (List AV)) (md : YM) : Prop :=
  W x fun es => W (irange true (fun s => bnd (iexec cx true a s) (iandNorm (iexec cx true b))) ps keep es vs tr md) (ikont cx ks P)
def ikrange (cx : Cx) (es : List (List AV)) (ps : List Nat) (keep : List (Nat × H)) (a b : ACode) (vs : List AV) (ks : List KF) (P : AExit → IS → Prop) (tr : List (List AV)) (md : YM) : Prop :=
  W (irange true (fun s => bnd (iexec cx true a s) (iandNorm (iexec cx true b))) ps keep es vs tr md) (ikont cx ks P)
def ikrpack (cx : Cx) (x : Option (List AV)) (t : Nat) (ps : List Nat) (keep : List (Nat × H)) (a b : ACode) (ks : List KF) (P : AExit → IS → Prop) (tr : List (List AV)) (md : YM) : Prop :=
  W x fun vs => ikrf cx (seqOf cx (get (unpackK keep vs [] []).sl t)) ps keep a b vs ks P tr md
def ikrr (cx : Cx) (keep : List (Nat × H)) (Ψ : List AV → List (List AV) → YM → Prop) (ks : List KF) (P : AExit → IS → Prop) (e : AExit) (x : IS) : Prop :=
  match e with
  | .normal => kpk (packK keep x.st.sl x.st.hp) fun vs => Ψ vs x.tr x.md
  | e => kpk (packK keep x.st.sl x.st.hp) fun vs => ikont cx ks P (e, ⟨unpackY true keep vs, x.tr, x.md⟩)
@[go_sem] theorem ikrr_normal (keep Ψ tr md) : ikrr cx keep Ψ ks P .normal ⟨⟨s, hp⟩, tr, md⟩ ↔ kpk (packK keep s hp) fun vs => Ψ vs tr md := Iff.rfl
@[go_sem] theorem ikrr_exit (keep Ψ id tr md) : ikrr cx keep Ψ ks P (.exit id) ⟨⟨s, hp⟩, tr, md⟩ ↔ kpk (packK keep s hp) fun vs => ikont cx ks P (.exit id, ⟨unpackY true keep vs, tr, md⟩) := Iff.rfl
@[go_sem] theorem ikrr_ret (keep Ψ tr md) : ikrr cx keep Ψ ks P .ret ⟨⟨s, hp⟩, tr, md⟩ ↔ kpk (packK keep s hp) fun vs => ikont cx ks P (.ret, ⟨unpackY true keep vs, tr, md⟩) := Iff.rfl
end
end Go.Abs
end
