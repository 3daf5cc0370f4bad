/-
  Own work. Contracts of the functions, and the plain law: many texts, merged by program.
-/
import Derived.Test.YtgeaibhgaihobaaGreatDoorFd
import Derived.Test.YtgeaibhgaihobaaGreatDoorProg
import Derived.Shelf.Spec.SlicesInsertGrow
import Derived.KernelRfl
import Derived.Test.YtgeaibhgaihobaaGreatDoorChecked
import Derived.Lib.Bytealg
import Derived.Shelf.Strings.SlTrimAscii
import Derived.Test.YtgeaibhgaihobaaGreatDoorCode
import Derived.Test.YtgeaibhgaihobaaGreatDoorFf
set_option linter.unusedSimpArgs false
set_option linter.unusedVariables false
set_option maxHeartbeats 8000000
set_option maxRecDepth 100000
namespace Go.Proofs.YtgeaibhgaihobaaGreatDoor
open Go.Abs
open Nat renaming add_assoc → J0, reduceEqDiff → Ja, reduceAdd → Jb, reduceMul → Jc, reduceSub → Jd, reduceLeDiff → Je, reduceLT → Jf, reduceBEq → Jg, reduceBNe → Jh
open Int renaming reduceLE → Ji, reduceLT → Jj, reduceToNat → Jk, reduceEq → Jl, reduceNe → Jm, reduceNeg → Jn, reduceAdd → Jo, reduceSub → Jp, reduceMul → Jq, cast_ofNat_Int → Jr, natCast_zero → Js
section
inductive PV where
 | mk (kind n : Int) (s : List UInt8) (l : List PV)
inductive Vl where
 | mk (kind n : Int) (s : List UInt8) (k : SK) (z : Nat) (l : List Vl)
 deriving Inhabited
mutual
def Vl.p : Vl → PV
 | .mk kind n s _ _ l => .mk kind n s (Vl.ps l)
def Vl.ps : List Vl → List PV
 | [] => []
 | v :: r => v.p :: Vl.ps r
end
mutual
def Vl.c : Vl → List AV
 | .mk kind n s k z l => [.i .i64 kind, .i .i64 n, .str s, .sl k z (Vl.cs l)]
def Vl.cs : List Vl → List (List AV)
 | [] => []
 | v :: r => v.c :: Vl.cs r
end
mutual
def Vl.ok : Vl → Prop
 | .mk _ _ s k z l => s.length ≤ 137438953472 ∧ l.length ≤ 137438953472 ∧ OkS k z 4 l ∧ Vl.oks l
def Vl.oks : List Vl → Prop
 | [] => True
 | v :: r => v.ok ∧ Vl.oks r
end
theorem Vl.cs_map : ∀ l : List Vl, Vl.cs l = l.map Vl.c
 | [] => rfl
 | v :: r => by simp only [Vl.cs, List.map_cons, Vl.cs_map r]
theorem Vl.ps_map : ∀ l : List Vl, Vl.ps l = l.map Vl.p
 | [] => rfl
 | v :: r => by simp only [Vl.ps, List.map_cons, Vl.ps_map r]
theorem Vl.oks_iff : ∀ l : List Vl, Vl.oks l ↔ ∀ x ∈ l, x.ok
 | [] => by simp [Vl.oks]
 | v :: r => by simp [Vl.oks, Vl.oks_iff r]
theorem Vl.oks_get {l : List Vl} (h : Vl.oks l) {i : Nat} {x : Vl} (hx : l[i]? = some x) : x.ok := (Vl.oks_iff l).1 h x (List.mem_of_getElem? hx)
mutual
def Vl.size : Vl → Nat
 | .mk _ _ _ _ _ l => Vl.sizes l + 1
def Vl.sizes : List Vl → Nat
 | [] => 0
 | v :: r => v.size + Vl.sizes r
end
theorem Vl.size_get : ∀ {l : List Vl} {i : Nat} {x : Vl}, l[i]? = some x → x.size ≤ Vl.sizes l
 | [], i, x, h => by simp at h
 | v :: r, 0, x, h => by simp at h; subst h; simp only [Vl.sizes]; omega
 | v :: r, i + 1, x, h => by
   have := Vl.size_get (l := r) (i := i) (by simpa using h)
   simp only [Vl.sizes]; omega
def cmpI (a b : Int) : Int := if a < b then -1 else if b < a then 1 else 0
def first0 (a b : Int) : Int := if a ≠ 0 then a else b
mutual
def cmpV : PV → PV → Int
 | .mk k n s l, .mk k' n' s' l' => first0 (cmpI k k') (first0 (cmpI n n') (first0 (Go.Lib.compareBytes s s') (cmpL l l')))
def cmpL : List PV → List PV → Int
 | [], [] => 0
 | [], _ :: _ => -1
 | _ :: _, [] => 1
 | a :: x, b :: y => first0 (cmpV a b) (cmpL x y)
end
theorem zk1 {a b : Int} : first0 a b = 0 ↔ a = 0 ∧ b = 0 := by
 unfold first0
 split <;> omega
theorem ztz {a b : Int} : cmpI a b = 0 ↔ a = b := by
 unfold cmpI
 split
 · omega
 · split <;> omega
theorem znq : ∀ (a b : List UInt8), Go.Lib.compareBytes a b = 0 ↔ a = b
 | [], [] => by simp [Go.Lib.compareBytes]
 | [], b :: bs => by simp [Go.Lib.compareBytes]
 | a :: ax, [] => by simp [Go.Lib.compareBytes]
 | a :: ax, b :: bs => by
   have ih := znq ax bs
   simp only [Go.Lib.compareBytes]
   by_cases h1 : a < b
   · have h3 : a ≠ b := by rintro rfl; exact absurd h1 (by simp)
     simp [h1, h3]
   · by_cases h2 : b < a
     · have h3 : a ≠ b := by rintro rfl; exact absurd h2 (by simp)
       simp [h1, h2, h3]
     · have h3 : a = b := by
         rw [UInt8.lt_iff_toNat_lt] at *
         exact UInt8.toNat_inj.1 (by omega)
       subst h3
       simp [ih]
mutual
theorem zov : ∀ (a b : PV), cmpV a b = 0 ↔ a = b
 | .mk k n s l, .mk k' n' s' l' => by
   simp only [cmpV, zk1, ztz, znq, znu l l', PV.mk.injEq]
theorem znu : ∀ (a b : List PV), cmpL a b = 0 ↔ a = b
 | [], [] => by simp [cmpL]
 | [], _ :: _ => by simp [cmpL]
 | _ :: _, [] => by simp [cmpL]
 | a :: x, b :: y => by simp only [cmpL, zk1, zov a b, znu x y, List.cons.injEq]
end
end
section
open Go.Shelf Go.RowKit Go.Lib Go.Proofs Go.Abs
theorem z45 : (Tryz.prog.info? 45).map (fun i => (i.size, i.bytes)) = some (5, 72) := by kernel_rfl
theorem inf45 : ∃ i, Tryz.prog.info? 45 = some i ∧ i.size = 5 ∧ i.bytes = 72 := by
 have h := z45
 cases hi : Tryz.prog.info? 45 with
 | none => rw [hi] at h; cases h
 | some i =>
   rw [hi] at h
   simp only [Option.map_some, Option.some.injEq, Prod.mk.injEq] at h
   exact ⟨i, rfl, h.1, h.2⟩
theorem nt58 : Tryz.f58.ntmps = 95 := by kernel_rfl
theorem mx : Tryz.prog.follows .mixedOrders = true := by kernel_rfl
theorem zr45 : (zeroOf Tryz.prog 45).map (·.length) = some 5 := by kernel_rfl
theorem zero45 {i0 : TypeInfo} (hinf : Tryz.prog.info? 45 = some i0) : ∃ z, i0.zero = some z ∧ z.cells.size = 5 := by
 have h := zr45
 cases hz : zeroOf Tryz.prog 45 with
 | none => rw [hz] at h; cases h
 | some zs =>
   rw [hz] at h
   obtain ⟨i, zv, h1, h2, h3, _⟩ := zck hz
   rw [hinf] at h1
   obtain rfl := Option.some.inj h1
   refine ⟨zv, h2, ?_⟩
   have := (h3 (Env.imm default fun _ => False)).length
   rw [← Array.length_toList, this]
   simpa using h
theorem zw3 (b n c i vb m vc : Nat) (cs vs : List Value) (w : World) (hi : i < n) (hm : 0 < m) (hnc : n ≤ c) (hroom : c < n + m) (hbig : (n + m) * 72 ≤ 140737488355328)
   (hcl : cs.length = n * 5) (hvl : vs.length = m * 5)
   (hcs : ∀ j v, cs[j]? = some v → w.cell? ⟨b, j, none⟩ = some v)
   (hvs : ∀ j v, vs[j]? = some v → w.cell? ⟨vb, j, none⟩ = some v) (h1c : ∀ v ∈ cs, v.oneCell' = true) (h1v : ∀ v ∈ vs, v.oneCell' = true) {z : Value} {i0 : TypeInfo} (hinf : Tryz.prog.info? 45 = some i0) (hz0 : i0.zero = some z) (hzs : z.cells.size = 5) :
   Calls Tryz.prog 58 #[.slice (some ⟨b, 0, none⟩) n c, .int .i64 i, .slice (some ⟨vb, 0, none⟩) m vc] w fun e w' =>
     e = .returned (.slice (some ⟨w.heap.size, 0, none⟩) (n + m) (grownCap w (n + m) c 45)) ∧
     w' = (((w.alloc (.cells ((cs.take (i * 5)).toArray ++ Builtin.zeroCells z.cells (n + m - i) ++ Builtin.zeroCells z.cells (grownCap w (n + m) c 45 - (n + m))) 45)).drew.setCells w.heap.size (i * 5) vs).drew).setCells w.heap.size ((i + m) * 5) (cs.drop (i * 5)) := by
 obtain ⟨i1, hinf1, hsz, hby⟩ := inf45
 rw [hinf] at hinf1
 obtain rfl := Option.some.inj hinf1
 have u41 := run_underlying Tryz.underlying41
 have u3 := run_underlying Tryz.underlying3
 have u4 := run_underlying Tryz.underlying4
 have z45 : ∀ w, (Go.sizeOf 45).run Tryz.prog w = .ok 5 w := fun w => by simp [Go.sizeOf, typeInfo, hinf, hsz]
 have mixed := mx
 have hz1 : ¬ ((m : Int) = 0) := by omega
 have hz2 : ¬ ((i : Int) = (n : Int)) := by omega
 have hz3 : (c : Int) < (n : Int) + (m : Int) := by omega
 have hbw : b < w.heap.size := block_lt_of_cell (hcs 0 _ (List.getElem?_eq_getElem (by omega)))
 have hvw : vb < w.heap.size := block_lt_of_cell (hvs 0 _ (List.getElem?_eq_getElem (by omega)))
 have hkk : (n : Int) + (m : Int) - (i : Int) = ((n + m - i : Nat) : Int) := by omega
 have hik : i + (n + m - i) = n + m := by omega
 have hi5 : i * 5 ≤ n * 5 := Nat.mul_le_mul_right _ (by omega)
 have hold : (Builtin.firstCells i0.size i (.slice (some ⟨b, 0, none⟩) i c)).run Tryz.prog w.drew = .ok (cs.take (i * 5)).toArray w.drew := by
   rw [hsz]
   exact run_firstCells_some w.drew 5 i ⟨b, 0, none⟩ i c (cs.take (i * 5)) (by rw [List.length_take]; omega) (fun j v hj => by
     rw [Addr.add_lit, Nat.zero_add]
     rw [List.getElem?_take] at hj
     split at hj
     · exact hcs j v hj
     · cases hj)
 have hrz : ∀ ty, (Builtin.append_ #[41, 3] ty #[.slice (some ⟨b, 0, none⟩) i c, .int .i64 ((n : Int) + (m : Int) - (i : Int))]).run Tryz.prog w =
     .ok (.slice (some ⟨w.heap.size, 0, none⟩) (n + m) (grownCap w (n + m) c 45)) (w.drew.alloc (.cells ((cs.take (i * 5)).toArray ++ Builtin.zeroCells z.cells (n + m - i) ++ Builtin.zeroCells z.cells (grownCap w (n + m) c 45 - (n + m))) 45)) := fun ty => by
   have h := Lib.run_append_grow_zeros w 41 3 ty 45 i0 z .i64 .i64 Tryz.underlying41 Tryz.underlying3 hinf hz0 (some ⟨b, 0, none⟩) i c (cs.take (i * 5)) hold (n + m - i) (by omega) (by omega) (by omega) (by omega) (by rw [hby]; omega) (by rw [hby, hik]; exact growslice_fits hroom hbig)
   rw [hik] at h
   rw [hkk]
   exact h
 obtain ⟨G, hG⟩ : ∃ G, G = grownCap w (n + m) c 45 := ⟨_, rfl⟩
 obtain ⟨ROW, hROW⟩ : ∃ ROW : Array Value, ROW = (cs.take (i * 5)).toArray ++ Builtin.zeroCells z.cells (n + m - i) ++ Builtin.zeroCells z.cells (G - (n + m)) := ⟨_, rfl⟩
 rw [← hG] at hrz ⊢
 rw [← hROW] at hrz ⊢
 have hRl : (n + m) * 5 ≤ ROW.size := by
   rw [hROW]
   simp only [Array.size_append, List.size_toArray, size_zeroCells, hzs, List.length_take, hcl]
   omega
 obtain ⟨W1, hW1⟩ : ∃ W1, W1 = w.drew.alloc (.cells ROW 45) := ⟨_, rfl⟩
 rw [← hW1] at hrz
 have hN : ∀ j, j < (n + m) * 5 → (W1.cell? ⟨w.heap.size, j, none⟩).isSome = true := fun j hj => by
   rw [hW1, World.cell?_alloc_at (w := w.drew) ROW _ w.heap.size j rfl, Array.getElem?_eq_getElem (by omega)]; rfl
 have hNf : ∀ j, W1.frozen? ⟨w.heap.size, j, none⟩ = false := fun j => by rw [hW1]; exact World.frozen?_alloc_at (w := w.drew) ROW _ w.heap.size j rfl
 have hOb : ∀ j v, w.cell? ⟨b, j, none⟩ = some v → W1.cell? ⟨b, j, none⟩ = some v := fun j v h => by rw [hW1, World.cell?_alloc_past (w := w.drew) _ b j hbw]; exact h
 have hOv : ∀ j v, w.cell? ⟨vb, j, none⟩ = some v → W1.cell? ⟨vb, j, none⟩ = some v := fun j v h => by rw [hW1, World.cell?_alloc_past (w := w.drew) _ vb j hvw]; exact h
 have hmin2 : Nat.min m (n + m - i) = m := by simp only [Nat.min_def]; split <;> omega
 have hmin1 : Nat.min (n - i) (n + m - (i + m)) = n - i := by simp only [Nat.min_def]; split <;> omega
 have hdl : (cs.drop (i * 5)).length = (n - i) * 5 := by rw [List.length_drop, hcl, Nat.sub_mul]
 have him : (i + m) * 5 + (n - i) * 5 = (n + m) * 5 := by rw [← Nat.add_mul]; congr 1; omega
 have him2 : i * 5 + m * 5 ≤ (n + m) * 5 := by rw [← Nat.add_mul]; exact Nat.mul_le_mul_right _ (by omega)
 have hcpA : ∀ (W : World), (∀ x, W.cell? x = W1.cell? x) → (∀ x, W.frozen? x = W1.frozen? x) → ∀ ty dc, (Builtin.copy_ #[41, 41] ty #[.slice (some ⟨w.heap.size, i * 5, none⟩) (n + m - i) dc, .slice (some ⟨vb, 0, none⟩) m vc]).run Tryz.prog W = .ok (goInt (m : Nat)) (W.setCells w.heap.size (i * 5) vs) := fun W hWc hWf ty dc => by
   have := zdt W 41 41 ty 45 w.heap.size (i * 5) (n + m - i) dc ⟨vb, 0, none⟩ m vc vs Tryz.underlying41 hinf (by rw [hmin2, hvl, hsz])
     (fun j v hj => by rw [Addr.add_lit, hWc, Nat.zero_add]; exact hOv _ v (hvs j v hj))
     (fun j hj => by rw [hWc]; exact hN _ (by omega)) (fun j hj => by rw [hWf]; exact hNf _) h1v
   rw [hmin2] at this
   exact this
 have hGn : n + m ≤ G := by rw [hG]; exact grownCap_ge w _ _ _
 have hG63 : G ≤ 9223372036854775807 := by
   have := grownCap_le_maxLen w (n + m) c 45 (by unfold maxLen; omega)
   rw [← hG] at this
   unfold maxLen at this
   omega
 have hGi : ¬ (G = i) := by omega
 have hGim : ¬ (G = i + m) := by omega
 have hci : ¬ (c = i) := by omega
 have hbN : b ≠ w.heap.size := by omega
 have hcpB : ∀ (W : World), (∀ x, W.cell? x = (W1.setCells w.heap.size (i * 5) vs).cell? x) → (∀ x, W.frozen? x = (W1.setCells w.heap.size (i * 5) vs).frozen? x) → ∀ ty dc sc, (Builtin.copy_ #[41, 41] ty #[.slice (some ⟨w.heap.size, (i + m) * 5, none⟩) (n + m - (i + m)) dc, .slice (some ⟨b, i * 5, none⟩) (n - i) sc]).run Tryz.prog W = .ok (goInt (n - i : Nat)) (W.setCells w.heap.size ((i + m) * 5) (cs.drop (i * 5))) := fun W hWc hWf ty dc sc => by
   have := zdt W 41 41 ty 45 w.heap.size ((i + m) * 5) (n + m - (i + m)) dc ⟨b, i * 5, none⟩ (n - i) sc (cs.drop (i * 5)) Tryz.underlying41 hinf (by rw [hmin1, hdl, hsz])
     (fun j v hj => by
       rw [Addr.add_lit, hWc, World.cell?_setCells_out _ _ _ _ _ (fun h _ => absurd h hbN)]
       exact hOb _ v (hcs (i * 5 + j) v (by rwa [List.getElem?_drop] at hj)))
     (fun j hj => by rw [hWc]; exact isSome_setCells w.heap.size vs (i * 5) W1 (fun t ht => hN _ (by omega)) _ (hN _ (by omega)))
     (fun j hj => by rw [hWf, World.frozen?_setCells]; exact hNf _) (fun v hv => h1c v (List.mem_of_mem_drop hv))
   rw [hmin1] at this
   exact this
 subst hW1
 have hE1 : ∀ x, ((w.alloc (.cells ROW 45)).drew).cell? x = (w.drew.alloc (.cells ROW 45)).cell? x := fun x => rfl
 have hE2 : ∀ x, ((w.alloc (.cells ROW 45)).drew).frozen? x = (w.drew.alloc (.cells ROW 45)).frozen? x := fun x => rfl
 have hF1 : ∀ x, (((w.alloc (.cells ROW 45)).drew.setCells w.heap.size (i * 5) vs).drew).cell? x = ((w.drew.alloc (.cells ROW 45)).setCells w.heap.size (i * 5) vs).cell? x := fun x => rfl
 have hF2 : ∀ x, (((w.alloc (.cells ROW 45)).drew.setCells w.heap.size (i * 5) vs).drew).frozen? x = ((w.drew.alloc (.cells ROW 45)).setCells w.heap.size (i * 5) vs).frozen? x := fun x => rfl
 have hw1 : IntKind.i64.wrap ((i : Int) + (m : Int)) = (i : Int) + (m : Int) := by rw [IntKind.wrap_i64]; omega
 have hw2 : IntKind.i64.wrap ((n : Int) + (m : Int)) = (n : Int) + (m : Int) := by rw [IntKind.wrap_i64]; omega
 have hw3 : IntKind.i64.wrap ((n : Int) + (m : Int) - (i : Int)) = (n : Int) + (m : Int) - (i : Int) := by rw [IntKind.wrap_i64]; omega
 have hb1 : (0 : Int) ≤ (i : Int) + (m : Int) := by omega
 have hin : i ≤ n := by omega
 have htn : ((i : Int) + (m : Int)).toNat = i + m := by omega
 have hb3 : (i : Int) ≤ (n : Int) := by omega
 clear hkk hik hold hROW hG hRl
 go_enter Tryz.func58, nt58
 go_wp2_with (first
   | (at_builtin; refine Lib.wpList_append_run _ rfl _ _ _ _ rfl _ _ rfl rfl _ _ (hrz _) ?_)
   | (at_builtin; refine wpList_copy_runI _ rfl _ _ 41 41 rfl _ _ rfl rfl (hcpA _ hE1 hE2 _ _) ?_)
   | (at_builtin; refine wpList_copy_runI _ rfl _ _ 41 41 rfl _ _ rfl rfl (hcpB _ (fun _ => rfl) (fun _ => rfl) _ _ _) ?_))
 go_region_law_o (refine step_copy_runI rfl _ _ 41 41 rfl (.slice (some ⟨w.heap.size, (i + m) * 5, none⟩) (n + m - (i + m)) (G - (i + m))) (.slice (some ⟨b, i * 5, none⟩) (n - i) (c - i)) (by simp [Act.eval, Act.put]) (by simp [Act.eval, Act.put]) (hcpB _ hF1 hF2 3 (G - (i + m)) (c - i)) ?_)
 go_wp2
 go_ret
 exact ⟨rfl, rfl⟩
theorem zu0 (b n c i vb m vc : Nat) (cs vs : List Value) (w : World) (hi : i < n) (hm : 0 < m) (hroom : n + m ≤ c) (hnm63 : n + m ≤ 9223372036854775807) (hvb : vb ≠ b)
   (hcl : cs.length = n * 5) (hvl : vs.length = m * 5)
   (hcs : ∀ j v, cs[j]? = some v → w.cell? ⟨b, j, none⟩ = some v) (hsp : ∀ j, j < (n + m) * 5 → (w.cell? ⟨b, j, none⟩).isSome = true) (hfz : ∀ j, j < (n + m) * 5 → w.frozen? ⟨b, j, none⟩ = false)
   (hvs : ∀ j v, vs[j]? = some v → w.cell? ⟨vb, j, none⟩ = some v) (h1c : ∀ v ∈ cs, v.oneCell' = true) (h1v : ∀ v ∈ vs, v.oneCell' = true)
   (tA tB : TypeId) (kA kB : Nat) (hsa : w.shape? vb = some (tA, kA)) (hsb : w.shape? b = some (tB, kB)) (hkB : kB ≠ 0) (hfa : w.frozen? ⟨vb, 0, none⟩ = false) (hfe : w.frozen? ⟨vb, kA, none⟩ = false) :
   Calls Tryz.prog 58 #[.slice (some ⟨b, 0, none⟩) n c, .int .i64 i, .slice (some ⟨vb, 0, none⟩) m vc] w fun e w' =>
     e = .returned (.slice (some ⟨b, 0, none⟩) (n + m) c) ∧ w' = (w.drew.setCells b ((i + m) * 5) (cs.drop (i * 5))).setCells b (i * 5) vs := by
 obtain ⟨i0, hinf, hsz, hby⟩ := inf45
 have u41 := run_underlying Tryz.underlying41
 have u3 := run_underlying Tryz.underlying3
 have u4 := run_underlying Tryz.underlying4
 have z45 : ∀ w, (Go.sizeOf 45).run Tryz.prog w = .ok 5 w := fun w => by simp [Go.sizeOf, typeInfo, hinf, hsz]
 have hz1 : ¬ ((m : Int) = 0) := by omega
 have hz2 : ¬ ((i : Int) = (n : Int)) := by omega
 have mixed := mx
 have hw1 : IntKind.i64.wrap ((i : Int) + (m : Int)) = (i : Int) + (m : Int) := by rw [IntKind.wrap_i64]; omega
 have hw2 : IntKind.i64.wrap ((n : Int) + (m : Int)) = (n : Int) + (m : Int) := by rw [IntKind.wrap_i64]; omega
 have hb1 : (0 : Int) ≤ (i : Int) + (m : Int) := by omega
 have hin : i ≤ n := by omega
 have htn : ((i : Int) + (m : Int)).toNat = i + m := by omega
 have hb2 : ¬ (c = i + m) := by omega
 have hb3 : (i : Int) ≤ (n : Int) + (m : Int) := by omega
 have hb4 : ¬ (c = i) := by omega
 have hov : ∀ lb cb, (callFunc 81 #[.slice (some ⟨vb, 0, none⟩) m vc, .slice (some ⟨b, (i + m) * 5, none⟩) lb cb]).run Tryz.prog w = .ok (.value (.bool false)) w := fun lb cb => by
   rw [run_callFunc_extern Tryz.func81 (by kernel_rfl) (by kernel_rfl) (by kernel_rfl) (e := Extern.SlicesOverlaps.overlaps #[41, 41] #[4]) (by kernel_rfl),
     Lib.run_overlaps_apart w 41 4 45 Tryz.underlying41 5 z45 ⟨vb, 0, none⟩ ⟨b, (i + m) * 5, none⟩ m vc lb cb hvb tA tB kA kB hsa hsb hkB hfa hfe]
   rfl
 have hdl : (cs.drop (i * 5)).length = (n - i) * 5 := by rw [List.length_drop, hcl, Nat.sub_mul]
 have him : (i + m) * 5 + (n - i) * 5 = (n + m) * 5 := by rw [← Nat.add_mul]; congr 1; omega
 have him2 : i * 5 + m * 5 ≤ (n + m) * 5 := by rw [← Nat.add_mul]; exact Nat.mul_le_mul_right _ (by omega)
 have hmin1 : Nat.min (n + m - i) (n + m - (i + m)) = n - i := by simp only [Nat.min_def]; split <;> omega
 have hmin2 : Nat.min m (n + m - i) = m := by simp only [Nat.min_def]; split <;> omega
 have hcp1 : ∀ ty dc sc, (Builtin.copy_ #[41, 41] ty #[.slice (some ⟨b, (i + m) * 5, none⟩) (n + m - (i + m)) dc, .slice (some ⟨b, i * 5, none⟩) (n + m - i) sc]).run Tryz.prog w.drew = .ok (goInt (n - i : Nat)) (w.drew.setCells b ((i + m) * 5) (cs.drop (i * 5))) := fun ty dc sc => by
   have := zdt w.drew 41 41 ty 45 b ((i + m) * 5) (n + m - (i + m)) dc ⟨b, i * 5, none⟩ (n + m - i) sc (cs.drop (i * 5)) Tryz.underlying41 hinf (by rw [hmin1, hdl, hsz])
     (fun j v hj => by rw [Addr.add_lit]; exact hcs (i * 5 + j) v (by rwa [List.getElem?_drop] at hj))
     (fun j hj => hsp _ (by omega)) (fun j hj => hfz _ (by omega)) (fun v hv => h1c v (List.mem_of_mem_drop hv))
   rw [hmin1] at this
   exact this
 obtain ⟨W1, hW1⟩ : ∃ W1, W1 = w.drew.setCells b ((i + m) * 5) (cs.drop (i * 5)) := ⟨_, rfl⟩
 have hsp1 : ∀ k, k < (n + m) * 5 → (W1.cell? ⟨b, k, none⟩).isSome = true := fun k hk => by
   rw [hW1]
   exact isSome_setCells b (cs.drop (i * 5)) ((i + m) * 5) w.drew (fun j hj => hsp _ (by omega)) k (hsp k hk)
 have hcp2 : ∀ (W : World), (∀ x, W.cell? x = W1.cell? x) → (∀ x, W.frozen? x = W1.frozen? x) → ∀ ty dc, (Builtin.copy_ #[41, 41] ty #[.slice (some ⟨b, i * 5, none⟩) (n + m - i) dc, .slice (some ⟨vb, 0, none⟩) m vc]).run Tryz.prog W = .ok (goInt (m : Nat)) (W.setCells b (i * 5) vs) := fun W hWc hWf ty dc => by
   have := zdt W 41 41 ty 45 b (i * 5) (n + m - i) dc ⟨vb, 0, none⟩ m vc vs Tryz.underlying41 hinf (by rw [hmin2, hvl, hsz])
     (fun j v hj => by
       rw [Addr.add_lit, hWc, hW1, World.cell?_setCells_out b _ _ _ _ (fun h _ => absurd h hvb), Nat.zero_add]
       exact hvs j v hj)
     (fun j hj => by rw [hWc]; exact hsp1 _ (by omega)) (fun j hj => by rw [hWf, hW1, World.frozen?_setCells]; exact hfz _ (by omega)) h1v
   rw [hmin2] at this
   exact this
 rw [← hW1] at hcp1
 go_enter Tryz.func58, nt58
 go_wp2_with (simp only [hov])
 go_region_law_o (refine step_copy_runI rfl _ _ 41 41 rfl _ _ (by simp [Act.eval, Act.put]) (by simp [Act.eval, Act.put]) (hcp1 _ _ _) ?_)
 go_wp2_with (at_builtin; refine wpList_copy_runI _ rfl _ _ 41 41 rfl _ _ rfl rfl (hcp2 _ (fun _ => rfl) (fun _ => rfl) _ _) ?_)
 go_ret
 first | exact ⟨rfl, rfl⟩ | exact ⟨rfl, by rw [hW1]⟩
theorem zsl {nl nl2 : Bool} {es ys : List (List AV)} {i : Nat} (hi : i < es.length) (hm : 0 < ys.length) (hb : es.length + ys.length ≤ 1099511627776) :
   Owes Tryz.prog 58 [.give (.row 45 5), .borrow, .give (.row 45 5)] [.ow 45 5 nl es, .i .i64 (i : Int), .ow 45 5 nl2 ys] (.ow 45 5 false (es.take i ++ ys ++ es.drop i), []) := by
 intro w Z vs F hz hr hnd hZ
 simp only [RepPs, RepP, Rep] at hr
 obtain ⟨v0, vs1, F1, Fr1, rfl, rfl, h0, v1, vs2, F2, Fr2, rfl, rfl, ⟨rfl, rfl⟩, v2, vs3, F3, F4, rfl, rfl, h2, rfl, rfl⟩ := hr
 obtain ⟨A, c, rfl, _, _, f1, o1, _, q1⟩ := h0
 obtain ⟨gb, arr, cs, rest, rfl, rfl, g1, l1, r1, hnc, hs1⟩ := q1 (fun e => by rw [e] at hi; simp at hi)
 obtain ⟨B, vc, rfl, _, _, f2, o2, _, q2⟩ := h2
 obtain ⟨vb, arr2, us, rest2, rfl, rfl, g2, l2, r2, hmc, hs2⟩ := q2 (fun e => by rw [e] at hm; simp at hm)
 simp only [List.nil_append, List.append_nil, List.singleton_append] at hnd hZ r1 r2 ⊢
 have hne : vb ≠ gb := fun e => by subst e; simp at hnd
 have hZg : ¬ Z gb := hZ gb (by simp)
 have hcl := r1.length
 have hul := r2.length
 have c1 : ∀ j v, cs[j]? = some v → w.cell? ⟨gb, j, none⟩ = some v := fun j v hj => by
   have hlt := (List.getElem?_eq_some_iff.1 hj).1
   rw [cell_of_row w gb j arr 45 _ g1, ← Array.getElem?_toList, l1, List.getElem?_append_left hlt]
   exact hj
 have c2 : ∀ j v, us[j]? = some v → w.cell? ⟨vb, j, none⟩ = some v := fun j v hj => by
   have hlt := (List.getElem?_eq_some_iff.1 hj).1
   rw [cell_of_row w vb j arr2 45 _ g2, ← Array.getElem?_toList, l2, List.getElem?_append_left hlt]
   exact hj
 have k1 := RepEs.oneCell o1 r1
 have k2 := RepEs.oneCell o2 r2
 by_cases hroom : c < es.length + ys.length
 · obtain ⟨i0, hinf, hsz, hby⟩ := inf45
   obtain ⟨z, hz0, hzs⟩ := zero45 hinf
   refine Calls.mono (zw3 gb es.length c i vb ys.length vc cs us w hi hm hnc hroom (by omega) hcl hul c1 c2 k1 k2 hinf hz0 hzs) fun e w' he => ?_
   obtain ⟨rfl, rfl⟩ := he
   exact ⟨_, zjx hz hzs r1 f1 o1 rfl r2 f2 o2 rfl (grownCap_ge w _ _ _) (Nat.le_of_lt hi) hm⟩
 · have hsa : w.shape? vb = some (45, arr2.size) := by simp [World.shape?, g2]
   have hsb : w.shape? gb = some (45, arr.size) := by simp [World.shape?, g1]
   have hnm : (es.length + ys.length) * 5 ≤ c * 5 := Nat.mul_le_mul_right _ (by omega)
   refine Calls.mono (zu0 gb es.length c i vb ys.length vc cs us w hi hm (by omega) (by omega) hne hcl hul c1 (fun j hj => by
     rw [cell_of_row w gb j arr 45 _ g1, Array.getElem?_eq_getElem (by omega)]; rfl) (fun j hj => by simp [World.frozen?, g1]) c2 k1 k2 45 45 arr2.size arr.size hsa hsb (by omega) (by simp [World.frozen?, g2]) (by simp [World.frozen?, g2])) fun e w' he => ?_
   obtain ⟨rfl, rfl⟩ := he
   exact ⟨_, zjd hZg g1 l1 r1 f1 o1 rfl r2 f2 o2 rfl (by omega) hs1 (Nat.le_of_lt hi) hm⟩
end
section
def k58 : Nat → List (Nat × H) := fun _ => []
def a58 : AFun := ⟨3, (.seq (.reg [⟨some 6, .mov (.con (.sl .nil 0 [])), none⟩])
 (.seq (.reg [⟨some 10, .mov (.tmp 0), none⟩, ⟨some 11, .mov (.tmp 1), none⟩, ⟨some 12, .slice 5 (.tmp 10) (some (.tmp 11)) none none, none⟩])
 (.seq (.reg [⟨some 13, .mov (.tmp 2), none⟩, ⟨some 14, .len false (.tmp 13), none⟩, ⟨some 7, .mov (.tmp 14), none⟩])
 (.seq (.seq (.reg [⟨some 15, .mov (.tmp 7), none⟩, ⟨some 16, .bin .eql (.tmp 15) (.con (.i .i64 (0))), none⟩])
 (.cond (.tmp 16) (.seq (.reg [⟨some 17, .mov (.tmp 0), none⟩, ⟨some 6, .mov (.tmp 17), none⟩])
 .ret) .skip))
 (.seq (.reg [⟨some 18, .mov (.tmp 0), none⟩, ⟨some 19, .len false (.tmp 18), none⟩, ⟨some 8, .mov (.tmp 19), none⟩])
 (.seq (.seq (.reg [⟨some 20, .mov (.tmp 1), none⟩, ⟨some 21, .mov (.tmp 8), none⟩, ⟨some 22, .bin .eql (.tmp 20) (.tmp 21), none⟩])
 (.cond (.tmp 22) (.seq (.reg [⟨some 23, .mov (.tmp 0), none⟩, ⟨some 24, .mov (.tmp 2), none⟩, ⟨some 25, .app 45 5 (.tmp 23) (.tmp 24), none⟩, ⟨some 6, .mov (.tmp 25), none⟩])
 .ret) .skip))
 (.seq (.seq (.reg [⟨some 26, .mov (.tmp 8), none⟩, ⟨some 27, .mov (.tmp 7), none⟩, ⟨some 28, .bin .add (.tmp 26) (.tmp 27), none⟩, ⟨some 29, .mov (.tmp 0), none⟩, ⟨some 30, .fail, none⟩, ⟨some 31, .bin .gtr (.tmp 28) (.tmp 30), none⟩])
 (.cond (.tmp 31) (.seq (.reg [⟨some 32, .mov (.tmp 0), none⟩, ⟨some 33, .mov (.tmp 1), none⟩, ⟨some 34, .slice 5 (.tmp 32) none (some (.tmp 33)) none, none⟩, ⟨some 35, .mov (.tmp 8), none⟩, ⟨some 36, .mov (.tmp 7), none⟩, ⟨some 37, .bin .add (.tmp 35) (.tmp 36), none⟩, ⟨some 38, .mov (.tmp 1), none⟩, ⟨some 39, .bin .sub (.tmp 37) (.tmp 38), none⟩, ⟨some 40, .appz 45 [(.str []), (.i .i64 (0)), (.i .i64 (0)), (.str []), (.sl .nil 0 [])] (.tmp 34) (.tmp 39), none⟩, ⟨some 9, .mov (.tmp 40), none⟩])
 (.seq (.reg [⟨some 41, .mov (.tmp 9), none⟩, ⟨some 42, .mov (.tmp 1), none⟩, ⟨some 43, .slice 5 (.tmp 41) (some (.tmp 42)) none none, none⟩, ⟨some 44, .mov (.tmp 2), none⟩, ⟨some 45, .copy 5 (.tmp 43) (.tmp 44), none⟩])
 (.seq (.draw [⟨some 46, .mov (.tmp 9), none⟩, ⟨some 47, .mov (.tmp 1), none⟩, ⟨some 48, .mov (.tmp 7), none⟩, ⟨some 49, .bin .add (.tmp 47) (.tmp 48), none⟩, ⟨some 50, .slice 5 (.tmp 46) (some (.tmp 49)) none none, none⟩, ⟨some 51, .mov (.tmp 0), none⟩, ⟨some 52, .mov (.tmp 1), none⟩, ⟨some 53, .slice 5 (.tmp 51) (some (.tmp 52)) none none, none⟩, ⟨some 54, .copy 5 (.tmp 50) (.tmp 53), none⟩] [(4, 7)])
 (.seq (.reg [⟨some 55, .mov (.tmp 9), none⟩, ⟨some 6, .mov (.tmp 55), none⟩])
 .ret)))) .skip))
 (.seq (.reg [⟨some 56, .mov (.tmp 0), none⟩, ⟨some 57, .mov (.tmp 8), none⟩, ⟨some 58, .mov (.tmp 7), none⟩, ⟨some 59, .bin .add (.tmp 57) (.tmp 58), none⟩, ⟨some 60, .slice 5 (.tmp 56) none (some (.tmp 59)) none, none⟩, ⟨some 0, .mov (.tmp 60), none⟩])
 (.seq (.seq (.reg [⟨some 61, .mov (.tmp 2), none⟩, ⟨some 62, .mov (.tmp 0), none⟩, ⟨some 63, .mov (.tmp 1), none⟩, ⟨some 64, .mov (.tmp 7), none⟩, ⟨some 65, .bin .add (.tmp 63) (.tmp 64), none⟩, ⟨some 66, .slice 5 (.tmp 62) (some (.tmp 65)) none none, none⟩, ⟨some 67, .call 81 [(.tmp 61), (.tmp 66)], none⟩, ⟨some 68, .un .not (.tmp 67), none⟩])
 (.cond (.tmp 68) (.seq (.draw [⟨some 69, .mov (.tmp 0), none⟩, ⟨some 70, .mov (.tmp 1), none⟩, ⟨some 71, .mov (.tmp 7), none⟩, ⟨some 72, .bin .add (.tmp 70) (.tmp 71), none⟩, ⟨some 73, .slice 5 (.tmp 69) (some (.tmp 72)) none none, none⟩, ⟨some 74, .mov (.tmp 0), none⟩, ⟨some 75, .mov (.tmp 1), none⟩, ⟨some 76, .slice 5 (.tmp 74) (some (.tmp 75)) none none, none⟩, ⟨some 77, .copy 5 (.tmp 73) (.tmp 76), none⟩] [(4, 7)])
 (.seq (.reg [⟨some 78, .mov (.tmp 0), none⟩, ⟨some 79, .mov (.tmp 1), none⟩, ⟨some 80, .slice 5 (.tmp 78) (some (.tmp 79)) none none, none⟩, ⟨some 81, .mov (.tmp 2), none⟩, ⟨some 82, .copy 5 (.tmp 80) (.tmp 81), none⟩])
 (.seq (.reg [⟨some 83, .mov (.tmp 0), none⟩, ⟨some 6, .mov (.tmp 83), none⟩])
 .ret))) .skip))
 (.seq (.reg [⟨some 84, .mov (.tmp 0), none⟩, ⟨some 85, .mov (.tmp 8), none⟩, ⟨some 86, .slice 5 (.tmp 84) (some (.tmp 85)) none none, none⟩, ⟨some 87, .mov (.tmp 2), none⟩, ⟨some 88, .copy 5 (.tmp 86) (.tmp 87), none⟩])
 (.seq (.reg [⟨some 89, .mov (.tmp 0), none⟩, ⟨some 90, .mov (.tmp 1), none⟩, ⟨some 91, .slice 5 (.tmp 89) (some (.tmp 90)) none none, none⟩, ⟨some 92, .mov (.tmp 7), none⟩, ⟨some 93, .call 82 [(.tmp 91), (.tmp 92)], none⟩])
 (.seq (.reg [⟨some 94, .mov (.tmp 0), none⟩, ⟨some 6, .mov (.tmp 94), none⟩])
 .ret)))))))))))), [.tmp 6]⟩
theorem c58 : zal Tryz.prog k58 [.give (.row 45 5), .borrow, .give (.row 45 5)] Tryz.f58 = some a58 := by kernel_rfl
def cx0 : Cx := ⟨fun _ _ => none, fun _ => {}, fun _ _ _ => none⟩
theorem zx0 : CxOk Tryz.prog cx0 := ⟨fun f args r e => (by cases e), fun f args hp r e => (by cases e)⟩
theorem zlz {nl nl2 : Bool} {es ys : List (List AV)} (hm : 0 < ys.length) (hb : es.length + ys.length ≤ 274877906944) :
   There Tryz.prog 58 ∧ Owes Tryz.prog 58 [.give (.row 45 5), .borrow, .give (.row 45 5)] [.ow 45 5 nl es, .i .i64 (es.length : Int), .ow 45 5 nl2 ys] (.ow 45 5 false (es ++ ys), []) := by
 refine zj9 (fs := { pm := [.give (.row 45 5), .borrow, .give (.row 45 5)], rm := some (.row 45 5) }) zx0 (fun ok n fxv Z hok => zpm zx0 (Checked.mixed Tryz.checked) ok n fxv Z hok) Tryz.func58 c58 rfl ?_
 refine W_eq (kbody ?_)
 have h1 : decide ((ys.length : Int) = 0) = false := decide_eq_false (by omega)
 have hl : es.length + ys.length ≤ LIM := by rw [show LIM = 274877906944 from rfl]; exact hb
 have hne : ys.isEmpty = false := by cases ys with | nil => simp at hm | cons a r => rfl
 (repeat' (first | with_reducible refine zab ?_ | simp only [go_sem, J0, reduceIte, reduceCtorEq, Ja, Jb, Jc, Jd, Je, Jf, Jg, Jh, Ji, Jj, Jk, Jl, Jm, Jn, Jo, Jp, Jq, Jr, Js, a58, h1, hl, hne, Bool.and_false, List.length_append]))
theorem zm2 {nl nl2 : Bool} {es ys : List (List AV)} {i : Nat} (hi : i ≤ es.length) (hm : 0 < ys.length) (hb : es.length + ys.length ≤ 274877906944) :
   Meets Tryz.prog 58 [.give (.row 45 5), .borrow, .give (.row 45 5)] [.ow 45 5 nl es, .i .i64 (i : Int), .ow 45 5 nl2 ys] (.ow 45 5 false (es.take i ++ ys ++ es.drop i), []) := by
 by_cases h : i < es.length
 · exact .inl ⟨(zlz (nl := nl) (nl2 := nl2) (es := es) hm hb).1, zsl h hm (by omega)⟩
 · obtain rfl : i = es.length := by omega
   have := zlz (nl := nl) (nl2 := nl2) (es := es) hm hb
   rw [List.take_length, List.drop_length, List.append_nil]
   exact .inl this
end
section
open Go.Shelf
def lays160_ren : Go.Shelf.Ren := ⟨fun | 160 => 65 | 232 => 86 | 231 => 85 | 227 => 87 | 234 => 89 | 233 => 88 | 236 => 91 | 235 => 90 | 228 => 101 | 271 => 104 | 151 => 103 | 197 => 102 | 120 => 115 | 152 => 114 | 260 => 113 | 137 => 121 | 119 => 122 | 224 => 123 | 225 => 124 | 217 => 126 | 266 => 127 | n => n, fun | 9 => 9 | 4 => 4 | 3 => 3 | 5 => 5 | 117 => 112 | 116 => 111 | 0 => 0 | 124 => 115 | 21 => 21 | 105 => 122 | 46 => 137 | 119 => 136 | 139 => 140 | 138 => 139 | n => n, fun | 3 => 0 | 4 => 1 | n => n⟩
theorem lays160 : Go.Proofs.Lays.n160 Tryz.prog lays160_ren := {
 mixed := by kernel_rfl,
 f119 := Tryz.func122.trans (congrArg some (by kernel_rfl)),
 f120 := Tryz.func115.trans (congrArg some (by kernel_rfl)),
 f137 := Tryz.func121.trans (congrArg some (by kernel_rfl)),
 f151 := Tryz.func103.trans (congrArg some (by kernel_rfl)),
 f152 := Tryz.func114.trans (congrArg some (by kernel_rfl)),
 f160 := Tryz.func65.trans (congrArg some (by kernel_rfl)),
 f197 := Tryz.func102.trans (congrArg some (by kernel_rfl)),
 f217 := Tryz.func126.trans (congrArg some (by kernel_rfl)),
 f224 := Tryz.func123.trans (congrArg some (by kernel_rfl)),
 f225 := Tryz.func124.trans (congrArg some (by kernel_rfl)),
 f227 := Tryz.func87.trans (congrArg some (by kernel_rfl)),
 f228 := Tryz.func101.trans (congrArg some (by kernel_rfl)),
 f231 := Tryz.func85.trans (congrArg some (by kernel_rfl)),
 f232 := Tryz.func86.trans (congrArg some (by kernel_rfl)),
 f233 := Tryz.func88.trans (congrArg some (by kernel_rfl)),
 f234 := Tryz.func89.trans (congrArg some (by kernel_rfl)),
 f235 := Tryz.func90.trans (congrArg some (by kernel_rfl)),
 f236 := Tryz.func91.trans (congrArg some (by kernel_rfl)),
 f260 := Tryz.func113.trans (congrArg some (by kernel_rfl)),
 f266 := Tryz.func127.trans (congrArg some (by kernel_rfl)),
 f271 := Tryz.func104.trans (congrArg some (by kernel_rfl)),
 t0 := Tryz.underlying0,
 a0 := Tryz.isAgg0,
 z0 := Tryz.sizeOf0,
 v0 := Tryz.zeroValue0,
 t3 := Tryz.underlying3,
 a3 := Tryz.isAgg3,
 z3 := Tryz.sizeOf3,
 v3 := Tryz.zeroValue3,
 t4 := Tryz.underlying4,
 a4 := Tryz.isAgg4,
 z4 := Tryz.sizeOf4,
 v4 := Tryz.zeroValue4,
 t5 := Tryz.underlying5,
 a5 := Tryz.isAgg5,
 z5 := Tryz.sizeOf5,
 v5 := Tryz.zeroValue5,
 t9 := Tryz.underlying9,
 a9 := Tryz.isAgg9,
 z9 := Tryz.sizeOf9,
 v9 := Tryz.zeroValue9,
 t21 := Tryz.underlying21,
 a21 := Tryz.isAgg21,
 z21 := Tryz.sizeOf21,
 v21 := Tryz.zeroValue21,
 t46 := Tryz.underlying137,
 a46 := Tryz.isAgg137,
 z46 := Tryz.sizeOf137,
 v46 := Tryz.zeroValue137,
 t105 := Tryz.underlying122,
 a105 := Tryz.isAgg122,
 z105 := Tryz.sizeOf122,
 v105 := Tryz.zeroValue122,
 t116 := Tryz.underlying111,
 a116 := Tryz.isAgg111,
 z116 := Tryz.sizeOf111,
 t117 := Tryz.underlying112,
 a117 := Tryz.isAgg112,
 z117 := Tryz.sizeOf112,
 v117 := Tryz.zeroValue112,
 t119 := Tryz.underlying136,
 a119 := Tryz.isAgg136,
 z119 := Tryz.sizeOf136,
 t124 := Tryz.underlying115,
 a124 := Tryz.isAgg115,
 z124 := Tryz.sizeOf115,
 v124 := Tryz.zeroValue115,
 t138 := Tryz.underlying139,
 a138 := Tryz.isAgg139,
 z138 := Tryz.sizeOf139,
 v138 := Tryz.zeroValue139,
 t139 := Tryz.underlying140,
 a139 := Tryz.isAgg140,
 z139 := Tryz.sizeOf140,
 v139 := Tryz.zeroValue140,
 g3 := by kernel_rfl,
 g4 := by kernel_rfl }
def nameSet : List UInt8 := [97, 98, 99, 100, 101, 102, 103, 104, 105, 106, 107, 108, 109, 110, 111, 112, 113, 114, 115, 116, 117, 118, 119, 120, 121, 122, 65, 66, 67, 68, 69, 70, 71, 72, 73, 74, 75, 76, 77, 78, 79, 80, 81, 82, 83, 84, 85, 86, 87, 88, 89, 90, 48, 49, 50, 51, 52, 53, 54, 55, 56, 57, 95]
def zh6 : List AV → Option (AV × List AV)
 | [.str s, .str c] => Go.Abs.ask (c = nameSet ∧ s.length ≤ LIM) (some (.str (Go.Lib.trimS s c), []))
 | _ => none
theorem ren_f : lays160_ren.f 160 = 65 := rfl
theorem ren_t : lays160_ren.t 116 = 111 := rfl
theorem info116 : (Tryz.prog.info? (lays160_ren.t 116)).map (fun i => (i.zero, i.size)) = some (some (.agg (Array.replicate 256 (.bool false))), 256) := by rw [ren_t]; kernel_rfl
theorem toL (s : List UInt8) : (⟨s.toArray⟩ : ByteArray).data.toList = s := rfl
theorem zre (s : List UInt8) (w : World) (hl : s.length ≤ 274877906944) :
   Calls Tryz.prog 65 #[.string ⟨s.toArray⟩, .string ⟨nameSet.toArray⟩] w fun e w' => e = .returned (.string ⟨(Go.Lib.trimS s nameSet).toArray⟩) ∧ Go.RowKit.Below w.heap.size w w' := by
 have hcon := Go.Proofs.Any.strings_Trim_laid lays160 info116 ⟨s.toArray⟩ ⟨nameSet.toArray⟩ w (by
     show s.toArray.size ≤ _
     simp only [List.size_toArray]; omega) (by decide) (Go.Proofs.ascii_of_all (by decide))
 rw [ren_f, toL, toL] at hcon
 exact hcon
theorem zrk {args : List AV} {r : AV × List AV} (h : zh6 args = some r) : Meets Tryz.prog 65 [] args r := by
 match args, h with
 | [.str s, .str c], h =>
   simp only [zh6, zac, Option.some.injEq] at h
   obtain ⟨⟨rfl, hl⟩, rfl⟩ := h
   refine .inl ⟨⟨Tryz.f65, Tryz.func65, by kernel_rfl, by kernel_rfl⟩, ?_⟩
   intro w Z vs F hz hr hnd hZ
   simp only [RepPs, RepP, Rep] at hr
   obtain ⟨v1, vs1, F1, F2, rfl, rfl, ⟨rfl, rfl⟩, v2, vs2, F3, F4, rfl, rfl, ⟨rfl, rfl⟩, rfl, rfl⟩ := hr
   refine (zre s w (by simpa [LIM] using hl)).mono fun e w' h => ?_
   obtain ⟨rfl, hb⟩ := h
   refine ⟨[], ?_, by simp, by simp, hb.size, hb.os, hb.tape, hb.output, ?_, fun i hi _ => hb.block i hi⟩
   · show RepPs w' (Zp Z []) [.str (Go.Lib.trimS s nameSet)] [_] []
     simp only [RepPs, RepP, Rep]
     exact ⟨_, [], [], [], rfl, rfl, ⟨rfl, by simp⟩, rfl, rfl⟩
   · rintro gb n ⟨arr, ty, fr, h1, h2⟩
     exact ⟨arr, ty, fr, by rw [hb.block gb (za6 h1)]; exact h1, h2⟩
def znj : List AV → Option (AV × List AV)
 | [.str a, .str b] => some (.i .i64 (Go.Lib.compareBytes a b), [])
 | _ => none
theorem zum {args : List AV} {r : AV × List AV} (h : znj args = some r) : Meets Tryz.prog 125 [] args r := by
 match args, h with
 | [.str a, .str b], h =>
   simp only [znj, Option.some.injEq] at h
   subst h
   refine .inr (.inl ?_)
   intro w Z vs F hz hr hnd hZ
   simp only [RepPs, RepP, Rep] at hr
   obtain ⟨v1, vs1, F1, F2, rfl, rfl, ⟨rfl, rfl⟩, v2, vs2, F3, F4, rfl, rfl, ⟨rfl, rfl⟩, rfl, rfl⟩ := hr
   refine ⟨_, w, [], by
     rw [run_callFunc_extern Tryz.func125 (by kernel_rfl) (by kernel_rfl) (by kernel_rfl) (e := Extern.BytealgCompare.compare) (by kernel_rfl), Go.Lib.run_compareString]
     rfl, ?_⟩
   refine ⟨?_, by simp, by simp, Nat.le_refl _, rfl, rfl, rfl, fun _ _ h => h, fun _ _ _ => rfl⟩
   simp only [RepPs, RepP, Rep]
   exact ⟨_, [], [], [], rfl, rfl, ⟨rfl, rfl⟩, rfl, rfl⟩
def zcl : List AV → Option (AV × List AV)
 | [.ow ty sz nl es, .i k i, .ow ty2 sz2 nl2 ys] => Go.Abs.ask ((ty = 45 ∧ sz = 5 ∧ ty2 = 45 ∧ sz2 = 5) ∧ k = .i64 ∧ 0 ≤ i ∧ i.toNat ≤ es.length ∧ 0 < ys.length ∧ es.length + ys.length ≤ 274877906944)
     (some (.ow 45 5 false (es.take i.toNat ++ ys ++ es.drop i.toNat), []))
 | _ => none
theorem zot {args : List AV} {r : AV × List AV} (h : zcl args = some r) : Meets Tryz.prog 58 [.give (.row 45 5), .borrow, .give (.row 45 5)] args r := by
 unfold zcl at h
 split at h
 · simp only [zac, Option.some.injEq] at h
   obtain ⟨⟨⟨rfl, rfl, rfl, rfl⟩, rfl, h1, h2, h3, h4⟩, rfl⟩ := h
   rename_i nl es i nl2 ys
   have e : ((i.toNat : Nat) : Int) = i := Int.toNat_of_nonneg h1
   have := zm2 (nl := nl) (nl2 := nl2) h2 h3 h4
   rw [e] at this
   exact this
 · cases h
end
section
def specL : List (Nat × FSpec) := [(8, { pm := [], rm := some (.cells [.row 43 3, .row 47 5, .none]) }), (11, { pm := [], rm := some (.cells [.row 43 3, .row 47 5, .none]) }), (37, { pm := [], rm := some (.cells [.none, .none, .row 45 5]) }), (38, { pm := [], rm := some (.cells [.none, .none, .none, .none, .row 45 5]) }), (39, { pm := [], rm := none, nn := true }), (40, { pm := [], rm := some (.row 45 5) }), (46, { pm := [.give (.row 47 5), .borrow], rm := some (.row 47 5) }), (48, { pm := [.give (.row 43 3), .borrow], rm := some (.row 43 3) }), (58, { pm := [.give (.row 45 5), .borrow, .give (.row 45 5)], rm := some (.row 45 5) }), (63, { pm := [.give (.row 45 5), .borrow], rm := some (.row 45 5) }), (74, { pm := [.inout (.none)], rm := none, it := true }), (80, { pm := [], rm := some (.row 30 4) }), (1000011, { pm := [], rm := some (.cells [.rowd 43 3, .rowd 47 5, .none]) })]
def spec (f : Nat) : FSpec := z5n {} specL f
def fsL : List (Nat × AFun) := [(3, a3), (5, a5), (6, a6), (7, a7), (8, a8), (10, a10), (11, a11), (13, a13), (14, a14), (15, a15), (16, a16), (17, a17), (18, a18), (19, a19), (20, a20), (21, a21), (22, a22), (23, a23), (24, a24), (25, a25), (26, a26), (27, a27), (28, a28), (29, a29), (35, a35), (36, a36), (37, a37), (38, a38), (39, a39), (40, a40), (41, a41), (42, a42), (43, a43), (44, a44), (45, a45), (46, a46), (47, a47), (48, a48), (49, a49), (50, a50), (51, a51), (52, a52), (53, a53), (54, a54), (55, a55), (56, a56), (57, a57), (59, a59), (60, a60), (61, a61), (62, a62), (63, a63), (64, a64), (66, a66), (69, a69), (70, a70), (71, a71), (72, a72), (73, a73), (74, a74), (75, a75), (76, a76), (77, a77), (78, a78), (79, a79), (80, a80), (83, a83), (84, a84), (92, a92), (93, a93), (94, a94), (95, a95), (96, a96), (97, a97), (99, a99), (100, a100), (105, a105), (106, a106), (107, a107), (108, a108), (109, a109), (110, a110), (111, a111), (116, a116), (117, a117), (118, a118), (119, a119), (120, a120), (1000008, a1000008), (1000011, a1000011), (1000039, a1000039)]
def z59 : List (Nat × (List AV → Option (AV × List AV))) := [(58, zcl), (65, zh6), (125, znj)]
noncomputable def S : Go.Abs.Sys := ⟨spec, zt2 z59, zt2 fsL⟩
noncomputable abbrev cx : Cx := ⟨acall S, S.spec, inlF S (acall S)⟩
@[go_sem] theorem s3 : S.spec 3 = { pm := [], rm := none } := rfl
@[go_sem] theorem s5 : S.spec 5 = { pm := [], rm := none } := rfl
@[go_sem] theorem s6 : S.spec 6 = { pm := [], rm := none } := rfl
@[go_sem] theorem s7 : S.spec 7 = { pm := [], rm := none } := rfl
@[go_sem] theorem s8 : S.spec 8 = { pm := [], rm := some (.cells [.row 43 3, .row 47 5, .none]) } := rfl
@[go_sem] theorem s10 : S.spec 10 = { pm := [], rm := none } := rfl
@[go_sem] theorem s11 : S.spec 11 = { pm := [], rm := some (.cells [.row 43 3, .row 47 5, .none]) } := rfl
@[go_sem] theorem s13 : S.spec 13 = { pm := [], rm := none } := rfl
@[go_sem] theorem s14 : S.spec 14 = { pm := [], rm := none } := rfl
@[go_sem] theorem s15 : S.spec 15 = { pm := [], rm := none } := rfl
@[go_sem] theorem s16 : S.spec 16 = { pm := [], rm := none } := rfl
@[go_sem] theorem s17 : S.spec 17 = { pm := [], rm := none } := rfl
@[go_sem] theorem s18 : S.spec 18 = { pm := [], rm := none } := rfl
@[go_sem] theorem s19 : S.spec 19 = { pm := [], rm := none } := rfl
@[go_sem] theorem s20 : S.spec 20 = { pm := [], rm := none } := rfl
@[go_sem] theorem s21 : S.spec 21 = { pm := [], rm := none } := rfl
@[go_sem] theorem s22 : S.spec 22 = { pm := [], rm := none } := rfl
@[go_sem] theorem s23 : S.spec 23 = { pm := [], rm := none } := rfl
@[go_sem] theorem s24 : S.spec 24 = { pm := [], rm := none } := rfl
@[go_sem] theorem s25 : S.spec 25 = { pm := [], rm := none } := rfl
@[go_sem] theorem s26 : S.spec 26 = { pm := [], rm := none } := rfl
@[go_sem] theorem s27 : S.spec 27 = { pm := [], rm := none } := rfl
@[go_sem] theorem s28 : S.spec 28 = { pm := [], rm := none } := rfl
@[go_sem] theorem s29 : S.spec 29 = { pm := [], rm := none } := rfl
@[go_sem] theorem s35 : S.spec 35 = { pm := [], rm := none } := rfl
@[go_sem] theorem s36 : S.spec 36 = { pm := [], rm := none } := rfl
@[go_sem] theorem s37 : S.spec 37 = { pm := [], rm := some (.cells [.none, .none, .row 45 5]) } := rfl
@[go_sem] theorem s38 : S.spec 38 = { pm := [], rm := some (.cells [.none, .none, .none, .none, .row 45 5]) } := rfl
@[go_sem] theorem s39 : S.spec 39 = { pm := [], rm := none, nn := true } := rfl
@[go_sem] theorem s40 : S.spec 40 = { pm := [], rm := some (.row 45 5) } := rfl
@[go_sem] theorem s41 : S.spec 41 = { pm := [], rm := none } := rfl
@[go_sem] theorem s42 : S.spec 42 = { pm := [], rm := none } := rfl
@[go_sem] theorem s43 : S.spec 43 = { pm := [], rm := none } := rfl
@[go_sem] theorem s44 : S.spec 44 = { pm := [], rm := none } := rfl
@[go_sem] theorem s45 : S.spec 45 = { pm := [], rm := none } := rfl
@[go_sem] theorem s46 : S.spec 46 = { pm := [.give (.row 47 5), .borrow], rm := some (.row 47 5) } := rfl
@[go_sem] theorem s47 : S.spec 47 = { pm := [], rm := none } := rfl
@[go_sem] theorem s48 : S.spec 48 = { pm := [.give (.row 43 3), .borrow], rm := some (.row 43 3) } := rfl
@[go_sem] theorem s49 : S.spec 49 = { pm := [], rm := none } := rfl
@[go_sem] theorem s50 : S.spec 50 = { pm := [], rm := none } := rfl
@[go_sem] theorem s51 : S.spec 51 = { pm := [], rm := none } := rfl
@[go_sem] theorem s52 : S.spec 52 = { pm := [], rm := none } := rfl
@[go_sem] theorem s53 : S.spec 53 = { pm := [], rm := none } := rfl
@[go_sem] theorem s54 : S.spec 54 = { pm := [], rm := none } := rfl
@[go_sem] theorem s55 : S.spec 55 = { pm := [], rm := none } := rfl
@[go_sem] theorem s56 : S.spec 56 = { pm := [], rm := none } := rfl
@[go_sem] theorem s57 : S.spec 57 = { pm := [], rm := none } := rfl
@[go_sem] theorem s58 : S.spec 58 = { pm := [.give (.row 45 5), .borrow, .give (.row 45 5)], rm := some (.row 45 5) } := rfl
@[go_sem] theorem s59 : S.spec 59 = { pm := [], rm := none } := rfl
@[go_sem] theorem s60 : S.spec 60 = { pm := [], rm := none } := rfl
@[go_sem] theorem s61 : S.spec 61 = { pm := [], rm := none } := rfl
@[go_sem] theorem s62 : S.spec 62 = { pm := [], rm := none } := rfl
@[go_sem] theorem s63 : S.spec 63 = { pm := [.give (.row 45 5), .borrow], rm := some (.row 45 5) } := rfl
@[go_sem] theorem s64 : S.spec 64 = { pm := [], rm := none } := rfl
@[go_sem] theorem s65 : S.spec 65 = { pm := [], rm := none } := rfl
@[go_sem] theorem s66 : S.spec 66 = { pm := [], rm := none } := rfl
@[go_sem] theorem s69 : S.spec 69 = { pm := [], rm := none } := rfl
@[go_sem] theorem s70 : S.spec 70 = { pm := [], rm := none } := rfl
@[go_sem] theorem s71 : S.spec 71 = { pm := [], rm := none } := rfl
@[go_sem] theorem s72 : S.spec 72 = { pm := [], rm := none } := rfl
@[go_sem] theorem s73 : S.spec 73 = { pm := [], rm := none } := rfl
@[go_sem] theorem s74 : S.spec 74 = { pm := [.inout (.none)], rm := none, it := true } := rfl
@[go_sem] theorem s75 : S.spec 75 = { pm := [], rm := none } := rfl
@[go_sem] theorem s76 : S.spec 76 = { pm := [], rm := none } := rfl
@[go_sem] theorem s77 : S.spec 77 = { pm := [], rm := none } := rfl
@[go_sem] theorem s78 : S.spec 78 = { pm := [], rm := none } := rfl
@[go_sem] theorem s79 : S.spec 79 = { pm := [], rm := none } := rfl
@[go_sem] theorem s80 : S.spec 80 = { pm := [], rm := some (.row 30 4) } := rfl
@[go_sem] theorem s83 : S.spec 83 = { pm := [], rm := none } := rfl
@[go_sem] theorem s84 : S.spec 84 = { pm := [], rm := none } := rfl
@[go_sem] theorem s92 : S.spec 92 = { pm := [], rm := none } := rfl
@[go_sem] theorem s93 : S.spec 93 = { pm := [], rm := none } := rfl
@[go_sem] theorem s94 : S.spec 94 = { pm := [], rm := none } := rfl
@[go_sem] theorem s95 : S.spec 95 = { pm := [], rm := none } := rfl
@[go_sem] theorem s96 : S.spec 96 = { pm := [], rm := none } := rfl
@[go_sem] theorem s97 : S.spec 97 = { pm := [], rm := none } := rfl
@[go_sem] theorem s99 : S.spec 99 = { pm := [], rm := none } := rfl
@[go_sem] theorem s100 : S.spec 100 = { pm := [], rm := none } := rfl
@[go_sem] theorem s105 : S.spec 105 = { pm := [], rm := none } := rfl
@[go_sem] theorem s106 : S.spec 106 = { pm := [], rm := none } := rfl
@[go_sem] theorem s107 : S.spec 107 = { pm := [], rm := none } := rfl
@[go_sem] theorem s108 : S.spec 108 = { pm := [], rm := none } := rfl
@[go_sem] theorem s109 : S.spec 109 = { pm := [], rm := none } := rfl
@[go_sem] theorem s110 : S.spec 110 = { pm := [], rm := none } := rfl
@[go_sem] theorem s111 : S.spec 111 = { pm := [], rm := none } := rfl
@[go_sem] theorem s116 : S.spec 116 = { pm := [], rm := none } := rfl
@[go_sem] theorem s117 : S.spec 117 = { pm := [], rm := none } := rfl
@[go_sem] theorem s118 : S.spec 118 = { pm := [], rm := none } := rfl
@[go_sem] theorem s119 : S.spec 119 = { pm := [], rm := none } := rfl
@[go_sem] theorem s120 : S.spec 120 = { pm := [], rm := none } := rfl
@[go_sem] theorem s125 : S.spec 125 = { pm := [], rm := none } := rfl
@[go_sem] theorem s1000008 : S.spec 1000008 = { pm := [], rm := none } := rfl
@[go_sem] theorem s1000011 : S.spec 1000011 = { pm := [], rm := some (.cells [.rowd 43 3, .rowd 47 5, .none]) } := rfl
@[go_sem] theorem s1000039 : S.spec 1000039 = { pm := [], rm := none } := rfl
theorem g3 {args : List AV} {Φ : AV × List AV → Prop} (hl : args.length = a3.nparams) (h : kexec cx a3.body [] (kfin { pm := [], rm := none } a3.nparams a3.res Φ) (zae 0 args [] [])) : W (acall S 3 args) Φ := kcall rfl rfl rfl hl h
theorem g5 {args : List AV} {Φ : AV × List AV → Prop} (hl : args.length = a5.nparams) (h : kexec cx a5.body [] (kfin { pm := [], rm := none } a5.nparams a5.res Φ) (zae 0 args [] [])) : W (acall S 5 args) Φ := kcall rfl rfl rfl hl h
theorem g6 {args : List AV} {Φ : AV × List AV → Prop} (hl : args.length = a6.nparams) (h : kexec cx a6.body [] (kfin { pm := [], rm := none } a6.nparams a6.res Φ) (zae 0 args [] [])) : W (acall S 6 args) Φ := kcall rfl rfl rfl hl h
theorem g7 {args : List AV} {Φ : AV × List AV → Prop} (hl : args.length = a7.nparams) (h : kexec cx a7.body [] (kfin { pm := [], rm := none } a7.nparams a7.res Φ) (zae 0 args [] [])) : W (acall S 7 args) Φ := kcall rfl rfl rfl hl h
theorem g8 {args : List AV} {Φ : AV × List AV → Prop} (hl : args.length = a8.nparams) (h : kexec cx a8.body [] (kfin { pm := [], rm := some (.cells [.row 43 3, .row 47 5, .none]) } a8.nparams a8.res Φ) (zae 0 args [] [])) : W (acall S 8 args) Φ := kcall rfl rfl rfl hl h
theorem g10 {args : List AV} {Φ : AV × List AV → Prop} (hl : args.length = a10.nparams) (h : kexec cx a10.body [] (kfin { pm := [], rm := none } a10.nparams a10.res Φ) (zae 0 args [] [])) : W (acall S 10 args) Φ := kcall rfl rfl rfl hl h
theorem g11 {args : List AV} {Φ : AV × List AV → Prop} (hl : args.length = a11.nparams) (h : kexec cx a11.body [] (kfin { pm := [], rm := some (.cells [.row 43 3, .row 47 5, .none]) } a11.nparams a11.res Φ) (zae 0 args [] [])) : W (acall S 11 args) Φ := kcall rfl rfl rfl hl h
theorem g13 {args : List AV} {Φ : AV × List AV → Prop} (hl : args.length = a13.nparams) (h : kexec cx a13.body [] (kfin { pm := [], rm := none } a13.nparams a13.res Φ) (zae 0 args [] [])) : W (acall S 13 args) Φ := kcall rfl rfl rfl hl h
theorem g14 {args : List AV} {Φ : AV × List AV → Prop} (hl : args.length = a14.nparams) (h : kexec cx a14.body [] (kfin { pm := [], rm := none } a14.nparams a14.res Φ) (zae 0 args [] [])) : W (acall S 14 args) Φ := kcall rfl rfl rfl hl h
theorem g18 {args : List AV} {Φ : AV × List AV → Prop} (hl : args.length = a18.nparams) (h : kexec cx a18.body [] (kfin { pm := [], rm := none } a18.nparams a18.res Φ) (zae 0 args [] [])) : W (acall S 18 args) Φ := kcall rfl rfl rfl hl h
theorem g20 {args : List AV} {Φ : AV × List AV → Prop} (hl : args.length = a20.nparams) (h : kexec cx a20.body [] (kfin { pm := [], rm := none } a20.nparams a20.res Φ) (zae 0 args [] [])) : W (acall S 20 args) Φ := kcall rfl rfl rfl hl h
theorem g21 {args : List AV} {Φ : AV × List AV → Prop} (hl : args.length = a21.nparams) (h : kexec cx a21.body [] (kfin { pm := [], rm := none } a21.nparams a21.res Φ) (zae 0 args [] [])) : W (acall S 21 args) Φ := kcall rfl rfl rfl hl h
theorem g22 {args : List AV} {Φ : AV × List AV → Prop} (hl : args.length = a22.nparams) (h : kexec cx a22.body [] (kfin { pm := [], rm := none } a22.nparams a22.res Φ) (zae 0 args [] [])) : W (acall S 22 args) Φ := kcall rfl rfl rfl hl h
theorem g23 {args : List AV} {Φ : AV × List AV → Prop} (hl : args.length = a23.nparams) (h : kexec cx a23.body [] (kfin { pm := [], rm := none } a23.nparams a23.res Φ) (zae 0 args [] [])) : W (acall S 23 args) Φ := kcall rfl rfl rfl hl h
theorem g24 {args : List AV} {Φ : AV × List AV → Prop} (hl : args.length = a24.nparams) (h : kexec cx a24.body [] (kfin { pm := [], rm := none } a24.nparams a24.res Φ) (zae 0 args [] [])) : W (acall S 24 args) Φ := kcall rfl rfl rfl hl h
theorem g25 {args : List AV} {Φ : AV × List AV → Prop} (hl : args.length = a25.nparams) (h : kexec cx a25.body [] (kfin { pm := [], rm := none } a25.nparams a25.res Φ) (zae 0 args [] [])) : W (acall S 25 args) Φ := kcall rfl rfl rfl hl h
theorem g26 {args : List AV} {Φ : AV × List AV → Prop} (hl : args.length = a26.nparams) (h : kexec cx a26.body [] (kfin { pm := [], rm := none } a26.nparams a26.res Φ) (zae 0 args [] [])) : W (acall S 26 args) Φ := kcall rfl rfl rfl hl h
theorem g27 {args : List AV} {Φ : AV × List AV → Prop} (hl : args.length = a27.nparams) (h : kexec cx a27.body [] (kfin { pm := [], rm := none } a27.nparams a27.res Φ) (zae 0 args [] [])) : W (acall S 27 args) Φ := kcall rfl rfl rfl hl h
theorem g28 {args : List AV} {Φ : AV × List AV → Prop} (hl : args.length = a28.nparams) (h : kexec cx a28.body [] (kfin { pm := [], rm := none } a28.nparams a28.res Φ) (zae 0 args [] [])) : W (acall S 28 args) Φ := kcall rfl rfl rfl hl h
theorem g29 {args : List AV} {Φ : AV × List AV → Prop} (hl : args.length = a29.nparams) (h : kexec cx a29.body [] (kfin { pm := [], rm := none } a29.nparams a29.res Φ) (zae 0 args [] [])) : W (acall S 29 args) Φ := kcall rfl rfl rfl hl h
theorem g35 {args : List AV} {Φ : AV × List AV → Prop} (hl : args.length = a35.nparams) (h : kexec cx a35.body [] (kfin { pm := [], rm := none } a35.nparams a35.res Φ) (zae 0 args [] [])) : W (acall S 35 args) Φ := kcall rfl rfl rfl hl h
theorem g36 {args : List AV} {Φ : AV × List AV → Prop} (hl : args.length = a36.nparams) (h : kexec cx a36.body [] (kfin { pm := [], rm := none } a36.nparams a36.res Φ) (zae 0 args [] [])) : W (acall S 36 args) Φ := kcall rfl rfl rfl hl h
theorem g37 {args : List AV} {Φ : AV × List AV → Prop} (hl : args.length = a37.nparams) (h : kexec cx a37.body [] (kfin { pm := [], rm := some (.cells [.none, .none, .row 45 5]) } a37.nparams a37.res Φ) (zae 0 args [] [])) : W (acall S 37 args) Φ := kcall rfl rfl rfl hl h
theorem g38 {args : List AV} {Φ : AV × List AV → Prop} (hl : args.length = a38.nparams) (h : kexec cx a38.body [] (kfin { pm := [], rm := some (.cells [.none, .none, .none, .none, .row 45 5]) } a38.nparams a38.res Φ) (zae 0 args [] [])) : W (acall S 38 args) Φ := kcall rfl rfl rfl hl h
theorem g39 {args : List AV} {Φ : AV × List AV → Prop} (hl : args.length = a39.nparams) (h : kexec cx a39.body [] (kfin { pm := [], rm := none, nn := true } a39.nparams a39.res Φ) (zae 0 args [] [])) : W (acall S 39 args) Φ := kcall rfl rfl rfl hl h
theorem g40 {args : List AV} {Φ : AV × List AV → Prop} (hl : args.length = a40.nparams) (h : kexec cx a40.body [] (kfin { pm := [], rm := some (.row 45 5) } a40.nparams a40.res Φ) (zae 0 args [] [])) : W (acall S 40 args) Φ := kcall rfl rfl rfl hl h
theorem g41 {args : List AV} {Φ : AV × List AV → Prop} (hl : args.length = a41.nparams) (h : kexec cx a41.body [] (kfin { pm := [], rm := none } a41.nparams a41.res Φ) (zae 0 args [] [])) : W (acall S 41 args) Φ := kcall rfl rfl rfl hl h
theorem g46 {args : List AV} {Φ : AV × List AV → Prop} (hl : args.length = a46.nparams) (h : kexec cx a46.body [] (kfin { pm := [.give (.row 47 5), .borrow], rm := some (.row 47 5) } a46.nparams a46.res Φ) (zae 0 args [] [])) : W (acall S 46 args) Φ := kcall rfl rfl rfl hl h
theorem g47 {args : List AV} {Φ : AV × List AV → Prop} (hl : args.length = a47.nparams) (h : kexec cx a47.body [] (kfin { pm := [], rm := none } a47.nparams a47.res Φ) (zae 0 args [] [])) : W (acall S 47 args) Φ := kcall rfl rfl rfl hl h
theorem g48 {args : List AV} {Φ : AV × List AV → Prop} (hl : args.length = a48.nparams) (h : kexec cx a48.body [] (kfin { pm := [.give (.row 43 3), .borrow], rm := some (.row 43 3) } a48.nparams a48.res Φ) (zae 0 args [] [])) : W (acall S 48 args) Φ := kcall rfl rfl rfl hl h
theorem g49 {args : List AV} {Φ : AV × List AV → Prop} (hl : args.length = a49.nparams) (h : kexec cx a49.body [] (kfin { pm := [], rm := none } a49.nparams a49.res Φ) (zae 0 args [] [])) : W (acall S 49 args) Φ := kcall rfl rfl rfl hl h
theorem g50 {args : List AV} {Φ : AV × List AV → Prop} (hl : args.length = a50.nparams) (h : kexec cx a50.body [] (kfin { pm := [], rm := none } a50.nparams a50.res Φ) (zae 0 args [] [])) : W (acall S 50 args) Φ := kcall rfl rfl rfl hl h
theorem g51 {args : List AV} {Φ : AV × List AV → Prop} (hl : args.length = a51.nparams) (h : kexec cx a51.body [] (kfin { pm := [], rm := none } a51.nparams a51.res Φ) (zae 0 args [] [])) : W (acall S 51 args) Φ := kcall rfl rfl rfl hl h
theorem g52 {args : List AV} {Φ : AV × List AV → Prop} (hl : args.length = a52.nparams) (h : kexec cx a52.body [] (kfin { pm := [], rm := none } a52.nparams a52.res Φ) (zae 0 args [] [])) : W (acall S 52 args) Φ := kcall rfl rfl rfl hl h
theorem g53 {args : List AV} {Φ : AV × List AV → Prop} (hl : args.length = a53.nparams) (h : kexec cx a53.body [] (kfin { pm := [], rm := none } a53.nparams a53.res Φ) (zae 0 args [] [])) : W (acall S 53 args) Φ := kcall rfl rfl rfl hl h
theorem g54 {args : List AV} {Φ : AV × List AV → Prop} (hl : args.length = a54.nparams) (h : kexec cx a54.body [] (kfin { pm := [], rm := none } a54.nparams a54.res Φ) (zae 0 args [] [])) : W (acall S 54 args) Φ := kcall rfl rfl rfl hl h
theorem g55 {args : List AV} {Φ : AV × List AV → Prop} (hl : args.length = a55.nparams) (h : kexec cx a55.body [] (kfin { pm := [], rm := none } a55.nparams a55.res Φ) (zae 0 args [] [])) : W (acall S 55 args) Φ := kcall rfl rfl rfl hl h
theorem g56 {args : List AV} {Φ : AV × List AV → Prop} (hl : args.length = a56.nparams) (h : kexec cx a56.body [] (kfin { pm := [], rm := none } a56.nparams a56.res Φ) (zae 0 args [] [])) : W (acall S 56 args) Φ := kcall rfl rfl rfl hl h
theorem g57 {args : List AV} {Φ : AV × List AV → Prop} (hl : args.length = a57.nparams) (h : kexec cx a57.body [] (kfin { pm := [], rm := none } a57.nparams a57.res Φ) (zae 0 args [] [])) : W (acall S 57 args) Φ := kcall rfl rfl rfl hl h
theorem g59 {args : List AV} {Φ : AV × List AV → Prop} (hl : args.length = a59.nparams) (h : kexec cx a59.body [] (kfin { pm := [], rm := none } a59.nparams a59.res Φ) (zae 0 args [] [])) : W (acall S 59 args) Φ := kcall rfl rfl rfl hl h
theorem g60 {args : List AV} {Φ : AV × List AV → Prop} (hl : args.length = a60.nparams) (h : kexec cx a60.body [] (kfin { pm := [], rm := none } a60.nparams a60.res Φ) (zae 0 args [] [])) : W (acall S 60 args) Φ := kcall rfl rfl rfl hl h
theorem g61 {args : List AV} {Φ : AV × List AV → Prop} (hl : args.length = a61.nparams) (h : kexec cx a61.body [] (kfin { pm := [], rm := none } a61.nparams a61.res Φ) (zae 0 args [] [])) : W (acall S 61 args) Φ := kcall rfl rfl rfl hl h
theorem g62 {args : List AV} {Φ : AV × List AV → Prop} (hl : args.length = a62.nparams) (h : kexec cx a62.body [] (kfin { pm := [], rm := none } a62.nparams a62.res Φ) (zae 0 args [] [])) : W (acall S 62 args) Φ := kcall rfl rfl rfl hl h
theorem g63 {args : List AV} {Φ : AV × List AV → Prop} (hl : args.length = a63.nparams) (h : kexec cx a63.body [] (kfin { pm := [.give (.row 45 5), .borrow], rm := some (.row 45 5) } a63.nparams a63.res Φ) (zae 0 args [] [])) : W (acall S 63 args) Φ := kcall rfl rfl rfl hl h
theorem g64 {args : List AV} {Φ : AV × List AV → Prop} (hl : args.length = a64.nparams) (h : kexec cx a64.body [] (kfin { pm := [], rm := none } a64.nparams a64.res Φ) (zae 0 args [] [])) : W (acall S 64 args) Φ := kcall rfl rfl rfl hl h
theorem g66 {args : List AV} {Φ : AV × List AV → Prop} (hl : args.length = a66.nparams) (h : kexec cx a66.body [] (kfin { pm := [], rm := none } a66.nparams a66.res Φ) (zae 0 args [] [])) : W (acall S 66 args) Φ := kcall rfl rfl rfl hl h
theorem g70 {args : List AV} {Φ : AV × List AV → Prop} (hl : args.length = a70.nparams) (h : kexec cx a70.body [] (kfin { pm := [], rm := none } a70.nparams a70.res Φ) (zae 0 args [] [])) : W (acall S 70 args) Φ := kcall rfl rfl rfl hl h
theorem g71 {args : List AV} {Φ : AV × List AV → Prop} (hl : args.length = a71.nparams) (h : kexec cx a71.body [] (kfin { pm := [], rm := none } a71.nparams a71.res Φ) (zae 0 args [] [])) : W (acall S 71 args) Φ := kcall rfl rfl rfl hl h
theorem g72 {args : List AV} {Φ : AV × List AV → Prop} (hl : args.length = a72.nparams) (h : kexec cx a72.body [] (kfin { pm := [], rm := none } a72.nparams a72.res Φ) (zae 0 args [] [])) : W (acall S 72 args) Φ := kcall rfl rfl rfl hl h
theorem g73 {args : List AV} {Φ : AV × List AV → Prop} (hl : args.length = a73.nparams) (h : kexec cx a73.body [] (kfin { pm := [], rm := none } a73.nparams a73.res Φ) (zae 0 args [] [])) : W (acall S 73 args) Φ := kcall rfl rfl rfl hl h
theorem g76 {args : List AV} {Φ : AV × List AV → Prop} (hl : args.length = a76.nparams) (h : kexec cx a76.body [] (kfin { pm := [], rm := none } a76.nparams a76.res Φ) (zae 0 args [] [])) : W (acall S 76 args) Φ := kcall rfl rfl rfl hl h
theorem g77 {args : List AV} {Φ : AV × List AV → Prop} (hl : args.length = a77.nparams) (h : kexec cx a77.body [] (kfin { pm := [], rm := none } a77.nparams a77.res Φ) (zae 0 args [] [])) : W (acall S 77 args) Φ := kcall rfl rfl rfl hl h
theorem g78 {args : List AV} {Φ : AV × List AV → Prop} (hl : args.length = a78.nparams) (h : kexec cx a78.body [] (kfin { pm := [], rm := none } a78.nparams a78.res Φ) (zae 0 args [] [])) : W (acall S 78 args) Φ := kcall rfl rfl rfl hl h
theorem g79 {args : List AV} {Φ : AV × List AV → Prop} (hl : args.length = a79.nparams) (h : kexec cx a79.body [] (kfin { pm := [], rm := none } a79.nparams a79.res Φ) (zae 0 args [] [])) : W (acall S 79 args) Φ := kcall rfl rfl rfl hl h
theorem g80 {args : List AV} {Φ : AV × List AV → Prop} (hl : args.length = a80.nparams) (h : kexec cx a80.body [] (kfin { pm := [], rm := some (.row 30 4) } a80.nparams a80.res Φ) (zae 0 args [] [])) : W (acall S 80 args) Φ := kcall rfl rfl rfl hl h
theorem g83 {args : List AV} {Φ : AV × List AV → Prop} (hl : args.length = a83.nparams) (h : kexec cx a83.body [] (kfin { pm := [], rm := none } a83.nparams a83.res Φ) (zae 0 args [] [])) : W (acall S 83 args) Φ := kcall rfl rfl rfl hl h
theorem g84 {args : List AV} {Φ : AV × List AV → Prop} (hl : args.length = a84.nparams) (h : kexec cx a84.body [] (kfin { pm := [], rm := none } a84.nparams a84.res Φ) (zae 0 args [] [])) : W (acall S 84 args) Φ := kcall rfl rfl rfl hl h
theorem g92 {args : List AV} {Φ : AV × List AV → Prop} (hl : args.length = a92.nparams) (h : kexec cx a92.body [] (kfin { pm := [], rm := none } a92.nparams a92.res Φ) (zae 0 args [] [])) : W (acall S 92 args) Φ := kcall rfl rfl rfl hl h
theorem g93 {args : List AV} {Φ : AV × List AV → Prop} (hl : args.length = a93.nparams) (h : kexec cx a93.body [] (kfin { pm := [], rm := none } a93.nparams a93.res Φ) (zae 0 args [] [])) : W (acall S 93 args) Φ := kcall rfl rfl rfl hl h
theorem g94 {args : List AV} {Φ : AV × List AV → Prop} (hl : args.length = a94.nparams) (h : kexec cx a94.body [] (kfin { pm := [], rm := none } a94.nparams a94.res Φ) (zae 0 args [] [])) : W (acall S 94 args) Φ := kcall rfl rfl rfl hl h
theorem g96 {args : List AV} {Φ : AV × List AV → Prop} (hl : args.length = a96.nparams) (h : kexec cx a96.body [] (kfin { pm := [], rm := none } a96.nparams a96.res Φ) (zae 0 args [] [])) : W (acall S 96 args) Φ := kcall rfl rfl rfl hl h
theorem g97 {args : List AV} {Φ : AV × List AV → Prop} (hl : args.length = a97.nparams) (h : kexec cx a97.body [] (kfin { pm := [], rm := none } a97.nparams a97.res Φ) (zae 0 args [] [])) : W (acall S 97 args) Φ := kcall rfl rfl rfl hl h
theorem g99 {args : List AV} {Φ : AV × List AV → Prop} (hl : args.length = a99.nparams) (h : kexec cx a99.body [] (kfin { pm := [], rm := none } a99.nparams a99.res Φ) (zae 0 args [] [])) : W (acall S 99 args) Φ := kcall rfl rfl rfl hl h
theorem g100 {args : List AV} {Φ : AV × List AV → Prop} (hl : args.length = a100.nparams) (h : kexec cx a100.body [] (kfin { pm := [], rm := none } a100.nparams a100.res Φ) (zae 0 args [] [])) : W (acall S 100 args) Φ := kcall rfl rfl rfl hl h
theorem g105 {args : List AV} {Φ : AV × List AV → Prop} (hl : args.length = a105.nparams) (h : kexec cx a105.body [] (kfin { pm := [], rm := none } a105.nparams a105.res Φ) (zae 0 args [] [])) : W (acall S 105 args) Φ := kcall rfl rfl rfl hl h
theorem g106 {args : List AV} {Φ : AV × List AV → Prop} (hl : args.length = a106.nparams) (h : kexec cx a106.body [] (kfin { pm := [], rm := none } a106.nparams a106.res Φ) (zae 0 args [] [])) : W (acall S 106 args) Φ := kcall rfl rfl rfl hl h
theorem g107 {args : List AV} {Φ : AV × List AV → Prop} (hl : args.length = a107.nparams) (h : kexec cx a107.body [] (kfin { pm := [], rm := none } a107.nparams a107.res Φ) (zae 0 args [] [])) : W (acall S 107 args) Φ := kcall rfl rfl rfl hl h
theorem g108 {args : List AV} {Φ : AV × List AV → Prop} (hl : args.length = a108.nparams) (h : kexec cx a108.body [] (kfin { pm := [], rm := none } a108.nparams a108.res Φ) (zae 0 args [] [])) : W (acall S 108 args) Φ := kcall rfl rfl rfl hl h
theorem g109 {args : List AV} {Φ : AV × List AV → Prop} (hl : args.length = a109.nparams) (h : kexec cx a109.body [] (kfin { pm := [], rm := none } a109.nparams a109.res Φ) (zae 0 args [] [])) : W (acall S 109 args) Φ := kcall rfl rfl rfl hl h
theorem g110 {args : List AV} {Φ : AV × List AV → Prop} (hl : args.length = a110.nparams) (h : kexec cx a110.body [] (kfin { pm := [], rm := none } a110.nparams a110.res Φ) (zae 0 args [] [])) : W (acall S 110 args) Φ := kcall rfl rfl rfl hl h
theorem g111 {args : List AV} {Φ : AV × List AV → Prop} (hl : args.length = a111.nparams) (h : kexec cx a111.body [] (kfin { pm := [], rm := none } a111.nparams a111.res Φ) (zae 0 args [] [])) : W (acall S 111 args) Φ := kcall rfl rfl rfl hl h
theorem g116 {args : List AV} {Φ : AV × List AV → Prop} (hl : args.length = a116.nparams) (h : kexec cx a116.body [] (kfin { pm := [], rm := none } a116.nparams a116.res Φ) (zae 0 args [] [])) : W (acall S 116 args) Φ := kcall rfl rfl rfl hl h
theorem g117 {args : List AV} {Φ : AV × List AV → Prop} (hl : args.length = a117.nparams) (h : kexec cx a117.body [] (kfin { pm := [], rm := none } a117.nparams a117.res Φ) (zae 0 args [] [])) : W (acall S 117 args) Φ := kcall rfl rfl rfl hl h
theorem g118 {args : List AV} {Φ : AV × List AV → Prop} (hl : args.length = a118.nparams) (h : kexec cx a118.body [] (kfin { pm := [], rm := none } a118.nparams a118.res Φ) (zae 0 args [] [])) : W (acall S 118 args) Φ := kcall rfl rfl rfl hl h
theorem g119 {args : List AV} {Φ : AV × List AV → Prop} (hl : args.length = a119.nparams) (h : kexec cx a119.body [] (kfin { pm := [], rm := none } a119.nparams a119.res Φ) (zae 0 args [] [])) : W (acall S 119 args) Φ := kcall rfl rfl rfl hl h
theorem g120 {args : List AV} {Φ : AV × List AV → Prop} (hl : args.length = a120.nparams) (h : kexec cx a120.body [] (kfin { pm := [], rm := none } a120.nparams a120.res Φ) (zae 0 args [] [])) : W (acall S 120 args) Φ := kcall rfl rfl rfl hl h
theorem g1000008 {args : List AV} {Φ : AV × List AV → Prop} (hl : args.length = a1000008.nparams) (h : kexec cx a1000008.body [] (kfin { pm := [], rm := none } a1000008.nparams a1000008.res Φ) (zae 0 args [] [])) : W (acall S 1000008 args) Φ := kcall rfl rfl rfl hl h
theorem g1000011 {args : List AV} {Φ : AV × List AV → Prop} (hl : args.length = a1000011.nparams) (h : kexec cx a1000011.body [] (kfin { pm := [], rm := some (.cells [.rowd 43 3, .rowd 47 5, .none]) } a1000011.nparams a1000011.res Φ) (zae 0 args [] [])) : W (acall S 1000011 args) Φ := kcall rfl rfl rfl hl h
theorem fs_ok : ∀ f fn, S.fs f = some fn → ∃ keep func, Tryz.prog.funcs[real f]? = some func ∧ zal Tryz.prog keep (S.spec f).pm func = some fn :=
 zkc (Q := fun f fn => ∃ keep func, Tryz.prog.funcs[real f]? = some func ∧ zal Tryz.prog keep (S.spec f).pm func = some fn) fsL ⟨⟨k3, Tryz.f3, Tryz.func3, c3⟩, ⟨k5, Tryz.f5, Tryz.func5, c5⟩, ⟨k6, Tryz.f6, Tryz.func6, c6⟩, ⟨k7, Tryz.f7, Tryz.func7, c7⟩, ⟨k8, Tryz.f8, Tryz.func8, c8⟩, ⟨k10, Tryz.f10, Tryz.func10, c10⟩, ⟨k11, Tryz.f11, Tryz.func11, c11⟩, ⟨k13, Tryz.f13, Tryz.func13, c13⟩, ⟨k14, Tryz.f14, Tryz.func14, c14⟩, ⟨k15, Tryz.f15, Tryz.func15, c15⟩, ⟨k16, Tryz.f16, Tryz.func16, c16⟩, ⟨k17, Tryz.f17, Tryz.func17, c17⟩, ⟨k18, Tryz.f18, Tryz.func18, c18⟩, ⟨k19, Tryz.f19, Tryz.func19, c19⟩, ⟨k20, Tryz.f20, Tryz.func20, c20⟩, ⟨k21, Tryz.f21, Tryz.func21, c21⟩, ⟨k22, Tryz.f22, Tryz.func22, c22⟩, ⟨k23, Tryz.f23, Tryz.func23, c23⟩, ⟨k24, Tryz.f24, Tryz.func24, c24⟩, ⟨k25, Tryz.f25, Tryz.func25, c25⟩, ⟨k26, Tryz.f26, Tryz.func26, c26⟩, ⟨k27, Tryz.f27, Tryz.func27, c27⟩, ⟨k28, Tryz.f28, Tryz.func28, c28⟩, ⟨k29, Tryz.f29, Tryz.func29, c29⟩, ⟨k35, Tryz.f35, Tryz.func35, c35⟩, ⟨k36, Tryz.f36, Tryz.func36, c36⟩, ⟨k37, Tryz.f37, Tryz.func37, c37⟩, ⟨k38, Tryz.f38, Tryz.func38, c38⟩, ⟨k39, Tryz.f39, Tryz.func39, c39⟩, ⟨k40, Tryz.f40, Tryz.func40, c40⟩, ⟨k41, Tryz.f41, Tryz.func41, c41⟩, ⟨k42, Tryz.f42, Tryz.func42, c42⟩, ⟨k43, Tryz.f43, Tryz.func43, c43⟩, ⟨k44, Tryz.f44, Tryz.func44, c44⟩, ⟨k45, Tryz.f45, Tryz.func45, c45⟩, ⟨k46, Tryz.f46, Tryz.func46, c46⟩, ⟨k47, Tryz.f47, Tryz.func47, c47⟩, ⟨k48, Tryz.f48, Tryz.func48, c48⟩, ⟨k49, Tryz.f49, Tryz.func49, c49⟩, ⟨k50, Tryz.f50, Tryz.func50, c50⟩, ⟨k51, Tryz.f51, Tryz.func51, c51⟩, ⟨k52, Tryz.f52, Tryz.func52, c52⟩, ⟨k53, Tryz.f53, Tryz.func53, c53⟩, ⟨k54, Tryz.f54, Tryz.func54, c54⟩, ⟨k55, Tryz.f55, Tryz.func55, c55⟩, ⟨k56, Tryz.f56, Tryz.func56, c56⟩, ⟨k57, Tryz.f57, Tryz.func57, c57⟩, ⟨k59, Tryz.f59, Tryz.func59, c59⟩, ⟨k60, Tryz.f60, Tryz.func60, c60⟩, ⟨k61, Tryz.f61, Tryz.func61, c61⟩, ⟨k62, Tryz.f62, Tryz.func62, c62⟩, ⟨k63, Tryz.f63, Tryz.func63, c63⟩, ⟨k64, Tryz.f64, Tryz.func64, c64⟩, ⟨k66, Tryz.f66, Tryz.func66, c66⟩, ⟨k69, Tryz.f69, Tryz.func69, c69⟩, ⟨k70, Tryz.f70, Tryz.func70, c70⟩, ⟨k71, Tryz.f71, Tryz.func71, c71⟩, ⟨k72, Tryz.f72, Tryz.func72, c72⟩, ⟨k73, Tryz.f73, Tryz.func73, c73⟩, ⟨k74, Tryz.f74, Tryz.func74, c74⟩, ⟨k75, Tryz.f75, Tryz.func75, c75⟩, ⟨k76, Tryz.f76, Tryz.func76, c76⟩, ⟨k77, Tryz.f77, Tryz.func77, c77⟩, ⟨k78, Tryz.f78, Tryz.func78, c78⟩, ⟨k79, Tryz.f79, Tryz.func79, c79⟩, ⟨k80, Tryz.f80, Tryz.func80, c80⟩, ⟨k83, Tryz.f83, Tryz.func83, c83⟩, ⟨k84, Tryz.f84, Tryz.func84, c84⟩, ⟨k92, Tryz.f92, Tryz.func92, c92⟩, ⟨k93, Tryz.f93, Tryz.func93, c93⟩, ⟨k94, Tryz.f94, Tryz.func94, c94⟩, ⟨k95, Tryz.f95, Tryz.func95, c95⟩, ⟨k96, Tryz.f96, Tryz.func96, c96⟩, ⟨k97, Tryz.f97, Tryz.func97, c97⟩, ⟨k99, Tryz.f99, Tryz.func99, c99⟩, ⟨k100, Tryz.f100, Tryz.func100, c100⟩, ⟨k105, Tryz.f105, Tryz.func105, c105⟩, ⟨k106, Tryz.f106, Tryz.func106, c106⟩, ⟨k107, Tryz.f107, Tryz.func107, c107⟩, ⟨k108, Tryz.f108, Tryz.func108, c108⟩, ⟨k109, Tryz.f109, Tryz.func109, c109⟩, ⟨k110, Tryz.f110, Tryz.func110, c110⟩, ⟨k111, Tryz.f111, Tryz.func111, c111⟩, ⟨k116, Tryz.f116, Tryz.func116, c116⟩, ⟨k117, Tryz.f117, Tryz.func117, c117⟩, ⟨k118, Tryz.f118, Tryz.func118, c118⟩, ⟨k119, Tryz.f119, Tryz.func119, c119⟩, ⟨k120, Tryz.f120, Tryz.func120, c120⟩, ⟨k1000008, Tryz.f8, Tryz.func8, c1000008⟩, ⟨k1000011, Tryz.f11, Tryz.func11, c1000011⟩, ⟨k1000039, Tryz.f39, Tryz.func39, c1000039⟩, trivial⟩
theorem zzc : ∀ f p, S.prim f = some p → ∀ args r, p args = some r → Meets Tryz.prog (real f) (S.spec f).pm args r :=
 zkc (Q := fun (f : Nat) (p : List AV → Option (AV × List AV)) => ∀ args r, p args = some r → Meets Tryz.prog (real f) (S.spec f).pm args r) z59 (by exact ⟨fun args r h => zot h, fun args r h => zrk h, fun args r h => zum h, trivial⟩)
theorem sysOk : SysOk Tryz.prog S := ⟨Checked.mixed Tryz.checked, fs_ok, zzc⟩
end
section
theorem z0r {α : Type} {l : List α} {k : Nat} (h : k < l.length) : ∃ b, l[k]? = some b := ⟨l[k], List.getElem?_eq_getElem h⟩
theorem zvx {α : Type} {l : List α} {nl : Bool} (h : nl = true → l = []) (hk : skOf nl = SK.nil) : l = [] := by cases nl with | true => exact h rfl | false => cases hk
theorem e80 {k : SK} {z : Nat} {l : List Vl} (h : OkS k z 4 l) (hl : l.length ≤ LIM) : acall S 80 [.sl k z (l.map Vl.c)] = some (.ow 30 4 (decide (k = .nil)) (l.map Vl.c), []) := by
 have h1 := h.1
 have h2 := h.2
 refine W_eq (g80 rfl ?_)
 (simp only [go_sem, J0, reduceIte, reduceCtorEq, Ja, Jb, Jc, Jd, Je, Jf, Jg, Jh, Ji, Jj, Jk, Jl, Jm, Jn, Jo, Jp, Jq, Jr, Js, a80, h1, hl, s80]; repeat' (first | (first | refine zbc (fun hh => ?_) (fun hh => ?_) | refine zbp (fun hh => ?_) (fun hh => ?_) | refine zbs (fun hh => ?_) (fun hh => ?_) | refine zco (fun hh => ?_) (fun hh => ?_) | refine za9 (fun hh => ?_) (fun hh => ?_) | refine zbr (fun hh => ?_) (fun hh => ?_) | refine zbt (fun hh => ?_) (fun hh => ?_) | refine zbb (fun hh => ?_) (fun hh => ?_) | refine za7 (fun hh => ?_) (fun hh => ?_) | refine za1 (fun hh => ?_) (fun hh => ?_)) <;> (try simp only [go_sem, J0, reduceIte, reduceCtorEq, Ja, Jb, Jc, Jd, Je, Jf, Jg, Jh, Ji, Jj, Jk, Jl, Jm, Jn, Jo, Jp, Jq, Jr, Js, a80, h1, hl, s80, hh]) | (first | refine zbd (by omega) ?_ | refine za0 (by omega) ?_ | refine zaq (by omega) ?_ | refine zao (by omega) ?_ | refine zbo (by omega) ?_ | refine zba (by omega) ?_ | refine za8 (by omega) ?_ | refine zaz (by omega) ?_ | refine zbq (by omega) ?_ | refine zab ?_ | refine zan ?_ | refine zap ?_ | refine zak ?_) <;> (try simp only [go_sem, J0, reduceIte, reduceCtorEq, Ja, Jb, Jc, Jd, Je, Jf, Jg, Jh, Ji, Jj, Jk, Jl, Jm, Jn, Jo, Jp, Jq, Jr, Js, a80, h1, hl, s80]) | (show @Eq Nat _ _; omega) | (show @LE.le Nat _ _ _; omega)))
 · have hk : k = .nil := by simpa using hh
   rw [h2 hk]; rfl
theorem e55' : ∀ (m : Nat) (v : Vl), v.size ≤ m → v.ok → ∃ u : Vl, acall S 55 [.agg v.c] = some (.agg u.c, []) ∧ u.p = v.p ∧ u.ok
 | 0, .mk kd n s k z l, hm, _ => by simp [Vl.size] at hm
 | m + 1, .mk kd n s k z l, hm, hv => by
   obtain ⟨hs, hl, hok, hall⟩ := hv
   have hL : LIM = 274877906944 := rfl
   simp only [Vl.size] at hm
   suffices hW : W (acall S 55 [.agg (Vl.mk kd n s k z l).c]) (fun x => ∃ u : Vl, x = (.agg u.c, []) ∧ u.p = (Vl.mk kd n s k z l).p ∧ u.ok) by
     obtain ⟨x, h1, u, rfl, h2⟩ := hW
     exact ⟨u, h1, h2⟩
   refine g55 rfl ?_
   have e1 := e80 hok (by omega)
   have hnl : decide (k = SK.nil) = true → l = [] := fun h => hok.2 (by simpa using h)
   obtain ⟨nl, hnle⟩ : ∃ nl, nl = decide (k = SK.nil) := ⟨_, rfl⟩
   rw [← hnle] at e1 hnl
   (repeat' (first | with_reducible refine zab ?_ | simp only [go_sem, J0, reduceIte, reduceCtorEq, Ja, Jb, Jc, Jd, Je, Jf, Jg, Jh, Ji, Jj, Jk, Jl, Jm, Jn, Jo, Jp, Jq, Jr, Js, a55, Vl.c, Vl.cs_map, s80, e1]))
   refine zag (ι := List Vl × Nat) (fun x => [.bx [.i .i64 kd, .i .i64 n, .str s, .ow 30 4 nl (x.1.map Vl.c)], .bx [.i .i64 0, .i .i64 0, .str [], .sl .nil 0 []], .i .i64 l.length, .i .i64 x.2])
     (fun x => x.2 ≤ l.length ∧ x.1.length = l.length ∧ x.1.drop x.2 = l.drop x.2 ∧ (x.1.take x.2).map Vl.p = (l.take x.2).map Vl.p ∧ Vl.oks x.1) (fun x => l.length - x.2) (l, 0) (by simp) ⟨by simp, rfl, rfl, rfl, hall⟩ ?_
   rintro ⟨es, j⟩ ⟨hj, hel, hdr, htk, hoks⟩
   simp only at hj hel hdr htk hoks
   by_cases hlt : j < l.length
   · obtain ⟨x, gx⟩ := z0r hlt
     have gx2 : es[j]? = some x := by
       have := congrArg (fun q : List Vl => q[0]?) hdr
       simp only [List.getElem?_drop, Nat.add_zero] at this
       rw [this, gx]
     have hxs := Vl.size_get gx
     obtain ⟨u, eu, hup, huo⟩ := e55' m x (by omega) (Vl.oks_get hoks gx2)
     have hw := wrap_succ (k := j) (by omega)
     have hbt : decide ((j : Int) < (l.length : Int)) = true := decide_eq_true (by omega)
     have b1 : (0 : Int) ≤ (j : Int) := by omega
     have b2 : j < es.length := by omega
     have b4 : (j : Int) < (es.length : Int) := by omega
     have b5 : (j : Int) < (l.length : Int) := by omega
     obtain ⟨xk, xn, xs, xkk, xz, xl⟩ := x
     obtain ⟨uk, un, us, ukk, uz, ul⟩ := u
     simp only [Vl.c, Vl.cs_map] at eu
     have b3 : (es.map Vl.c)[j]? = some (Vl.c (.mk xk xn xs xkk xz xl)) := by rw [List.getElem?_map, gx2]; rfl
     (repeat' (first | with_reducible refine zab ?_ | simp only [go_sem, J0, reduceIte, reduceCtorEq, Ja, Jb, Jc, Jd, Je, Jf, Jg, Jh, Ji, Jj, Jk, Jl, Jm, Jn, Jo, Jp, Jq, Jr, Js, hbt, hel, b1, b2, b4, b5, List.length_set, List.length_map, gx2, Vl.c, Vl.cs_map, s55, eu, hw, hlt]))
     refine ⟨(es.set j (.mk uk un us ukk uz ul), j + 1), ?_, ⟨?_, ?_, ?_, ?_, ?_⟩, ?_⟩
     · simp only [List.map_set, Vl.c, Vl.cs_map]
     · simp only; omega
     · simp only [List.length_set]; exact hel
     · simp only
       have h3 := congrArg List.tail hdr
       simp only [List.tail_drop] at h3
       rw [List.drop_set_of_lt (by omega), h3]
     · simp only
       rw [List.take_set, zdu gx, zdu gx2, List.set_append_right _ _ (by simp; omega)]
       simp only [List.map_append, htk]
       have : j - (es.take j).length = 0 := by simp; omega
       rw [this]
       simp [hup]
     · simp only
       rw [Vl.oks_iff] at hoks ⊢
       intro y hy
       rcases List.mem_or_eq_of_mem_set hy with h | h
       · exact hoks y h
       · rw [h]; exact huo
     · simp only; omega
   · have hbf : decide ((j : Int) < (l.length : Int)) = false := decide_eq_false (by omega)
     obtain rfl : j = l.length := by omega
     rw [List.take_of_length_le (by omega), List.take_length] at htk
     (repeat' (first | with_reducible refine zab ?_ | simp only [go_sem, J0, reduceIte, reduceCtorEq, Ja, Jb, Jc, Jd, Je, Jf, Jg, Jh, Ji, Jj, Jk, Jl, Jm, Jn, Jo, Jp, Jq, Jr, Js, hbf]))
     refine ⟨.mk kd n s (skOf nl) 4 es, by simp only [Vl.c, Vl.cs_map], ?_, ?_⟩
     · simp only [Vl.p, Vl.ps_map, htk]
     · exact ⟨hs, by omega, ⟨.inl rfl, zvx fun h => List.eq_nil_of_length_eq_zero (by rw [hel, hnl h]; rfl)⟩, hoks⟩
theorem e55 (v : Vl) (h : v.ok) : ∃ u : Vl, acall S 55 [.agg v.c] = some (.agg u.c, []) ∧ u.p = v.p ∧ u.ok := e55' v.size v (Nat.le_refl _) h
end
section
def idxI {α : Type} (p : α → Bool) : List α → Int
 | [] => -1
 | a :: r => if p a then 0 else if idxI p r = -1 then -1 else idxI p r + 1
def z1d (l : List UInt8) : Bool := decide (l.length < 1) || decide (l.length > 96)
def BadAt (ks : List (List UInt8)) (i : Nat) : Prop := ∃ b, ks[i]? = some b ∧ (z1d b = true ∨ ∃ j a, i = j + 1 ∧ ks[j]? = some a ∧ 0 ≤ Go.Lib.compareBytes a b)
def BadKeys (ks : List (List UInt8)) : Prop := ∃ i, BadAt ks i
end
section
open Classical in
noncomputable def clV (v : Vl) : Vl := if h : v.ok then Classical.choose (e55 v h) else v
theorem zkh {v : Vl} (h : v.ok) : acall S 55 [.agg v.c] = some (.agg (clV v).c, []) := by
 unfold clV
 rw [dif_pos h]
 exact (Classical.choose_spec (e55 v h)).1
theorem z0k (v : Vl) : (clV v).p = v.p := by
 unfold clV
 split
 · rename_i h; exact (Classical.choose_spec (e55 v h)).2.1
 · rfl
theorem zt9 {v : Vl} (h : v.ok) : (clV v).ok := by
 unfold clV
 rw [dif_pos h]
 exact (Classical.choose_spec (e55 v h)).2.2
abbrev Pp := List UInt8 × Vl
def tagC (x : Pp) : List AV := .str x.1 :: x.2.c
def tagP (x : Pp) : List UInt8 × PV := (x.1, x.2.p)
noncomputable def clT (x : Pp) : Pp := (x.1, clV x.2)
theorem clT_p (x : Pp) : tagP (clT x) = tagP x := by simp only [tagP, clT, z0k]
def zgq (x : Pp) : Prop := x.1.length ≤ 137438953472 ∧ x.2.ok
theorem z48 {x : Pp} (h : zgq x) : zgq (clT x) := ⟨h.1, zt9 h.2⟩
structure PsOk (k : SK) (z : Nat) (l : List Pp) : Prop where
 s : OkS k z 5 l
 len : l.length ≤ 137438953472
 all : ∀ x ∈ l, zgq x
theorem PsOk.get {k : SK} {z : Nat} {l : List Pp} (h : PsOk k z l) {i : Nat} {x : Pp} (hx : l[i]? = some x) : zgq x := h.all x (List.mem_of_getElem? hx)
theorem PsOk.cl {k : SK} {z : Nat} {l : List Pp} (h : PsOk k z l) : PsOk .open_ 5 (l.map clT) :=
 ⟨OkS.open_ 5 _, by rw [List.length_map]; exact h.len, fun x hx => by obtain ⟨y, hy, rfl⟩ := List.mem_map.1 hx; exact z48 (h.all y hy)⟩
def turned {α : Type} (f : α → α) (l : List α) (i : Nat) : List α := (l.take i).map f ++ l.drop i
theorem zl0 {α : Type} (f : α → α) (l : List α) (i : Nat) : (turned f l i).length = l.length := by
 simp [turned]
 omega
theorem zri {α : Type} {f : α → α} {l : List α} {i : Nat} {x : α} (h : l[i]? = some x) : (turned f l i)[i]? = some x := by
 have hlt := (List.getElem?_eq_some_iff.1 h).1
 unfold turned
 rw [List.getElem?_append_right (by simp; omega)]
 simp [Nat.min_eq_left (Nat.le_of_lt hlt), h]
theorem zse {α : Type} {f : α → α} {l : List α} {i : Nat} {x : α} (h : l[i]? = some x) : (turned f l i).set i (f x) = turned f l (i + 1) := by
 have hlt := (List.getElem?_eq_some_iff.1 h).1
 unfold turned
 rw [zdu h, List.set_append_right _ _ (by simp; omega)]
 have : i - ((l.take i).map f).length = 0 := by simp; omega
 rw [this]
 have hd : l.drop i = x :: l.drop (i + 1) := by
   rw [List.drop_eq_getElem_cons hlt, (List.getElem?_eq_some_iff.1 h).2]
 rw [hd]
 simp
theorem zsm {α : Type} (f : α → α) (l : List α) : turned f l l.length = l.map f := by simp [turned]
theorem zpv {α : Type} (f : α → α) (l : List α) : turned f l 0 = l := by simp [turned]
theorem e40 {k : SK} {z : Nat} {l : List Pp} (h : PsOk k z l) : acall S 40 [.sl k z (l.map tagC)] = some (.ow 45 5 false ((l.map clT).map tagC), []) := by
 have h1 := h.s.1
 have hlen := h.len
 have hL : LIM = 274877906944 := rfl
 have hl : l.length ≤ LIM := by omega
 have hmin : min l.length l.length = l.length := Nat.min_self _
 refine W_eq (g40 rfl ?_)
 have b0 : (0 : Int) ≤ (l.length : Int) := by omega
 (repeat' (first | with_reducible refine zab ?_ | simp only [go_sem, J0, reduceIte, reduceCtorEq, Ja, Jb, Jc, Jd, Je, Jf, Jg, Jh, Ji, Jj, Jk, Jl, Jm, Jn, Jo, Jp, Jq, Jr, Js, a40, h1, hl, b0, Int.toNat_natCast, List.length_replicate, hmin, List.length_map, List.take_of_length_le, List.length_append, List.drop_replicate, Nat.sub_self, List.replicate_zero, List.append_nil]))
 refine zag (ι := Nat) (fun i => [.ow 45 5 false ((turned clT l i).map tagC), .i .i64 l.length, .i .i64 i]) (fun i => i ≤ l.length) (fun i => l.length - i) 0 (by rw [zpv]; rfl) (Nat.zero_le _) ?_
 intro i hi
 have ht := zl0 clT l i
 by_cases hlt : i < l.length
 · obtain ⟨x, gx⟩ := zbe hlt
   have gx2 := zri (f := clT) gx
   have gs := zse (f := clT) gx
   have eu := zkh (h.get gx).2
   have hw := wrap_succ (k := i) (by omega)
   have hbt : decide ((i : Int) < (l.length : Int)) = true := decide_eq_true (by omega)
   have b1 : (0 : Int) ≤ (i : Int) := by omega
   have b5 : (i : Int) < (l.length : Int) := by omega
   have gset : ((turned clT l i).map tagC).set i (tagC (clT x)) = (turned clT l (i + 1)).map tagC := by rw [← gs, List.map_set]
   obtain ⟨xn, xv⟩ := x
   simp only [clT] at gset
   obtain ⟨xk, xm, xs, xkk, xz, xl⟩ := xv
   generalize clV (.mk xk xm xs xkk xz xl) = u at eu gset
   obtain ⟨uk, un, us, ukk, uz, ul⟩ := u
   simp only [Vl.c, Vl.cs_map, tagC] at eu gset
   (repeat' (first | with_reducible refine zab ?_ | simp only [go_sem, J0, reduceIte, reduceCtorEq, Ja, Jb, Jc, Jd, Je, Jf, Jg, Jh, Ji, Jj, Jk, Jl, Jm, Jn, Jo, Jp, Jq, Jr, Js, hbt, ht, b1, b5, hlt, List.length_map, gx2, tagC, Vl.c, Vl.cs_map, s55, eu, hw, gset, zl0, Nat.le_refl]))
   exact ⟨i + 1, rfl, by omega, by omega⟩
 · have hbf : decide ((i : Int) < (l.length : Int)) = false := decide_eq_false (by omega)
   obtain rfl : i = l.length := by omega
   have he := zsm clT l
   (repeat' (first | with_reducible refine zab ?_ | simp only [go_sem, J0, reduceIte, reduceCtorEq, Ja, Jb, Jc, Jd, Je, Jf, Jg, Jh, Ji, Jj, Jk, Jl, Jm, Jn, Jo, Jp, Jq, Jr, Js, hbf, he, ht, List.length_map]))
theorem e37 (id : Int) (lab : List UInt8) {k : SK} {z : Nat} {l : List Pp} (h : PsOk k z l) : acall S 37 [.agg [.i .i64 id, .str lab, .sl k z (l.map tagC)]] = some (.agg [.i .i64 id, .str lab, .ow 45 5 false ((l.map clT).map tagC)], []) := by
 have e1 := e40 h
 refine W_eq (g37 rfl ?_)
 (repeat' (first | with_reducible refine zab ?_ | simp only [go_sem, J0, reduceIte, reduceCtorEq, Ja, Jb, Jc, Jd, Je, Jf, Jg, Jh, Ji, Jj, Jk, Jl, Jm, Jn, Jo, Jp, Jq, Jr, Js, a37, s40, e1]))
theorem e38 (id : Int) (lab : List UInt8) (o i : Int) {k : SK} {z : Nat} {l : List Pp} (h : PsOk k z l) : acall S 38 [.agg [.i .i64 id, .str lab, .i .i64 o, .i .i64 i, .sl k z (l.map tagC)]] = some (.agg [.i .i64 id, .str lab, .i .i64 o, .i .i64 i, .ow 45 5 false ((l.map clT).map tagC)], []) := by
 have e1 := e40 h
 refine W_eq (g38 rfl ?_)
 (repeat' (first | with_reducible refine zab ?_ | simp only [go_sem, J0, reduceIte, reduceCtorEq, Ja, Jb, Jc, Jd, Je, Jf, Jg, Jh, Ji, Jj, Jk, Jl, Jm, Jn, Jo, Jp, Jq, Jr, Js, a38, s40, e1]))
end
section
structure Vx where
 id : Int
 label : List UInt8
 pk : SK
 pz : Nat
 props : List Pp
structure Lk where
 id : Int
 label : List UInt8
 out : Int
 inn : Int
 pk : SK
 pz : Nat
 props : List Pp
structure PVx where
 id : Int
 label : List UInt8
 props : List (List UInt8 × PV)
structure PLk where
 id : Int
 label : List UInt8
 out : Int
 inn : Int
 props : List (List UInt8 × PV)
def Vx.c (v : Vx) : List AV := [.i .i64 v.id, .str v.label, .sl v.pk v.pz (v.props.map tagC)]
def Lk.c (e : Lk) : List AV := [.i .i64 e.id, .str e.label, .i .i64 e.out, .i .i64 e.inn, .sl e.pk e.pz (e.props.map tagC)]
def Vx.p (v : Vx) : PVx := ⟨v.id, v.label, v.props.map tagP⟩
def Lk.p (e : Lk) : PLk := ⟨e.id, e.label, e.out, e.inn, e.props.map tagP⟩
structure Vx.ok (v : Vx) : Prop where
 lab : v.label.length ≤ 137438953472
 ps : PsOk v.pk v.pz v.props
structure Lk.ok (e : Lk) : Prop where
 lab : e.label.length ≤ 137438953472
 ps : PsOk e.pk e.pz e.props
noncomputable def Vx.cl (v : Vx) : Vx := { v with pk := .open_, pz := 5, props := v.props.map clT }
noncomputable def Lk.cl (e : Lk) : Lk := { e with pk := .open_, pz := 5, props := e.props.map clT }
theorem zp9 (l : List Pp) : (l.map clT).map tagP = l.map tagP := by
 rw [List.map_map]
 exact List.map_congr_left fun x _ => clT_p x
theorem Vx.cl_p (v : Vx) : v.cl.p = v.p := by simp only [Vx.cl, Vx.p, zp9]
theorem Lk.cl_p (e : Lk) : e.cl.p = e.p := by simp only [Lk.cl, Lk.p, zp9]
theorem Vx.cl_ok {v : Vx} (h : v.ok) : v.cl.ok := ⟨h.lab, h.ps.cl⟩
theorem Lk.cl_ok {e : Lk} (h : e.ok) : e.cl.ok := ⟨h.lab, h.ps.cl⟩
structure Gr where
 vk : SK
 vz : Nat
 vs : List Vx
 ek : SK
 ez : Nat
 es : List Lk
 last : Int
structure PG where
 v : List PVx
 e : List PLk
 last : Int
def Gr.c (g : Gr) : List AV := [.sl g.vk g.vz (g.vs.map Vx.c), .sl g.ek g.ez (g.es.map Lk.c), .i .i64 g.last]
def Gr.p (g : Gr) : PG := ⟨g.vs.map Vx.p, g.es.map Lk.p, g.last⟩
structure Gr.ok (g : Gr) : Prop where
 v : OkS g.vk g.vz 3 g.vs
 e : OkS g.ek g.ez 5 g.es
 vl : g.vs.length ≤ 137438953472
 el : g.es.length ≤ 137438953472
 va : ∀ x ∈ g.vs, x.ok
 ea : ∀ x ∈ g.es, x.ok
def grow (a b : Bool) (vs : List Vx) (es : List Lk) (last : Int) : AV := .agg [.ow 43 3 a (vs.map Vx.c), .ow 47 5 b (es.map Lk.c), .i .i64 last]
theorem zdq {α β : Type} {f : α → β} {l : List α} {i : Nat} {x : α} (h : l[i]? = some x) : (l.take (i + 1)).map f = (l.take i).map f ++ [f x] := by rw [zdu h, List.map_append]; rfl
theorem e11 (g : Gr) (h : g.ok) : acall S 11 [.agg g.c] = some (grow (decide (g.vs = [])) (decide (g.es = [])) (g.vs.map Vx.cl) (g.es.map Lk.cl) g.last, []) := by
 have hv1 := h.v.1
 have he1 := h.e.1
 have hvl := h.vl
 have hel := h.el
 have hL : LIM = 274877906944 := rfl
 obtain ⟨vk, vz, vs, ek, ez, es, last⟩ := g
 simp only at hv1 he1 hvl hel
 have hva := h.va
 have hea := h.ea
 simp only at hva hea
 refine W_eq (g11 rfl ?_)
 (repeat' (first | with_reducible refine zab ?_ | simp only [go_sem, J0, reduceIte, reduceCtorEq, Ja, Jb, Jc, Jd, Je, Jf, Jg, Jh, Ji, Jj, Jk, Jl, Jm, Jn, Jo, Jp, Jq, Jr, Js, a11, Gr.c]))
 refine zag (ι := Nat) (fun i => [.bx [.sl vk vz (vs.map Vx.c), .sl ek ez (es.map Lk.c), .i .i64 last], .bx [.sl .nil 0 [], .sl .nil 0 [], .i .i64 0], .bx [.ow 43 3 (decide (i = 0)) (((vs.take i).map Vx.cl).map Vx.c), .sl .nil 0 [], .i .i64 last], .sl vk vz (vs.map Vx.c), .i .i64 vs.length, .i .i64 i])
   (fun i => i ≤ vs.length) (fun i => vs.length - i) 0 (by simp) (Nat.zero_le _) ?_
 intro i hi
 by_cases hlt : i < vs.length
 · obtain ⟨x, gx⟩ := zbe hlt
   have hx := hva x (List.mem_of_getElem? gx)
   have ec := e37 x.id x.label hx.ps
   have hw := wrap_succ (k := i) (by omega)
   have hbt : decide ((i : Int) < (vs.length : Int)) = true := decide_eq_true (by omega)
   have b1 : (0 : Int) ≤ (i : Int) := by omega
   have gap : ((vs.take i).map Vx.cl).map Vx.c ++ [Vx.c x.cl] = ((vs.take (i + 1)).map Vx.cl).map Vx.c := by rw [zdq gx, List.map_append]; rfl
   have hl3 : (vs.take i).length = i := by rw [List.length_take]; omega
   have hl4 : (vs.take (i + 1)).length = i + 1 := by rw [List.length_take]; omega
   obtain ⟨xid, xl, xpk, xpz, xps⟩ := x
   simp only [Vx.c, Vx.cl] at gap ec
   have hlim : i + 1 ≤ LIM := by omega
   have hz : decide (i + 1 = 0) = false := rfl
   (repeat' (first | with_reducible refine zab ?_ | simp only [go_sem, J0, reduceIte, reduceCtorEq, Ja, Jb, Jc, Jd, Je, Jf, Jg, Jh, Ji, Jj, Jk, Jl, Jm, Jn, Jo, Jp, Jq, Jr, Js, hbt, hv1, b1, gx, Vx.c, s37, ec, hw, List.length_map, hl3, hl4, hlim, gap, Nat.le_refl]))
   exact ⟨i + 1, by rw [hz], by omega, by omega⟩
 · have hbf : decide ((i : Int) < (vs.length : Int)) = false := decide_eq_false (by omega)
   obtain rfl : i = vs.length := by omega
   have hnv : decide (vs.length = 0) = decide (vs = []) := decide_eq_decide.2 List.length_eq_zero_iff
   rw [List.take_length, hnv]
   (repeat' (first | with_reducible refine zab ?_ | simp only [go_sem, J0, reduceIte, reduceCtorEq, Ja, Jb, Jc, Jd, Je, Jf, Jg, Jh, Ji, Jj, Jk, Jl, Jm, Jn, Jo, Jp, Jq, Jr, Js, hbf]))
   refine zag (ι := Nat) (fun i => [.bx [.sl .nil 0 [], .sl .nil 0 [], .i .i64 0], .bx [.ow 43 3 (decide (vs = [])) ((vs.map Vx.cl).map Vx.c), .ow 47 5 (decide (i = 0)) (((es.take i).map Lk.cl).map Lk.c), .i .i64 last], .sl ek ez (es.map Lk.c), .i .i64 es.length, .i .i64 i])
     (fun i => i ≤ es.length) (fun i => es.length - i) 0 (by simp) (Nat.zero_le _) ?_
   intro i hi
   by_cases hlt : i < es.length
   · obtain ⟨x, gx⟩ := zbe hlt
     have hx := hea x (List.mem_of_getElem? gx)
     have ec := e38 x.id x.label x.out x.inn hx.ps
     have hw := wrap_succ (k := i) (by omega)
     have hbt : decide ((i : Int) < (es.length : Int)) = true := decide_eq_true (by omega)
     have b1 : (0 : Int) ≤ (i : Int) := by omega
     have gap : ((es.take i).map Lk.cl).map Lk.c ++ [Lk.c x.cl] = ((es.take (i + 1)).map Lk.cl).map Lk.c := by rw [zdq gx, List.map_append]; rfl
     have hl3 : (es.take i).length = i := by rw [List.length_take]; omega
     have hl4 : (es.take (i + 1)).length = i + 1 := by rw [List.length_take]; omega
     obtain ⟨xid, xl, xo, xi, xpk, xpz, xps⟩ := x
     simp only [Lk.c, Lk.cl] at gap ec
     have hlim : i + 1 ≤ LIM := by omega
     have hz : decide (i + 1 = 0) = false := rfl
     (repeat' (first | with_reducible refine zab ?_ | simp only [go_sem, J0, reduceIte, reduceCtorEq, Ja, Jb, Jc, Jd, Je, Jf, Jg, Jh, Ji, Jj, Jk, Jl, Jm, Jn, Jo, Jp, Jq, Jr, Js, hbt, he1, b1, gx, Lk.c, s38, ec, hw, List.length_map, hl3, hl4, hlim, gap, Nat.le_refl]))
     exact ⟨i + 1, by rw [hz], by omega, by omega⟩
   · have hbf : decide ((i : Int) < (es.length : Int)) = false := decide_eq_false (by omega)
     obtain rfl : i = es.length := by omega
     have hnv : decide (es.length = 0) = decide (es = []) := decide_eq_decide.2 List.length_eq_zero_iff
     rw [List.take_length, hnv]
     (repeat' (first | with_reducible refine zab ?_ | simp only [go_sem, J0, reduceIte, reduceCtorEq, Ja, Jb, Jc, Jd, Je, Jf, Jg, Jh, Ji, Jj, Jk, Jl, Jm, Jn, Jo, Jp, Jq, Jr, Js, hbf, grow]))
end
section
def Vx.re (v : Vx) : RE := ⟨[.i .i64 v.id, .s v.label], false, v.props.map tagC⟩
def Lk.re (e : Lk) : RE := ⟨[.i .i64 e.id, .s e.label, .i .i64 e.out, .i .i64 e.inn], false, e.props.map tagC⟩
def growd (a b : Bool) (vs : List Vx) (es : List Lk) (last : Int) : AV := .agg [.od 43 3 a ((vs.map Vx.re).map (RE.o 45 5)), .od 47 5 b ((es.map Lk.re).map (RE.o 45 5)), .i .i64 last]
theorem e1000011 (g : Gr) (h : g.ok) : acall S 1000011 [.agg g.c] = some (growd (decide (g.vs = [])) (decide (g.es = [])) (g.vs.map Vx.cl) (g.es.map Lk.cl) g.last, []) := by
 have hv1 := h.v.1
 have he1 := h.e.1
 have hvl := h.vl
 have hel := h.el
 have hL : LIM = 274877906944 := rfl
 obtain ⟨vk, vz, vs, ek, ez, es, last⟩ := g
 simp only at hv1 he1 hvl hel
 have hva := h.va
 have hea := h.ea
 simp only at hva hea
 refine W_eq (g1000011 rfl ?_)
 (repeat' (first | with_reducible refine zab ?_ | simp only [go_sem, J0, reduceIte, reduceCtorEq, Ja, Jb, Jc, Jd, Je, Jf, Jg, Jh, Ji, Jj, Jk, Jl, Jm, Jn, Jo, Jp, Jq, Jr, Js, a1000011, Gr.c]))
 refine zag (ι := Nat) (fun i => [.bx [.sl vk vz (vs.map Vx.c), .sl ek ez (es.map Lk.c), .i .i64 last], .bx [.sl .nil 0 [], .sl .nil 0 [], .i .i64 0], .bx [.od 43 3 (decide (i = 0)) ((((vs.take i).map Vx.cl).map Vx.re).map (RE.o 45 5)), .sl .nil 0 [], .i .i64 last], .sl vk vz (vs.map Vx.c), .i .i64 vs.length, .i .i64 i])
   (fun i => i ≤ vs.length) (fun i => vs.length - i) 0 (by simp) (Nat.zero_le _) ?_
 intro i hi
 by_cases hlt : i < vs.length
 · obtain ⟨x, gx⟩ := zbe hlt
   have hx := hva x (List.mem_of_getElem? gx)
   have ec := e37 x.id x.label hx.ps
   have hw := wrap_succ (k := i) (by omega)
   have hbt : decide ((i : Int) < (vs.length : Int)) = true := decide_eq_true (by omega)
   have b1 : (0 : Int) ≤ (i : Int) := by omega
   have gap : ((((vs.take i).map Vx.cl).map Vx.re).map (RE.o 45 5)) ++ [RE.o 45 5 (Vx.re x.cl)] = (((vs.take (i + 1)).map Vx.cl).map Vx.re).map (RE.o 45 5) := by rw [zdq gx, List.map_append, List.map_append]; rfl
   have hl3 : (vs.take i).length = i := by rw [List.length_take]; omega
   have hl4 : (vs.take (i + 1)).length = i + 1 := by rw [List.length_take]; omega
   obtain ⟨xid, xl, xpk, xpz, xps⟩ := x
   simp only [Vx.re, Vx.cl, RE.o, List.map_cons, List.map_nil, SC.a, List.cons_append, List.nil_append] at gap ec
   have hlim : i + 1 ≤ LIM := by omega
   have hz : decide (i + 1 = 0) = false := rfl
   (repeat' (first | with_reducible refine zab ?_ | simp only [go_sem, J0, reduceIte, reduceCtorEq, Ja, Jb, Jc, Jd, Je, Jf, Jg, Jh, Ji, Jj, Jk, Jl, Jm, Jn, Jo, Jp, Jq, Jr, Js, hbt, hv1, b1, gx, Vx.c, s37, ec, hw, List.length_map, hl3, hl4, hlim, Nat.le_refl, ziu (ty := 45) (sz := 5), gap]))
   exact ⟨i + 1, by rw [hz], by omega, by omega⟩
 · have hbf : decide ((i : Int) < (vs.length : Int)) = false := decide_eq_false (by omega)
   obtain rfl : i = vs.length := by omega
   have hnv : decide (vs.length = 0) = decide (vs = []) := decide_eq_decide.2 List.length_eq_zero_iff
   rw [List.take_length, hnv]
   (repeat' (first | with_reducible refine zab ?_ | simp only [go_sem, J0, reduceIte, reduceCtorEq, Ja, Jb, Jc, Jd, Je, Jf, Jg, Jh, Ji, Jj, Jk, Jl, Jm, Jn, Jo, Jp, Jq, Jr, Js, hbf, List.length_map, hvl, zrv (ty := 45) (sz := 5)]))
   refine zag (ι := Nat) (fun i => [.bx [.sl .nil 0 [], .sl .nil 0 [], .i .i64 0], .bx [.od 43 3 (decide (vs = [])) (((vs.map Vx.cl).map Vx.re).map (RE.o 45 5)), .od 47 5 (decide (i = 0)) ((((es.take i).map Lk.cl).map Lk.re).map (RE.o 45 5)), .i .i64 last], .sl ek ez (es.map Lk.c), .i .i64 es.length, .i .i64 i])
     (fun i => i ≤ es.length) (fun i => es.length - i) 0 (by simp) (Nat.zero_le _) ?_
   intro i hi
   by_cases hlt : i < es.length
   · obtain ⟨x, gx⟩ := zbe hlt
     have hx := hea x (List.mem_of_getElem? gx)
     have ec := e38 x.id x.label x.out x.inn hx.ps
     have hw := wrap_succ (k := i) (by omega)
     have hbt : decide ((i : Int) < (es.length : Int)) = true := decide_eq_true (by omega)
     have b1 : (0 : Int) ≤ (i : Int) := by omega
     have gap : ((((es.take i).map Lk.cl).map Lk.re).map (RE.o 45 5)) ++ [RE.o 45 5 (Lk.re x.cl)] = (((es.take (i + 1)).map Lk.cl).map Lk.re).map (RE.o 45 5) := by rw [zdq gx, List.map_append, List.map_append]; rfl
     have hl3 : (es.take i).length = i := by rw [List.length_take]; omega
     have hl4 : (es.take (i + 1)).length = i + 1 := by rw [List.length_take]; omega
     have hi37 : i ≤ 137438953472 := by omega
     obtain ⟨xid, xl, xo, xi, xpk, xpz, xps⟩ := x
     simp only [Lk.re, Lk.cl, RE.o, List.map_cons, List.map_nil, SC.a, List.cons_append, List.nil_append] at gap ec
     have hlim : i + 1 ≤ LIM := by omega
     have hz : decide (i + 1 = 0) = false := rfl
     (repeat' (first | with_reducible refine zab ?_ | simp only [go_sem, J0, reduceIte, reduceCtorEq, Ja, Jb, Jc, Jd, Je, Jf, Jg, Jh, Ji, Jj, Jk, Jl, Jm, Jn, Jo, Jp, Jq, Jr, Js, hbt, he1, b1, gx, Lk.c, s38, ec, hw, List.length_map, hl3, hl4, hlim, hvl, hi37, Nat.le_refl, zrv (ty := 45) (sz := 5), ziu (ty := 45) (sz := 5), gap]))
     exact ⟨i + 1, by rw [hz], by omega, by omega⟩
   · have hbf : decide ((i : Int) < (es.length : Int)) = false := decide_eq_false (by omega)
     obtain rfl : i = es.length := by omega
     have hnv : decide (es.length = 0) = decide (es = []) := decide_eq_decide.2 List.length_eq_zero_iff
     rw [List.take_length, hnv]
     (repeat' (first | with_reducible refine zab ?_ | simp only [go_sem, J0, reduceIte, reduceCtorEq, Ja, Jb, Jc, Jd, Je, Jf, Jg, Jh, Ji, Jj, Jk, Jl, Jm, Jn, Jo, Jp, Jq, Jr, Js, hbf, List.length_map, hvl, hel, zrv (ty := 45) (sz := 5), growd]))
end
section
theorem zbj {α : Type} {l : List α} {k : Nat} (h : k < l.length) : ∃ b, l[k]? = some b := ⟨l[k], List.getElem?_eq_getElem h⟩
theorem za4 {α : Type} {l : List α} {i : Nat} {c : α} (h : l[i]? = some c) : l.drop i = c :: l.drop (i + 1) := by
 obtain ⟨hlt, rfl⟩ := List.getElem?_eq_some_iff.1 h
 exact (List.drop_eq_getElem_cons hlt)
theorem e119 (a b : Int) : acall S 119 [.i .i64 a, .i .i64 b] = some (.i .i64 (cmpI a b), []) := by
 refine W_eq (g119 rfl ?_)
 unfold cmpI
 by_cases h1 : a < b
 · have g1 : decide (a < b) = true := decide_eq_true h1
   rw [if_pos h1]
   (repeat' (first | with_reducible refine zab ?_ | simp only [go_sem, J0, reduceIte, reduceCtorEq, Ja, Jb, Jc, Jd, Je, Jf, Jg, Jh, Ji, Jj, Jk, Jl, Jm, Jn, Jo, Jp, Jq, Jr, Js, a119, g1]))
 · have g1 : decide (a < b) = false := decide_eq_false h1
   rw [if_neg h1]
   by_cases h2 : b < a
   · have g2 : decide (b < a) = true := decide_eq_true h2
     rw [if_pos h2]
     (repeat' (first | with_reducible refine zab ?_ | simp only [go_sem, J0, reduceIte, reduceCtorEq, Ja, Jb, Jc, Jd, Je, Jf, Jg, Jh, Ji, Jj, Jk, Jl, Jm, Jn, Jo, Jp, Jq, Jr, Js, a119, g1, g2]))
   · have g2 : decide (b < a) = false := decide_eq_false h2
     rw [if_neg h2]
     (repeat' (first | with_reducible refine zab ?_ | simp only [go_sem, J0, reduceIte, reduceCtorEq, Ja, Jb, Jc, Jd, Je, Jf, Jg, Jh, Ji, Jj, Jk, Jl, Jm, Jn, Jo, Jp, Jq, Jr, Js, a119, g1, g2]))
theorem zta (c d : UInt8) (x y : List UInt8) : Go.Lib.compareBytes (c :: x) (d :: y) = if c = d then Go.Lib.compareBytes x y else cmpI (c.toNat : Int) (d.toNat : Int) := by
 simp only [Go.Lib.compareBytes, cmpI]
 by_cases h : c = d
 · subst h; simp
 · rw [if_neg h]
   have hne : c.toNat ≠ d.toNat := fun e => h (UInt8.toNat_inj.1 e)
   by_cases h1 : c < d
   · have h1' : (c.toNat : Int) < (d.toNat : Int) := by rw [UInt8.lt_iff_toNat_lt] at h1; omega
     rw [if_pos h1, if_pos h1']
   · have h1' : ¬ (c.toNat : Int) < (d.toNat : Int) := by rw [UInt8.lt_iff_toNat_lt] at h1; omega
     have h2 : d < c := by rw [UInt8.lt_iff_toNat_lt] at *; omega
     have h2' : (d.toNat : Int) < (c.toNat : Int) := by rw [UInt8.lt_iff_toNat_lt] at h2; omega
     rw [if_neg h1, if_neg h1', if_pos h2, if_pos h2']
theorem e120 (a b : List UInt8) (ha : a.length ≤ LIM) (hb : b.length ≤ LIM) : acall S 120 [.str a, .str b] = some (.i .i64 (Go.Lib.compareBytes a b), []) := by
 have hL : LIM = 274877906944 := rfl
 refine W_eq (g120 rfl ?_)
 (repeat' (first | with_reducible refine zab ?_ | simp only [go_sem, J0, reduceIte, reduceCtorEq, Ja, Jb, Jc, Jd, Je, Jf, Jg, Jh, Ji, Jj, Jk, Jl, Jm, Jn, Jo, Jp, Jq, Jr, Js, a120]))
 refine zag (ι := Nat) (fun i => [.str a, .str b, .i .i64 i]) (fun i => i ≤ a.length ∧ i ≤ b.length ∧ Go.Lib.compareBytes (a.drop i) (b.drop i) = Go.Lib.compareBytes a b) (fun i => a.length - i) 0 rfl ⟨by omega, by omega, rfl⟩ ?_
 rintro i ⟨h1, h2, hT⟩
 by_cases hlt : i < a.length ∧ i < b.length
 · obtain ⟨hla, hlb⟩ := hlt
   obtain ⟨c, gc⟩ := zbj hla
   obtain ⟨d, gd⟩ := zbj hlb
   rw [za4 gc, za4 gd, zta] at hT
   have g1 : decide ((i : Int) < (a.length : Int)) = true := decide_eq_true (by omega)
   have g2 : decide ((i : Int) < (b.length : Int)) = true := decide_eq_true (by omega)
   have b1 : (0 : Int) ≤ (i : Int) := by omega
   have hw := wrap_succ (k := i) (by omega)
   have c1 := UInt8.toNat_lt c
   have d1 := UInt8.toNat_lt d
   by_cases hcd : c = d
   · subst hcd
     rw [if_pos rfl] at hT
     (repeat' (first | with_reducible refine zab ?_ | simp only [go_sem, J0, reduceIte, reduceCtorEq, Ja, Jb, Jc, Jd, Je, Jf, Jg, Jh, Ji, Jj, Jk, Jl, Jm, Jn, Jo, Jp, Jq, Jr, Js, g1, g2, b1, gc, gd, hw]))
     exact ⟨i + 1, rfl, ⟨by omega, by omega, hT⟩, by omega⟩
   · rw [if_neg hcd] at hT
     have g3 : decide (¬ (c.toNat : Int) = (d.toNat : Int)) = true := decide_eq_true fun e => hcd (UInt8.toNat_inj.1 (by omega))
     have w1 : IntKind.i64.wrap (c.toNat : Int) = (c.toNat : Int) := wrap_i64 (by omega) (by omega)
     have w2 : IntKind.i64.wrap (d.toNat : Int) = (d.toNat : Int) := wrap_i64 (by omega) (by omega)
     have en := e119 (c.toNat : Int) (d.toNat : Int)
     (repeat' (first | with_reducible refine zab ?_ | simp only [go_sem, J0, reduceIte, reduceCtorEq, Ja, Jb, Jc, Jd, Je, Jf, Jg, Jh, Ji, Jj, Jk, Jl, Jm, Jn, Jo, Jp, Jq, Jr, Js, g1, g2, b1, gc, gd, g3, w1, w2, s119, en]))
     rw [hT]
 · have en := e119 (a.length : Int) (b.length : Int)
   have hend : cmpI (a.length : Int) (b.length : Int) = Go.Lib.compareBytes a b := by
     rw [← hT]
     by_cases hla : i < a.length
     · have hib : i = b.length := by omega
       obtain ⟨c, gc⟩ := zbj hla
       rw [za4 gc, hib, List.drop_length]
       unfold cmpI
       rw [if_neg (by omega), if_pos (by omega)]; rfl
     · have hia : i = a.length := by omega
       rw [hia, List.drop_length]
       by_cases hlb : a.length < b.length
       · obtain ⟨d, gd⟩ := zbj hlb
         rw [za4 gd]
         unfold cmpI
         rw [if_pos (by omega)]; rfl
       · have : b.drop a.length = [] := List.drop_of_length_le (by omega)
         rw [this]
         unfold cmpI
         rw [if_neg (by omega), if_neg (by omega)]; rfl
   by_cases hla : i < a.length
   · have g1 : decide ((i : Int) < (a.length : Int)) = true := decide_eq_true (by omega)
     have g2 : decide ((i : Int) < (b.length : Int)) = false := decide_eq_false (by omega)
     (repeat' (first | with_reducible refine zab ?_ | simp only [go_sem, J0, reduceIte, reduceCtorEq, Ja, Jb, Jc, Jd, Je, Jf, Jg, Jh, Ji, Jj, Jk, Jl, Jm, Jn, Jo, Jp, Jq, Jr, Js, g1, g2, s119, en, hend]))
   · have g1 : decide ((i : Int) < (a.length : Int)) = false := decide_eq_false (by omega)
     (repeat' (first | with_reducible refine zab ?_ | simp only [go_sem, J0, reduceIte, reduceCtorEq, Ja, Jb, Jc, Jd, Je, Jf, Jg, Jh, Ji, Jj, Jk, Jl, Jm, Jn, Jo, Jp, Jq, Jr, Js, g1, s119, en, hend]))
theorem znl {i : Nat} {x y : List Vl} (h : ¬ (i < x.length ∧ i < y.length)) (hi : i ≤ x.length) (hj : i ≤ y.length) : cmpI (x.length : Int) (y.length : Int) = cmpL (Vl.ps (x.drop i)) (Vl.ps (y.drop i)) := by
 by_cases hla : i < x.length
 · have hib : i = y.length := by omega
   obtain ⟨c, gc⟩ := zbj hla
   rw [za4 gc, hib, List.drop_length]
   unfold cmpI
   rw [if_neg (by omega), if_pos (by omega)]; simp only [Vl.ps, cmpL]
 · have hia : i = x.length := by omega
   rw [hia, List.drop_length]
   by_cases hlb : x.length < y.length
   · obtain ⟨d, gd⟩ := zbj hlb
     rw [za4 gd]
     unfold cmpI
     rw [if_pos (by omega)]; simp only [Vl.ps, cmpL]
   · have : y.drop x.length = [] := List.drop_of_length_le (by omega)
     rw [this]
     unfold cmpI
     rw [if_neg (by omega), if_neg (by omega)]; simp only [Vl.ps, cmpL]
theorem e110' : ∀ (m : Nat) (a b : Vl), a.size ≤ m → a.ok → b.ok → acall S 110 [.agg a.c, .agg b.c] = some (.i .i64 (cmpV a.p b.p), [])
 | 0, .mk k n s sk z l, _, hm, _, _ => by simp [Vl.size] at hm
 | m + 1, .mk k n s sk z l, .mk k' n' s' sk' z' l', hm, ha, hb => by
   obtain ⟨hs, hl, hok, hall⟩ := ha
   obtain ⟨hs', hl', hok', hall'⟩ := hb
   have hL : LIM = 274877906944 := rfl
   simp only [Vl.size] at hm
   have e1 := e119 k k'
   have e2 := e119 n n'
   have e3 := e120 s s' (by omega) (by omega)
   refine W_eq (g110 rfl ?_)
   simp only [Vl.p, cmpV]
   by_cases h1 : cmpI k k' = 0
   case neg =>
     have g1 : decide (¬ cmpI k k' = 0) = true := decide_eq_true h1
     rw [show first0 (cmpI k k') _ = cmpI k k' from if_pos h1]
     (repeat' (first | with_reducible refine zab ?_ | simp only [go_sem, J0, reduceIte, reduceCtorEq, Ja, Jb, Jc, Jd, Je, Jf, Jg, Jh, Ji, Jj, Jk, Jl, Jm, Jn, Jo, Jp, Jq, Jr, Js, a110, Vl.c, s119, e1, g1]))
   have g1 : decide (¬ cmpI k k' = 0) = false := decide_eq_false (by simpa using h1)
   rw [show ∀ q, first0 (cmpI k k') q = q from fun q => if_neg (by simpa using h1)]
   by_cases h2 : cmpI n n' = 0
   case neg =>
     have g2 : decide (¬ cmpI n n' = 0) = true := decide_eq_true h2
     rw [show first0 (cmpI n n') _ = cmpI n n' from if_pos h2]
     (repeat' (first | with_reducible refine zab ?_ | simp only [go_sem, J0, reduceIte, reduceCtorEq, Ja, Jb, Jc, Jd, Je, Jf, Jg, Jh, Ji, Jj, Jk, Jl, Jm, Jn, Jo, Jp, Jq, Jr, Js, a110, Vl.c, s119, e1, g1, e2, g2]))
   have g2 : decide (¬ cmpI n n' = 0) = false := decide_eq_false (by simpa using h2)
   rw [show ∀ q, first0 (cmpI n n') q = q from fun q => if_neg (by simpa using h2)]
   by_cases h3 : Go.Lib.compareBytes s s' = 0
   case neg =>
     have g3 : decide (¬ Go.Lib.compareBytes s s' = 0) = true := decide_eq_true h3
     rw [show first0 (Go.Lib.compareBytes s s') _ = Go.Lib.compareBytes s s' from if_pos h3]
     (repeat' (first | with_reducible refine zab ?_ | simp only [go_sem, J0, reduceIte, reduceCtorEq, Ja, Jb, Jc, Jd, Je, Jf, Jg, Jh, Ji, Jj, Jk, Jl, Jm, Jn, Jo, Jp, Jq, Jr, Js, a110, Vl.c, s119, s120, e1, g1, e2, g2, e3, g3]))
   have g3 : decide (¬ Go.Lib.compareBytes s s' = 0) = false := decide_eq_false (by simpa using h3)
   rw [show ∀ q, first0 (Go.Lib.compareBytes s s') q = q from fun q => if_neg (by simpa using h3)]
   (repeat' (first | with_reducible refine zab ?_ | simp only [go_sem, J0, reduceIte, reduceCtorEq, Ja, Jb, Jc, Jd, Je, Jf, Jg, Jh, Ji, Jj, Jk, Jl, Jm, Jn, Jo, Jp, Jq, Jr, Js, a110, Vl.c, Vl.cs_map, s119, s120, e1, g1, e2, g2, e3, g3]))
   refine zag (ι := Nat) (fun i => [.bx [.i .i64 k, .i .i64 n, .str s, .sl sk z (l.map Vl.c)], .bx [.i .i64 k', .i .i64 n', .str s', .sl sk' z' (l'.map Vl.c)], .i .i64 i])
     (fun i => i ≤ l.length ∧ i ≤ l'.length ∧ cmpL (Vl.ps (l.drop i)) (Vl.ps (l'.drop i)) = cmpL (Vl.ps l) (Vl.ps l')) (fun i => l.length - i) 0 rfl ⟨by omega, by omega, rfl⟩ ?_
   rintro i ⟨i1, i2, hT⟩
   by_cases hlt : i < l.length ∧ i < l'.length
   · obtain ⟨hla, hlb⟩ := hlt
     obtain ⟨c, gc⟩ := zbj hla
     obtain ⟨d, gd⟩ := zbj hlb
     rw [za4 gc, za4 gd] at hT
     simp only [Vl.ps, cmpL] at hT
     have q1 : decide ((i : Int) < (l.length : Int)) = true := decide_eq_true (by omega)
     have q2 : decide ((i : Int) < (l'.length : Int)) = true := decide_eq_true (by omega)
     have b1 : (0 : Int) ≤ (i : Int) := by omega
     have hw := wrap_succ (k := i) (by omega)
     have hcs := Vl.size_get gc
     have er := e110' m c d (by omega) (Vl.oks_get hall gc) (Vl.oks_get hall' gd)
     obtain ⟨ck, cn, cs, ckk, cz, cl⟩ := c
     obtain ⟨dk, dn, ds, dkk, dz, dl⟩ := d
     simp only [Vl.c, Vl.cs_map] at er
     by_cases hz : cmpV (Vl.p (.mk ck cn cs ckk cz cl)) (Vl.p (.mk dk dn ds dkk dz dl)) = 0
     · have q3 : decide (¬ cmpV (Vl.p (.mk ck cn cs ckk cz cl)) (Vl.p (.mk dk dn ds dkk dz dl)) = 0) = false := decide_eq_false (by simpa using hz)
       rw [show ∀ q, first0 (cmpV (Vl.p (.mk ck cn cs ckk cz cl)) (Vl.p (.mk dk dn ds dkk dz dl))) q = q from fun q => if_neg (by simpa using hz)] at hT
       (repeat' (first | with_reducible refine zab ?_ | simp only [go_sem, J0, reduceIte, reduceCtorEq, Ja, Jb, Jc, Jd, Je, Jf, Jg, Jh, Ji, Jj, Jk, Jl, Jm, Jn, Jo, Jp, Jq, Jr, Js, q1, q2, b1, gc, gd, hok.1, hok'.1, Vl.c, Vl.cs_map, s110, er, q3, hw]))
       exact ⟨i + 1, rfl, ⟨by omega, by omega, hT⟩, by omega⟩
     · have q3 : decide (¬ cmpV (Vl.p (.mk ck cn cs ckk cz cl)) (Vl.p (.mk dk dn ds dkk dz dl)) = 0) = true := decide_eq_true hz
       rw [show ∀ q, first0 (cmpV (Vl.p (.mk ck cn cs ckk cz cl)) (Vl.p (.mk dk dn ds dkk dz dl))) q = cmpV (Vl.p (.mk ck cn cs ckk cz cl)) (Vl.p (.mk dk dn ds dkk dz dl)) from fun q => if_pos hz] at hT
       (repeat' (first | with_reducible refine zab ?_ | simp only [go_sem, J0, reduceIte, reduceCtorEq, Ja, Jb, Jc, Jd, Je, Jf, Jg, Jh, Ji, Jj, Jk, Jl, Jm, Jn, Jo, Jp, Jq, Jr, Js, q1, q2, b1, gc, gd, hok.1, hok'.1, Vl.c, Vl.cs_map, s110, er, q3]))
       rw [hT]
   · have en := e119 (l.length : Int) (l'.length : Int)
     rw [znl hlt i1 i2, hT] at en
     by_cases hla : i < l.length
     · have q1 : decide ((i : Int) < (l.length : Int)) = true := decide_eq_true (by omega)
       have q2 : decide ((i : Int) < (l'.length : Int)) = false := decide_eq_false (by omega)
       (repeat' (first | with_reducible refine zab ?_ | simp only [go_sem, J0, reduceIte, reduceCtorEq, Ja, Jb, Jc, Jd, Je, Jf, Jg, Jh, Ji, Jj, Jk, Jl, Jm, Jn, Jo, Jp, Jq, Jr, Js, q1, q2, s119, en]))
     · have q1 : decide ((i : Int) < (l.length : Int)) = false := decide_eq_false (by omega)
       (repeat' (first | with_reducible refine zab ?_ | simp only [go_sem, J0, reduceIte, reduceCtorEq, Ja, Jb, Jc, Jd, Je, Jf, Jg, Jh, Ji, Jj, Jk, Jl, Jm, Jn, Jo, Jp, Jq, Jr, Js, q1, s119, en]))
theorem e110 (a b : Vl) (ha : a.ok) (hb : b.ok) : acall S 110 [.agg a.c, .agg b.c] = some (.i .i64 (cmpV a.p b.p), []) := e110' a.size a b (Nat.le_refl _) ha hb
open Classical in
theorem e93 (a b : Vl) (ha : a.ok) (hb : b.ok) : acall S 93 [.agg a.c, .agg b.c] = some (.b (decide (a.p = b.p)), []) := by
 have e1 := e110 a b ha hb
 obtain ⟨ck, cn, cs, ckk, cz, cl⟩ := a
 obtain ⟨dk, dn, ds, dkk, dz, dl⟩ := b
 have hd : decide (Vl.p (.mk ck cn cs ckk cz cl) = Vl.p (.mk dk dn ds dkk dz dl)) = decide (cmpV (Vl.p (.mk ck cn cs ckk cz cl)) (Vl.p (.mk dk dn ds dkk dz dl)) = 0) := by
   apply Bool.eq_iff_iff.2
   simp only [decide_eq_true_eq, zov]
 rw [hd]
 simp only [Vl.c, Vl.cs_map] at e1 ⊢
 refine W_eq (g93 rfl ?_)
 (repeat' (first | with_reducible refine zab ?_ | simp only [go_sem, J0, reduceIte, reduceCtorEq, Ja, Jb, Jc, Jd, Je, Jf, Jg, Jh, Ji, Jj, Jk, Jl, Jm, Jn, Jo, Jp, Jq, Jr, Js, a93, s110, e1]))
end
section
def idxJ {α : Type} (q : α → Bool) : List α → Nat → Int
 | [], _ => -1
 | a :: r, i => if q a = true then (i : Int) else idxJ q r (i + 1)
theorem zmo {α : Type} (q : α → Bool) : ∀ (l : List α) (i : Nat), decide (0 ≤ idxJ q l i) = l.any q
 | [], _ => rfl
 | a :: r, i => by
   simp only [idxJ, List.any_cons]
   by_cases h : q a = true
   · simp only [h, if_true, Bool.true_or]; exact decide_eq_true (by omega)
   · have h' : q a = false := by simpa using h
     simp only [h', Bool.false_eq_true, if_false, Bool.false_or]; exact zmo q r (i + 1)
theorem z1n (d : Int) {q : Vl → Bool} {k : SK} {z : Nat} {l : List Vl} (h : OkS k z 4 l) (hl : l.length ≤ 137438953472) (hq : ∀ x ∈ l, acall S 97 [.agg x.c, .ip [.i .i64 d]] = some (.b (q x), [])) :
   acall S 111 [.sl k z (l.map Vl.c), .fn 97 [.ip [.i .i64 d]]] = some (.i .i64 (idxJ q l 0), []) := by
 refine W_eq (g111 rfl ?_)
 (repeat' (first | with_reducible refine zab ?_ | simp only [go_sem, J0, reduceIte, reduceCtorEq, Ja, Jb, Jc, Jd, Je, Jf, Jg, Jh, Ji, Jj, Jk, Jl, Jm, Jn, Jo, Jp, Jq, Jr, Js, a111]))
 refine zag (ι := Nat) (fun i => [.sl k z (l.map Vl.c), .fn 97 [.ip [.i .i64 d]], .i .i64 l.length, .i .i64 i]) (fun i => i ≤ l.length ∧ idxJ q (l.drop i) i = idxJ q l 0) (fun i => l.length - i) 0 rfl ⟨by omega, rfl⟩ ?_
 rintro i ⟨hi, hT⟩
 by_cases hlt : i < l.length
 · obtain ⟨c, gc⟩ := zbj hlt
   have g1 : decide ((i : Int) < (l.length : Int)) = true := decide_eq_true (by omega)
   have b1 : (0 : Int) ≤ (i : Int) := by omega
   have hw := wrap_succ (k := i) (by omega)
   rw [za4 gc] at hT
   simp only [idxJ] at hT
   have ec := hq c (List.mem_of_getElem? gc)
   cases hc : q c with
   | true =>
     rw [hc] at ec hT
     obtain ⟨ck, cn, cs, ckk, cz, cl⟩ := c
     simp only [Vl.c, Vl.cs_map] at ec
     rw [if_pos rfl] at hT
     (repeat' (first | with_reducible refine zab ?_ | simp only [go_sem, J0, reduceIte, reduceCtorEq, Ja, Jb, Jc, Jd, Je, Jf, Jg, Jh, Ji, Jj, Jk, Jl, Jm, Jn, Jo, Jp, Jq, Jr, Js, g1, b1, gc, h.1, Vl.c, Vl.cs_map, s97, ec]))
     rw [← hT]
   | false =>
     rw [hc] at ec hT
     obtain ⟨ck, cn, cs, ckk, cz, cl⟩ := c
     simp only [Vl.c, Vl.cs_map] at ec
     rw [if_neg (by simp)] at hT
     (repeat' (first | with_reducible refine zab ?_ | simp only [go_sem, J0, reduceIte, reduceCtorEq, Ja, Jb, Jc, Jd, Je, Jf, Jg, Jh, Ji, Jj, Jk, Jl, Jm, Jn, Jo, Jp, Jq, Jr, Js, g1, b1, gc, h.1, Vl.c, Vl.cs_map, s97, ec, hw]))
     exact ⟨i + 1, rfl, ⟨by omega, hT⟩, by omega⟩
 · have g1 : decide ((i : Int) < (l.length : Int)) = false := decide_eq_false (by omega)
   rw [List.drop_of_length_le (by omega)] at hT
   (repeat' (first | with_reducible refine zab ?_ | simp only [go_sem, J0, reduceIte, reduceCtorEq, Ja, Jb, Jc, Jd, Je, Jf, Jg, Jh, Ji, Jj, Jk, Jl, Jm, Jn, Jo, Jp, Jq, Jr, Js, g1]))
   rw [← hT]; rfl
theorem z0v (d : Int) {q : Vl → Bool} {k : SK} {z : Nat} {l : List Vl} (h : OkS k z 4 l) (hl : l.length ≤ 137438953472) (hq : ∀ x ∈ l, acall S 97 [.agg x.c, .ip [.i .i64 d]] = some (.b (q x), [])) :
   acall S 96 [.sl k z (l.map Vl.c), .fn 97 [.ip [.i .i64 d]]] = some (.b (l.any q), []) := by
 have e1 := z1n d h hl hq
 have hd := zmo q l 0
 refine W_eq (g96 rfl ?_)
 (repeat' (first | with_reducible refine zab ?_ | simp only [go_sem, J0, reduceIte, reduceCtorEq, Ja, Jb, Jc, Jd, Je, Jf, Jg, Jh, Ji, Jj, Jk, Jl, Jm, Jn, Jo, Jp, Jq, Jr, Js, a96, s111, e1, hd]))
end
section
def isV (id : Int) (x : Vx) : Bool := decide (x.id = id)
def isE (id : Int) (x : Lk) : Bool := decide (x.id = id)
def geP (n : List UInt8) (x : Pp) : Bool := !Op.bytesLess x.1 n
def eqP (n : List UInt8) (x : Pp) : Bool := decide (x.1 = n)
theorem fnV (x : Vx) (id : Int) : acall S 73 [.agg (Vx.c x), .ip [.i .i64 id]] = some (.b (isV id x), []) := by
 obtain ⟨xid, xl, xpk, xpz, xps⟩ := x
 skip
 refine W_eq (g73 rfl ?_)
 simp only [isV]
 (repeat' (first | with_reducible refine zab ?_ | simp only [go_sem, J0, reduceIte, reduceCtorEq, Ja, Jb, Jc, Jd, Je, Jf, Jg, Jh, Ji, Jj, Jk, Jl, Jm, Jn, Jo, Jp, Jq, Jr, Js, a73, Vx.c]))
theorem idxV (id : Int) {k : SK} {z : Nat} {l : List Vx} (h : OkS k z 3 l) (hl : l.length ≤ 137438953472) :
   acall S 72 [.sl k z (l.map Vx.c), .fn 73 [.ip [.i .i64 id]]] = some (.i .i64 (idxJ (isV id) l 0), []) := by
 have hq := fun x => fnV x id
 refine W_eq (g72 rfl ?_)
 (repeat' (first | with_reducible refine zab ?_ | simp only [go_sem, J0, reduceIte, reduceCtorEq, Ja, Jb, Jc, Jd, Je, Jf, Jg, Jh, Ji, Jj, Jk, Jl, Jm, Jn, Jo, Jp, Jq, Jr, Js, a72]))
 refine zag (ι := Nat) (fun i => [.sl k z (l.map Vx.c), .fn 73 [.ip [.i .i64 id]], .i .i64 l.length, .i .i64 i]) (fun i => i ≤ l.length ∧ idxJ (isV id) (l.drop i) i = idxJ (isV id) l 0) (fun i => l.length - i) 0 rfl ⟨by omega, rfl⟩ ?_
 rintro i ⟨hi, hT⟩
 by_cases hlt : i < l.length
 · obtain ⟨c, gc⟩ := zbj hlt
   have g1 : decide ((i : Int) < (l.length : Int)) = true := decide_eq_true (by omega)
   have b1 : (0 : Int) ≤ (i : Int) := by omega
   have hw := wrap_succ (k := i) (by omega)
   rw [za4 gc] at hT
   simp only [idxJ] at hT
   have ec := hq c
   cases hc : isV id c with
   | true =>
     rw [hc] at ec hT
     obtain ⟨xid, xl, xpk, xpz, xps⟩ := c
     skip
     simp only [Vx.c] at ec
     rw [if_pos rfl] at hT
     (repeat' (first | with_reducible refine zab ?_ | simp only [go_sem, J0, reduceIte, reduceCtorEq, Ja, Jb, Jc, Jd, Je, Jf, Jg, Jh, Ji, Jj, Jk, Jl, Jm, Jn, Jo, Jp, Jq, Jr, Js, g1, b1, gc, h.1, Vx.c, s73, ec]))
     rw [← hT]
   | false =>
     rw [hc] at ec hT
     obtain ⟨xid, xl, xpk, xpz, xps⟩ := c
     skip
     simp only [Vx.c] at ec
     rw [if_neg (by simp)] at hT
     (repeat' (first | with_reducible refine zab ?_ | simp only [go_sem, J0, reduceIte, reduceCtorEq, Ja, Jb, Jc, Jd, Je, Jf, Jg, Jh, Ji, Jj, Jk, Jl, Jm, Jn, Jo, Jp, Jq, Jr, Js, g1, b1, gc, h.1, Vx.c, s73, ec, hw]))
     exact ⟨i + 1, rfl, ⟨by omega, hT⟩, by omega⟩
 · have g1 : decide ((i : Int) < (l.length : Int)) = false := decide_eq_false (by omega)
   rw [List.drop_of_length_le (by omega)] at hT
   (repeat' (first | with_reducible refine zab ?_ | simp only [go_sem, J0, reduceIte, reduceCtorEq, Ja, Jb, Jc, Jd, Je, Jf, Jg, Jh, Ji, Jj, Jk, Jl, Jm, Jn, Jo, Jp, Jq, Jr, Js, g1]))
   rw [← hT]; rfl
theorem fnE (x : Lk) (id : Int) : acall S 94 [.agg (Lk.c x), .ip [.i .i64 id]] = some (.b (isE id x), []) := by
 obtain ⟨xid, xl, xo, xn, xpk, xpz, xps⟩ := x
 skip
 refine W_eq (g94 rfl ?_)
 simp only [isE]
 (repeat' (first | with_reducible refine zab ?_ | simp only [go_sem, J0, reduceIte, reduceCtorEq, Ja, Jb, Jc, Jd, Je, Jf, Jg, Jh, Ji, Jj, Jk, Jl, Jm, Jn, Jo, Jp, Jq, Jr, Js, a94, Lk.c]))
theorem idxE (id : Int) {k : SK} {z : Nat} {l : List Lk} (h : OkS k z 5 l) (hl : l.length ≤ 137438953472) :
   acall S 76 [.sl k z (l.map Lk.c), .fn 94 [.ip [.i .i64 id]]] = some (.i .i64 (idxJ (isE id) l 0), []) := by
 have hq := fun x => fnE x id
 refine W_eq (g76 rfl ?_)
 (repeat' (first | with_reducible refine zab ?_ | simp only [go_sem, J0, reduceIte, reduceCtorEq, Ja, Jb, Jc, Jd, Je, Jf, Jg, Jh, Ji, Jj, Jk, Jl, Jm, Jn, Jo, Jp, Jq, Jr, Js, a76]))
 refine zag (ι := Nat) (fun i => [.sl k z (l.map Lk.c), .fn 94 [.ip [.i .i64 id]], .i .i64 l.length, .i .i64 i]) (fun i => i ≤ l.length ∧ idxJ (isE id) (l.drop i) i = idxJ (isE id) l 0) (fun i => l.length - i) 0 rfl ⟨by omega, rfl⟩ ?_
 rintro i ⟨hi, hT⟩
 by_cases hlt : i < l.length
 · obtain ⟨c, gc⟩ := zbj hlt
   have g1 : decide ((i : Int) < (l.length : Int)) = true := decide_eq_true (by omega)
   have b1 : (0 : Int) ≤ (i : Int) := by omega
   have hw := wrap_succ (k := i) (by omega)
   rw [za4 gc] at hT
   simp only [idxJ] at hT
   have ec := hq c
   cases hc : isE id c with
   | true =>
     rw [hc] at ec hT
     obtain ⟨xid, xl, xo, xn, xpk, xpz, xps⟩ := c
     skip
     simp only [Lk.c] at ec
     rw [if_pos rfl] at hT
     (repeat' (first | with_reducible refine zab ?_ | simp only [go_sem, J0, reduceIte, reduceCtorEq, Ja, Jb, Jc, Jd, Je, Jf, Jg, Jh, Ji, Jj, Jk, Jl, Jm, Jn, Jo, Jp, Jq, Jr, Js, g1, b1, gc, h.1, Lk.c, s94, ec]))
     rw [← hT]
   | false =>
     rw [hc] at ec hT
     obtain ⟨xid, xl, xo, xn, xpk, xpz, xps⟩ := c
     skip
     simp only [Lk.c] at ec
     rw [if_neg (by simp)] at hT
     (repeat' (first | with_reducible refine zab ?_ | simp only [go_sem, J0, reduceIte, reduceCtorEq, Ja, Jb, Jc, Jd, Je, Jf, Jg, Jh, Ji, Jj, Jk, Jl, Jm, Jn, Jo, Jp, Jq, Jr, Js, g1, b1, gc, h.1, Lk.c, s94, ec, hw]))
     exact ⟨i + 1, rfl, ⟨by omega, hT⟩, by omega⟩
 · have g1 : decide ((i : Int) < (l.length : Int)) = false := decide_eq_false (by omega)
   rw [List.drop_of_length_le (by omega)] at hT
   (repeat' (first | with_reducible refine zab ?_ | simp only [go_sem, J0, reduceIte, reduceCtorEq, Ja, Jb, Jc, Jd, Je, Jf, Jg, Jh, Ji, Jj, Jk, Jl, Jm, Jn, Jo, Jp, Jq, Jr, Js, g1]))
   rw [← hT]; rfl
theorem fnG (x : Pp) (nm : List UInt8) : acall S 57 [.agg (tagC x), .ip [.str nm]] = some (.b (geP nm x), []) := by
 obtain ⟨xn, xv⟩ := x
 obtain ⟨xk, xm, xs, xkk, xz, xll⟩ := xv
 refine W_eq (g57 rfl ?_)
 simp only [geP]
 (repeat' (first | with_reducible refine zab ?_ | simp only [go_sem, J0, reduceIte, reduceCtorEq, Ja, Jb, Jc, Jd, Je, Jf, Jg, Jh, Ji, Jj, Jk, Jl, Jm, Jn, Jo, Jp, Jq, Jr, Js, a57, tagC, Vl.c, Vl.cs_map]))
theorem idxG (nm : List UInt8) {k : SK} {z : Nat} {l : List Pp} (h : OkS k z 5 l) (hl : l.length ≤ 137438953472) :
   acall S 56 [.sl k z (l.map tagC), .fn 57 [.ip [.str nm]]] = some (.i .i64 (idxJ (geP nm) l 0), []) := by
 have hq := fun x => fnG x nm
 refine W_eq (g56 rfl ?_)
 (repeat' (first | with_reducible refine zab ?_ | simp only [go_sem, J0, reduceIte, reduceCtorEq, Ja, Jb, Jc, Jd, Je, Jf, Jg, Jh, Ji, Jj, Jk, Jl, Jm, Jn, Jo, Jp, Jq, Jr, Js, a56]))
 refine zag (ι := Nat) (fun i => [.sl k z (l.map tagC), .fn 57 [.ip [.str nm]], .i .i64 l.length, .i .i64 i]) (fun i => i ≤ l.length ∧ idxJ (geP nm) (l.drop i) i = idxJ (geP nm) l 0) (fun i => l.length - i) 0 rfl ⟨by omega, rfl⟩ ?_
 rintro i ⟨hi, hT⟩
 by_cases hlt : i < l.length
 · obtain ⟨c, gc⟩ := zbj hlt
   have g1 : decide ((i : Int) < (l.length : Int)) = true := decide_eq_true (by omega)
   have b1 : (0 : Int) ≤ (i : Int) := by omega
   have hw := wrap_succ (k := i) (by omega)
   rw [za4 gc] at hT
   simp only [idxJ] at hT
   have ec := hq c
   cases hc : geP nm c with
   | true =>
     rw [hc] at ec hT
     obtain ⟨xn, xv⟩ := c
     obtain ⟨xk, xm, xs, xkk, xz, xll⟩ := xv
     simp only [tagC, Vl.c, Vl.cs_map] at ec
     rw [if_pos rfl] at hT
     (repeat' (first | with_reducible refine zab ?_ | simp only [go_sem, J0, reduceIte, reduceCtorEq, Ja, Jb, Jc, Jd, Je, Jf, Jg, Jh, Ji, Jj, Jk, Jl, Jm, Jn, Jo, Jp, Jq, Jr, Js, g1, b1, gc, h.1, tagC, Vl.c, Vl.cs_map, s57, ec]))
     rw [← hT]
   | false =>
     rw [hc] at ec hT
     obtain ⟨xn, xv⟩ := c
     obtain ⟨xk, xm, xs, xkk, xz, xll⟩ := xv
     simp only [tagC, Vl.c, Vl.cs_map] at ec
     rw [if_neg (by simp)] at hT
     (repeat' (first | with_reducible refine zab ?_ | simp only [go_sem, J0, reduceIte, reduceCtorEq, Ja, Jb, Jc, Jd, Je, Jf, Jg, Jh, Ji, Jj, Jk, Jl, Jm, Jn, Jo, Jp, Jq, Jr, Js, g1, b1, gc, h.1, tagC, Vl.c, Vl.cs_map, s57, ec, hw]))
     exact ⟨i + 1, rfl, ⟨by omega, hT⟩, by omega⟩
 · have g1 : decide ((i : Int) < (l.length : Int)) = false := decide_eq_false (by omega)
   rw [List.drop_of_length_le (by omega)] at hT
   (repeat' (first | with_reducible refine zab ?_ | simp only [go_sem, J0, reduceIte, reduceCtorEq, Ja, Jb, Jc, Jd, Je, Jf, Jg, Jh, Ji, Jj, Jk, Jl, Jm, Jn, Jo, Jp, Jq, Jr, Js, g1]))
   rw [← hT]; rfl
theorem fnQ (x : Pp) (nm : List UInt8) : acall S 64 [.agg (tagC x), .ip [.str nm]] = some (.b (eqP nm x), []) := by
 obtain ⟨xn, xv⟩ := x
 obtain ⟨xk, xm, xs, xkk, xz, xll⟩ := xv
 refine W_eq (g64 rfl ?_)
 simp only [eqP]
 (repeat' (first | with_reducible refine zab ?_ | simp only [go_sem, J0, reduceIte, reduceCtorEq, Ja, Jb, Jc, Jd, Je, Jf, Jg, Jh, Ji, Jj, Jk, Jl, Jm, Jn, Jo, Jp, Jq, Jr, Js, a64, tagC, Vl.c, Vl.cs_map]))
theorem idxQ (nm : List UInt8) {k : SK} {z : Nat} {l : List Pp} (h : OkS k z 5 l) (hl : l.length ≤ 137438953472) :
   acall S 56 [.sl k z (l.map tagC), .fn 64 [.ip [.str nm]]] = some (.i .i64 (idxJ (eqP nm) l 0), []) := by
 have hq := fun x => fnQ x nm
 refine W_eq (g56 rfl ?_)
 (repeat' (first | with_reducible refine zab ?_ | simp only [go_sem, J0, reduceIte, reduceCtorEq, Ja, Jb, Jc, Jd, Je, Jf, Jg, Jh, Ji, Jj, Jk, Jl, Jm, Jn, Jo, Jp, Jq, Jr, Js, a56]))
 refine zag (ι := Nat) (fun i => [.sl k z (l.map tagC), .fn 64 [.ip [.str nm]], .i .i64 l.length, .i .i64 i]) (fun i => i ≤ l.length ∧ idxJ (eqP nm) (l.drop i) i = idxJ (eqP nm) l 0) (fun i => l.length - i) 0 rfl ⟨by omega, rfl⟩ ?_
 rintro i ⟨hi, hT⟩
 by_cases hlt : i < l.length
 · obtain ⟨c, gc⟩ := zbj hlt
   have g1 : decide ((i : Int) < (l.length : Int)) = true := decide_eq_true (by omega)
   have b1 : (0 : Int) ≤ (i : Int) := by omega
   have hw := wrap_succ (k := i) (by omega)
   rw [za4 gc] at hT
   simp only [idxJ] at hT
   have ec := hq c
   cases hc : eqP nm c with
   | true =>
     rw [hc] at ec hT
     obtain ⟨xn, xv⟩ := c
     obtain ⟨xk, xm, xs, xkk, xz, xll⟩ := xv
     simp only [tagC, Vl.c, Vl.cs_map] at ec
     rw [if_pos rfl] at hT
     (repeat' (first | with_reducible refine zab ?_ | simp only [go_sem, J0, reduceIte, reduceCtorEq, Ja, Jb, Jc, Jd, Je, Jf, Jg, Jh, Ji, Jj, Jk, Jl, Jm, Jn, Jo, Jp, Jq, Jr, Js, g1, b1, gc, h.1, tagC, Vl.c, Vl.cs_map, s64, ec]))
     rw [← hT]
   | false =>
     rw [hc] at ec hT
     obtain ⟨xn, xv⟩ := c
     obtain ⟨xk, xm, xs, xkk, xz, xll⟩ := xv
     simp only [tagC, Vl.c, Vl.cs_map] at ec
     rw [if_neg (by simp)] at hT
     (repeat' (first | with_reducible refine zab ?_ | simp only [go_sem, J0, reduceIte, reduceCtorEq, Ja, Jb, Jc, Jd, Je, Jf, Jg, Jh, Ji, Jj, Jk, Jl, Jm, Jn, Jo, Jp, Jq, Jr, Js, g1, b1, gc, h.1, tagC, Vl.c, Vl.cs_map, s64, ec, hw]))
     exact ⟨i + 1, rfl, ⟨by omega, hT⟩, by omega⟩
 · have g1 : decide ((i : Int) < (l.length : Int)) = false := decide_eq_false (by omega)
   rw [List.drop_of_length_le (by omega)] at hT
   (repeat' (first | with_reducible refine zab ?_ | simp only [go_sem, J0, reduceIte, reduceCtorEq, Ja, Jb, Jc, Jd, Je, Jf, Jg, Jh, Ji, Jj, Jk, Jl, Jm, Jn, Jo, Jp, Jq, Jr, Js, g1]))
   rw [← hT]; rfl
theorem e41 {k : SK} {z : Nat} {l : List Vx} (id : Int) (x y : AV) (h : OkS k z 3 l) (hl : l.length ≤ 137438953472) (hx : flat x = true) (hy : flat y = true) :
   acall S 41 [.agg [.sl k z (l.map Vx.c), x, y], .i .i64 id] = some (.tup [.i .i64 (idxJ (isV id) l 0), .b (decide (0 ≤ idxJ (isV id) l 0))], []) := by
 have e1 := idxV id h hl
 refine W_eq (g41 rfl ?_)
 (repeat' (first | with_reducible refine zab ?_ | simp only [go_sem, J0, reduceIte, reduceCtorEq, Ja, Jb, Jc, Jd, Je, Jf, Jg, Jh, Ji, Jj, Jk, Jl, Jm, Jn, Jo, Jp, Jq, Jr, Js, a41, s72, e1]))
theorem e71 {k : SK} {z : Nat} {l : List Lk} (id : Int) (x y : AV) (h : OkS k z 5 l) (hl : l.length ≤ 137438953472) (hx : flat x = true) (hy : flat y = true) :
   acall S 71 [.agg [x, .sl k z (l.map Lk.c), y], .i .i64 id] = some (.tup [.i .i64 (idxJ (isE id) l 0), .b (decide (0 ≤ idxJ (isE id) l 0))], []) := by
 have e1 := idxE id h hl
 refine W_eq (g71 rfl ?_)
 (repeat' (first | with_reducible refine zab ?_ | simp only [go_sem, J0, reduceIte, reduceCtorEq, Ja, Jb, Jc, Jd, Je, Jf, Jg, Jh, Ji, Jj, Jk, Jl, Jm, Jn, Jo, Jp, Jq, Jr, Js, a71, s76, e1]))
end
section
def ClV (vs : List Vx) : Prop := ∀ v ∈ vs, v.pk = .open_ ∧ v.pz = 5
def ClE (es : List Lk) : Prop := ∀ v ∈ es, v.pk = .open_ ∧ v.pz = 5
theorem zdo {vs : List Vx} (h : ClV vs) : (vs.map Vx.re).map (RE.s 5) = vs.map Vx.c := by
 rw [List.map_map]
 refine List.map_congr_left fun v hv => ?_
 obtain ⟨h1, h2⟩ := h v hv
 simp only [Function.comp, Vx.re, RE.s, Vx.c, h1, h2, List.map_cons, List.map_nil, SC.a, List.cons_append, List.nil_append, za3]
theorem zdl {es : List Lk} (h : ClE es) : (es.map Lk.re).map (RE.s 5) = es.map Lk.c := by
 rw [List.map_map]
 refine List.map_congr_left fun v hv => ?_
 obtain ⟨h1, h2⟩ := h v hv
 simp only [Function.comp, Lk.re, RE.s, Lk.c, h1, h2, List.map_cons, List.map_nil, SC.a, List.cons_append, List.nil_append, za3]
def vBlk (a : Bool) (Kv : Nat) (vs : List Vx) : Blk := { ver := 0, row := true, nl := a, ty := 43, sz := 3, es := zct Kv (vs.map Vx.re), dp := true }
def eBlk (b : Bool) (Ke : Nat) (es : List Lk) : Blk := { ver := 0, row := true, nl := b, ty := 47, sz := 5, es := zct Ke (es.map Lk.re), dp := true }
def zen (hp : Hp) (kv ke Kv Ke : Nat) (a b : Bool) (vs : List Vx) (es : List Lk) : Prop :=
 Go.Abs.look hp kv = some (vBlk a Kv vs) ∧ Go.Abs.look hp ke = some (eBlk b Ke es) ∧ Laid hp 45 5 Kv (vs.map Vx.re) ∧ Laid hp 45 5 Ke (es.map Lk.re) ∧ zad hp 44800128 = 0 ∧ zad hp 44800192 = 0
structure Lies (kv ke Kv Ke : Nat) (a b : Bool) (vs : List Vx) (es : List Lk) : Prop where
 kv : kv < 44800128
 ke : ke < 44800128
 Kv : 44800192 < Kv
 Ke : 44800192 < Ke
 vl : vs.length ≤ 137438953472
 el : es.length ≤ 137438953472
 va : ClV vs
 ea : ClE es
 nv : a = true → vs = []
 ne : b = true → es = []
def bxB (cs : List AV) (n : Nat) : Blk := { ver := 0, row := false, nl := false, ty := 0, sz := n, es := [cs] }
def zce (kv ke : Nat) (vs : List Vx) (es : List Lk) (last : Int) : List AV := [.ms kv 0 0 vs.length, .ms ke 0 0 es.length, .i .i64 last]
theorem zca {hp : Hp} {kv ke Kv Ke : Nat} {a b : Bool} {vs : List Vx} {es : List Lk} {last n : Int} {s : List UInt8} {y : AV} {i : Nat} {x : Vx}
   (hh : zen hp kv ke Kv Ke a b vs es) (h : Lies kv ke Kv Ke a b vs es) (hi : idxJ (isV n) vs 0 = (i : Int)) (hx : vs[i]? = some x) :
   inlF S (acall S) 1000039 [.agg (zce kv ke vs es last), .agg [.i .i64 6, .i .i64 n, .str s, y]] hp =
     some (.pt kv 0 i 2, (44800192, .live (bxB [.i .i64 6, .i .i64 n, .str s, y] 4)) :: (44800128, .live (bxB (zce kv ke vs es last) 3)) :: hp) := by
 obtain ⟨h1, h2, h3, h4, h5, h6⟩ := hh
 obtain ⟨h7, h8, h9, h10, h11, h12, h13, h14, h15, h16⟩ := h
 have c1 : ¬ kv = 44800128 := by omega
 have c2 : ¬ kv = 44800192 := by omega
 have c3 : ¬ ke = 44800128 := by omega
 have c4 : ¬ ke = 44800192 := by omega
 have c5 : 44800128 < Kv := by omega
 have c6 : 44800128 < Ke := by omega
 have ok : OkS (skOf a) 3 3 vs := by
   cases a with
   | false => exact OkS.open_ 3 _
   | true => rw [h15 rfl]; exact ⟨.inr rfl, fun _ => rfl⟩
 have ev := e41 n (.sl (skOf b) 5 (es.map Lk.c)) (.i .i64 last) ok h11 rfl rfl
 rw [hi] at ev
 have hi0 : decide ((0 : Int) ≤ (i : Int)) = true := decide_eq_true (by omega)
 rw [hi0] at ev
 have hlt := (List.getElem?_eq_some_iff.1 hx).1
 have b1 : (0 : Int) ≤ (i : Int) := by omega
 have b2 : (i : Int) < (vs.length : Int) := by omega
 refine W_eq (lkinl rfl rfl rfl ?_)
 unfold zce
 (repeat' (first | with_reducible refine zab ?_ | with_reducible refine ze8 ?_ | simp only [go_sem, J0, reduceIte, reduceCtorEq, Ja, Jb, Jc, Jd, Je, Jf, Jg, Jh, Ji, Jj, Jk, Jl, Jm, Jn, Jo, Jp, Jq, Jr, Js, a1000039, h1, h2, h3, h4, h5, h6, c1, c2, c3, c4, c5, c6, h9, h10, vBlk, eBlk, s41, zdv (ty := 45) (sz := 5), List.length_map, Nat.le_refl, zdo h13, zdl h14, ev, b1, b2, hlt, bxB, zcu]))
theorem zcc {hp : Hp} {kv ke Kv Ke : Nat} {a b : Bool} {vs : List Vx} {es : List Lk} {last n : Int} {s : List UInt8} {y : AV} {i : Nat} {x : Lk}
   (hh : zen hp kv ke Kv Ke a b vs es) (h : Lies kv ke Kv Ke a b vs es) (hi : idxJ (isE n) es 0 = (i : Int)) (hx : es[i]? = some x) :
   inlF S (acall S) 1000039 [.agg (zce kv ke vs es last), .agg [.i .i64 7, .i .i64 n, .str s, y]] hp =
     some (.pt ke 0 i 4, (44800192, .live (bxB [.i .i64 7, .i .i64 n, .str s, y] 4)) :: (44800128, .live (bxB (zce kv ke vs es last) 3)) :: hp) := by
 obtain ⟨h1, h2, h3, h4, h5, h6⟩ := hh
 obtain ⟨h7, h8, h9, h10, h11, h12, h13, h14, h15, h16⟩ := h
 have c1 : ¬ kv = 44800128 := by omega
 have c2 : ¬ kv = 44800192 := by omega
 have c3 : ¬ ke = 44800128 := by omega
 have c4 : ¬ ke = 44800192 := by omega
 have c5 : 44800128 < Kv := by omega
 have c6 : 44800128 < Ke := by omega
 have ok : OkS (skOf b) 5 5 es := by
   cases b with
   | false => exact OkS.open_ 5 _
   | true => rw [h16 rfl]; exact ⟨.inr rfl, fun _ => rfl⟩
 have ev := e71 n (.sl (skOf a) 3 (vs.map Vx.c)) (.i .i64 last) ok h12 rfl rfl
 rw [hi] at ev
 have hi0 : decide ((0 : Int) ≤ (i : Int)) = true := decide_eq_true (by omega)
 rw [hi0] at ev
 have hlt := (List.getElem?_eq_some_iff.1 hx).1
 have b1 : (0 : Int) ≤ (i : Int) := by omega
 have b2 : (i : Int) < (es.length : Int) := by omega
 refine W_eq (lkinl rfl rfl rfl ?_)
 unfold zce
 (repeat' (first | with_reducible refine zab ?_ | with_reducible refine ze8 ?_ | simp only [go_sem, J0, reduceIte, reduceCtorEq, Ja, Jb, Jc, Jd, Je, Jf, Jg, Jh, Ji, Jj, Jk, Jl, Jm, Jn, Jo, Jp, Jq, Jr, Js, a1000039, h1, h2, h3, h4, h5, h6, c1, c2, c3, c4, c5, c6, h9, h10, vBlk, eBlk, s71, zdv (ty := 45) (sz := 5), List.length_map, Nat.le_refl, zdo h13, zdl h14, ev, b1, b2, hlt, bxB, zcu]))
theorem zl2 {hp : Hp} {kv ke Kv Ke : Nat} {a b : Bool} {vs : List Vx} {es : List Lk} {last n kd : Int} {s : List UInt8} {y : AV}
   (hh : zen hp kv ke Kv Ke a b vs es) (h : Lies kv ke Kv Ke a b vs es) (h6 : kd = 6 → ¬ 0 ≤ idxJ (isV n) vs 0) (h7 : kd = 7 → ¬ 0 ≤ idxJ (isE n) es 0) :
   inlF S (acall S) 1000039 [.agg (zce kv ke vs es last), .agg [.i .i64 kd, .i .i64 n, .str s, y]] hp =
     some (.nilp, (44800192, .live (bxB [.i .i64 kd, .i .i64 n, .str s, y] 4)) :: (44800128, .live (bxB (zce kv ke vs es last) 3)) :: hp) := by
 obtain ⟨h1, h2, h3, h4, h5, h6'⟩ := hh
 obtain ⟨h7', h8, h9, h10, h11, h12, h13, h14, h15, h16⟩ := h
 have c1 : ¬ kv = 44800128 := by omega
 have c2 : ¬ kv = 44800192 := by omega
 have c3 : ¬ ke = 44800128 := by omega
 have c4 : ¬ ke = 44800192 := by omega
 have c5 : 44800128 < Kv := by omega
 have c6 : 44800128 < Ke := by omega
 have okv : OkS (skOf a) 3 3 vs := by
   cases a with
   | false => exact OkS.open_ 3 _
   | true => rw [h15 rfl]; exact ⟨.inr rfl, fun _ => rfl⟩
 have oke : OkS (skOf b) 5 5 es := by
   cases b with
   | false => exact OkS.open_ 5 _
   | true => rw [h16 rfl]; exact ⟨.inr rfl, fun _ => rfl⟩
 have ev := e41 n (.sl (skOf b) 5 (es.map Lk.c)) (.i .i64 last) okv h11 rfl rfl
 have ee := e71 n (.sl (skOf a) 3 (vs.map Vx.c)) (.i .i64 last) oke h12 rfl rfl
 refine W_eq (lkinl rfl rfl rfl ?_)
 unfold zce
 by_cases k6 : kd = 6
 · subst k6
   have hi0 : decide ((0 : Int) ≤ idxJ (isV n) vs 0) = false := decide_eq_false (h6 rfl)
   rw [hi0] at ev
   (repeat' (first | with_reducible refine zab ?_ | with_reducible refine ze8 ?_ | simp only [go_sem, J0, reduceIte, reduceCtorEq, Ja, Jb, Jc, Jd, Je, Jf, Jg, Jh, Ji, Jj, Jk, Jl, Jm, Jn, Jo, Jp, Jq, Jr, Js, a1000039, h1, h2, h3, h4, h5, h6', c1, c2, c3, c4, c5, c6, h9, h10, vBlk, eBlk, s41, zdv (ty := 45) (sz := 5), List.length_map, Nat.le_refl, zdo h13, zdl h14, ev, bxB, zcu]))
 · by_cases k7 : kd = 7
   · subst k7
     have hi0 : decide ((0 : Int) ≤ idxJ (isE n) es 0) = false := decide_eq_false (h7 rfl)
     rw [hi0] at ee
     (repeat' (first | with_reducible refine zab ?_ | with_reducible refine ze8 ?_ | simp only [go_sem, J0, reduceIte, reduceCtorEq, Ja, Jb, Jc, Jd, Je, Jf, Jg, Jh, Ji, Jj, Jk, Jl, Jm, Jn, Jo, Jp, Jq, Jr, Js, a1000039, h1, h2, h3, h4, h5, h6', c1, c2, c3, c4, c5, c6, h9, h10, vBlk, eBlk, s71, zdv (ty := 45) (sz := 5), List.length_map, Nat.le_refl, zdo h13, zdl h14, ee, bxB, zcu]))
   · (repeat' (first | with_reducible refine zab ?_ | with_reducible refine ze8 ?_ | simp only [go_sem, J0, reduceIte, reduceCtorEq, Ja, Jb, Jc, Jd, Je, Jf, Jg, Jh, Ji, Jj, Jk, Jl, Jm, Jn, Jo, Jp, Jq, Jr, Js, a1000039, h5, h6', k6, k7, bxB, zcu]))
end
section
def nameB (s : List UInt8) : Bool := !(decide (s = []) || decide ((24 : Int) < (s.length : Int)) || (decide ((48 : Int) ≤ ((s.headD 0).toNat : Int)) && decide (((s.headD 0).toNat : Int) ≤ 57))) && decide (Go.Lib.trimS s nameSet = [])
theorem e27 (s : List UInt8) (hs : s.length ≤ LIM) : acall S 27 [.str s] = some (.b (nameB s), []) := by
 have e1 : acall S 65 [.str s, .str nameSet] = some (.str (Go.Lib.trimS s nameSet), []) := by
   refine zei (p := zh6) rfl rfl ?_
   simp only [zh6, hs, and_self, zd3]
 simp only [nameSet] at e1
 refine W_eq (g27 rfl ?_)
 unfold nameB
 simp only [nameSet]
 cases s with
 | nil => (repeat' (first | with_reducible refine zab ?_ | simp only [go_sem, J0, reduceIte, reduceCtorEq, Ja, Jb, Jc, Jd, Je, Jf, Jg, Jh, Ji, Jj, Jk, Jl, Jm, Jn, Jo, Jp, Jq, Jr, Js, a27]))
 | cons c r =>
   cases h1 : decide ((24 : Int) < (((c :: r).length : Nat) : Int)) with
   | true =>
     simp only [List.length_cons] at h1
     (repeat' (first | with_reducible refine zab ?_ | simp only [go_sem, J0, reduceIte, reduceCtorEq, Ja, Jb, Jc, Jd, Je, Jf, Jg, Jh, Ji, Jj, Jk, Jl, Jm, Jn, Jo, Jp, Jq, Jr, Js, a27, h1]))
   | false =>
     simp only [List.length_cons] at h1
     cases h2 : decide ((48 : Int) ≤ (c.toNat : Int)) with
     | false =>
       have h2' := of_decide_eq_false h2
       (repeat' (first | with_reducible refine zab ?_ | simp only [go_sem, J0, reduceIte, reduceCtorEq, Ja, Jb, Jc, Jd, Je, Jf, Jg, Jh, Ji, Jj, Jk, Jl, Jm, Jn, Jo, Jp, Jq, Jr, Js, a27, h1, h2, s65, e1]))
       simp [h2']
       exact decide_eq_decide.2 Iff.rfl
     | true =>
       cases h3 : decide ((c.toNat : Int) ≤ 57) with
       | true =>
         have h2' := of_decide_eq_true h2
         have h3' := of_decide_eq_true h3
         (repeat' (first | with_reducible refine zab ?_ | simp only [go_sem, J0, reduceIte, reduceCtorEq, Ja, Jb, Jc, Jd, Je, Jf, Jg, Jh, Ji, Jj, Jk, Jl, Jm, Jn, Jo, Jp, Jq, Jr, Js, a27, h1, h2, h3, s65, e1]))
         simp [h2', h3']
       | false =>
         have h3' := of_decide_eq_false h3
         (repeat' (first | with_reducible refine zab ?_ | simp only [go_sem, J0, reduceIte, reduceCtorEq, Ja, Jb, Jc, Jd, Je, Jf, Jg, Jh, Ji, Jj, Jk, Jl, Jm, Jn, Jo, Jp, Jq, Jr, Js, a27, h1, h2, h3, s65, e1]))
         simp [h3']
         exact decide_eq_decide.2 Iff.rfl
end
end Go.Proofs.YtgeaibhgaihobaaGreatDoor
