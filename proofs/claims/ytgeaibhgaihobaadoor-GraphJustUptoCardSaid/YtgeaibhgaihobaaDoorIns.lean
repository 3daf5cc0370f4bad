import Derived.Test.YtgeaibhgaihobaaDoorFd
import Derived.Test.YtgeaibhgaihobaaDoorProg
import Derived.Shelf.Spec.SlicesInsertGrow
import Derived.KernelRfl
set_option linter.unusedVariables false
set_option linter.unusedSimpArgs false
set_option maxRecDepth 100000
set_option maxHeartbeats 4000000
namespace Go.Proofs.YtgeaibhgaihobaaDoor
open Go.Shelf Go.RowKit Go.Lib Go.Proofs Go.Abs
theorem z73 : (Tryd.prog.info? 73).map (fun i => (i.size, i.bytes)) = some (5, 72) := by kernel_rfl
theorem inf73 : ∃ i, Tryd.prog.info? 73 = some i ∧ i.size = 5 ∧ i.bytes = 72 := by
  have h := z73
  cases hi : Tryd.prog.info? 73 with
  | none => rw [hi] at h; cases h
  | some i =>
    rw [hi] at h
    simp only [Option.map_some, Option.some.injEq, Prod.mk.injEq] at h
    exact ⟨i, rfl, h.1, h.2⟩
theorem nt37 : Tryd.f37.ntmps = 95 := by kernel_rfl
theorem mx : Tryd.prog.follows .mixedOrders = true := by kernel_rfl
theorem zr73 : (zeroOf Tryd.prog 73).map (·.length) = some 5 := by kernel_rfl
theorem zero73 {i0 : TypeInfo} (hinf : Tryd.prog.info? 73 = some i0) : ∃ z, i0.zero = some z ∧ z.cells.size = 5 := by
  have h := zr73
  cases hz : zeroOf Tryd.prog 73 with
  | none => rw [hz] at h; cases h
  | some zs =>
    rw [hz] at h
    obtain ⟨i, zv, h1, h2, h3, _⟩ := zeroOf_run hz
    rw [hinf] at h1
    obtain rfl := Option.some.inj h1
    refine ⟨zv, h2, ?_⟩
    have := (h3 (Env.imm default fun _ => False)).length
    rw [← Array.length_toList, this]
    simpa using h
theorem ins_grow (b n c i vb m vc : Nat) (cs vs : List Value) (w : World) (hi : i < n) (hm : 0 < m) (hnc : n ≤ c) (hroom : c < n + m) (hbig : (n + m) * 72 ≤ 140737488355328)
    (hcl : cs.length = n * 5) (hvl : vs.length = m * 5)
    (hcs : ∀ j v, cs[j]? = some v → w.cell? ⟨b, j, none⟩ = some v)
    (hvs : ∀ j v, vs[j]? = some v → w.cell? ⟨vb, j, none⟩ = some v) (h1c : ∀ v ∈ cs, v.oneCell' = true) (h1v : ∀ v ∈ vs, v.oneCell' = true) {z : Value} {i0 : TypeInfo} (hinf : Tryd.prog.info? 73 = some i0) (hz0 : i0.zero = some z) (hzs : z.cells.size = 5) :
    Calls Tryd.prog 37 #[.slice (some ⟨b, 0, none⟩) n c, .int .i64 i, .slice (some ⟨vb, 0, none⟩) m vc] w fun e w' =>
      e = .returned (.slice (some ⟨w.heap.size, 0, none⟩) (n + m) (grownCap w (n + m) c 73)) ∧
      w' = (((w.alloc (.cells ((cs.take (i * 5)).toArray ++ Builtin.zeroCells z.cells (n + m - i) ++ Builtin.zeroCells z.cells (grownCap w (n + m) c 73 - (n + m))) 73)).drew.setCells w.heap.size (i * 5) vs).drew).setCells w.heap.size ((i + m) * 5) (cs.drop (i * 5)) := by
  obtain ⟨i1, hinf1, hsz, hby⟩ := inf73
  rw [hinf] at hinf1
  obtain rfl := Option.some.inj hinf1
  have u29 := run_underlying Tryd.underlying29
  have u3 := run_underlying Tryd.underlying3
  have u4 := run_underlying Tryd.underlying4
  have z73 : ∀ w, (Go.sizeOf 73).run Tryd.prog w = .ok 5 w := fun w => by simp [Go.sizeOf, typeInfo, hinf, hsz]
  have mixed := mx
  have hz1 : ¬ ((m : Int) = 0) := by omega
  have hz2 : ¬ ((i : Int) = (n : Int)) := by omega
  have hz3 : (c : Int) < (n : Int) + (m : Int) := by omega
  have hbw : b < w.heap.size := block_lt_of_cell (hcs 0 _ (List.getElem?_eq_getElem (by omega)))
  have hvw : vb < w.heap.size := block_lt_of_cell (hvs 0 _ (List.getElem?_eq_getElem (by omega)))
  have hkk : (n : Int) + (m : Int) - (i : Int) = ((n + m - i : Nat) : Int) := by omega
  have hik : i + (n + m - i) = n + m := by omega
  have hi5 : i * 5 ≤ n * 5 := Nat.mul_le_mul_right _ (by omega)
  have hold : (Builtin.firstCells i0.size i (.slice (some ⟨b, 0, none⟩) i c)).run Tryd.prog w.drew = .ok (cs.take (i * 5)).toArray w.drew := by
    rw [hsz]
    exact run_firstCells_some w.drew 5 i ⟨b, 0, none⟩ i c (cs.take (i * 5)) (by rw [List.length_take]; omega) (fun j v hj => by
      rw [Addr.add_lit, Nat.zero_add]
      rw [List.getElem?_take] at hj
      split at hj
      · exact hcs j v hj
      · cases hj)
  have hrz : ∀ ty, (Builtin.append_ #[29, 3] ty #[.slice (some ⟨b, 0, none⟩) i c, .int .i64 ((n : Int) + (m : Int) - (i : Int))]).run Tryd.prog w =
      .ok (.slice (some ⟨w.heap.size, 0, none⟩) (n + m) (grownCap w (n + m) c 73)) (w.drew.alloc (.cells ((cs.take (i * 5)).toArray ++ Builtin.zeroCells z.cells (n + m - i) ++ Builtin.zeroCells z.cells (grownCap w (n + m) c 73 - (n + m))) 73)) := fun ty => by
    have h := Lib.run_append_grow_zeros w 29 3 ty 73 i0 z .i64 .i64 Tryd.underlying29 Tryd.underlying3 hinf hz0 (some ⟨b, 0, none⟩) i c (cs.take (i * 5)) hold (n + m - i) (by omega) (by omega) (by omega) (by omega) (by rw [hby]; omega) (by rw [hby, hik]; exact growslice_fits hroom hbig)
    rw [hik] at h
    rw [hkk]
    exact h
  obtain ⟨G, hG⟩ : ∃ G, G = grownCap w (n + m) c 73 := ⟨_, rfl⟩
  obtain ⟨ROW, hROW⟩ : ∃ ROW : Array Value, ROW = (cs.take (i * 5)).toArray ++ Builtin.zeroCells z.cells (n + m - i) ++ Builtin.zeroCells z.cells (G - (n + m)) := ⟨_, rfl⟩
  rw [← hG] at hrz ⊢
  rw [← hROW] at hrz ⊢
  have hRl : (n + m) * 5 ≤ ROW.size := by
    rw [hROW]
    simp only [Array.size_append, List.size_toArray, size_zeroCells, hzs, List.length_take, hcl]
    omega
  obtain ⟨W1, hW1⟩ : ∃ W1, W1 = w.drew.alloc (.cells ROW 73) := ⟨_, rfl⟩
  rw [← hW1] at hrz
  have hN : ∀ j, j < (n + m) * 5 → (W1.cell? ⟨w.heap.size, j, none⟩).isSome = true := fun j hj => by
    rw [hW1, World.cell?_alloc_at (w := w.drew) ROW _ w.heap.size j rfl, Array.getElem?_eq_getElem (by omega)]; rfl
  have hNf : ∀ j, W1.frozen? ⟨w.heap.size, j, none⟩ = false := fun j => by rw [hW1]; exact World.frozen?_alloc_at (w := w.drew) ROW _ w.heap.size j rfl
  have hOb : ∀ j v, w.cell? ⟨b, j, none⟩ = some v → W1.cell? ⟨b, j, none⟩ = some v := fun j v h => by rw [hW1, World.cell?_alloc_past (w := w.drew) _ b j hbw]; exact h
  have hOv : ∀ j v, w.cell? ⟨vb, j, none⟩ = some v → W1.cell? ⟨vb, j, none⟩ = some v := fun j v h => by rw [hW1, World.cell?_alloc_past (w := w.drew) _ vb j hvw]; exact h
  have hmin2 : Nat.min m (n + m - i) = m := by simp only [Nat.min_def]; split <;> omega
  have hmin1 : Nat.min (n - i) (n + m - (i + m)) = n - i := by simp only [Nat.min_def]; split <;> omega
  have hdl : (cs.drop (i * 5)).length = (n - i) * 5 := by rw [List.length_drop, hcl, Nat.sub_mul]
  have him : (i + m) * 5 + (n - i) * 5 = (n + m) * 5 := by rw [← Nat.add_mul]; congr 1; omega
  have him2 : i * 5 + m * 5 ≤ (n + m) * 5 := by rw [← Nat.add_mul]; exact Nat.mul_le_mul_right _ (by omega)
  have hcpA : ∀ (W : World), (∀ x, W.cell? x = W1.cell? x) → (∀ x, W.frozen? x = W1.frozen? x) → ∀ ty dc, (Builtin.copy_ #[29, 29] ty #[.slice (some ⟨w.heap.size, i * 5, none⟩) (n + m - i) dc, .slice (some ⟨vb, 0, none⟩) m vc]).run Tryd.prog W = .ok (goInt (m : Nat)) (W.setCells w.heap.size (i * 5) vs) := fun W hWc hWf ty dc => by
    have := run_copy_cellsN W 29 29 ty 73 w.heap.size (i * 5) (n + m - i) dc ⟨vb, 0, none⟩ m vc vs Tryd.underlying29 hinf (by rw [hmin2, hvl, hsz])
      (fun j v hj => by rw [Addr.add_lit, hWc, Nat.zero_add]; exact hOv _ v (hvs j v hj))
      (fun j hj => by rw [hWc]; exact hN _ (by omega)) (fun j hj => by rw [hWf]; exact hNf _) h1v
    rw [hmin2] at this
    exact this
  have hGn : n + m ≤ G := by rw [hG]; exact grownCap_ge w _ _ _
  have hG63 : G ≤ 9223372036854775807 := by
    have := grownCap_le_maxLen w (n + m) c 73 (by unfold maxLen; omega)
    rw [← hG] at this
    unfold maxLen at this
    omega
  have hGi : ¬ (G = i) := by omega
  have hGim : ¬ (G = i + m) := by omega
  have hci : ¬ (c = i) := by omega
  have hbN : b ≠ w.heap.size := by omega
  have hcpB : ∀ (W : World), (∀ x, W.cell? x = (W1.setCells w.heap.size (i * 5) vs).cell? x) → (∀ x, W.frozen? x = (W1.setCells w.heap.size (i * 5) vs).frozen? x) → ∀ ty dc sc, (Builtin.copy_ #[29, 29] ty #[.slice (some ⟨w.heap.size, (i + m) * 5, none⟩) (n + m - (i + m)) dc, .slice (some ⟨b, i * 5, none⟩) (n - i) sc]).run Tryd.prog W = .ok (goInt (n - i : Nat)) (W.setCells w.heap.size ((i + m) * 5) (cs.drop (i * 5))) := fun W hWc hWf ty dc sc => by
    have := run_copy_cellsN W 29 29 ty 73 w.heap.size ((i + m) * 5) (n + m - (i + m)) dc ⟨b, i * 5, none⟩ (n - i) sc (cs.drop (i * 5)) Tryd.underlying29 hinf (by rw [hmin1, hdl, hsz])
      (fun j v hj => by
        rw [Addr.add_lit, hWc, World.cell?_setCells_out _ _ _ _ _ (fun h _ => absurd h hbN)]
        exact hOb _ v (hcs (i * 5 + j) v (by rwa [List.getElem?_drop] at hj)))
      (fun j hj => by rw [hWc]; exact isSome_setCells w.heap.size vs (i * 5) W1 (fun t ht => hN _ (by omega)) _ (hN _ (by omega)))
      (fun j hj => by rw [hWf, World.frozen?_setCells]; exact hNf _) (fun v hv => h1c v (List.mem_of_mem_drop hv))
    rw [hmin1] at this
    exact this
  subst hW1
  have hE1 : ∀ x, ((w.alloc (.cells ROW 73)).drew).cell? x = (w.drew.alloc (.cells ROW 73)).cell? x := fun x => rfl
  have hE2 : ∀ x, ((w.alloc (.cells ROW 73)).drew).frozen? x = (w.drew.alloc (.cells ROW 73)).frozen? x := fun x => rfl
  have hF1 : ∀ x, (((w.alloc (.cells ROW 73)).drew.setCells w.heap.size (i * 5) vs).drew).cell? x = ((w.drew.alloc (.cells ROW 73)).setCells w.heap.size (i * 5) vs).cell? x := fun x => rfl
  have hF2 : ∀ x, (((w.alloc (.cells ROW 73)).drew.setCells w.heap.size (i * 5) vs).drew).frozen? x = ((w.drew.alloc (.cells ROW 73)).setCells w.heap.size (i * 5) vs).frozen? x := fun x => rfl
  have hw1 : IntKind.i64.wrap ((i : Int) + (m : Int)) = (i : Int) + (m : Int) := by rw [IntKind.wrap_i64]; omega
  have hw2 : IntKind.i64.wrap ((n : Int) + (m : Int)) = (n : Int) + (m : Int) := by rw [IntKind.wrap_i64]; omega
  have hw3 : IntKind.i64.wrap ((n : Int) + (m : Int) - (i : Int)) = (n : Int) + (m : Int) - (i : Int) := by rw [IntKind.wrap_i64]; omega
  have hb1 : (0 : Int) ≤ (i : Int) + (m : Int) := by omega
  have hin : i ≤ n := by omega
  have htn : ((i : Int) + (m : Int)).toNat = i + m := by omega
  have hb3 : (i : Int) ≤ (n : Int) := by omega
  clear hkk hik hold hROW hG hRl
  go_enter Tryd.func37, nt37
  go_wp2_with (first
    | (at_builtin; refine Lib.wpList_append_run _ rfl _ _ _ _ rfl _ _ rfl rfl _ _ (hrz _) ?_)
    | (at_builtin; refine wpList_copy_runI _ rfl _ _ 29 29 rfl _ _ rfl rfl (hcpA _ hE1 hE2 _ _) ?_)
    | (at_builtin; refine wpList_copy_runI _ rfl _ _ 29 29 rfl _ _ rfl rfl (hcpB _ (fun _ => rfl) (fun _ => rfl) _ _ _) ?_))
  go_region_law_o (refine step_copy_runI rfl _ _ 29 29 rfl (.slice (some ⟨w.heap.size, (i + m) * 5, none⟩) (n + m - (i + m)) (G - (i + m))) (.slice (some ⟨b, i * 5, none⟩) (n - i) (c - i)) (by simp [Act.eval, Act.put]) (by simp [Act.eval, Act.put]) (hcpB _ hF1 hF2 3 (G - (i + m)) (c - i)) ?_)
  go_wp2
  go_ret
  exact ⟨rfl, rfl⟩
theorem ins_shift (b n c i vb m vc : Nat) (cs vs : List Value) (w : World) (hi : i < n) (hm : 0 < m) (hroom : n + m ≤ c) (hnm63 : n + m ≤ 9223372036854775807) (hvb : vb ≠ b)
    (hcl : cs.length = n * 5) (hvl : vs.length = m * 5)
    (hcs : ∀ j v, cs[j]? = some v → w.cell? ⟨b, j, none⟩ = some v) (hsp : ∀ j, j < (n + m) * 5 → (w.cell? ⟨b, j, none⟩).isSome = true) (hfz : ∀ j, j < (n + m) * 5 → w.frozen? ⟨b, j, none⟩ = false)
    (hvs : ∀ j v, vs[j]? = some v → w.cell? ⟨vb, j, none⟩ = some v) (h1c : ∀ v ∈ cs, v.oneCell' = true) (h1v : ∀ v ∈ vs, v.oneCell' = true)
    (tA tB : TypeId) (kA kB : Nat) (hsa : w.shape? vb = some (tA, kA)) (hsb : w.shape? b = some (tB, kB)) (hkB : kB ≠ 0) (hfa : w.frozen? ⟨vb, 0, none⟩ = false) (hfe : w.frozen? ⟨vb, kA, none⟩ = false) :
    Calls Tryd.prog 37 #[.slice (some ⟨b, 0, none⟩) n c, .int .i64 i, .slice (some ⟨vb, 0, none⟩) m vc] w fun e w' =>
      e = .returned (.slice (some ⟨b, 0, none⟩) (n + m) c) ∧ w' = (w.drew.setCells b ((i + m) * 5) (cs.drop (i * 5))).setCells b (i * 5) vs := by
  obtain ⟨i0, hinf, hsz, hby⟩ := inf73
  have u29 := run_underlying Tryd.underlying29
  have u3 := run_underlying Tryd.underlying3
  have u4 := run_underlying Tryd.underlying4
  have z73 : ∀ w, (Go.sizeOf 73).run Tryd.prog w = .ok 5 w := fun w => by simp [Go.sizeOf, typeInfo, hinf, hsz]
  have hz1 : ¬ ((m : Int) = 0) := by omega
  have hz2 : ¬ ((i : Int) = (n : Int)) := by omega
  have mixed := mx
  have hw1 : IntKind.i64.wrap ((i : Int) + (m : Int)) = (i : Int) + (m : Int) := by rw [IntKind.wrap_i64]; omega
  have hw2 : IntKind.i64.wrap ((n : Int) + (m : Int)) = (n : Int) + (m : Int) := by rw [IntKind.wrap_i64]; omega
  have hb1 : (0 : Int) ≤ (i : Int) + (m : Int) := by omega
  have hin : i ≤ n := by omega
  have htn : ((i : Int) + (m : Int)).toNat = i + m := by omega
  have hb2 : ¬ (c = i + m) := by omega
  have hb3 : (i : Int) ≤ (n : Int) + (m : Int) := by omega
  have hb4 : ¬ (c = i) := by omega
  have hov : ∀ lb cb, (callFunc 58 #[.slice (some ⟨vb, 0, none⟩) m vc, .slice (some ⟨b, (i + m) * 5, none⟩) lb cb]).run Tryd.prog w = .ok (.value (.bool false)) w := fun lb cb => by
    rw [run_callFunc_extern Tryd.func58 (by kernel_rfl) (by kernel_rfl) (by kernel_rfl) (e := Extern.SlicesOverlaps.overlaps #[29, 29] #[4]) (by kernel_rfl),
      Lib.run_overlaps_apart w 29 4 73 Tryd.underlying29 5 z73 ⟨vb, 0, none⟩ ⟨b, (i + m) * 5, none⟩ m vc lb cb hvb tA tB kA kB hsa hsb hkB hfa hfe]
    rfl
  have hdl : (cs.drop (i * 5)).length = (n - i) * 5 := by rw [List.length_drop, hcl, Nat.sub_mul]
  have him : (i + m) * 5 + (n - i) * 5 = (n + m) * 5 := by rw [← Nat.add_mul]; congr 1; omega
  have him2 : i * 5 + m * 5 ≤ (n + m) * 5 := by rw [← Nat.add_mul]; exact Nat.mul_le_mul_right _ (by omega)
  have hmin1 : Nat.min (n + m - i) (n + m - (i + m)) = n - i := by simp only [Nat.min_def]; split <;> omega
  have hmin2 : Nat.min m (n + m - i) = m := by simp only [Nat.min_def]; split <;> omega
  have hcp1 : ∀ ty dc sc, (Builtin.copy_ #[29, 29] ty #[.slice (some ⟨b, (i + m) * 5, none⟩) (n + m - (i + m)) dc, .slice (some ⟨b, i * 5, none⟩) (n + m - i) sc]).run Tryd.prog w.drew = .ok (goInt (n - i : Nat)) (w.drew.setCells b ((i + m) * 5) (cs.drop (i * 5))) := fun ty dc sc => by
    have := run_copy_cellsN w.drew 29 29 ty 73 b ((i + m) * 5) (n + m - (i + m)) dc ⟨b, i * 5, none⟩ (n + m - i) sc (cs.drop (i * 5)) Tryd.underlying29 hinf (by rw [hmin1, hdl, hsz])
      (fun j v hj => by rw [Addr.add_lit]; exact hcs (i * 5 + j) v (by rwa [List.getElem?_drop] at hj))
      (fun j hj => hsp _ (by omega)) (fun j hj => hfz _ (by omega)) (fun v hv => h1c v (List.mem_of_mem_drop hv))
    rw [hmin1] at this
    exact this
  obtain ⟨W1, hW1⟩ : ∃ W1, W1 = w.drew.setCells b ((i + m) * 5) (cs.drop (i * 5)) := ⟨_, rfl⟩
  have hsp1 : ∀ k, k < (n + m) * 5 → (W1.cell? ⟨b, k, none⟩).isSome = true := fun k hk => by
    rw [hW1]
    exact isSome_setCells b (cs.drop (i * 5)) ((i + m) * 5) w.drew (fun j hj => hsp _ (by omega)) k (hsp k hk)
  have hcp2 : ∀ (W : World), (∀ x, W.cell? x = W1.cell? x) → (∀ x, W.frozen? x = W1.frozen? x) → ∀ ty dc, (Builtin.copy_ #[29, 29] ty #[.slice (some ⟨b, i * 5, none⟩) (n + m - i) dc, .slice (some ⟨vb, 0, none⟩) m vc]).run Tryd.prog W = .ok (goInt (m : Nat)) (W.setCells b (i * 5) vs) := fun W hWc hWf ty dc => by
    have := run_copy_cellsN W 29 29 ty 73 b (i * 5) (n + m - i) dc ⟨vb, 0, none⟩ m vc vs Tryd.underlying29 hinf (by rw [hmin2, hvl, hsz])
      (fun j v hj => by
        rw [Addr.add_lit, hWc, hW1, World.cell?_setCells_out b _ _ _ _ (fun h _ => absurd h hvb), Nat.zero_add]
        exact hvs j v hj)
      (fun j hj => by rw [hWc]; exact hsp1 _ (by omega)) (fun j hj => by rw [hWf, hW1, World.frozen?_setCells]; exact hfz _ (by omega)) h1v
    rw [hmin2] at this
    exact this
  rw [← hW1] at hcp1
  go_enter Tryd.func37, nt37
  go_wp2_with (simp only [hov])
  go_region_law_o (refine step_copy_runI rfl _ _ 29 29 rfl _ _ (by simp [Act.eval, Act.put]) (by simp [Act.eval, Act.put]) (hcp1 _ _ _) ?_)
  go_wp2_with (at_builtin; refine wpList_copy_runI _ rfl _ _ 29 29 rfl _ _ rfl rfl (hcp2 _ (fun _ => rfl) (fun _ => rfl) _ _) ?_)
  go_ret
  first | exact ⟨rfl, rfl⟩ | exact ⟨rfl, by rw [hW1]⟩
theorem insert_mid {nl nl2 : Bool} {es ys : List (List AV)} {i : Nat} (hi : i < es.length) (hm : 0 < ys.length) (hb : es.length + ys.length ≤ 1099511627776) :
    Owes Tryd.prog 37 [.give (.row 73 5), .borrow, .give (.row 73 5)] [.ow 73 5 nl es, .i .i64 (i : Int), .ow 73 5 nl2 ys] (.ow 73 5 false (es.take i ++ ys ++ es.drop i), []) := by
  intro w Z vs F hz hr hnd hZ
  simp only [RepPs, RepP, Rep] at hr
  obtain ⟨v0, vs1, F1, Fr1, rfl, rfl, h0, v1, vs2, F2, Fr2, rfl, rfl, ⟨rfl, rfl⟩, v2, vs3, F3, F4, rfl, rfl, h2, rfl, rfl⟩ := hr
  obtain ⟨A, c, rfl, _, _, f1, o1, _, q1⟩ := h0
  obtain ⟨gb, arr, cs, rest, rfl, rfl, g1, l1, r1, hnc, hs1⟩ := q1 (fun e => by rw [e] at hi; simp at hi)
  obtain ⟨B, vc, rfl, _, _, f2, o2, _, q2⟩ := h2
  obtain ⟨vb, arr2, us, rest2, rfl, rfl, g2, l2, r2, hmc, hs2⟩ := q2 (fun e => by rw [e] at hm; simp at hm)
  simp only [List.nil_append, List.append_nil, List.singleton_append] at hnd hZ r1 r2 ⊢
  have hne : vb ≠ gb := fun e => by subst e; simp at hnd
  have hZg : ¬ Z gb := hZ gb (by simp)
  have hcl := r1.length
  have hul := r2.length
  have c1 : ∀ j v, cs[j]? = some v → w.cell? ⟨gb, j, none⟩ = some v := fun j v hj => by
    have hlt := (List.getElem?_eq_some_iff.1 hj).1
    rw [cell_of_row w gb j arr 73 _ g1, ← Array.getElem?_toList, l1, List.getElem?_append_left hlt]
    exact hj
  have c2 : ∀ j v, us[j]? = some v → w.cell? ⟨vb, j, none⟩ = some v := fun j v hj => by
    have hlt := (List.getElem?_eq_some_iff.1 hj).1
    rw [cell_of_row w vb j arr2 73 _ g2, ← Array.getElem?_toList, l2, List.getElem?_append_left hlt]
    exact hj
  have k1 := RepEs.oneCell o1 r1
  have k2 := RepEs.oneCell o2 r2
  by_cases hroom : c < es.length + ys.length
  · obtain ⟨i0, hinf, hsz, hby⟩ := inf73
    obtain ⟨z, hz0, hzs⟩ := zero73 hinf
    refine Calls.mono (ins_grow gb es.length c i vb ys.length vc cs us w hi hm hnc hroom (by omega) hcl hul c1 c2 k1 k2 hinf hz0 hzs) fun e w' he => ?_
    obtain ⟨rfl, rfl⟩ := he
    exact ⟨_, ins_grow_brings hz hzs r1 f1 o1 rfl r2 f2 o2 rfl (grownCap_ge w _ _ _) (Nat.le_of_lt hi) hm⟩
  · have hsa : w.shape? vb = some (73, arr2.size) := by simp [World.shape?, g2]
    have hsb : w.shape? gb = some (73, arr.size) := by simp [World.shape?, g1]
    have hnm : (es.length + ys.length) * 5 ≤ c * 5 := Nat.mul_le_mul_right _ (by omega)
    refine Calls.mono (ins_shift gb es.length c i vb ys.length vc cs us w hi hm (by omega) (by omega) hne hcl hul c1 (fun j hj => by
      rw [cell_of_row w gb j arr 73 _ g1, Array.getElem?_eq_getElem (by omega)]; rfl) (fun j hj => by simp [World.frozen?, g1]) c2 k1 k2 73 73 arr2.size arr.size hsa hsb (by omega) (by simp [World.frozen?, g2]) (by simp [World.frozen?, g2])) fun e w' he => ?_
    obtain ⟨rfl, rfl⟩ := he
    exact ⟨_, ins_place_brings hZg g1 l1 r1 f1 o1 rfl r2 f2 o2 rfl (by omega) hs1 (Nat.le_of_lt hi) hm⟩
end Go.Proofs.YtgeaibhgaihobaaDoor
