/-
 GraphStays: for every graph of bulk at most 1048576: true, and they read as they did.
-/
import Derived.Test.YtgeaibhgaihobaaGreatDoorT1
import Derived.Test.YtgeaibhgaihobaaGreatDoorB4
import Derived.Test.YtgeaibhgaihobaaGreatDoorCards
import Derived.Test.YtgeaibhgaihobaaGreatDoorTie
import Derived.WalkKit
import Derived.ProofKit
import Derived.OpenShut
import Derived.JoinedCond
import Derived.Deep.DeepHandedRow
import Derived.Lib.LaidTab
namespace Go.Proofs.YtgeaibhgaihobaaGreatDoor
open Go.Abs
open Go.ChangeShapes Go.WideShapes Go.ChangeAt Go.RowKit
set_option maxRecDepth 100000
theorem zlc (m : Nat) (ass : List (List AV)) (h : zxb Tryz.prog m Tryz.f3.params.toList ass) (hb : zec ass ≤ 1048576) : acall S 3 (zgs Tryz.prog Tryz.f3.params.toList ass) = some (.b true, []) := by
 rw [Tryz.params3] at h ⊢
 match ass, h with
 | [a], h =>
   obtain ⟨h1, _⟩ := h
   simp only [zec] at hb
   obtain ⟨k, l, rfl, hl, hlo⟩ := z4s h1 (by omega)
   simp only [zgs, zs6]
   exact zr5 hl hlo
mutual
def zp1 : DataW Unit → List Value
 | .lit (.int k n) => [.int k n]
 | .agg parts => znv parts
 | _ => []
def znv : List (DataW Unit) → List Value
 | [] => []
 | d :: r => zp1 d ++ znv r
end
def witArgs : Array Value := #[.slice none 0 0]
def zyg (d : DataW Unit) : Obj → Obj
 | .cells _ t frozen => .cells (zp1 d).toArray t frozen
 | o => o
noncomputable def laidWorld (os : Os) : World :=
 { World.holding Tryz.prog os ⟨#[], #[], []⟩ with heap := ((World.holding Tryz.prog os ⟨#[], #[], []⟩).heap.modify 0 (zyg Rows.laid_unicode_utf8_first)).modify 1 (zyg Rows.laid_unicode_utf8_acceptRanges) }
theorem laid_met (os : Os) : laidMet Tryz.prog Rows.graphStaysUptoRow.laid ((laidWorld os).forCall (fun _ _ => 0) ⟨#[], witArgs, []⟩).memory :=
 laidMet_of_run' 8 (by kernel_rfl) (by kernel_rfl)
theorem reads (os : Os) {H : Type} (enc : TypeId × Value → H) : ∃ places, DataW.whole enc Tryz.prog ((laidWorld os).forCall (fun _ _ => 0) ⟨#[], witArgs, []⟩).memory Tryz.f3.params.toList Rows.graphStaysSpec.vars false witArgs.toList 8 = some ([.nil], [], places) :=
 ⟨[], by kernel_rfl⟩
theorem zih (os : Os) (started : os.Started) (H : Type) (enc : TypeId × Value → H) (F : Stop.Interp) :
   ReturnsInHanded {} Tryz.checked os 3 .any ((Rows.OpenSpec.upto Rows.graphStaysSpec).preRow enc Tryz.prog Tryz.f3 Rows.graphStaysUptoRow.domain false Rows.graphStaysUptoRow.laid) (((Rows.OpenSpec.upto Rows.graphStaysSpec).at F).post enc Tryz.prog Tryz.f3 false true false false) := by
 obtain ⟨places, hx⟩ := reads os enc
 refine returnsInHanded_of_row (C := Tryz.checked) (s := Rows.OpenSpec.upto Rows.graphStaysSpec) own started (by kernel_rfl) Tryz.func3
   (witness_row_at (enc := enc) (C := Tryz.checked) false (laidWorld os) witArgs rfl (by kernel_rfl) (by kernel_rfl) (by kernel_rfl)
     (OpenSpec.preRow_of_cond 8 hx (by kernel_rfl) (fun k hk => by cases hk; kernel_rfl) (by kernel_rfl) (laid_met os))) ?_
 intro W base args ds gs before hval hW _ hcond _ hL _ _
 have hk := hcond _ rfl
 exact zn8 (s := Rows.graphStaysSpec) sysOk fine rfl rfl laid Tryz.underlying4 (by kernel_rfl) (by kernel_rfl) rfl
   (fun ds h => by match ds, h with | [d0], _ => rfl) (fun ds h => by match ds, h with | [d0], _ => rfl) (fun ds h => by match ds, h with | [d0], _ => rfl)
   zlc hval hW (zwb hk)
theorem zjq : Rows.GraphStaysUptoSaid :=
 OpenClaim.holds_of_cond 3 Tryz.f3 rfl rfl rfl rfl rfl rfl rfl ⟨rfl, rfl, rfl, rfl, rfl⟩ rfl rfl rfl rfl rfl (by kernel_rfl) Tryz.func3 (by kernel_rfl)
   (of_decide_eq_true (by kernel_rfl)) (by unfold Func.isWrapper; first | (rw [if_pos (by decide +kernel)]; kernel_rfl) | (rw [if_neg (by decide +kernel)]; exact ⟨rfl, rfl⟩))
   (fun os started H enc _ F => by rw [OpenClaim.pre_eq_preRow]; exact zih os started H enc F)
theorem zjc (f : FuncId) (fn : Func) (hf : Tryz.pinned.checked.prog.funcNamed "ramble/ramblelaw10.GraphStays" = some f) (hfn : Tryz.pinned.checked.prog.funcs[f]? = some fn) :
   false = Tryz.pinned.checked.prog.looks [] ∧ ∀ (j : Nat) t, fn.params[j]? = some t → Tryz.pinned.checked.prog.wantsStandIn t = false := by
 obtain rfl : f = 3 := Option.some.inj ((show Tryz.prog.funcNamed "ramble/ramblelaw10.GraphStays" = some 3 by kernel_rfl).symm.trans hf) |>.symm
 obtain rfl : fn = Tryz.f3 := (Option.some.inj (Tryz.func3.symm.trans hfn)).symm
 refine ⟨by kernel_rfl, fun j t ht => ?_⟩
 have hall : (Tryz.f3.params.toList.all fun t => Tryz.pinned.checked.prog.wantsStandIn t == false) = true := by kernel_rfl
 have := List.all_eq_true.1 hall t (by
   have := Array.mem_of_getElem? ht
   simpa using this)
 simpa using this
theorem graphStays_card : Rows.GraphStaysUptoCardSaid :=
 Claim7.holds_tied_plain_at .later [] _ _ _ _ zjq (fun _ h => by cases h) (by kernel_rfl) (fun _ h => by cases h) graphStaysUpto_row_tie rfl ⟨rfl, rfl⟩ (by kernel_rfl) rfl zjc (by kernel_rfl)
end Go.Proofs.YtgeaibhgaihobaaGreatDoor
