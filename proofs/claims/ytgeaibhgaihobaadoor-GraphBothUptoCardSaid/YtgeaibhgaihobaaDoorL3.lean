/-
  GraphBoth: for every graph of bulk at most 1048576: true, and they read as they did.
-/
import Derived.Test.YtgeaibhgaihobaaDoorT1
import Derived.Test.YtgeaibhgaihobaaDoorG10
import Derived.Test.YtgeaibhgaihobaaDoorCards
import Derived.Test.YtgeaibhgaihobaaDoorTie
import Derived.WalkKit
import Derived.ProofKit
import Derived.OpenShut
import Derived.JoinedCond
import Derived.Deep.DeepHandedRow
import Derived.Lib.LaidTab
namespace Go.Proofs.YtgeaibhgaihobaaDoor
open Go.Abs
open Go.ChangeShapes Go.WideShapes Go.ChangeAt Go.RowKit
set_option linter.unusedVariables false
set_option maxRecDepth 100000

theorem graphBoth_ans (m : Nat) (ass : List (List AV)) (h : TyAll Tryd.prog m Tryd.f3.params.toList ass) (hb : bulkEs ass ≤ 1048576) : acall S 3 (argsOf Tryd.prog Tryd.f3.params.toList ass) = some (.b true, []) := by
  rw [Tryd.params3] at h ⊢
  match ass, h with
  | [cs], h =>
    obtain ⟨h1, _⟩ := h
    simp only [bulkEs] at hb
    obtain ⟨g, rfl, hg⟩ := ty_graph h1 (by omega)
    simp only [argsOf, argOf_graph]
    exact graphBoth_true g hg

/-! ### a world for the witness: the two tables as they are listed -/
mutual
def litCells : DataW Unit → List Value
  | .lit (.int k n) => [.int k n]
  | .agg parts => litCellsL parts
  | _ => []
def litCellsL : List (DataW Unit) → List Value
  | [] => []
  | d :: r => litCells d ++ litCellsL r
end
def witArgs : Array Value := #[.agg #[.slice none 0 0, .slice none 0 0, .int .i64 0]]
def layObj (d : DataW Unit) : Obj → Obj
  | .cells _ t frozen => .cells (litCells d).toArray t frozen
  | o => o
noncomputable def laidWorld (os : Os) : World :=
  { World.holding Tryd.prog os ⟨#[], #[], []⟩ with heap := ((World.holding Tryd.prog os ⟨#[], #[], []⟩).heap.modify 0 (layObj Rows.laid_unicode_utf8_first)).modify 1 (layObj Rows.laid_unicode_utf8_acceptRanges) }
theorem laid_met (os : Os) : laidMet Tryd.prog Rows.graphBothUptoRow.laid ((laidWorld os).forCall (fun _ _ => 0) ⟨#[], witArgs, []⟩).memory :=
  laidMet_of_run' 8 (by kernel_rfl) (by kernel_rfl)
theorem reads (os : Os) {H : Type} (enc : TypeId × Value → H) : ∃ places, DataW.whole enc Tryd.prog ((laidWorld os).forCall (fun _ _ => 0) ⟨#[], witArgs, []⟩).memory Tryd.f3.params.toList Rows.graphBothSpec.vars false witArgs.toList 8 = some ([.agg [.nil, .nil, .lit (.int .i64 0)]], [], places) :=
  ⟨[], by kernel_rfl⟩

theorem graphBoth_lifted (os : Os) (started : os.Started) (H : Type) (enc : TypeId × Value → H) (F : Stop.Interp) :
    ReturnsInHanded {} Tryd.checked os 3 .any ((Rows.OpenSpec.upto Rows.graphBothSpec).preRow enc Tryd.prog Tryd.f3 Rows.graphBothUptoRow.domain false Rows.graphBothUptoRow.laid) (((Rows.OpenSpec.upto Rows.graphBothSpec).at F).post enc Tryd.prog Tryd.f3 false true false false) := by
  obtain ⟨places, hx⟩ := reads os enc
  refine returnsInHanded_of_row (C := Tryd.checked) (s := Rows.OpenSpec.upto Rows.graphBothSpec) own started (by kernel_rfl) Tryd.func3
    (witness_row_at (enc := enc) (C := Tryd.checked) false (laidWorld os) witArgs rfl (by kernel_rfl) (by kernel_rfl) (by kernel_rfl)
      (OpenSpec.preRow_of_cond 8 hx (by kernel_rfl) (fun k hk => by cases hk; kernel_rfl) (by kernel_rfl) (laid_met os))) ?_
  intro W base args ds gs before hval hW _ hcond _ hL _ _
  have hk := hcond _ rfl
  exact law_contract (s := Rows.graphBothSpec) sysOk fine rfl rfl laid Tryd.underlying4 (by kernel_rfl) (by kernel_rfl) rfl
    (fun ds h => by match ds, h with | [d0], _ => rfl) (fun ds h => by match ds, h with | [d0], _ => rfl) (fun ds h => by match ds, h with | [d0], _ => rfl)
    graphBoth_ans hval hW (small_of hk)

theorem graphBoth_said : Rows.GraphBothUptoSaid :=
  OpenClaim.holds_of_cond 3 Tryd.f3 rfl rfl rfl rfl rfl rfl rfl ⟨rfl, rfl, rfl, rfl, rfl⟩ rfl rfl rfl rfl rfl (by kernel_rfl) Tryd.func3 (by kernel_rfl)
    (of_decide_eq_true (by kernel_rfl)) (by unfold Func.isWrapper; first | (rw [if_pos (by decide +kernel)]; kernel_rfl) | (rw [if_neg (by decide +kernel)]; exact ⟨rfl, rfl⟩))
    (fun os started H enc _ F => by rw [OpenClaim.pre_eq_preRow]; exact graphBoth_lifted os started H enc F)

theorem graphBoth_plain (f : FuncId) (fn : Func) (hf : Tryd.pinned.checked.prog.funcNamed "ramble/ramblelaw10.GraphBoth" = some f) (hfn : Tryd.pinned.checked.prog.funcs[f]? = some fn) :
    false = Tryd.pinned.checked.prog.looks [] ∧ ∀ (j : Nat) t, fn.params[j]? = some t → Tryd.pinned.checked.prog.wantsStandIn t = false := by
  obtain rfl : f = 3 := Option.some.inj ((show Tryd.prog.funcNamed "ramble/ramblelaw10.GraphBoth" = some 3 by kernel_rfl).symm.trans hf) |>.symm
  obtain rfl : fn = Tryd.f3 := (Option.some.inj (Tryd.func3.symm.trans hfn)).symm
  refine ⟨by kernel_rfl, fun j t ht => ?_⟩
  have hall : (Tryd.f3.params.toList.all fun t => Tryd.pinned.checked.prog.wantsStandIn t == false) = true := by kernel_rfl
  have := List.all_eq_true.1 hall t (by
    have := Array.mem_of_getElem? ht
    simpa using this)
  simpa using this

theorem graphBoth_card : Rows.GraphBothUptoCardSaid :=
  Claim7.holds_tied_plain_at .later [] _ _ _ _ graphBoth_said (fun _ h => by cases h) (by kernel_rfl) (fun _ h => by cases h) graphBothUpto_row_tie rfl ⟨rfl, rfl⟩ (by kernel_rfl) rfl graphBoth_plain (by kernel_rfl)
end Go.Proofs.YtgeaibhgaihobaaDoor
