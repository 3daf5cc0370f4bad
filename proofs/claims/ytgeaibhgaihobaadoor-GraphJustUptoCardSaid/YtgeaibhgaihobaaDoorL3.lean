import Derived.Test.YtgeaibhgaihobaaDoorT1
import Derived.Test.YtgeaibhgaihobaaDoorK3
import Derived.Test.YtgeaibhgaihobaaDoorCards
import Derived.Test.YtgeaibhgaihobaaDoorTie
import Derived.WalkKit
import Derived.ProofKit
import Derived.OpenShut
import Derived.JoinedCond
import Derived.Deep.DeepHandedRow
import Derived.Lib.LaidTab
namespace Go.Proofs.YtgeaibhgaihobaaDoor
open Go.Abs
open Go.ChangeShapes Go.WideShapes Go.ChangeAt Go.RowKit
set_option linter.unusedVariables false
set_option maxRecDepth 100000
theorem graphJust_ans (m : Nat) (ass : List (List AV)) (h : TyAll Tryd.prog m Tryd.f4.params.toList ass) (hb : bulkEs ass ≤ 1048576) : acall S 4 (argsOf Tryd.prog Tryd.f4.params.toList ass) = some (.b true, []) := by
  rw [Tryd.params4] at h ⊢
  match ass, h with
  | [a, b, c, d], h =>
    obtain ⟨h1, h2, h3, h4, _⟩ := h
    simp only [bulkEs] at hb
    obtain ⟨g, rfl, hg⟩ := ty_graph h1 (by omega)
    obtain ⟨ec, rfl, _⟩ := ty_val _ _ h2 (by omega)
    obtain ⟨s, rfl⟩ := h3.str Tryd.underlying9
    obtain ⟨v, rfl, hv⟩ := ty_val _ _ h4 (by omega)
    simp only [bulkAs, bulkA] at hb
    simp only [argsOf, argOf_graph, argOf_val, argOf_str]
    exact just_true hg hv (by omega)
mutual
def litCells : DataW Unit → List Value
  | .lit (.int k n) => [.int k n]
  | .agg parts => litCellsL parts
  | _ => []
def litCellsL : List (DataW Unit) → List Value
  | [] => []
  | d :: r => litCells d ++ litCellsL r
end
def witArgs : Array Value := #[.agg #[.slice none 0 0, .slice none 0 0, .int .i64 0], .agg #[.int .i64 0, .int .i64 0, .string ⟨#[]⟩, .slice none 0 0], .string ⟨#[]⟩, .agg #[.int .i64 0, .int .i64 0, .string ⟨#[]⟩, .slice none 0 0]]
def layObj (d : DataW Unit) : Obj → Obj
  | .cells _ t frozen => .cells (litCells d).toArray t frozen
  | o => o
noncomputable def laidWorld (os : Os) : World :=
  { World.holding Tryd.prog os ⟨#[], #[], []⟩ with heap := ((World.holding Tryd.prog os ⟨#[], #[], []⟩).heap.modify 0 (layObj Rows.laid_unicode_utf8_first)).modify 1 (layObj Rows.laid_unicode_utf8_acceptRanges) }
theorem laid_met (os : Os) : laidMet Tryd.prog Rows.graphJustUptoRow.laid ((laidWorld os).forCall (fun _ _ => 0) ⟨#[], witArgs, []⟩).memory :=
  laidMet_of_run' 8 (by kernel_rfl) (by kernel_rfl)
theorem reads (os : Os) {H : Type} (enc : TypeId × Value → H) : ∃ places, DataW.whole enc Tryd.prog ((laidWorld os).forCall (fun _ _ => 0) ⟨#[], witArgs, []⟩).memory Tryd.f4.params.toList Rows.graphJustSpec.vars false witArgs.toList 8 = some ([.agg [.nil, .nil, .lit (.int .i64 0)], .agg [.lit (.int .i64 0), .lit (.int .i64 0), .lit (.string []), .nil], .lit (.string []), .agg [.lit (.int .i64 0), .lit (.int .i64 0), .lit (.string []), .nil]], [], places) :=
  ⟨[], by kernel_rfl⟩
theorem graphJust_lifted (os : Os) (started : os.Started) (H : Type) (enc : TypeId × Value → H) (F : Stop.Interp) :
    ReturnsInHanded {} Tryd.checked os 4 .any ((Rows.OpenSpec.upto Rows.graphJustSpec).preRow enc Tryd.prog Tryd.f4 Rows.graphJustUptoRow.domain false Rows.graphJustUptoRow.laid) (((Rows.OpenSpec.upto Rows.graphJustSpec).at F).post enc Tryd.prog Tryd.f4 false true false false) := by
  obtain ⟨places, hx⟩ := reads os enc
  refine returnsInHanded_of_row (C := Tryd.checked) (s := Rows.OpenSpec.upto Rows.graphJustSpec) own started (by kernel_rfl) Tryd.func4
    (witness_row_at (enc := enc) (C := Tryd.checked) false (laidWorld os) witArgs rfl (by kernel_rfl) (by kernel_rfl) (by kernel_rfl)
      (OpenSpec.preRow_of_cond 8 hx (by kernel_rfl) (fun k hk => by cases hk; kernel_rfl) (by kernel_rfl) (laid_met os))) ?_
  intro W base args ds gs before hval hW _ hcond _ hL _ _
  have hk := hcond _ rfl
  exact law_contract (s := Rows.graphJustSpec) sysOk fine rfl rfl laid Tryd.underlying4 (by kernel_rfl) (by kernel_rfl) rfl
    (fun ds h => by match ds, h with | [d0, d1, d2, d3], _ => rfl) (fun ds h => by match ds, h with | [d0, d1, d2, d3], _ => rfl) (fun ds h => by match ds, h with | [d0, d1, d2, d3], _ => rfl)
    graphJust_ans hval hW (small_of hk)
theorem graphJust_said : Rows.GraphJustUptoSaid :=
  OpenClaim.holds_of_cond 4 Tryd.f4 rfl rfl rfl rfl rfl rfl rfl ⟨rfl, rfl, rfl, rfl, rfl⟩ rfl rfl rfl rfl rfl (by kernel_rfl) Tryd.func4 (by kernel_rfl)
    (of_decide_eq_true (by kernel_rfl)) (by unfold Func.isWrapper; first | (rw [if_pos (by decide +kernel)]; kernel_rfl) | (rw [if_neg (by decide +kernel)]; exact ⟨rfl, rfl⟩))
    (fun os started H enc _ F => by rw [OpenClaim.pre_eq_preRow]; exact graphJust_lifted os started H enc F)
theorem graphJust_plain (f : FuncId) (fn : Func) (hf : Tryd.pinned.checked.prog.funcNamed "ramble/ramblelaw10.GraphJust" = some f) (hfn : Tryd.pinned.checked.prog.funcs[f]? = some fn) :
    false = Tryd.pinned.checked.prog.looks [] ∧ ∀ (j : Nat) t, fn.params[j]? = some t → Tryd.pinned.checked.prog.wantsStandIn t = false := by
  obtain rfl : f = 4 := Option.some.inj ((show Tryd.prog.funcNamed "ramble/ramblelaw10.GraphJust" = some 4 by kernel_rfl).symm.trans hf) |>.symm
  obtain rfl : fn = Tryd.f4 := (Option.some.inj (Tryd.func4.symm.trans hfn)).symm
  refine ⟨by kernel_rfl, fun j t ht => ?_⟩
  have hall : (Tryd.f4.params.toList.all fun t => Tryd.pinned.checked.prog.wantsStandIn t == false) = true := by kernel_rfl
  have := List.all_eq_true.1 hall t (by
    have := Array.mem_of_getElem? ht
    simpa using this)
  simpa using this
theorem graphJust_card : Rows.GraphJustUptoCardSaid :=
  Claim7.holds_tied_plain_at .later [] _ _ _ _ graphJust_said (fun _ h => by cases h) (by kernel_rfl) (fun _ h => by cases h) graphJustUpto_row_tie rfl ⟨rfl, rfl⟩ (by kernel_rfl) rfl graphJust_plain (by kernel_rfl)
end Go.Proofs.YtgeaibhgaihobaaDoor
