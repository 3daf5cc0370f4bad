/-
  TravelGoes: for every traverser, value and number, together of bulk at most 1048576: true, and they read as they did.
-/
import Derived.Test.YtmdbfbcolofelaaDoorT1
import Derived.Test.YtmdbfbcolofelaaDoorD5
import Derived.Test.YtmdbfbcolofelaaDoorCards
import Derived.Test.YtmdbfbcolofelaaDoorTie
import Derived.WalkKit
import Derived.ProofKit
import Derived.OpenShut
import Derived.JoinedCond
import Derived.Deep.DeepHandedRow
import Derived.Lib.LaidTab
namespace Go.Proofs.YtmdbfbcolofelaaDoor
open Go.Abs
open Go.ChangeShapes Go.WideShapes Go.ChangeAt Go.RowKit
set_option linter.unusedVariables false
set_option maxRecDepth 100000

theorem argOf_i64 (v : AV) : argOf Tryd.prog 2 [v] = v := by
  unfold argOf
  rw [Tryd.underlying2]; rfl
theorem travelGoes_ans (m : Nat) (ass : List (List AV)) (h : TyAll Tryd.prog m Tryd.f6.params.toList ass) (hb : bulkEs ass ≤ 1048576) : acall S 6 (argsOf Tryd.prog Tryd.f6.params.toList ass) = some (.b true, []) := by
  rw [Tryd.params6] at h ⊢
  match ass, h with
  | [cs, ds, es], h =>
    obtain ⟨h1, h2, h3, _⟩ := h
    simp only [bulkEs] at hb
    obtain ⟨t, rfl, ht⟩ := ty_trav h1 (by omega)
    obtain ⟨v, rfl, hv⟩ := ty_val _ _ h2 (by omega)
    obtain ⟨n, rfl, _⟩ := h3.int Tryd.underlying2
    have := e6 t ht v hv n
    simp only [argsOf, argOf_trav, argOf_val, argOf_i64]
    exact this

/-! ### a world for the witness: the two tables as they are listed -/
mutual
def litCells : DataW Unit → List Value
  | .lit (.int k n) => [.int k n]
  | .agg parts => litCellsL parts
  | _ => []
def litCellsL : List (DataW Unit) → List Value
  | [] => []
  | d :: r => litCells d ++ litCellsL r
end
def witArgs : Array Value := #[.agg #[.int .i64 0, .int .i64 0, .string ⟨#[]⟩, .slice none 0 0, .slice none 0 0, .slice none 0 0, .int .i64 0], .agg #[.int .i64 0, .int .i64 0, .string ⟨#[]⟩, .slice none 0 0], .int .i64 0]
def layObj (d : DataW Unit) : Obj → Obj
  | .cells _ t frozen => .cells (litCells d).toArray t frozen
  | o => o
noncomputable def laidWorld (os : Os) : World :=
  { World.holding Tryd.prog os ⟨#[], #[], []⟩ with heap := ((World.holding Tryd.prog os ⟨#[], #[], []⟩).heap.modify 1 (layObj Rows.laid_unicode_utf8_first)).modify 2 (layObj Rows.laid_unicode_utf8_acceptRanges) }
theorem laid_met (os : Os) : laidMet Tryd.prog Rows.travelGoesUptoRow.laid ((laidWorld os).forCall (fun _ _ => 0) ⟨#[], witArgs, []⟩).memory :=
  laidMet_of_run' 8 (by kernel_rfl) (by kernel_rfl)
theorem reads (os : Os) {H : Type} (enc : TypeId × Value → H) : ∃ places, DataW.whole enc Tryd.prog ((laidWorld os).forCall (fun _ _ => 0) ⟨#[], witArgs, []⟩).memory Tryd.f6.params.toList Rows.travelGoesSpec.vars false witArgs.toList 8 = some ([.agg [.agg [.lit (.int .i64 0), .lit (.int .i64 0), .lit (.string []), .nil], .nil, .nil, .lit (.int .i64 0)], .agg [.lit (.int .i64 0), .lit (.int .i64 0), .lit (.string []), .nil], .lit (.int .i64 0)], [], places) :=
  ⟨[], by kernel_rfl⟩

theorem travelGoes_lifted (os : Os) (started : os.Started) (H : Type) (enc : TypeId × Value → H) (F : Stop.Interp) :
    ReturnsInHanded {} Tryd.checked os 6 .any ((Rows.OpenSpec.upto Rows.travelGoesSpec).preRow enc Tryd.prog Tryd.f6 Rows.travelGoesUptoRow.domain false Rows.travelGoesUptoRow.laid) (((Rows.OpenSpec.upto Rows.travelGoesSpec).at F).post enc Tryd.prog Tryd.f6 false true false false) := by
  obtain ⟨places, hx⟩ := reads os enc
  refine returnsInHanded_of_row (C := Tryd.checked) (s := Rows.OpenSpec.upto Rows.travelGoesSpec) own started (by kernel_rfl) Tryd.func6
    (witness_row_at (enc := enc) (C := Tryd.checked) false (laidWorld os) witArgs rfl (by kernel_rfl) (by kernel_rfl) (by kernel_rfl)
      (OpenSpec.preRow_of_cond 8 hx (by kernel_rfl) (fun k hk => by cases hk; kernel_rfl) (by kernel_rfl) (laid_met os))) ?_
  intro W base args ds gs before hval hW _ hcond _ hL _ _
  have hk := hcond _ rfl
  exact law_contract (s := Rows.travelGoesSpec) sysOk fine rfl rfl laid Tryd.underlying4 (by kernel_rfl) (by kernel_rfl) rfl
    (fun ds h => by match ds, h with | [d0, d1, d2], _ => rfl) (fun ds h => by match ds, h with | [d0, d1, d2], _ => rfl) (fun ds h => by match ds, h with | [d0, d1, d2], _ => rfl)
    travelGoes_ans hval hW (small_of hk)

theorem travelGoes_said : Rows.TravelGoesUptoSaid :=
  OpenClaim.holds_of_cond 6 Tryd.f6 rfl rfl rfl rfl rfl rfl rfl ⟨rfl, rfl, rfl, rfl, rfl⟩ rfl rfl rfl rfl rfl (by kernel_rfl) Tryd.func6 (by kernel_rfl)
    (of_decide_eq_true (by kernel_rfl)) (by unfold Func.isWrapper; first | (rw [if_pos (by decide +kernel)]; kernel_rfl) | (rw [if_neg (by decide +kernel)]; exact ⟨rfl, rfl⟩))
    (fun os started H enc _ F => by rw [OpenClaim.pre_eq_preRow]; exact travelGoes_lifted os started H enc F)

theorem travelGoes_plain (f : FuncId) (fn : Func) (hf : Tryd.pinned.checked.prog.funcNamed "ramble/ramblelaw18.TravelGoes" = some f) (hfn : Tryd.pinned.checked.prog.funcs[f]? = some fn) :
    false = Tryd.pinned.checked.prog.looks [] ∧ ∀ (j : Nat) t, fn.params[j]? = some t → Tryd.pinned.checked.prog.wantsStandIn t = false := by
  obtain rfl : f = 6 := Option.some.inj ((show Tryd.prog.funcNamed "ramble/ramblelaw18.TravelGoes" = some 6 by kernel_rfl).symm.trans hf) |>.symm
  obtain rfl : fn = Tryd.f6 := (Option.some.inj (Tryd.func6.symm.trans hfn)).symm
  refine ⟨by kernel_rfl, fun j t ht => ?_⟩
  have hall : (Tryd.f6.params.toList.all fun t => Tryd.pinned.checked.prog.wantsStandIn t == false) = true := by kernel_rfl
  have := List.all_eq_true.1 hall t (by
    have := Array.mem_of_getElem? ht
    simpa using this)
  simpa using this

theorem travelGoes_card : Rows.TravelGoesUptoCardSaid :=
  Claim7.holds_tied_plain_at .later [] _ _ _ _ travelGoes_said (fun _ h => by cases h) (by kernel_rfl) (fun _ h => by cases h) travelGoesUpto_row_tie rfl ⟨rfl, rfl⟩ (by kernel_rfl) rfl travelGoes_plain (by kernel_rfl)
end Go.Proofs.YtmdbfbcolofelaaDoor
