/-
  NodeSplits: for every node of bulk at most 1048576: true, and it reads as it did.
-/
import Derived.Test.YtogjoenpliphdaaT2
import Derived.Test.YtogjoenpliphdaaF26
import Derived.WalkKit
import Derived.ProofKit
import Derived.OpenShut
import Derived.JoinedCond
namespace Go.Proofs.Ytogjoenpliphdaa
open Go.Abs
open Go.ChangeShapes Go.WideShapes Go.ChangeAt Go.RowKit
set_option linter.unusedVariables false
set_option maxRecDepth 100000

theorem nodeSplits_ans (m : Nat) (ass : List (List AV)) (h : TyAll Try.prog m Try.f4.params.toList ass) (hb : bulkEs ass ≤ 1048576) : acall S 4 (argsOf Try.prog Try.f4.params.toList ass) = some (.b true, []) := by
  rw [Try.params4] at h ⊢
  match ass, h with
  | [cs], h =>
    obtain ⟨h1, _⟩ := h
    obtain ⟨n, rfl⟩ := ty_node h1
    simp only [bulkEs] at hb
    obtain ⟨h2, h3⟩ := node_few n (B := 1048576) (by omega) (by omega)
    have := e4 n (node_cells n (B := 1048576) (by omega) (by omega)) (by unfold LIM; omega)
    simp only [argsOf, argOf_node]
    exact this

theorem nodeSplits_lifted (os : Os) (started : os.Started) (H : Type) (enc : TypeId × Value → H) (F : Stop.Interp) :
    ReturnsInHanded {} Try.checked os 4 .any ((Rows.OpenSpec.upto Rows.nodeSplitsSpec).pre6 enc Try.prog Try.f4 Rows.nodeSplitsUptoRow.domain false) (((Rows.OpenSpec.upto Rows.nodeSplitsSpec).at F).post enc Try.prog Try.f4 false true false false) := by
  refine returnsInHanded_of_cond (C := Try.checked) (s := Rows.OpenSpec.upto Rows.nodeSplitsSpec) (k := Rows.uptoSmall) rfl own started (by kernel_rfl) Try.func4
    (OpenSpec.witness (enc := enc) (C := Try.checked) (s := Rows.OpenSpec.upto Rows.nodeSplitsSpec) (k := Rows.uptoSmall) rfl false ⟨#[], #[.agg #[.bool false, .slice none 0 0, .slice none 0 0, .slice none 0 0]], []⟩ 8 (by kernel_rfl) (by kernel_rfl) (by kernel_rfl)
      (x := ([.agg [.lit (.bool false), .nil, .nil, .nil]], [], [])) (by kernel_rfl) rfl (by kernel_rfl)) ?_
  intro W base args ds gs before hval hW _ hk _
  exact law_contract (s := Rows.nodeSplitsSpec) sysOk fine rfl rfl laid Try.underlying4 (by kernel_rfl) (by kernel_rfl) rfl
    (fun ds h => by match ds, h with | [d0], _ => rfl) (fun ds h => by match ds, h with | [d0], _ => rfl) (fun ds h => by match ds, h with | [d0], _ => rfl)
    nodeSplits_ans hval hW (small_of hk)

theorem nodeSplits_over : Rows.nodeSplitsUptoRow.holds Try.pinned (Rows.OpenSpec.upto Rows.nodeSplitsSpec) :=
  OpenClaim.holds_of_cond 4 Try.f4 rfl rfl rfl rfl rfl rfl rfl ⟨rfl, rfl, rfl, rfl, rfl⟩ rfl rfl rfl rfl rfl (by kernel_rfl) Try.func4 (by kernel_rfl)
    (of_decide_eq_true (by kernel_rfl)) (by unfold Func.isWrapper; first | (rw [if_pos (by decide +kernel)]; kernel_rfl) | (rw [if_neg (by decide +kernel)]; exact ⟨rfl, rfl⟩))
    (fun os started H enc _ F => nodeSplits_lifted os started H enc F)

theorem nodeSplits_proved : Rows.NodeSplitsUptoSaid := nodeSplits_over
end Go.Proofs.Ytogjoenpliphdaa
