/-
  NodeBytes: for every node of bulk at most 1048576: true, and the node reads as it did.
-/
import Derived.Test.YtogjoenpliphdaaT1
import Derived.WalkKit
import Derived.ProofKit
import Derived.OpenShut
import Derived.JoinedCond
namespace Go.Proofs.Ytogjoenpliphdaa
open Go.Abs
open Go.ChangeShapes Go.WideShapes Go.ChangeAt Go.RowKit
set_option linter.unusedVariables false
set_option maxRecDepth 100000

theorem nodeBytes_ans (m : Nat) (ass : List (List AV)) (h : TyAll Try.prog m Try.f3.params.toList ass) (hb : bulkEs ass ≤ 1048576) : acall S 3 (argsOf Try.prog Try.f3.params.toList ass) = some (.b true, []) := by
  rw [Try.params3] at h ⊢
  match ass, h with
  | [cs], h =>
    obtain ⟨h1, _⟩ := h
    obtain ⟨n, rfl⟩ := ty_node h1
    simp only [bulkEs] at hb
    obtain ⟨h2, h3⟩ := node_few n (B := 1048576) (by omega) (by omega)
    have := e3 n h2 (by unfold LIM; omega)
    simp only [argsOf, argOf_node]
    exact this

theorem nodeBytes_lifted (os : Os) (started : os.Started) (H : Type) (enc : TypeId × Value → H) (F : Stop.Interp) :
    ReturnsInHanded {} Try.checked os 3 .any ((Rows.OpenSpec.upto Rows.nodeBytesSpec).pre6 enc Try.prog Try.f3 Rows.nodeBytesUptoRow.domain false) (((Rows.OpenSpec.upto Rows.nodeBytesSpec).at F).post enc Try.prog Try.f3 false true false false) := by
  refine returnsInHanded_of_cond (C := Try.checked) (s := Rows.OpenSpec.upto Rows.nodeBytesSpec) (k := Rows.uptoSmall) rfl own started (by kernel_rfl) Try.func3
    (OpenSpec.witness (enc := enc) (C := Try.checked) (s := Rows.OpenSpec.upto Rows.nodeBytesSpec) (k := Rows.uptoSmall) rfl false ⟨#[], #[.agg #[.bool false, .slice none 0 0, .slice none 0 0, .slice none 0 0]], []⟩ 8 (by kernel_rfl) (by kernel_rfl) (by kernel_rfl)
      (x := ([.agg [.lit (.bool false), .nil, .nil, .nil]], [], [])) (by kernel_rfl) rfl (by kernel_rfl)) ?_
  intro W base args ds gs before hval hW _ hk _
  exact law_contract (s := Rows.nodeBytesSpec) sysOk fine rfl rfl laid Try.underlying4 (by kernel_rfl) (by kernel_rfl) rfl
    (fun ds h => by match ds, h with | [d], _ => rfl) (fun ds h => by match ds, h with | [d], _ => rfl) (fun ds h => by match ds, h with | [d], _ => rfl)
    nodeBytes_ans hval hW (small_of hk)

theorem nodeBytes_over : Rows.nodeBytesUptoRow.holds Try.pinned (Rows.OpenSpec.upto Rows.nodeBytesSpec) :=
  OpenClaim.holds_of_cond 3 Try.f3 rfl rfl rfl rfl rfl rfl rfl ⟨rfl, rfl, rfl, rfl, rfl⟩ rfl rfl rfl rfl rfl (by kernel_rfl) Try.func3 (by kernel_rfl)
    (of_decide_eq_true (by kernel_rfl)) (by unfold Func.isWrapper; first | (rw [if_pos (by decide +kernel)]; kernel_rfl) | (rw [if_neg (by decide +kernel)]; exact ⟨rfl, rfl⟩))
    (fun os started H enc _ F => nodeBytes_lifted os started H enc F)

theorem nodeBytes_proved : Rows.NodeBytesUptoSaid := nodeBytes_over
end Go.Proofs.Ytogjoenpliphdaa
