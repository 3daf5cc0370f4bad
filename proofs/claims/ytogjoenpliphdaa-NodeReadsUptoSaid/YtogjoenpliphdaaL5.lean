/-
  NodeReads: for any bytes of bulk at most 1048576: true, and they read as it did.
-/
import Derived.Test.YtogjoenpliphdaaT1
import Derived.Test.YtogjoenpliphdaaF20
import Derived.WalkKit
import Derived.ProofKit
import Derived.OpenShut
import Derived.JoinedCond
namespace Go.Proofs.Ytogjoenpliphdaa
open Go.Abs
open Go.ChangeShapes Go.WideShapes Go.ChangeAt Go.RowKit
set_option linter.unusedVariables false
set_option maxRecDepth 100000

theorem nodeReads_ans (m : Nat) (ass : List (List AV)) (h : TyAll Try.prog m Try.f5.params.toList ass) (hb : bulkEs ass ≤ 1048576) : acall S 5 (argsOf Try.prog Try.f5.params.toList ass) = some (.b true, []) := by
  rw [Try.params5] at h ⊢
  match ass, h with
  | [cs], h =>
    obtain ⟨h1, _⟩ := h
    obtain ⟨b, rfl⟩ := ty_bytes h1
    simp only [bulkEs, bulkAs, bulk_by] at hb
    have := e5 b.ok (by unfold LIM; omega)
    simp only [argsOf, argOf_bytes]
    exact this

theorem nodeReads_lifted (os : Os) (started : os.Started) (H : Type) (enc : TypeId × Value → H) (F : Stop.Interp) :
    ReturnsInHanded {} Try.checked os 5 .any ((Rows.OpenSpec.upto Rows.nodeReadsSpec).pre6 enc Try.prog Try.f5 Rows.nodeReadsUptoRow.domain false) (((Rows.OpenSpec.upto Rows.nodeReadsSpec).at F).post enc Try.prog Try.f5 false true false false) := by
  refine returnsInHanded_of_cond (C := Try.checked) (s := Rows.OpenSpec.upto Rows.nodeReadsSpec) (k := Rows.uptoSmall) rfl own started (by kernel_rfl) Try.func5
    (OpenSpec.witness (enc := enc) (C := Try.checked) (s := Rows.OpenSpec.upto Rows.nodeReadsSpec) (k := Rows.uptoSmall) rfl false ⟨#[], #[.slice none 0 0], []⟩ 8 (by kernel_rfl) (by kernel_rfl) (by kernel_rfl)
      (x := ([.nil], [], [])) (by kernel_rfl) rfl (by kernel_rfl)) ?_
  intro W base args ds gs before hval hW _ hk _
  exact law_contract (s := Rows.nodeReadsSpec) sysOk fine rfl rfl laid Try.underlying4 (by kernel_rfl) (by kernel_rfl) rfl
    (fun ds h => by match ds, h with | [d0], _ => rfl) (fun ds h => by match ds, h with | [d0], _ => rfl) (fun ds h => by match ds, h with | [d0], _ => rfl)
    nodeReads_ans hval hW (small_of hk)

theorem nodeReads_over : Rows.nodeReadsUptoRow.holds Try.pinned (Rows.OpenSpec.upto Rows.nodeReadsSpec) :=
  OpenClaim.holds_of_cond 5 Try.f5 rfl rfl rfl rfl rfl rfl rfl ⟨rfl, rfl, rfl, rfl, rfl⟩ rfl rfl rfl rfl rfl (by kernel_rfl) Try.func5 (by kernel_rfl)
    (of_decide_eq_true (by kernel_rfl)) (by unfold Func.isWrapper; first | (rw [if_pos (by decide +kernel)]; kernel_rfl) | (rw [if_neg (by decide +kernel)]; exact ⟨rfl, rfl⟩))
    (fun os started H enc _ F => nodeReads_lifted os started H enc F)

theorem nodeReads_proved : Rows.NodeReadsUptoSaid := nodeReads_over
end Go.Proofs.Ytogjoenpliphdaa
