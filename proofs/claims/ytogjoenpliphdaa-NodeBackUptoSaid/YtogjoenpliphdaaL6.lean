/-
  NodeBack: for every node and any bytes, together of bulk at most 1048576: true, and they read as it did.
-/
import Derived.Test.YtogjoenpliphdaaT1
import Derived.Test.YtogjoenpliphdaaF21
import Derived.WalkKit
import Derived.ProofKit
import Derived.OpenShut
import Derived.JoinedCond
namespace Go.Proofs.Ytogjoenpliphdaa
open Go.Abs
open Go.ChangeShapes Go.WideShapes Go.ChangeAt Go.RowKit
set_option linter.unusedVariables false
set_option maxRecDepth 100000

theorem nodeBack_ans (m : Nat) (ass : List (List AV)) (h : TyAll Try.prog m Try.f6.params.toList ass) (hb : bulkEs ass ≤ 1048576) : acall S 6 (argsOf Try.prog Try.f6.params.toList ass) = some (.b true, []) := by
  rw [Try.params6] at h ⊢
  match ass, h with
  | [cs, ds], h =>
    obtain ⟨h1, h2, _⟩ := h
    obtain ⟨n, rfl⟩ := ty_node h1
    obtain ⟨b, rfl⟩ := ty_bytes h2
    simp only [bulkEs] at hb
    obtain ⟨h3, h4⟩ := node_few n (B := 1048576) (by omega) (by omega)
    simp only [bulkAs, bulk_by] at hb
    have := e6 n h3 (by unfold LIM; omega) b.ok (by unfold LIM; omega)
    simp only [argsOf, argOf_bytes, argOf_node]
    exact this

theorem nodeBack_lifted (os : Os) (started : os.Started) (H : Type) (enc : TypeId × Value → H) (F : Stop.Interp) :
    ReturnsInHanded {} Try.checked os 6 .any ((Rows.OpenSpec.upto Rows.nodeBackSpec).pre6 enc Try.prog Try.f6 Rows.nodeBackUptoRow.domain false) (((Rows.OpenSpec.upto Rows.nodeBackSpec).at F).post enc Try.prog Try.f6 false true false false) := by
  refine returnsInHanded_of_cond (C := Try.checked) (s := Rows.OpenSpec.upto Rows.nodeBackSpec) (k := Rows.uptoSmall) rfl own started (by kernel_rfl) Try.func6
    (OpenSpec.witness (enc := enc) (C := Try.checked) (s := Rows.OpenSpec.upto Rows.nodeBackSpec) (k := Rows.uptoSmall) rfl false ⟨#[], #[.agg #[.bool false, .slice none 0 0, .slice none 0 0, .slice none 0 0], .slice none 0 0], []⟩ 8 (by kernel_rfl) (by kernel_rfl) (by kernel_rfl)
      (x := ([.agg [.lit (.bool false), .nil, .nil, .nil], .nil], [], [])) (by kernel_rfl) rfl (by kernel_rfl)) ?_
  intro W base args ds gs before hval hW _ hk _
  exact law_contract (s := Rows.nodeBackSpec) sysOk fine rfl rfl laid Try.underlying4 (by kernel_rfl) (by kernel_rfl) rfl
    (fun ds h => by match ds, h with | [d0, d1], _ => rfl) (fun ds h => by match ds, h with | [d0, d1], _ => rfl) (fun ds h => by match ds, h with | [d0, d1], _ => rfl)
    nodeBack_ans hval hW (small_of hk)

theorem nodeBack_over : Rows.nodeBackUptoRow.holds Try.pinned (Rows.OpenSpec.upto Rows.nodeBackSpec) :=
  OpenClaim.holds_of_cond 6 Try.f6 rfl rfl rfl rfl rfl rfl rfl ⟨rfl, rfl, rfl, rfl, rfl⟩ rfl rfl rfl rfl rfl (by kernel_rfl) Try.func6 (by kernel_rfl)
    (of_decide_eq_true (by kernel_rfl)) (by unfold Func.isWrapper; first | (rw [if_pos (by decide +kernel)]; kernel_rfl) | (rw [if_neg (by decide +kernel)]; exact ⟨rfl, rfl⟩))
    (fun os started H enc _ F => nodeBack_lifted os started H enc F)

theorem nodeBack_proved : Rows.NodeBackUptoSaid := nodeBack_over
end Go.Proofs.Ytogjoenpliphdaa
