/-
  BulkAlgebra: for every three lists of counts and two numbers, together of bulk at most 1048576: true, and they read as they did.
-/
import Derived.Test.YtabbjdclfmeipaaT1
import Derived.Test.YtabbjdclfmeipaaB8
import Derived.WalkKit
import Derived.ProofKit
import Derived.OpenShut
import Derived.JoinedCond
namespace Go.Proofs.Ytabbjdclfmeipaa
open Go.Abs
open Go.ChangeShapes Go.WideShapes Go.ChangeAt Go.RowKit
set_option linter.unusedVariables false
set_option maxRecDepth 100000

theorem bulkAlgebra_ans (m : Nat) (ass : List (List AV)) (h : TyAll Try.prog m Try.f3.params.toList ass) (hb : bulkEs ass ≤ 1048576) : acall S 3 (argsOf Try.prog Try.f3.params.toList ass) = some (.b true, []) := by
  rw [Try.params3] at h ⊢
  match ass, h with
  | [a, b, c, x, y], h =>
    obtain ⟨h1, h2, h3, h4, h5, _⟩ := h
    simp only [bulkEs] at hb
    obtain ⟨ak, al, rfl, ha⟩ := ty_bag h1 (by omega)
    obtain ⟨bk, bl, rfl, hb'⟩ := ty_bag h2 (by omega)
    obtain ⟨ck, cl, rfl, hc⟩ := ty_bag h3 (by omega)
    obtain ⟨n, rfl, hn⟩ := h4.int Try.underlying5
    obtain ⟨k, rfl, hk⟩ := h5.int Try.underlying5
    have hn := wf_u8 hn
    have hk := wf_u8 hk
    simp only [argsOf, argOf_s Try.underlying22, argOf_i Try.underlying5]
    exact alg ak bk ck 5 5 5 al bl cl ha hb' hc n k hn.1 hn.2 hk.1 hk.2

theorem bulkAlgebra_lifted (os : Os) (started : os.Started) (H : Type) (enc : TypeId × Value → H) (F : Stop.Interp) :
    ReturnsInHanded {} Try.checked os 3 .any ((Rows.OpenSpec.upto Rows.bulkAlgebraSpec).pre6 enc Try.prog Try.f3 Rows.bulkAlgebraUptoRow.domain false) (((Rows.OpenSpec.upto Rows.bulkAlgebraSpec).at F).post enc Try.prog Try.f3 false true false false) := by
  refine returnsInHanded_of_cond (C := Try.checked) (s := Rows.OpenSpec.upto Rows.bulkAlgebraSpec) (k := Rows.uptoSmall) rfl own started (by kernel_rfl) Try.func3
    (OpenSpec.witness (enc := enc) (C := Try.checked) (s := Rows.OpenSpec.upto Rows.bulkAlgebraSpec) (k := Rows.uptoSmall) rfl false ⟨#[], #[.slice none 0 0, .slice none 0 0, .slice none 0 0, .int .u8 0, .int .u8 0], []⟩ 8 (by kernel_rfl) (by kernel_rfl) (by kernel_rfl)
      (x := ([.nil, .nil, .nil, .lit (.int .u8 0), .lit (.int .u8 0)], [], [])) (by kernel_rfl) rfl (by kernel_rfl)) ?_
  intro W base args ds gs before hval hW _ hk _
  exact law_contract (s := Rows.bulkAlgebraSpec) sysOk fine rfl rfl laid Try.underlying4 (by kernel_rfl) (by kernel_rfl) rfl
    (fun ds h => by match ds, h with | [d0, d1, d2, d3, d4], _ => rfl) (fun ds h => by match ds, h with | [d0, d1, d2, d3, d4], _ => rfl) (fun ds h => by match ds, h with | [d0, d1, d2, d3, d4], _ => rfl)
    bulkAlgebra_ans hval hW (small_of hk)

theorem bulkAlgebra_over : Rows.bulkAlgebraUptoRow.holds Try.pinned (Rows.OpenSpec.upto Rows.bulkAlgebraSpec) :=
  OpenClaim.holds_of_cond 3 Try.f3 rfl rfl rfl rfl rfl rfl rfl ⟨rfl, rfl, rfl, rfl, rfl⟩ rfl rfl rfl rfl rfl (by kernel_rfl) Try.func3 (by kernel_rfl)
    (of_decide_eq_true (by kernel_rfl)) (by unfold Func.isWrapper; first | (rw [if_pos (by decide +kernel)]; kernel_rfl) | (rw [if_neg (by decide +kernel)]; exact ⟨rfl, rfl⟩))
    (fun os started H enc _ F => bulkAlgebra_lifted os started H enc F)

theorem bulkAlgebra_proved : Rows.BulkAlgebraUptoSaid := bulkAlgebra_over
end Go.Proofs.Ytabbjdclfmeipaa
