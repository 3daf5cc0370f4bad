/-
  BulkMakes: for every two lists of counts, values, a value and a number, together of bulk at most 1048576: true, and they read as they did.
-/
import Derived.Test.YtabbjdclfmeipaaT1
import Derived.Test.YtabbjdclfmeipaaB13
import Derived.WalkKit
import Derived.ProofKit
import Derived.OpenShut
import Derived.JoinedCond
namespace Go.Proofs.Ytabbjdclfmeipaa
open Go.Abs
open Go.ChangeShapes Go.WideShapes Go.ChangeAt Go.RowKit
set_option linter.unusedVariables false
set_option maxRecDepth 100000

theorem bulkMakes_ans (m : Nat) (ass : List (List AV)) (h : TyAll Try.prog m Try.f4.params.toList ass) (hb : bulkEs ass ≤ 1048576) : acall S 4 (argsOf Try.prog Try.f4.params.toList ass) = some (.b true, []) := by
  rw [Try.params4] at h ⊢
  match ass, h with
  | [a, b, c, x, y], h =>
    obtain ⟨h1, h2, h3, h4, h5, _⟩ := h
    simp only [bulkEs] at hb
    obtain ⟨ak, al, rfl, ha⟩ := ty_bag h1 (by omega)
    obtain ⟨bk, bl, rfl, hb'⟩ := ty_bag h2 (by omega)
    obtain ⟨ck, cl, rfl, hc, hco, hcl⟩ := ty_vals h3 (by omega)
    obtain ⟨v, rfl, hv⟩ := ty_val _ _ h4 (by omega)
    obtain ⟨k, rfl, _⟩ := h5.int Try.underlying2
    simp only [argsOf, argOf_s Try.underlying22, argOf_vals, argOf_val, argOf_i Try.underlying2]
    exact makes ak bk ck 5 5 4 al bl cl ha hb' hc hco (by omega) v hv k

theorem bulkMakes_lifted (os : Os) (started : os.Started) (H : Type) (enc : TypeId × Value → H) (F : Stop.Interp) :
    ReturnsInHanded {} Try.checked os 4 .any ((Rows.OpenSpec.upto Rows.bulkMakesSpec).pre6 enc Try.prog Try.f4 Rows.bulkMakesUptoRow.domain false) (((Rows.OpenSpec.upto Rows.bulkMakesSpec).at F).post enc Try.prog Try.f4 false true false false) := by
  refine returnsInHanded_of_cond (C := Try.checked) (s := Rows.OpenSpec.upto Rows.bulkMakesSpec) (k := Rows.uptoSmall) rfl own started (by kernel_rfl) Try.func4
    (OpenSpec.witness (enc := enc) (C := Try.checked) (s := Rows.OpenSpec.upto Rows.bulkMakesSpec) (k := Rows.uptoSmall) rfl false ⟨#[], #[.slice none 0 0, .slice none 0 0, .slice none 0 0, .agg #[.int .i64 0, .int .i64 0, .string ⟨#[]⟩, .slice none 0 0], .int .i64 0], []⟩ 8 (by kernel_rfl) (by kernel_rfl) (by kernel_rfl)
      (x := ([.nil, .nil, .nil, .agg [.lit (.int .i64 0), .lit (.int .i64 0), .lit (.string []), .nil], .lit (.int .i64 0)], [], [])) (by kernel_rfl) rfl (by kernel_rfl)) ?_
  intro W base args ds gs before hval hW _ hk _
  exact law_contract (s := Rows.bulkMakesSpec) sysOk fine rfl rfl laid Try.underlying4 (by kernel_rfl) (by kernel_rfl) rfl
    (fun ds h => by match ds, h with | [d0, d1, d2, d3, d4], _ => rfl) (fun ds h => by match ds, h with | [d0, d1, d2, d3, d4], _ => rfl) (fun ds h => by match ds, h with | [d0, d1, d2, d3, d4], _ => rfl)
    bulkMakes_ans hval hW (small_of hk)

theorem bulkMakes_over : Rows.bulkMakesUptoRow.holds Try.pinned (Rows.OpenSpec.upto Rows.bulkMakesSpec) :=
  OpenClaim.holds_of_cond 4 Try.f4 rfl rfl rfl rfl rfl rfl rfl ⟨rfl, rfl, rfl, rfl, rfl⟩ rfl rfl rfl rfl rfl (by kernel_rfl) Try.func4 (by kernel_rfl)
    (of_decide_eq_true (by kernel_rfl)) (by unfold Func.isWrapper; first | (rw [if_pos (by decide +kernel)]; kernel_rfl) | (rw [if_neg (by decide +kernel)]; exact ⟨rfl, rfl⟩))
    (fun os started H enc _ F => bulkMakes_lifted os started H enc F)

theorem bulkMakes_proved : Rows.BulkMakesUptoSaid := bulkMakes_over
end Go.Proofs.Ytabbjdclfmeipaa
