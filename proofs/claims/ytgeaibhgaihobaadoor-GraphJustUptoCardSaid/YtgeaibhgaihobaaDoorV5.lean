import Derived.Test.YtgeaibhgaihobaaDoorV3
import Derived.Test.YtgeaibhgaihobaaDoorV4
set_option linter.unusedSimpArgs false
set_option linter.unusedVariables false
set_option maxHeartbeats 8000000
set_option maxRecDepth 100000
namespace Go.Proofs.YtgeaibhgaihobaaDoor
open Go.Abs
theorem rises_step {l : List Vl} {i : Nat} {a b : Vl} (ha : l[i]? = some a) (hb : l[i + 2]? = some b) : risesV (Vl.ps (l.drop i)) = (!decide (0 ≤ cmpV a.p b.p) && risesV (Vl.ps (l.drop (i + 2)))) := by
  obtain ⟨hl, _⟩ := List.getElem?_eq_some_iff.1 hb
  obtain ⟨x, hx⟩ := get_lt3 (show i + 1 < l.length by omega)
  rw [drop_get3 ha, drop_get3 hx, drop_get3 hb]
  simp only [Vl.ps, risesV]
theorem rises_end {l : List Vl} {i : Nat} (h : l.length ≤ i + 2) : risesV (Vl.ps (l.drop i)) = true := by
  have : (l.drop i).length ≤ 2 := by rw [List.length_drop]; omega
  match l.drop i, this with
  | [], _ => rfl
  | [a], _ => rfl
  | [a, b], _ => rfl
  | _ :: _ :: _ :: _, h => simp at h
theorem wrap_two {k : Nat} (h : k < 4611686018427387904) : IntKind.i64.wrap ((k : Int) + 2) = ((k + 2 : Nat) : Int) := by
  simp [IntKind.wrap, IntKind.bits, IntKind.signed]
  omega
theorem wrap_sub2 {k : Nat} (h : k < 4611686018427387904) (h2 : 2 ≤ k) : IntKind.i64.wrap ((k : Int) - 2) = ((k - 2 : Nat) : Int) := by
  simp [IntKind.wrap, IntKind.bits, IntKind.signed]
  omega
end Go.Proofs.YtgeaibhgaihobaaDoor
