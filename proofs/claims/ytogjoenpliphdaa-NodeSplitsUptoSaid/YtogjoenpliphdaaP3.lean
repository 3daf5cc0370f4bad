/-
  Plain: nodes without how their slices stand; what is read of bytes.
-/
import Derived.Test.YtogjoenpliphdaaF16
set_option linter.unusedSimpArgs false
set_option linter.unusedVariables false
set_option maxHeartbeats 4000000
namespace Go.Proofs.Ytogjoenpliphdaa
open Go.Abs

structure PN where
  leaf : Bool
  cells : List PC
  keys : List (List UInt8)
  kids : List Int
  deriving DecidableEq
def Nd.p (n : Nd) : PN := ⟨n.leaf, n.cells.map Ce.p, n.keys.map By.l, n.kids⟩
def badCellP (c : PC) : Bool := badKeyB c.key || decide (c.over < 0) || decide (c.over ≥ 2048) || decide (c.val.length > 64) || (if c.over = 0 then decide (c.len ≠ 0) else (decide (c.val.length > 0) || decide (c.len ≤ 64) || decide (c.len > 1099511627776)))
theorem badCellP_eq (c : Ce) : badCellP c.p = badCellB c := rfl
def BadP (n : PN) : Prop := (n.leaf = true ∧ (n.keys.length + n.kids.length > 0 ∨ n.cells.any badCellP = true ∨ BadKeys (n.cells.map PC.key))) ∨
  (n.leaf = false ∧ (n.cells.length > 0 ∨ n.kids.length ≠ n.keys.length + 1 ∨ n.kids.any badKid = true ∨ BadKeys n.keys))
theorem badP_eq (n : Nd) : BadP n.p ↔ BadN n := by
  have h1 : (n.cells.map Ce.p).any badCellP = n.cells.any badCellB := by rw [List.any_map]; rfl
  have h2 : (n.cells.map Ce.p).map PC.key = n.cells.map fun c => c.key.l := by rw [List.map_map]; rfl
  simp only [BadP, BadN, Nd.p, List.length_map, h1, h2]
def emptyP : PN := ⟨false, [], [], []⟩

def manyP {α : Type} (f : Ps → α × Ps) : Nat → Ps → List α × Ps
  | 0, s => ([], s)
  | n + 1, s => if s.2 = true then ([], s) else ((f s).1 :: (manyP f n (f s).2).1, (manyP f n (f s).2).2)
theorem many_bad {α : Type} (f : Ps → α × Ps) (n : Nat) (l : List UInt8) : manyP f n (l, true) = ([], (l, true)) := by
  cases n <;> simp [manyP]
theorem many_step {α : Type} (f : Ps → α × Ps) (n : Nat) (l : List UInt8) : manyP f (n + 1) (l, false) = ((f (l, false)).1 :: (manyP f n (f (l, false)).2).1, (manyP f n (f (l, false)).2).2) := by
  simp [manyP]
theorem many_len {α : Type} (f : Ps → α × Ps) : ∀ (n : Nat) (s : Ps), (manyP f n s).1.length ≤ n
  | 0, s => by simp [manyP]
  | n + 1, s => by
    have := many_len f n (f s).2
    simp only [manyP]
    split <;> simp <;> omega
def rawP (b : List UInt8) : PN × Ps :=
  if (flagP (b, false)).1.toNat = 1 then (⟨true, (manyP cellP (numP 448 (flagP (b, false)).2).1 (numP 448 (flagP (b, false)).2).2).1, [], []⟩, (manyP cellP (numP 448 (flagP (b, false)).2).1 (numP 448 (flagP (b, false)).2).2).2)
  else if (flagP (b, false)).1.toNat = 2 then
    (⟨false, [], (manyP bytesP (numP 448 (flagP (b, false)).2).1 (numP 448 (flagP (b, false)).2).2).1,
      (manyP (numP 2048) ((numP 448 (flagP (b, false)).2).1 + 1) (manyP bytesP (numP 448 (flagP (b, false)).2).1 (numP 448 (flagP (b, false)).2).2).2).1.map fun n : Nat => (n : Int)⟩,
      (manyP (numP 2048) ((numP 448 (flagP (b, false)).2).1 + 1) (manyP bytesP (numP 448 (flagP (b, false)).2).1 (numP 448 (flagP (b, false)).2).2).2).2)
  else (emptyP, ((flagP (b, false)).2.1, true))
open Classical in
noncomputable def parseP (b : List UInt8) : PN × Int := if b.length > 448 ∨ (rawP b).2.2 = true ∨ (rawP b).2.1 ≠ [] ∨ BadP (rawP b).1 then (emptyP, 80) else ((rawP b).1, 0)
theorem parse_no {b : List UInt8} (h : b.length > 448 ∨ (rawP b).2.2 = true ∨ (rawP b).2.1 ≠ [] ∨ BadP (rawP b).1) : parseP b = (emptyP, 80) := if_pos h
theorem parse_ok {b : List UInt8} (h0 : b.length ≤ 448) (h1 : (rawP b).2.2 = false) (h2 : (rawP b).2.1 = []) (h3 : ¬ BadP (rawP b).1) : parseP b = ((rawP b).1, 0) := by
  unfold parseP
  rw [if_neg]
  rintro (h | h | h | h)
  · omega
  · rw [h1] at h; cases h
  · exact h h2
  · exact h3 h
end Go.Proofs.Ytogjoenpliphdaa
