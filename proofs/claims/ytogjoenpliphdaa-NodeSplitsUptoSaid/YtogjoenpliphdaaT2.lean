import Derived.Test.YtogjoenpliphdaaT1
import Derived.Test.YtogjoenpliphdaaF24
set_option linter.unusedSimpArgs false
set_option linter.unusedVariables false
namespace Go.Proofs.Ytogjoenpliphdaa
open Go.Abs

theorem bulkEs_mem {x : List AV} : ∀ {l : List (List AV)}, x ∈ l → bulkAs x ≤ bulkEs l
  | [], h => by simp at h
  | y :: r, h => by
    simp only [bulkEs]
    rcases List.mem_cons.1 h with rfl | h
    · omega
    · have := bulkEs_mem h; omega
/-- a node of that bulk -/
theorem node_cells (n : Nd) {B : Nat} (h : bulkAs n.cs ≤ B) (hB : B ≤ 1048576) : CellsP n.p := by
  obtain ⟨⟨f1, f2, f3⟩, _⟩ := node_few n h hB
  rw [bulk_node] at h
  have hL : LIM = 274877906944 := rfl
  refine ⟨by simpa [Nd.p] using f1, by simpa [Nd.p] using f2, by simpa [Nd.p] using f3, fun x hx => ?_, fun x hx => ?_⟩
  · obtain ⟨c, hc, rfl⟩ := List.mem_map.1 hx
    have h1 := bulkEs_mem (List.mem_map.2 ⟨c, hc, rfl⟩ : Ce.c c ∈ n.cells.map Ce.c)
    rw [bulk_cell] at h1
    simp only [Ce.p]
    omega
  · obtain ⟨b, hb, rfl⟩ := List.mem_map.1 hx
    have h1 := bulkEs_mem (List.mem_map.2 ⟨b, hb, rfl⟩ : byC b ∈ n.keys.map byC)
    simp only [byC, bulkAs, bulk_by] at h1
    omega
end Go.Proofs.Ytogjoenpliphdaa
