/- What the kit's sort of structs does to a row's block, in words that name no default value. -/
import Derived.Shelf.SlSortCmp.WholeK
namespace Go.Proofs.Ytnngeaibdnnpoaa
open Go.RowKit Go.Shelf Go.Lib
set_option linter.unusedSimpArgs false
set_option linter.unusedVariables false

theorem flatK_get {α : Type} [Inhabited α] (enc : α → List Value) (k : Nat) (hk : ∀ x, (enc x).length = k) (d : Array α) (j : Nat) (hj : j < d.size * k) (h0 : 0 < k) : (Go.Sort.flatK enc k d)[j]? = (enc d[j / k]!)[j % k]? := by
  have hs : j < (Go.Sort.flatK enc k d).size := by simp; exact hj
  have h3 : j % k < (enc d[j / k]!).length := by rw [hk]; exact Nat.mod_lt _ h0
  have h5 := Go.Sort.get_flatK enc k d j hj
  rw [Array.getElem?_eq_getElem hs, List.getElem?_eq_getElem h3]
  congr 1
  rw [getElem!_pos _ j hs] at h5
  rw [h5]
  exact getElem!_pos (enc d[j / k]!) (j % k) h3
theorem holdsK_of {α : Type} [Inhabited α] (enc : α → List Value) (k : Nat) (w : World) (g : Nat) (d : Array α) (hc : ∀ j, j < d.size * k → w.cell? ⟨g, j, none⟩ = (Go.Sort.flatK enc k d)[j]? ∧ w.frozen? ⟨g, j, none⟩ = false) : Go.Sort.HoldsK enc k w g 0 d := fun j hj => by
  obtain ⟨h1, h2⟩ := hc j (by simpa using hj)
  rw [Nat.zero_add]
  refine ⟨?_, h2⟩
  rw [h1, Array.getElem?_eq_getElem hj]
  congr 1
  exact (getElem!_pos _ j hj).symm
theorem sortK_heap {α : Type} [Inhabited α] (enc : α → List Value) (k : Nat) (w : World) (g n : Nat) (d : Array α) (os : Array Obj) (cur : Array Value) (t : TypeId) (hg : w.heap[g]? = some (.cells cur t (0, 0))) (hcd : d.size * k ≤ cur.size) :
    (∃ c' : Array Value, (sortWorldK enc k w g 0 n d os).heap[g]? = some (.cells c' t (0, 0)) ∧ c'.size = cur.size ∧ ∀ j, j < d.size * k → c'[j]? = (Go.Sort.flatK enc k d)[j]?) ∧ (∀ i, i < w.heap.size → i ≠ g → (sortWorldK enc k w g 0 n d os).heap[i]? = w.heap[i]?) ∧ w.heap.size ≤ (sortWorldK enc k w g 0 n d os).heap.size ∧ (sortWorldK enc k w g 0 n d os).os = w.os ∧ (sortWorldK enc k w g 0 n d os).tape = w.tape ∧ (sortWorldK enc k w g 0 n d os).output = w.output := by
  have hgl : g < w.heap.size := (Array.getElem?_eq_some_iff.1 hg).1
  have hW : sortWorldK enc k w g 0 n d os = Sort.grow (Sort.putRow id (Sort.ahead w n) g 0 (Go.Sort.flatK enc k d)) os := rfl
  rw [hW]
  refine ⟨⟨Sort.putCells id 0 (Go.Sort.flatK enc k d) cur, ?_, by simp [Sort.putCells], fun j hj => ?_⟩, fun i hi hne => ?_, ?_, rfl, rfl, rfl⟩
  · show ((Sort.putRow id (Sort.ahead w n) g 0 (Go.Sort.flatK enc k d)).heap ++ os)[g]? = _
    rw [Array.getElem?_append_left (by rw [Sort.size_putRow]; exact hgl)]
    simp [Sort.putRow, Sort.mapBlock, Sort.ahead, Sort.onCells, Array.getElem?_modify, hg]
  · have hjc : j < cur.size := by omega
    have hs : j < (Go.Sort.flatK enc k d).size := by simp; exact hj
    rw [Array.getElem?_eq_getElem hs]
    simp [Sort.putCells, hjc, hj]
  · show ((Sort.putRow id (Sort.ahead w n) g 0 (Go.Sort.flatK enc k d)).heap ++ os)[i]? = _
    rw [Array.getElem?_append_left (by rw [Sort.size_putRow]; exact hi)]
    simp [Sort.putRow, Sort.mapBlock, Sort.ahead, Array.getElem?_modify, Ne.symm hne]
  · show _ ≤ ((Sort.putRow id (Sort.ahead w n) g 0 (Go.Sort.flatK enc k d)).heap ++ os).size
    rw [Array.size_append, Sort.size_putRow]; exact Nat.le_add_right _ _
end Go.Proofs.Ytnngeaibdnnpoaa
