/- The capacity of a DAG's list, out of the opened argument. -/
import Derived.Test.YtfkbilbgndekkaaV
namespace Go.Proofs.Ytfkbilbgndekkaa
open Go.RowKit Go.ChangeShapes Go.WideShapes Go.ChangeAt
set_option linter.unusedSimpArgs false
set_option linter.unusedVariables false

section
variable {H : Type} {enc : TypeId × Value → H} {w : World} {base : Nat} {spare : Nat → Bool} {held : Bool}
theorem cap_Certs {fuel : Nat} {A : Option Addr} {n c : Nat} {x : DataW H × List MemPlace} (h : DataW.trod enc Try.prog w base spare held fuel 22 [.slice A n c] = some x) : n ≤ c ∧ c ≤ 9223372036854775807 := by
  rcases Deep.open_slice Try.underlying22 h with ⟨hcs, _⟩ | ⟨a, len, cap, m, n', D, Pl, hcs, _, hl, hm, _⟩
  · injection hcs with hcs; injection hcs with e1 e2 e3; omega
  · injection hcs with hcs; injection hcs with e1 e2 e3
    have : cap ≤ 9223372036854775807 := hm
    omega
set_option maxRecDepth 20000 in
theorem cap_Dag {fuel : Nat} {v0 v1 : Value} {A : Option Addr} {n c : Nat} {x : DataW H × List MemPlace} (h : DataW.trod enc Try.prog w base spare held fuel 24 [v0, v1, .slice A n c] = some x) : n ≤ c ∧ c ≤ 9223372036854775807 := by
  obtain ⟨xs, m, _, _, hl, hlen, hf⟩ := DataW.trod_struct Try.underlying24 h
  obtain ⟨y0, y1, y2, rfl⟩ := list3 hlen
  have f2 : DataW.trod enc Try.prog w base spare held m 22 [.slice A n c] = some y2 := by simpa [cells_certs] using hf 2 _ rfl
  exact cap_Certs f2
set_option maxRecDepth 20000 in
theorem cap_Ask {v0 v1 v3 v4 : Value} {A : Option Addr} {n c : Nat} {d : DataW H} {p : List MemPlace} (h : DataW.Trod enc Try.prog w base spare held 27 (.agg #[v0, v1, .slice A n c, v3, v4]) d p) : n ≤ c ∧ c ≤ 9223372036854775807 := by
  obtain ⟨fuel, hfu⟩ := h
  obtain ⟨xs, m, _, _, hl, hlen, hf⟩ := DataW.trod_struct Try.underlying27 hfu
  obtain ⟨y0, y1, y2, rfl⟩ := list3 hlen
  have f0 : DataW.trod enc Try.prog w base spare held m 24 [v0, v1, .slice A n c] = some y0 := by simpa [cells_dag, Value.cells] using hf 0 _ rfl
  exact cap_Dag f0
end
end Go.Proofs.Ytfkbilbgndekkaa
