/- Fetch: step at a tick. -/
import Derived.Test.YtnngeaibdnnpoaaSgHz
namespace Go.Proofs.Ytnngeaibdnnpoaa
open Go.RowKit
set_option linter.unusedSimpArgs false
set_option linter.unusedVariables false

theorem RowT.mono {w : World} {B B' k : Nat} {t : TypeId} {s : SlP} (h : RowT w B t k s) (hB : B' ≤ B) : RowT w B' t k s := by
  rcases h with h | ⟨g, cur, h0, h1, h2⟩
  · exact .inl h
  · exact .inr ⟨g, cur, h0, by omega, h2⟩
theorem Blk.put3 {w : World} {g : Nat} {t : TypeId} {a b c : Value} (h : Blk w g t [a, b, c]) (x y z : Value) : Blk (((w.setCell ⟨g, 0, none⟩ x).setCell ⟨g, 1, none⟩ y).setCell ⟨g, 2, none⟩ z) g t [x, y, z] := ((h.set_ 0 x).set_ 1 y).set_ 2 z
theorem Blk.far3 {w : World} {g b : Nat} {t : TypeId} {cs : List Value} (h : Blk w g t cs) (hne : g ≠ b) (x y z : Value) : Blk (((w.setCell ⟨b, 0, none⟩ x).setCell ⟨b, 1, none⟩ y).setCell ⟨b, 2, none⟩ z) g t cs := ((h.far (p := ⟨b, 0, none⟩) hne x).far (p := ⟨b, 1, none⟩) hne y).far (p := ⟨b, 2, none⟩) hne z
end Go.Proofs.Ytnngeaibdnnpoaa
