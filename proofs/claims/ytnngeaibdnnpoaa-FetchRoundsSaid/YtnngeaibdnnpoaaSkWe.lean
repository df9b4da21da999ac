/- Waits, held batches, workers: copies, sameness, at the reference. -/
import Derived.Test.YtnngeaibdnnpoaaSkWb
namespace Go.Proofs.Ytnngeaibdnnpoaa
open Go.RowKit
set_option linter.unusedSimpArgs false
set_option linter.unusedVariables false

theorem OwnI.low {w : World} {B : Nat} {v : Value} {l : List Int} (h : OwnI w B v l) {b o : Nat} (hp : b < B) (u : Value) : OwnI (w.setCell ⟨b, o, none⟩ u) B v l := own_set3 h hp u
end Go.Proofs.Ytnngeaibdnnpoaa
