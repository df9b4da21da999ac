/- Fetch: fetch.Beat. -/
import Derived.Test.YtnngeaibdnnpoaaSgHt
namespace Go.Proofs.Ytnngeaibdnnpoaa
open Go.RowKit
set_option linter.unusedSimpArgs false
set_option linter.unusedVariables false

theorem OwnQ.setAp {w : World} {B g o : Nat} {u x : Value} {l : List FRowD} (h : OwnQ w B u l) (ha : u.ownBlock ≠ some g) : OwnQ (w.setCell ⟨g, o, none⟩ x) B u l := own_of_heap h (fun g' hg' => Below.heap_setCell _ _ _ _ (fun e => ha (by rw [hg', e])))
end Go.Proofs.Ytnngeaibdnnpoaa
