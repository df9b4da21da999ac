/- Fetch: droverref21.Want. -/
import Derived.Test.YtnngeaibdnnpoaaSgHgb
namespace Go.Proofs.Ytnngeaibdnnpoaa
open Go.RowKit
set_option linter.unusedSimpArgs false
set_option linter.unusedVariables false

theorem OwnQ.rowsR {w : World} {B n c : Nat} {A : Option Addr} {l : List FRowD} (h : OwnQ w B (.slice A n c) l) (hn : l.length = n) (hm : n ≤ 9223372036854775807) : RowsR w A n l := by
  obtain ⟨A', c', e', h'⟩ := nmQ h hn hm
  injection e' with e1 e2 e3
  subst e1
  exact h'
end Go.Proofs.Ytnngeaibdnnpoaa
