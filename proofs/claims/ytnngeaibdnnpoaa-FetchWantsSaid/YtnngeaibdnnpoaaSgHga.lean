/- Fetch: slices.Delete at rows. -/
import Derived.Test.YtnngeaibdnnpoaaSgHr2
import Derived.Deep.Cut
import Derived.Deep.CutRange
namespace Go.Proofs.Ytnngeaibdnnpoaa
open Go.RowKit
set_option linter.unusedSimpArgs false
set_option linter.unusedVariables false

end Go.Proofs.Ytnngeaibdnnpoaa
