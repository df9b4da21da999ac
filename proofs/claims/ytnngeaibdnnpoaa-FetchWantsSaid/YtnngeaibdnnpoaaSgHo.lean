/- Fetch: droverref21.asks. -/
import Derived.Test.YtnngeaibdnnpoaaSgHm
import Derived.Deep.RegionHeld3
namespace Go.Proofs.Ytnngeaibdnnpoaa
open Go.RowKit
set_option linter.unusedSimpArgs false
set_option linter.unusedVariables false

end Go.Proofs.Ytnngeaibdnnpoaa
