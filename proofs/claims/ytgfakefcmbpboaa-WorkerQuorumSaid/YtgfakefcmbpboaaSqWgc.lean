/- message.only: kinds 1, 3, 7, 8. -/
import Derived.Test.YtgfakefcmbpboaaSqWec
import Derived.Deep.RegionHeld3
namespace Go.Proofs.Ytgfakefcmbpboaa
open Go.RowKit
set_option linter.unusedSimpArgs false
set_option linter.unusedVariables false

end Go.Proofs.Ytgfakefcmbpboaa
