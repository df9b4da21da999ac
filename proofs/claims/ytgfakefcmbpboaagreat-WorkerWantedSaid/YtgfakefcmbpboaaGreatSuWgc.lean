/- message.only: kinds 1, 3, 7, 8. -/
import Derived.Test.YtgfakefcmbpboaaGreatSuWec
import Derived.Deep.RegionHeld3
namespace Go.Proofs.YtgfakefcmbpboaaGreat
set_option linter.all false
set_option maxRecDepth 100000
open Go.RowKit

end Go.Proofs.YtgfakefcmbpboaaGreat
