/- One more is held, at the page: Step.holds. -/
import Derived.Test.YtgfakefcmbpboaaGreatSuWro
import Derived.Test.YtgfakefcmbpboaaGreatSuWsf
namespace Go.Proofs.YtgfakefcmbpboaaGreat
set_option linter.all false
set_option maxRecDepth 100000
open Go.RowKit

end Go.Proofs.YtgfakefcmbpboaaGreat
