/- What is told, at the page: Step.tells; where a digest is held: Step.find. -/
import Derived.Test.YtgfakefcmbpboaaGreatSuWy
import Derived.Test.YtgfakefcmbpboaaGreatSuWp
namespace Go.Proofs.YtgfakefcmbpboaaGreat
set_option linter.all false
set_option maxRecDepth 100000
open Go.RowKit

open Go.RowKit

end Go.Proofs.YtgfakefcmbpboaaGreat
