/- droverref4.Message: kinds 1, 3, 7. -/
import Derived.Test.YtgfakefcmbpboaaGreatSuWgd
namespace Go.Proofs.YtgfakefcmbpboaaGreat
set_option linter.all false
set_option maxRecDepth 100000
open Go.RowKit

end Go.Proofs.YtgfakefcmbpboaaGreat
