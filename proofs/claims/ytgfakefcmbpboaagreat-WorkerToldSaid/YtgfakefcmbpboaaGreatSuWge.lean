/- message.only: kinds 1, 3. -/
import Derived.Test.YtgfakefcmbpboaaGreatSuWgc
namespace Go.Proofs.YtgfakefcmbpboaaGreat
set_option linter.all false
set_option maxRecDepth 100000
open Go.RowKit

end Go.Proofs.YtgfakefcmbpboaaGreat
