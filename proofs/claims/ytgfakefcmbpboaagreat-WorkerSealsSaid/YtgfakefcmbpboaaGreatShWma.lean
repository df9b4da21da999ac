/- Make: worker.Make, droverref13.Make. -/
import Derived.Test.YtgfakefcmbpboaaGreatShWl
import Derived.Test.YtgfakefcmbpboaaGreatShWf
namespace Go.Proofs.YtgfakefcmbpboaaGreat
open Go.RowKit
set_option linter.unusedSimpArgs false
set_option linter.unusedVariables false

end Go.Proofs.YtgfakefcmbpboaaGreat
