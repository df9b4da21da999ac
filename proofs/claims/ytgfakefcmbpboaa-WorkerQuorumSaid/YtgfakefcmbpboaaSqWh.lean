/- What a worker may be, at the reference. -/
import Derived.Test.YtgfakefcmbpboaaSqWf
namespace Go.Proofs.Ytgfakefcmbpboaa
open Go.RowKit
set_option linter.unusedSimpArgs false
set_option linter.unusedVariables false

end Go.Proofs.Ytgfakefcmbpboaa
