/- droverref4.Message: kinds 1, 3, 7. -/
import Derived.Test.YtgfakefcmbpboaaSxWgc
namespace Go.Proofs.Ytgfakefcmbpboaa
open Go.RowKit
set_option linter.unusedSimpArgs false
set_option linter.unusedVariables false

end Go.Proofs.Ytgfakefcmbpboaa
namespace Go.Proofs.Ytgfakefcmbpboaa
open Go.RowKit
set_option linter.unusedSimpArgs false
set_option linter.unusedVariables false

end Go.Proofs.Ytgfakefcmbpboaa
