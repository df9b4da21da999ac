/- message.only: kinds 1, 3. -/
import Derived.Test.YtgfakefcmbpboaaSqWgc
namespace Go.Proofs.Ytgfakefcmbpboaa
open Go.RowKit
set_option linter.unusedSimpArgs false
set_option linter.unusedVariables false

end Go.Proofs.Ytgfakefcmbpboaa
