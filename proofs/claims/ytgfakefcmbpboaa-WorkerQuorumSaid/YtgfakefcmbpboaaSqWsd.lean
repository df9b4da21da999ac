/- Answers written over: held batches, workers. -/
import Derived.Test.YtgfakefcmbpboaaSqWs
namespace Go.Proofs.Ytgfakefcmbpboaa
open Go.RowKit
set_option linter.unusedSimpArgs false
set_option linter.unusedVariables false

end Go.Proofs.Ytgfakefcmbpboaa
