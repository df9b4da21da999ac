/- Fetch: a tick, plain; rows of one's own written in place. -/
import Derived.Test.YtnngeaibdnnpoaaSgHr
namespace Go.Proofs.Ytnngeaibdnnpoaa
open Go.RowKit
set_option linter.unusedSimpArgs false
set_option linter.unusedVariables false

end Go.Proofs.Ytnngeaibdnnpoaa
