/- Fetch: fetch.Tick. -/
import Derived.Test.YtnngeaibdnnpoaaSgHu
namespace Go.Proofs.Ytnngeaibdnnpoaa
open Go.RowKit
set_option linter.unusedSimpArgs false
set_option linter.unusedVariables false

end Go.Proofs.Ytnngeaibdnnpoaa
