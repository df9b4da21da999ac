/- Fetch: droverref21.Tick. -/
import Derived.Test.YtnngeaibdnnpoaaSgHu
import Derived.Test.YtnngeaibdnnpoaaSgHo
namespace Go.Proofs.Ytnngeaibdnnpoaa
open Go.RowKit
set_option linter.unusedSimpArgs false
set_option linter.unusedVariables false

end Go.Proofs.Ytnngeaibdnnpoaa
