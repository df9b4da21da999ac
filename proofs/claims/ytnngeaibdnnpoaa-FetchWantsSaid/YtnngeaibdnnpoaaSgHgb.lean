/- Fetch: fetch.Got, droverref21.Got. -/
import Derived.Test.YtnngeaibdnnpoaaSgHga
import Derived.Test.YtnngeaibdnnpoaaSgHy
namespace Go.Proofs.Ytnngeaibdnnpoaa
open Go.RowKit
set_option linter.unusedSimpArgs false
set_option linter.unusedVariables false

end Go.Proofs.Ytnngeaibdnnpoaa
