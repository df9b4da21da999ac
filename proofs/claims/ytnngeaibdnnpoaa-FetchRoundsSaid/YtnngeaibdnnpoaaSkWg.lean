/- Workers: copied, the same, at the reference. -/
import Derived.Test.YtnngeaibdnnpoaaSkWe
namespace Go.Proofs.Ytnngeaibdnnpoaa
open Go.RowKit
set_option linter.unusedSimpArgs false
set_option linter.unusedVariables false

end Go.Proofs.Ytnngeaibdnnpoaa
