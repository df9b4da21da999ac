/- Answers written over: held batches, workers. -/
import Derived.Test.YtnngeaibdnnpoaaSkWs
namespace Go.Proofs.Ytnngeaibdnnpoaa
open Go.RowKit
set_option linter.unusedSimpArgs false
set_option linter.unusedVariables false

end Go.Proofs.Ytnngeaibdnnpoaa
