/- droverlaw13: what is played. -/
import Derived.Test.YtgfakefcmbpboaaSxWx
import Derived.Deep.CutBlock
namespace Go.Proofs.Ytgfakefcmbpboaa
open Go.RowKit
set_option linter.unusedSimpArgs false
set_option linter.unusedVariables false

end Go.Proofs.Ytgfakefcmbpboaa
