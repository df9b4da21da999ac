/- A transaction more that is refused, at the program: Add. -/
import Derived.Test.YtgfakefcmbpboaaGreatShWsc
import Derived.Test.YtgfakefcmbpboaaGreatShWsd
import Derived.Test.YtgfakefcmbpboaaGreatShWh
namespace Go.Proofs.YtgfakefcmbpboaaGreat
open Go.RowKit
set_option linter.unusedSimpArgs false
set_option linter.unusedVariables false

def zeroW : Value := .agg #[.int .i64 0, .int .i64 0, .int .i64 0, .slice none 0 0, .int .i64 0, .int .i64 0, .slice none 0 0, .slice none 0 0, .slice none 0 0]
end Go.Proofs.YtgfakefcmbpboaaGreat
