/- slices.Insert: one element into a row of one's own. slices.Clone. At votes. -/
import Derived.Test.YtgljmljmljccgaaGr
namespace Go.Proofs.Ytgljmljmljccgaa
open Go.RowKit
set_option linter.unusedSimpArgs false
set_option linter.unusedVariables false

end Go.Proofs.Ytgljmljmljccgaa
