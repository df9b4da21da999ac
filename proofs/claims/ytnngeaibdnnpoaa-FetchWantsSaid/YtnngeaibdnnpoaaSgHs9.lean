/- Fetch: step, what it returns. -/
import Derived.Test.YtnngeaibdnnpoaaSgHgc
import Derived.Test.YtnngeaibdnnpoaaSgHst
namespace Go.Proofs.Ytnngeaibdnnpoaa
open Go.RowKit
set_option linter.unusedSimpArgs false
set_option linter.unusedVariables false

def StepR (w' : World) (e : Ending) : Prop := ∃ (x0 x1 : Int) (s : SlP) (rows' : List FRowD), e = .returned (.tuple #[.agg #[.int .i64 x0, .int .i64 x1, .slice s.A s.n s.c], .bool true]) ∧ RowsR w' s.A s.n rows' ∧ s.n ≤ 1000000
end Go.Proofs.Ytnngeaibdnnpoaa
