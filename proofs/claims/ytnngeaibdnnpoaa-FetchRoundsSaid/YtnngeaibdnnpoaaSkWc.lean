/- droverlaw13: weights, heavy: what is played. -/
import Derived.Test.YtnngeaibdnnpoaaSkWa
import Derived.Deep.RegionHeld3
namespace Go.Proofs.Ytnngeaibdnnpoaa
open Go.RowKit
set_option linter.unusedSimpArgs false
set_option linter.unusedVariables false

def M18 (P : MsgP) (M : MsgD) : Value := .agg #[.int .i64 M.ki, .int .i64 M.fr, .int .i64 M.tt, .int .i64 M.di, .int .i64 M.b.au, .int .i64 M.b.n, .slice P.b.A P.b.n P.b.c, .int .i64 M.h.au, .int .i64 M.h.ro, .slice P.h.b.A P.h.b.n P.h.b.c, .slice P.h.p.A P.h.p.n P.h.p.c, .int .i64 M.c.h.au, .int .i64 M.c.h.ro, .slice P.c.h.b.A P.c.h.b.n P.c.h.b.c, .slice P.c.h.p.A P.c.h.p.n P.c.h.p.c, .int .i64 M.c.di, .slice P.c.s.A P.c.s.n P.c.s.c, .slice P.ds.A P.ds.n P.ds.c]
end Go.Proofs.Ytnngeaibdnnpoaa
