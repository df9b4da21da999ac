/- Unlike ones: EqTxs, EqNumbers, EqBatch, EqHeader, EqCert, EqMessage tell false. -/
import Derived.Test.YtgfakefcmbpboaaSqWx2
namespace Go.Proofs.Ytgfakefcmbpboaa
open Go.RowKit
set_option linter.unusedSimpArgs false
set_option linter.unusedVariables false

theorem dec_t {p : Prop} (h : p) : dec p = true := dec_iff.2 h
end Go.Proofs.Ytgfakefcmbpboaa
