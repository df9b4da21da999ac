/- Tables: Do, where it takes effect. -/
import Derived.Test.YtbakkpabiknlmaaSzNka
import Derived.Test.YtbakkpabiknlmaaSzNkb
namespace Go.Proofs.Ytbakkpabiknlmaa
open Go.RowKit
set_option linter.unusedSimpArgs false
set_option linter.unusedVariables false
variable {tb : TypeId} {rs : List Value}

set_option maxRecDepth 100000 in
set_option maxHeartbeats 8000000 in
theorem table_Do_yes (C bt : Nat) (Ap : Option Addr) (n cp : Nat) (l : List PairD) (Aa : Option Addr) (m ca : Nat) (q : List AcctD) (x : TxD) (w : World) (hT : TabX tb rs w C bt (.slice Ap n cp) (.slice Aa m ca) l q) (hl : PairsR w Ap n l) (hq : AcctsR w Aa m q) (hM : MayT l q) (hO : OkT l q x) :
    Calls Try.prog 62 #[.pointer (some ⟨bt, 0, none⟩), .agg #[.int .i64 x.se, .int .i64 x.sq, .string x.k, .string x.v]] w fun e w' => e = .returned (.bool true) ∧ ∃ vp va, TabX tb rs w' C bt vp va (setP l x) (setA q x) ∧ DoK w w' bt (.slice Ap n cp) (.slice Aa m ca) vp va := by
  cases hh : khasA q x.se
  · cases ht : khasP l x.k
    · by_cases hv : x.v.size = 0
      · exact table_Do_yesFFE C bt Ap n cp l Aa m ca q x w hT hl hq hM hO hh ht hv
      · exact table_Do_yesFFN C bt Ap n cp l Aa m ca q x w hT hl hq hM hO hh ht hv
    · by_cases hv : x.v.size = 0
      · exact table_Do_yesFTE C bt Ap n cp l Aa m ca q x w hT hl hq hM hO hh ht hv
      · exact table_Do_yesFTN C bt Ap n cp l Aa m ca q x w hT hl hq hM hO hh ht hv
  · cases ht : khasP l x.k
    · by_cases hv : x.v.size = 0
      · exact table_Do_yesTFE C bt Ap n cp l Aa m ca q x w hT hl hq hM hO hh ht hv
      · exact table_Do_yesTFN C bt Ap n cp l Aa m ca q x w hT hl hq hM hO hh ht hv
    · by_cases hv : x.v.size = 0
      · exact table_Do_yesTTE C bt Ap n cp l Aa m ca q x w hT hl hq hM hO hh ht hv
      · exact table_Do_yesTTN C bt Ap n cp l Aa m ca q x w hT hl hq hM hO hh ht hv
end Go.Proofs.Ytbakkpabiknlmaa
