/- A transaction more that is refused, at the program: Add. -/
import Derived.Test.YtgfakefcmbpboaaSqWsc
import Derived.Test.YtgfakefcmbpboaaSqWsd
import Derived.Test.YtgfakefcmbpboaaSqWh
import Derived.Test.YtgfakefcmbpboaaSqWx2
namespace Go.Proofs.Ytgfakefcmbpboaa
open Go.RowKit
set_option linter.unusedSimpArgs false
set_option linter.unusedVariables false

def zeroW : Value := .agg #[.int .i64 0, .int .i64 0, .int .i64 0, .slice none 0 0, .int .i64 0, .int .i64 0, .slice none 0 0, .slice none 0 0, .slice none 0 0]
end Go.Proofs.Ytgfakefcmbpboaa
namespace Go.Proofs.Ytgfakefcmbpboaa
open Go.RowKit
set_option linter.unusedSimpArgs false
set_option linter.unusedVariables false

def wiI (x n : Int) : Int := x % 18446744073709551616 % n
def cSnd : Code → Code
  | .seq _ c => c
  | c => c
def cFst : Code → Code
  | .seq c _ => c
  | c => c
def cAfter : Nat → Code → Code
  | 0, c => c
  | n + 1, c => cAfter n (cSnd c)
theorem belw_sets9 {n : Nat} {w Y : World} {g : Nat} (h : Below n w Y) (hp : n ≤ g) (a0 a1 a2 a3 a4 a5 a6 a7 a8 : Value) : Below n w (((((((((Y.setCell ⟨g, 0, none⟩ a0).setCell ⟨g, 1, none⟩ a1).setCell ⟨g, 2, none⟩ a2).setCell ⟨g, 3, none⟩ a3).setCell ⟨g, 4, none⟩ a4).setCell ⟨g, 5, none⟩ a5).setCell ⟨g, 6, none⟩ a6).setCell ⟨g, 7, none⟩ a7).setCell ⟨g, 8, none⟩ a8) :=
  ((((((((h.setCell (p := ⟨g, 0, none⟩) hp a0).setCell (p := ⟨g, 1, none⟩) hp a1).setCell (p := ⟨g, 2, none⟩) hp a2).setCell (p := ⟨g, 3, none⟩) hp a3).setCell (p := ⟨g, 4, none⟩) hp a4).setCell (p := ⟨g, 5, none⟩) hp a5).setCell (p := ⟨g, 6, none⟩) hp a6).setCell (p := ⟨g, 7, none⟩) hp a7).setCell (p := ⟨g, 8, none⟩) hp a8
end Go.Proofs.Ytgfakefcmbpboaa
