/- Fetch: step, what it returns. -/
import Derived.Test.YtnngeaibdnnpoaaSkHgc
import Derived.Test.YtnngeaibdnnpoaaSkHst
namespace Go.Proofs.Ytnngeaibdnnpoaa
open Go.RowKit
set_option linter.unusedSimpArgs false
set_option linter.unusedVariables false

theorem refd_Digests (A : Option Addr) (n c : Nat) (l : List Int) (y : Bool) (w : World) (hl : IntsR w A n l) (hy : betS l 1 65536 = y) : Calls Try.prog 51 #[.slice A n c] w fun e w' => e = .returned (.bool y) ∧ w = w' := (ref0_Digests A n c l w hl).mono fun e w' ⟨h1, h2⟩ => ⟨by rw [h1, hy], h2⟩
def StepR (w' : World) (e : Ending) : Prop := ∃ (x0 x1 : Int) (s : SlP) (rows' : List FRowD), e = .returned (.tuple #[.agg #[.int .i64 x0, .int .i64 x1, .slice s.A s.n s.c], .bool true]) ∧ RowsR w' s.A s.n rows' ∧ s.n ≤ 1000000
theorem msX_rowM {w w' : World} {B : Nat} {s : SlP} {Ms : List MsgD} (h : OwnMs w B s.v Ms) (hb : Below w.heap.size w w') (hm : ∀ x ∈ Ms, MilM x) : RowM w' B s := by
  obtain ⟨ps, h⟩ := h.up hb
  exact msgs_rowM h hm
end Go.Proofs.Ytnngeaibdnnpoaa
