/- Copies at the program: transactions, batches, held batches, waits; a worker of one's own. -/
import Derived.Test.YtnngeaibdnnpoaaSkWg
import Derived.Deep.RegionHeld3
namespace Go.Proofs.Ytnngeaibdnnpoaa
open Go.RowKit
set_option linter.unusedSimpArgs false
set_option linter.unusedVariables false

theorem step_run {P : Program} {ops : Array Oper} {o : Oper} {a : Act} {w : World} {K : Act → World → Prop} {Q : Exit → Act → World → Prop} {E : Prop} (hg : o.guard = none) (s x : Operand) (t t' : TypeId)
    (ho : o.op = .call { callee := .builtin .append, args := #[s, x], argTypes := #[t, t'] }) (v v9 : Value) (hs : a.eval s = v) (hx : a.eval x = v9) (v' : Value) (w' : World) (hrun : (Builtin.append_ #[t, t'] o.type #[v, v9]).run P w = .ok v' w')
    (h : K (a.put o.dst v') w') : if Region.wanted o (yielded ops a.tmps) = true then Oper.wp P o a w K Q else E := by
  have hw : Region.wanted o (yielded ops a.tmps) = true := by simp [Region.wanted, hg]
  rw [if_pos hw]
  exact Lib.wp_append_run w s x _ _ ho v _ hs hx v' w' hrun h
end Go.Proofs.Ytnngeaibdnnpoaa
