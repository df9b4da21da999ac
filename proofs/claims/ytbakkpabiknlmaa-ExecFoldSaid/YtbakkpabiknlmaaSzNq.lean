/- Tables: Apply, at the program; what is spoilt. -/
import Derived.Test.YtbakkpabiknlmaaSzNp
import Derived.Test.YtbakkpabiknlmaaSzNj
import Derived.Test.YtbakkpabiknlmaaSzNk
namespace Go.Proofs.Ytbakkpabiknlmaa
open Go.RowKit
set_option linter.unusedSimpArgs false
set_option linter.unusedVariables false
variable {tb : TypeId} {rs : List Value}

/-- Do: what it makes of a table of one's own. -/
theorem table_Do (C bt : Nat) (vp va : Value) (l : List PairD) (q : List AcctD) (x : TxD) (y : Bool) (w : World) (hT : TabX tb rs w C bt vp va l q) (hM : MayT l q) (hy : okT l q x = y) :
    Calls Try.prog 62 #[.pointer (some ⟨bt, 0, none⟩), .agg #[.int .i64 x.se, .int .i64 x.sq, .string x.k, .string x.v]] w fun e w' => e = .returned (.bool y) ∧ ∃ vp' va', TabX tb rs w' C bt vp' va' (doP l q x) (doA l q x) ∧ DoK w w' bt vp va vp' va' := by
  have hl : l.length ≤ 4096 := hM.1.1
  have hq : q.length ≤ 4096 := hM.2.1
  obtain ⟨Ap, cp, rfl, hpr, _, _⟩ := hT.p.pairs (by omega)
  obtain ⟨Aa, ca, rfl, har, _, _⟩ := hT.a.accts (by omega)
  by_cases hO : OkT l q x
  · have e1 : okT l q x = true := (dec_true hO).symm
    rw [show doP l q x = setP l x by unfold doP; rw [if_pos e1], show doA l q x = setA q x by unfold doA; rw [if_pos e1], ← hy, e1]
    exact table_Do_yes C bt Ap _ cp l Aa _ ca q x w hT hpr har hM hO
  · have e1 : okT l q x = false := (dec_false hO).symm
    rw [show doP l q x = l by unfold doP; rw [if_neg (by rw [e1]; simp)], show doA l q x = q by unfold doA; rw [if_neg (by rw [e1]; simp)], ← hy, e1]
    refine (table_Do_no bt Ap _ cp l Aa _ ca q x w hT.blk hpr har hM hO).mono ?_
    rintro e w' ⟨rfl, hb⟩
    exact ⟨rfl, _, _, hT.up hb, .of_below hb⟩
theorem own_nz {w : World} {B k n : Nat} {t : TypeId} {A : Option Addr} {c : Nat} {xs : List Value} (h : w.ownsRow B t k (.slice A n c) n xs) (hn : 0 < n) : ∃ g, A = some ⟨g, 0, none⟩ ∧ B ≤ g ∧ g < w.heap.size := by
  rcases own_shape h with ⟨_, h0⟩ | ⟨g, c', e, hg, _⟩
  · omega
  · injection e with e1 e2 e3
    subst e1
    exact ⟨g, rfl, hg, (own_lt h g rfl).2⟩
end Go.Proofs.Ytbakkpabiknlmaa
