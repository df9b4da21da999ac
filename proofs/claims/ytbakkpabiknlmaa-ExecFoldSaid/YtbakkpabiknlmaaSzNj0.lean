/- Tables: what a transaction makes of a table. -/
import Derived.Test.YtbakkpabiknlmaaSzNi
namespace Go.Proofs.Ytbakkpabiknlmaa
open Go.RowKit
set_option linter.unusedSimpArgs false
set_option linter.unusedVariables false

noncomputable def lastA (q : List AcctD) (s : Int) : Int := if khasA q s = true then (ath q (kposA q s)).sq else 0
/-- A transaction takes effect. -/
def OkT (l : List PairD) (q : List AcctD) (x : TxD) : Prop := txS x = true ∧ x.sq = lastA q x.se + 1 ∧ ¬ (khasA q x.se = false ∧ 4096 ≤ q.length) ∧ ¬ (khasP l x.k = false ∧ ¬ x.v.size = 0 ∧ 4096 ≤ l.length)
noncomputable def okT (l : List PairD) (q : List AcctD) (x : TxD) : Bool := dec (OkT l q x)
noncomputable def setA (q : List AcctD) (x : TxD) : List AcctD := if khasA q x.se = true then q.set (kposA q x.se) ⟨x.se, x.sq⟩ else q.take (kposA q x.se) ++ [⟨x.se, x.sq⟩] ++ q.drop (kposA q x.se)
noncomputable def setP (l : List PairD) (x : TxD) : List PairD :=
  if x.v.size = 0 then (if khasP l x.k = true then l.take (kposP l x.k) ++ l.drop (kposP l x.k + 1) else l)
  else (if khasP l x.k = true then l.set (kposP l x.k) ⟨x.k, x.v⟩ else l.take (kposP l x.k) ++ [⟨x.k, x.v⟩] ++ l.drop (kposP l x.k))
noncomputable def doA (l : List PairD) (q : List AcctD) (x : TxD) : List AcctD := if okT l q x = true then setA q x else q
noncomputable def doP (l : List PairD) (q : List AcctD) (x : TxD) : List PairD := if okT l q x = true then setP l x else l
end Go.Proofs.Ytbakkpabiknlmaa
