/- Tables: rows laid anew. -/
import Derived.Test.YtbakkpabiknlmaaGreatSyNp
import Derived.Test.YtbakkpabiknlmaaGreatSyNt
import Derived.Deep.CutBlock
import Derived.Deep.RegionLaw
namespace Go.Proofs.YtbakkpabiknlmaaGreat
open Go.RowKit
set_option linter.unusedSimpArgs false
set_option linter.unusedVariables false

theorem OwnP.named {w : World} {B : Nat} {v : Value} {l : List PairD} (h : OwnP w B v l) (hl : l.length ≤ 9223372036854775807) : ∃ A n c, v = .slice A n c ∧ l.length = n := by
  obtain ⟨A, c, e, _⟩ := h.pairs hl
  exact ⟨A, _, c, e, rfl⟩
theorem OwnA.named {w : World} {B : Nat} {v : Value} {l : List AcctD} (h : OwnA w B v l) (hl : l.length ≤ 9223372036854775807) : ∃ A n c, v = .slice A n c ∧ l.length = n := by
  obtain ⟨A, c, e, _⟩ := h.accts hl
  exact ⟨A, _, c, e, rfl⟩
theorem TabR.freshA {w w1 : World} {C bt : Nat} {vp va v' : Value} {l : List PairD} {q q' : List AcctD} (h : TabR w C bt vp va l q) (hb : Below w.heap.size w w1) (ho : OwnA w1 w.heap.size v' q') : TabR (w1.setCell ⟨bt, 1, none⟩ v') C bt vp v' l q' := by
  have hbt := h.blk.lt
  have hn : v'.ownBlock ≠ some bt := fun e => by have := (own_lt ho bt e).1; omega
  exact { blk := (h.blk.up hb).set_ 1 v', p := own_setD (h.p.up hb) h.np v', a := own_setD (ho.mono (Nat.le_trans h.cb (Nat.le_of_lt hbt))) hn v', d := fun g e1 e2 => by (have := (own_lt h.p g e1).2; have := (own_lt ho g e2).1; omega), np := h.np, na := hn, cb := h.cb }
theorem TabR.freshP {w w1 : World} {C bt : Nat} {vp va v' : Value} {l l' : List PairD} {q : List AcctD} (h : TabR w C bt vp va l q) (hb : Below w.heap.size w w1) (ho : OwnP w1 w.heap.size v' l') : TabR (w1.setCell ⟨bt, 0, none⟩ v') C bt v' va l' q := by
  have hbt := h.blk.lt
  have hn : v'.ownBlock ≠ some bt := fun e => by have := (own_lt ho bt e).1; omega
  exact { blk := (h.blk.up hb).set_ 0 v', p := own_setD (ho.mono (Nat.le_trans h.cb (Nat.le_of_lt hbt))) hn v', a := own_setD (h.a.up hb) h.na v', d := fun g e1 e2 => by (have := (own_lt h.a g e2).2; have := (own_lt ho g e1).1; omega), np := hn, na := h.na, cb := h.cb }
theorem run_appRP (w : World) (B : Nat) (v : Value) (l : List PairD) (hown : OwnP w B v l) (A : Option Addr) (m c : Nat) (e : List PairD) (he : PairsR w A m e) (hlen : l.length + m ≤ 900000000) (hB : B ≤ w.heap.size) :
    ∃ v' w', (Builtin.append_ #[22, 22] 22 #[v, .slice A m c]).run Tryz.prog w = .ok v' w' ∧ OwnP w' B v' (l ++ e) ∧ w.grownBy w' v.ownBlock ∧ Below B w w' ∧ (v'.ownBlock = v.ownBlock ∨ v'.ownBlock = some w.heap.size) := by
  rcases Nat.eq_zero_or_pos m with h0 | h0
  · subst h0
    have e0 : e = [] := List.length_eq_zero_iff.1 he.1
    subst e0
    obtain ⟨i0, hi, hz, hz1, hz2⟩ := info_parts info_Pair
    refine ⟨v, w, ?_, by simpa using hown, World.grownBy.refl _ _, Below.refl _ _, .inl rfl⟩
    rcases hown.2 with ⟨rfl, _⟩ | ⟨g, cap, cur, rfl, _, _, hnc, _⟩
    · cases A <;> simp [Builtin.append_, run_underlying Tryz.underlying22, sizeOf, typeInfo, hi, Builtin.lenOf, Builtin.firstCells, loadCells, loadCellsFrom, storeCells]
    · cases A <;> simp [Builtin.append_, run_underlying Tryz.underlying22, sizeOf, typeInfo, hi, Builtin.lenOf, Builtin.firstCells, loadCells, loadCellsFrom, hnc, storeCells]
  · obtain ⟨b, off, rfl, hb, hc⟩ := he.2.2.2 h0
    obtain ⟨v', w', hrun, h2, h3, h4, h5⟩ := run_app_Pair w B v l.length (flat encP l) hown b off m c (flat encP e) (by rw [flat_len encP_len, he.1]) hc (flat_oneCell encP_one e) (by omega) hB
    refine ⟨v', w', hrun, ?_, h3, h4, h5⟩
    unfold OwnP; rw [List.length_append, he.1, flat_app]; exact h2
theorem wpList_appRP {w : World} {ops : Array Oper} {rest : List Oper} {o : Oper} {a : Act} {Q : Exit → Act → World → Prop} (hgd : o.guard = none) (s x : Operand)
    (ho : o.op = .call { callee := .builtin .append, args := #[s, x], argTypes := #[22, 22] }) (hty : o.type = 22)
    (B : Nat) (v : Value) (l : List PairD) (hs : a.eval s = v) (hown : OwnP w B v l) (A : Option Addr) (m c : Nat) (e : List PairD) (hx : a.eval x = .slice A m c) (he : PairsR w A m e) (hlen : l.length + m ≤ 900000000) (hB : B ≤ w.heap.size)
    (h : ∀ v' w', OwnP w' B v' (l ++ e) → w.grownBy w' v.ownBlock → Below B w w' → (v'.ownBlock = v.ownBlock ∨ v'.ownBlock = some w.heap.size) → wpList Tryz.prog ops Q rest (a.put o.dst v') w') : wpList Tryz.prog ops Q (o :: rest) a w := by
  obtain ⟨v', w', hrun, h2, h3, h4, h5⟩ := run_appRP w B v l hown A m c e he hlen hB
  exact Lib.wpList_append_run w hgd s x _ _ ho v _ hs hx v' w' (by rw [hty]; exact hrun) (h v' w' h2 h3 h4 h5)
theorem run_appRA (w : World) (B : Nat) (v : Value) (l : List AcctD) (hown : OwnA w B v l) (A : Option Addr) (m c : Nat) (e : List AcctD) (he : AcctsR w A m e) (hlen : l.length + m ≤ 900000000) (hB : B ≤ w.heap.size) :
    ∃ v' w', (Builtin.append_ #[23, 23] 23 #[v, .slice A m c]).run Tryz.prog w = .ok v' w' ∧ OwnA w' B v' (l ++ e) ∧ w.grownBy w' v.ownBlock ∧ Below B w w' ∧ (v'.ownBlock = v.ownBlock ∨ v'.ownBlock = some w.heap.size) := by
  rcases Nat.eq_zero_or_pos m with h0 | h0
  · subst h0
    have e0 : e = [] := List.length_eq_zero_iff.1 he.1
    subst e0
    obtain ⟨i0, hi, hz, hz1, hz2⟩ := info_parts info_Acct
    refine ⟨v, w, ?_, by simpa using hown, World.grownBy.refl _ _, Below.refl _ _, .inl rfl⟩
    rcases hown.2 with ⟨rfl, _⟩ | ⟨g, cap, cur, rfl, _, _, hnc, _⟩
    · cases A <;> simp [Builtin.append_, run_underlying Tryz.underlying23, sizeOf, typeInfo, hi, Builtin.lenOf, Builtin.firstCells, loadCells, loadCellsFrom, storeCells]
    · cases A <;> simp [Builtin.append_, run_underlying Tryz.underlying23, sizeOf, typeInfo, hi, Builtin.lenOf, Builtin.firstCells, loadCells, loadCellsFrom, hnc, storeCells]
  · obtain ⟨b, off, rfl, hb, hc⟩ := he.2.2.2 h0
    obtain ⟨v', w', hrun, h2, h3, h4, h5⟩ := run_app_Acct w B v l.length (flat encA l) hown b off m c (flat encA e) (by rw [flat_len encA_len, he.1]) hc (flat_oneCell encA_one e) (by omega) hB
    refine ⟨v', w', hrun, ?_, h3, h4, h5⟩
    unfold OwnA; rw [List.length_append, he.1, flat_app]; exact h2
theorem wpList_appRA {w : World} {ops : Array Oper} {rest : List Oper} {o : Oper} {a : Act} {Q : Exit → Act → World → Prop} (hgd : o.guard = none) (s x : Operand)
    (ho : o.op = .call { callee := .builtin .append, args := #[s, x], argTypes := #[23, 23] }) (hty : o.type = 23)
    (B : Nat) (v : Value) (l : List AcctD) (hs : a.eval s = v) (hown : OwnA w B v l) (A : Option Addr) (m c : Nat) (e : List AcctD) (hx : a.eval x = .slice A m c) (he : AcctsR w A m e) (hlen : l.length + m ≤ 900000000) (hB : B ≤ w.heap.size)
    (h : ∀ v' w', OwnA w' B v' (l ++ e) → w.grownBy w' v.ownBlock → Below B w w' → (v'.ownBlock = v.ownBlock ∨ v'.ownBlock = some w.heap.size) → wpList Tryz.prog ops Q rest (a.put o.dst v') w') : wpList Tryz.prog ops Q (o :: rest) a w := by
  obtain ⟨v', w', hrun, h2, h3, h4, h5⟩ := run_appRA w B v l hown A m c e he hlen hB
  exact Lib.wpList_append_run w hgd s x _ _ ho v _ hs hx v' w' (by rw [hty]; exact hrun) (h v' w' h2 h3 h4 h5)
end Go.Proofs.YtbakkpabiknlmaaGreat
