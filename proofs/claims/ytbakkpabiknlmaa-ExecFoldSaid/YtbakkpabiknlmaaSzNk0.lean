/- Tables of one's own in a box of one's own: what Do keeps. -/
import Derived.Test.YtbakkpabiknlmaaSzNj0
namespace Go.Proofs.Ytbakkpabiknlmaa
open Go.RowKit
set_option linter.unusedSimpArgs false
set_option linter.unusedVariables false

/-- A table of one's own in a box of one's own. -/
structure TabX (tb : TypeId) (rs : List Value) (w : World) (C bt : Nat) (vp va : Value) (l : List PairD) (q : List AcctD) : Prop where
  blk : Blk w bt tb (vp :: va :: rs)
  p : OwnP w C vp l
  a : OwnA w C va q
  d : Disj vp va
  np : vp.ownBlock ≠ some bt
  na : va.ownBlock ≠ some bt
  cb : C ≤ bt
abbrev TabR := TabX 25 []
variable {tb : TypeId} {rs : List Value}
theorem TabX.up {w w' : World} {C bt : Nat} {vp va : Value} {l : List PairD} {q : List AcctD} (h : TabX tb rs w C bt vp va l q) (hb : Below w.heap.size w w') : TabX tb rs w' C bt vp va l q :=
  { h with blk := h.blk.up hb, p := h.p.up hb, a := h.a.up hb }
/-- The accounts are another row now, and the box says so. -/
theorem TabX.newA {w w' : World} {C bt : Nat} {vp va va' : Value} {l : List PairD} {q q' : List AcctD} (h : TabX tb rs w C bt vp va l q) (ho : OwnA w' C va' q') (hg : w.grownBy w' va.ownBlock)
    (hat : va'.ownBlock = va.ownBlock ∨ ∃ g, va'.ownBlock = some g ∧ w.heap.size ≤ g) : TabX tb rs (w'.setCell ⟨bt, 1, none⟩ va') C bt vp va' l q' := by
  have hbt := h.blk.lt
  have hp : OwnP w' C vp l := own_grown h.p hg h.d
  have hna : va'.ownBlock ≠ some bt := by
    rcases hat with e | ⟨g, e, hl⟩
    · rw [e]; exact h.na
    · rw [e]; intro e2; injection e2 with e2; omega
  refine { blk := (h.blk.grown2 hg h.na).set_ 1 va', p := own_setD hp h.np va', a := own_setD ho hna va', d := ?_, np := h.np, na := hna, cb := h.cb }
  intro g1 e1 e2
  rcases hat with e | ⟨g, e, hl⟩
  · rw [e] at e2; exact h.d g1 e1 e2
  · rw [e] at e2; injection e2 with e2; have := (own_lt h.p g1 e1).2; omega
theorem TabX.newP {w w' : World} {C bt : Nat} {vp va vp' : Value} {l l' : List PairD} {q : List AcctD} (h : TabX tb rs w C bt vp va l q) (ho : OwnP w' C vp' l') (hg : w.grownBy w' vp.ownBlock)
    (hat : vp'.ownBlock = vp.ownBlock ∨ ∃ g, vp'.ownBlock = some g ∧ w.heap.size ≤ g) : TabX tb rs (w'.setCell ⟨bt, 0, none⟩ vp') C bt vp' va l' q := by
  have hbt := h.blk.lt
  have hp : OwnA w' C va q := own_grown h.a hg h.d.symm
  have hna : vp'.ownBlock ≠ some bt := by
    rcases hat with e | ⟨g, e, hl⟩
    · rw [e]; exact h.np
    · rw [e]; intro e2; injection e2 with e2; omega
  refine { blk := (h.blk.grown2 hg h.np).set_ 0 vp', p := own_setD ho hna vp', a := own_setD hp h.na vp', d := ?_, np := hna, na := h.na, cb := h.cb }
  intro g1 e1 e2
  rcases hat with e | ⟨g, e, hl⟩
  · rw [e] at e1; exact h.d g1 e1 e2
  · rw [e] at e1; injection e1 with e1; have := (own_lt h.a g1 e2).2; omega
theorem TabX.putA {w : World} {C bt g m c i : Nat} {vp : Value} {l : List PairD} {q : List AcctD} {v : Int} (h : TabX tb rs w C bt vp (.slice (some ⟨g, 0, none⟩) m c) l q) (hm : q.length = m) (hi : i < m) :
    TabX tb rs (w.setCell ⟨g, i * 2 + 1, none⟩ (.int .i64 v)) C bt vp (.slice (some ⟨g, 0, none⟩) m c) l (q.set i ⟨(ath q i).se, v⟩) := by
  have hgb : (Value.slice (some ⟨g, 0, none⟩) m c).ownBlock = some g := rfl
  have hne : bt ≠ g := fun e => h.na (by rw [e]; rfl)
  have hpg : vp.ownBlock ≠ some g := fun e => h.d g e rfl
  have ha : w.ownsRow C 87 2 (.slice (some ⟨g, 0, none⟩) m c) m (flat encA q) := by have := h.a; unfold OwnA at this; rw [hm] at this; exact this
  refine { blk := h.blk.far hne _, p := own_setD h.p hpg _, a := ?_, d := h.d, np := h.np, na := h.na, cb := h.cb }
  unfold OwnA
  rw [List.length_set, hm]
  exact own_putA ha hm hi
theorem TabX.putP {w : World} {C bt g m c i : Nat} {va : Value} {l : List PairD} {q : List AcctD} {v : ByteArray} (h : TabX tb rs w C bt (.slice (some ⟨g, 0, none⟩) m c) va l q) (hm : l.length = m) (hi : i < m) :
    TabX tb rs (w.setCell ⟨g, i * 2 + 1, none⟩ (.string v)) C bt (.slice (some ⟨g, 0, none⟩) m c) va (l.set i ⟨(pth l i).k, v⟩) q := by
  have hgb : (Value.slice (some ⟨g, 0, none⟩) m c).ownBlock = some g := rfl
  have hne : bt ≠ g := fun e => h.np (by rw [e]; rfl)
  have hpg : va.ownBlock ≠ some g := fun e => h.d g rfl e
  have ha : w.ownsRow C 85 2 (.slice (some ⟨g, 0, none⟩) m c) m (flat encP l) := by have := h.p; unfold OwnP at this; rw [hm] at this; exact this
  refine { blk := h.blk.far hne _, p := ?_, a := own_setD h.a hpg _, d := h.d, np := h.np, na := h.na, cb := h.cb }
  unfold OwnP
  rw [List.length_set, hm]
  exact own_putP ha hm hi
theorem flat_insA (q : List AcctD) (y : AcctD) (i : Nat) : (flat encA q).take (i * 2) ++ encA y ++ (flat encA q).drop (i * 2) = flat encA (q.take i ++ [y] ++ q.drop i) := by
  rw [flat_app, flat_app, flat_one, flat_take encA_len, flat_drop encA_len]
theorem flat_insP (q : List PairD) (y : PairD) (i : Nat) : (flat encP q).take (i * 2) ++ encP y ++ (flat encP q).drop (i * 2) = flat encP (q.take i ++ [y] ++ q.drop i) := by
  rw [flat_app, flat_app, flat_one, flat_take encP_len, flat_drop encP_len]
theorem ins_len {α : Type} (q : List α) (y : α) (i : Nat) (h : i ≤ q.length) : (q.take i ++ [y] ++ q.drop i).length = q.length + 1 := by simp; omega
theorem ath_ins (q : List AcctD) (y : AcctD) (i : Nat) (h : i ≤ q.length) : ath (q.take i ++ [y] ++ q.drop i) i = y := by
  unfold ath
  have e : (q.take i).length = i := by simp; omega
  simp [List.getD_eq_getElem?_getD, List.getElem?_append, e]
theorem set_ins (q : List AcctD) (y z : AcctD) (i : Nat) (h : i ≤ q.length) : (q.take i ++ [y] ++ q.drop i).set i z = q.take i ++ [z] ++ q.drop i := by
  have e : (q.take i).length = i := by simp; omega
  rw [List.append_assoc, List.append_assoc, List.set_append, if_neg (by omega), e]
  simp
def DOF (a : Act) (w : World) : Prop := False
/-- What else is kept: all but the box and the two rows. -/
structure DoK (w w' : World) (bt : Nat) (vp va vp' va' : Value) : Prop where
  os : w'.os = w.os
  tape : w'.tape = w.tape
  output : w'.output = w.output
  size : w.heap.size ≤ w'.heap.size
  block : ∀ k, k < w.heap.size → k ≠ bt → vp.ownBlock ≠ some k → va.ownBlock ≠ some k → w'.heap[k]? = w.heap[k]?
  np : ∀ k, k < w.heap.size → vp.ownBlock ≠ some k → vp'.ownBlock ≠ some k
  na : ∀ k, k < w.heap.size → va.ownBlock ≠ some k → va'.ownBlock ≠ some k
theorem DoK.of_below {w w' : World} {bt : Nat} {vp va : Value} (h : Below w.heap.size w w') : DoK w w' bt vp va vp va :=
  ⟨h.os, h.tape, h.output, h.size, fun k hk _ _ _ => h.block k hk, fun _ _ h => h, fun _ _ h => h⟩
theorem DoK.trans {w w1 w2 : World} {bt : Nat} {vp va vp1 va1 vp2 va2 : Value} (h : DoK w w1 bt vp va vp1 va1) (k : DoK w1 w2 bt vp1 va1 vp2 va2) : DoK w w2 bt vp va vp2 va2 :=
  ⟨k.os.trans h.os, k.tape.trans h.tape, k.output.trans h.output, Nat.le_trans h.size k.size,
    fun j hj h1 h2 h3 => (k.block j (Nat.lt_of_lt_of_le hj h.size) h1 (h.np j hj h2) (h.na j hj h3)).trans (h.block j hj h1 h2 h3),
    fun j hj h2 => k.np j (Nat.lt_of_lt_of_le hj h.size) (h.np j hj h2), fun j hj h3 => k.na j (Nat.lt_of_lt_of_le hj h.size) (h.na j hj h3)⟩
theorem DoK.up {w w1 w2 : World} {bt : Nat} {vp va vp1 va1 : Value} (h : DoK w w1 bt vp va vp1 va1) (k : Below w1.heap.size w1 w2) : DoK w w2 bt vp va vp1 va1 := h.trans (.of_below k)
theorem DoK.newA {w w' : World} {bt o : Nat} {vp va va' u : Value} (hg : w.grownBy w' va.ownBlock) (hat : va'.ownBlock = va.ownBlock ∨ ∃ g, va'.ownBlock = some g ∧ w.heap.size ≤ g) : DoK w (w'.setCell ⟨bt, o, none⟩ u) bt vp va vp va' :=
  ⟨hg.os, hg.tape, hg.output, by simpa using hg.size, fun k hk h1 _ h3 => (Below.heap_setCell _ _ _ _ h1).trans (hg.block k hk (fun e => h3 e.symm)), fun _ _ h => h, fun k hk h => by
    rcases hat with e | ⟨g, e, hl⟩
    · rw [e]; exact h
    · rw [e]; intro e2; injection e2 with e2; omega⟩
theorem DoK.newP {w w' : World} {bt o : Nat} {vp va vp' u : Value} (hg : w.grownBy w' vp.ownBlock) (hat : vp'.ownBlock = vp.ownBlock ∨ ∃ g, vp'.ownBlock = some g ∧ w.heap.size ≤ g) : DoK w (w'.setCell ⟨bt, o, none⟩ u) bt vp va vp' va :=
  ⟨hg.os, hg.tape, hg.output, by simpa using hg.size, fun k hk h1 h3 _ => (Below.heap_setCell _ _ _ _ h1).trans (hg.block k hk (fun e => h3 e.symm)), fun k hk h => by
    rcases hat with e | ⟨g, e, hl⟩
    · rw [e]; exact h
    · rw [e]; intro e2; injection e2 with e2; omega, fun _ _ h => h⟩
theorem DoK.putA {w : World} {bt g o : Nat} {vp va u : Value} (hg : va.ownBlock = some g) : DoK w (w.setCell ⟨g, o, none⟩ u) bt vp va vp va :=
  ⟨rfl, rfl, rfl, by simp, fun k _ _ _ h3 => Below.heap_setCell _ _ _ _ (fun e => h3 (by rw [hg, e])), fun _ _ h => h, fun _ _ h => h⟩
theorem DoK.putP {w : World} {bt g o : Nat} {vp va u : Value} (hg : vp.ownBlock = some g) : DoK w (w.setCell ⟨g, o, none⟩ u) bt vp va vp va :=
  ⟨rfl, rfl, rfl, by simp, fun k _ _ h3 _ => Below.heap_setCell _ _ _ _ (fun e => h3 (by rw [hg, e])), fun _ _ h => h, fun _ _ h => h⟩
theorem DoK.below {w w' : World} {C bt : Nat} {vp va vp' va' : Value} {l : List PairD} {q : List AcctD} (h : DoK w w' bt vp va vp' va') (t : TabX tb rs w C bt vp va l q) : Below C w w' :=
  ⟨h.os, h.tape, h.output, h.size, fun k hk => by
    have := t.blk.lt
    have := t.cb
    exact h.block k (by omega) (by omega) (fun e => by have := (own_lt t.p k e).1; omega) (fun e => by have := (own_lt t.a k e).1; omega)⟩
theorem DoK.blk {w w' : World} {bt g : Nat} {vp va vp' va' : Value} {t : TypeId} {cs : List Value} (h : DoK w w' bt vp va vp' va') (hb : Blk w g t cs) (h1 : g ≠ bt) (h2 : vp.ownBlock ≠ some g) (h3 : va.ownBlock ≠ some g) : Blk w' g t cs := hb.of_heap (h.block g hb.lt h1 h2 h3)
/-- What holds of the table's box, of the transaction's, behind the accounts' place. -/
structure DoR (tb : TypeId) (rs : List Value) (w wx : World) (C bt : Nat) (vp : Value) (l : List PairD) (va0 : Value) (q : List AcctD) (x : TxD) (i : Nat) (va : Value) (q' : List AcctD) : Prop where
  t : TabX tb rs wx C bt vp va l q'
  bx : Blk wx w.heap.size 81 [.int .i64 x.se, .int .i64 x.sq, .string x.k, .string x.v]
  lt : i < q'.length
  le : q'.length ≤ 4097
  set : q'.set i ⟨(ath q' i).se, x.sq⟩ = setA q x
  nv : va.ownBlock ≠ some w.heap.size
  k : DoK w wx bt vp va0 vp va
end Go.Proofs.Ytbakkpabiknlmaa
