/- Fetch: a tick, plain; rows of one's own written in place. -/
import Derived.Test.YtnngeaibdnnpoaaSkHr
namespace Go.Proofs.Ytnngeaibdnnpoaa
open Go.RowKit
set_option linter.unusedSimpArgs false
set_option linter.unusedVariables false

theorem own_putK {w : World} {B k n c g o : Nat} {t : TypeId} {xs : List Value} (h : w.ownsRow B t k (.slice (some ⟨g, 0, none⟩) n c) n xs) (v : Value) : (w.setCell ⟨g, o, none⟩ v).ownsRow B t k (.slice (some ⟨g, 0, none⟩) n c) n (xs.set o v) := by
  refine ⟨by rw [List.length_set]; exact h.1, ?_⟩
  rcases h.2 with ⟨e, _⟩ | ⟨g', cap, cur, e, hb, hg, hnc, hcm, hsz, htk⟩
  · cases e
  · injection e with e1 e2 e3
    injection e1 with e1
    injection e1 with e1 _ _
    subst e1; subst e3
    refine .inr ⟨g, c, cur.setIfInBounds o v, rfl, hb, heap_put hg, hnc, hcm, by simpa using hsz, ?_⟩
    rw [Array.toList_setIfInBounds, List.take_set, htk]
def lim (x : Int) : Int := if x < 1099511627776 then x else 1099511627776
def dueB (r : FRowD) : Bool := decide (3 ≤ lim (r.ag + 1))
def tk1 (r : FRowD) : FRowD := if dueB r then ⟨r.ki, r.di, 0, lim (r.tr + 1)⟩ else ⟨r.ki, r.di, lim (r.ag + 1), r.tr⟩
def tickQ (l : List FRowD) : List FRowD := l.map tk1
def dueL (l : List FRowD) : List FRowD := (l.filter dueB).map tk1
def midQ (l : List FRowD) (j : Nat) : List FRowD := tickQ (l.take j) ++ l.drop j
theorem midQ_len (l : List FRowD) (j : Nat) (h : j ≤ l.length) : (midQ l j).length = l.length := by simp [midQ, tickQ]; omega
theorem midQ_at (l : List FRowD) (j : Nat) (h : j < l.length) : qth (midQ l j) j = qth l j := by
  have hl : (tickQ (l.take j)).length = j := by simp [tickQ]; omega
  unfold qth midQ
  rw [List.getD_eq_getElem?_getD, List.getElem?_append_right (by omega), hl, Nat.sub_self, List.getElem?_drop, List.getD_eq_getElem?_getD]
  simp
theorem midQ_succ (l : List FRowD) (j : Nat) (h : j < l.length) : (midQ l j).set j (tk1 (qth l j)) = midQ l (j + 1) := by
  have hl : (tickQ (l.take j)).length = j := by simp [tickQ]; omega
  unfold midQ
  rw [List.set_append_right _ _ (by omega), hl, Nat.sub_self, List.drop_eq_getElem_cons h, List.set_cons_zero, take_qth l j h]
  simp [tickQ]
theorem midQ_end (l : List FRowD) : midQ l l.length = tickQ l := by simp [midQ]
theorem dueL_snoc (l : List FRowD) (j : Nat) (h : j < l.length) : dueL (l.take (j + 1)) = dueL (l.take j) ++ if dueB (qth l j) = true then [tk1 (qth l j)] else [] := by
  unfold dueL
  rw [take_qth l j h, List.filter_append, List.map_append]
  congr 1
  by_cases hc : dueB (qth l j) = true <;> simp [hc]
theorem dueL_len (l : List FRowD) : (dueL l).length ≤ l.length := by unfold dueL; rw [List.length_map]; exact List.length_filter_le _ _
theorem flat_set (l : List FRowD) : ∀ (j r : Nat) (v : Value) (x : FRowD), j < l.length → r < 4 → encQ x = (encQ (qth l j)).set r v → (flat encQ l).set (j * 4 + r) v = flat encQ (l.set j x) := by
  induction l with
  | nil => intro j r v x h; simp at h
  | cons y l ih =>
    intro j r v x h hr he
    cases j with
    | zero =>
      have e1 : encQ x = (encQ y).set r v := he
      show (flat encQ ([y] ++ l)).set (0 * 4 + r) v = flat encQ ([x] ++ l)
      rw [flat_app, flat_app, flat_one, flat_one, Nat.zero_mul, Nat.zero_add, List.set_append_left _ _ (by rw [encQ_len]; exact hr), e1]
    | succ j =>
      have h' : j < l.length := by simpa using h
      show (flat encQ ([y] ++ l)).set ((j + 1) * 4 + r) v = flat encQ ([y] ++ l.set j x)
      rw [flat_app, flat_app, flat_one, List.set_append_right _ _ (by rw [encQ_len]; omega), encQ_len, show (j + 1) * 4 + r - 4 = j * 4 + r by omega, ih j r v x h' hr he]
theorem OwnQ.put {w : World} {B n c g j r : Nat} {l : List FRowD} {v : Value} {x : FRowD} (h : OwnQ w B (.slice (some ⟨g, 0, none⟩) n c) l) (hn : l.length = n) (hj : j < l.length) (hr : r < 4) (he : encQ x = (encQ (qth l j)).set r v) : OwnQ (w.setCell ⟨g, j * 4 + r, none⟩ v) B (.slice (some ⟨g, 0, none⟩) n c) (l.set j x) := by
  unfold OwnQ at h ⊢
  rw [List.length_set, ← flat_set l j r v x hj hr he, hn]
  rw [hn] at h
  exact own_putK h v
theorem OwnQ.opened {w : World} {B n c : Nat} {A : Option Addr} {l : List FRowD} (h : OwnQ w B (.slice A n c) l) (h0 : 0 < n) (hn : n ≤ 1000) : ∃ g, A = some ⟨g, 0, none⟩ ∧ B ≤ g ∧ g < w.heap.size := by
  rcases h.2 with ⟨e, _⟩ | ⟨g, cap, cur, e, hb, hg, _⟩
  · injection e with _ e _; omega
  · injection e with e1 _ _
    exact ⟨g, e1, hb, (Array.getElem?_eq_some_iff.1 hg).1⟩
end Go.Proofs.Ytnngeaibdnnpoaa
