/- Votes: own rows written; copies; spoiling; trimming, at the reference. -/
import Derived.Test.YtgljmljmljccgaaYh
namespace Go.Proofs.Ytgljmljmljccgaa
open Go.RowKit
set_option linter.unusedSimpArgs false
set_option linter.unusedVariables false

theorem own_put {w : World} {B k n c g j : Nat} {t : TypeId} {xs : List Value} {u : Value} (h : w.ownsRow B t k (.slice (some ⟨g, 0, none⟩) n c) n xs) (hj : j < n * k) : (w.setCell ⟨g, j, none⟩ u).ownsRow B t k (.slice (some ⟨g, 0, none⟩) n c) n (xs.set j u) := by
  obtain ⟨h1, h2⟩ := h
  refine ⟨by simpa using h1, ?_⟩
  rcases h2 with ⟨e, _⟩ | ⟨g', cap, cur, e, hb, hg, hc, hm, hs, ht⟩
  · cases e
  · injection e with e1 e2 e3
    injection e1 with e1; injection e1 with e1
    subst e1; subst e3
    refine .inr ⟨g, c, cur.setIfInBounds j u, rfl, hb, ?_, hc, hm, by simpa using hs, ?_⟩
    · simp [World.setCell, Array.getElem?_modify, hg]
    · rw [Array.toList_setIfInBounds, ← ht]
      apply List.ext_getElem?
      intro q
      simp only [List.getElem?_take, List.getElem?_set, List.length_take]
      by_cases hq : q < n * k
      · simp only [hq, if_true]
        by_cases hqj : j = q
        · subst hqj
          have hcl : cur.toList.length = c * k := by simpa using hs
          have : n * k ≤ c * k := Nat.mul_le_mul_right _ hc
          simp [show j < cur.size by omega, hj]
          omega
        · simp [hqj]
      · have hqj : ¬ j = q := by omega
        simp [hq, hqj]
theorem own_get {w : World} {B k n c g : Nat} {t : TypeId} {xs : List Value} (h : w.ownsRow B t k (.slice (some ⟨g, 0, none⟩) n c) n xs) : (∀ j u, xs[j]? = some u → w.cell? ⟨g, j, none⟩ = some u) ∧ ∀ j, w.frozen? ⟨g, j, none⟩ = false := by
  refine ⟨fun j u hj => ?_, fun j => ?_⟩
  · have := World.ownsRow.cells h (g := g) rfl j u hj
    simpa [Addr.add_lit] using this
  · rcases h.2 with ⟨e, _⟩ | ⟨g', cap, cur, e, hb, hg, _⟩
    · cases e
    · injection e with e1 e2 e3
      injection e1 with e1; injection e1 with e1
      subst e1
      simp [World.frozen?, hg]
theorem own_shape {w : World} {B k n : Nat} {t : TypeId} {v : Value} {xs : List Value} (h : w.ownsRow B t k v n xs) : (v = .slice none 0 0 ∧ n = 0) ∨ ∃ g c, v = .slice (some ⟨g, 0, none⟩) n c ∧ B ≤ g ∧ n ≤ c := by
  rcases h.2 with h | ⟨g, cap, cur, rfl, hb, _, hc, _⟩
  · exact .inl h
  · exact .inr ⟨g, cap, rfl, hb, hc⟩
theorem flat_set3 (v : VoteD) : ∀ (l : List VoteD) (i : Nat), i < l.length → (((flat encV l).set (i * 3) (.int .i64 v.ro)).set (i * 3 + 1) (.int .i64 v.au)).set (i * 3 + 2) (.int .i64 v.di) = flat encV (l.set i v)
  | [], i, h => absurd h (by simp)
  | x :: l, 0, _ => by simp [flat, encV]
  | x :: l, i + 1, h => by
    have ih := flat_set3 v l i (by simpa using h)
    have e : ∀ (m : List VoteD), flat encV (x :: m) = .int .i64 x.ro :: .int .i64 x.au :: .int .i64 x.di :: flat encV m := fun m => by simp [flat, encV]
    rw [List.set_cons_succ, e, e, ← ih]
    rw [show (i + 1) * 3 = i * 3 + 3 by omega]
    rfl
theorem box_votes {w : World} {g : Nat} {v : VoteD} (h : BoxR w g [.int .i64 v.ro, .int .i64 v.au, .int .i64 v.di]) : ∀ j u, (flat encV [v])[j]? = some u → w.cell? ⟨g, 0 + j, none⟩ = some u := fun j u hj => by
  rw [Nat.zero_add]
  exact h.2 j u (by simpa [flat, encV] using hj)
theorem take_vth (l : List VoteD) (k : Nat) (h : k < l.length) : l.take (k + 1) = l.take k ++ [vth l k] := by
  rw [List.take_succ_eq_append_getElem h]; simp [vth, h]
def cutV (l : List VoteD) (low : Int) : List VoteD := l.filter fun v => decide (low < v.ro)
theorem cutV_yes {l : List VoteD} {low : Int} {k : Nat} (h : k < l.length) (hr : low < (vth l k).ro) : cutV (l.take (k + 1)) low = cutV (l.take k) low ++ [vth l k] := by
  unfold cutV; rw [take_vth l k h, List.filter_append]; simp [hr]
theorem cutV_no {l : List VoteD} {low : Int} {k : Nat} (h : k < l.length) (hr : ¬ low < (vth l k).ro) : cutV (l.take (k + 1)) low = cutV (l.take k) low := by
  unfold cutV; rw [take_vth l k h, List.filter_append]; simp [hr]
theorem cutV_le (l : List VoteD) (low : Int) (k : Nat) : (cutV (l.take k) low).length ≤ k := by
  have := List.length_filter_le (fun v : VoteD => decide (low < v.ro)) (l.take k)
  unfold cutV; simp at this; omega
end Go.Proofs.Ytgljmljmljccgaa
