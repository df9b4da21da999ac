/- Rows of one's own whose elements hold rows of one's own: generic; held batches, waits. -/
import Derived.Test.YtnngeaibdnnpoaaSkWa
namespace Go.Proofs.Ytnngeaibdnnpoaa
open Go.RowKit
set_option linter.unusedSimpArgs false
set_option linter.unusedVariables false

/-- How an element lies (k cells; β: where its lists lie), and what it is to own its lists from block B on. -/
structure DeepT (α β : Type) where
  t : TypeId
  k : Nat
  enc : α → β → List Value
  inner : World → Nat → β → α → Prop
  k0 : 0 < k
  len : ∀ x p, (enc x p).length = k
  one : ∀ {w B p x}, inner w B p x → ∀ u ∈ enc x p, u.oneCell' = true
  up : ∀ {w w' B p x}, inner w B p x → Below w.heap.size w w' → inner w' B p x
  mono : ∀ {w B B' p x}, inner w B p x → B' ≤ B → inner w B' p x
  low : ∀ {w B p x} {b o : Nat} {u : Value}, inner w B p x → b < B → inner (w.setCell ⟨b, o, none⟩ u) B p x
  grown : ∀ {w w' B B' p x} {v : Value} {n : Nat} {xs : List Value}, inner w B p x → w.ownsRow B' t k v n xs → w.grownBy w' v.ownBlock → inner w' B p x
theorem flatK {k : Nat} : ∀ (ll : List (List Value)), (∀ x ∈ ll, x.length = k) → ∀ (j r : Nat), r < k → ll.flatten[j * k + r]? = (ll[j]?).bind (·[r]?)
  | [], _, j, r, _ => by simp
  | x :: ll, h, 0, r, hr => by
    have hx := h x (by simp)
    simp [List.getElem?_append, hx, hr]
  | x :: ll, h, j + 1, r, hr => by
    have hx := h x (by simp)
    have ih := flatK ll (fun y hy => h y (by simp [hy])) j r hr
    simp only [List.flatten_cons, List.getElem?_cons_succ]
    rw [List.getElem?_append_right (by rw [hx, Nat.succ_mul]; omega), show (j + 1) * k + r - x.length = j * k + r by rw [hx, Nat.succ_mul]; omega, ih]
section
variable {α β : Type} (T : DeepT α β)
def dcells (l : List α) (ps : List β) : List Value := (List.zipWith T.enc l ps).flatten
theorem dcells_snoc {l : List α} {ps : List β} (h : ps.length = l.length) (x : α) (p : β) : dcells T (l ++ [x]) (ps ++ [p]) = dcells T l ps ++ T.enc x p := by
  unfold dcells
  rw [List.zipWith_append h.symm]; simp
end
section
variable {α β : Type} [Inhabited α] [Inhabited β] (T : DeepT α β)
theorem dcells_at {l : List α} {ps : List β} (h : ps.length = l.length) {j r : Nat} (hj : j < l.length) (hr : r < T.k) : (dcells T l ps)[j * T.k + r]? = (T.enc (l.getD j default) (ps.getD j default))[r]? := by
  unfold dcells
  rw [flatK _ (by intro x hx; obtain ⟨i, hi, rfl⟩ := List.getElem_of_mem hx; simp [T.len]) j r hr]
  simp [List.getElem?_zipWith, show j < ps.length by omega, hj]
/-- The slice value v owns, in blocks from B on, these elements and their lists. -/
def OwnT (w : World) (B : Nat) (v : Value) (ps : List β) (l : List α) : Prop :=
  w.ownsRow B T.t T.k v l.length (dcells T l ps) ∧ ps.length = l.length ∧ ∀ j, j < l.length → T.inner w B (ps.getD j default) (l.getD j default)
variable {T}
theorem OwnT.nil (w : World) (B : Nat) : OwnT T w B (.slice none 0 0) [] [] := ⟨World.ownsRow_nil w B _ _, rfl, fun j hj => absurd hj (by simp)⟩
theorem OwnT.up {w w' : World} {B : Nat} {v : Value} {ps : List β} {l : List α} (h : OwnT T w B v ps l) (hb : Below w.heap.size w w') : OwnT T w' B v ps l := ⟨own_up h.1 hb, h.2.1, fun j hj => T.up (h.2.2 j hj) hb⟩
theorem OwnT.mono {w : World} {B B' : Nat} {v : Value} {ps : List β} {l : List α} (h : OwnT T w B v ps l) (hB : B' ≤ B) : OwnT T w B' v ps l := ⟨own_mono h.1 hB, h.2.1, fun j hj => T.mono (h.2.2 j hj) hB⟩
theorem OwnT.low {w : World} {B b o : Nat} {v u : Value} {ps : List β} {l : List α} (h : OwnT T w B v ps l) (hp : b < B) : OwnT T (w.setCell ⟨b, o, none⟩ u) B v ps l := ⟨own_set3 h.1 hp u, h.2.1, fun j hj => T.low (h.2.2 j hj) hp⟩
theorem OwnT.snoc {w w' : World} {B : Nat} {v v' : Value} {ps : List β} {l : List α} {x : α} {p : β} (h : OwnT T w B v ps l) (hin : T.inner w B p x) (hown : w'.ownsRow B T.t T.k v' (l.length + 1) (dcells T l ps ++ T.enc x p)) (hg : w.grownBy w' v.ownBlock) : OwnT T w' B v' (ps ++ [p]) (l ++ [x]) := by
  refine ⟨by rw [dcells_snoc T h.2.1]; simpa using hown, by simp [h.2.1], fun j hj => ?_⟩
  rcases Nat.lt_or_ge j l.length with hj' | hj'
  · have e1 : (ps ++ [p]).getD j default = ps.getD j default := by simp [List.getElem?_append, h.2.1, hj']
    have e2 : (l ++ [x]).getD j default = l.getD j default := by simp [List.getElem?_append, hj']
    rw [e1, e2]
    exact T.grown (h.2.2 j hj') h.1 hg
  · obtain rfl : j = l.length := by simp at hj; omega
    have e1 : (ps ++ [p]).getD l.length default = p := by rw [← h.2.1]; simp
    have e2 : (l ++ [x]).getD l.length default = x := by simp
    rw [e1, e2]
    exact T.grown hin h.1 hg
/-- What is read of such a row. -/
theorem OwnT.read {w : World} {B : Nat} {v : Value} {ps : List β} {l : List α} (h : OwnT T w B v ps l) : ∃ A c, v = .slice A l.length c ∧ l.length ≤ c ∧ c ≤ maxLen ∧ (0 < l.length → ∃ b, A = some ⟨b, 0, none⟩ ∧ B ≤ b ∧ b < w.heap.size ∧ ∀ j, j < l.length → ∀ r u, (T.enc (l.getD j default) (ps.getD j default))[r]? = some u → w.cell? ⟨b, 0 + j * T.k + r, none⟩ = some u) := by
  rcases h.1.2 with ⟨rfl, hn⟩ | ⟨g, cap, cur, rfl, hb, hgg, h1, h2, h3⟩
  · exact ⟨_, _, by rw [hn], by omega, by simp [maxLen], fun h0 => by omega⟩
  · refine ⟨_, _, rfl, h1, h2, fun h0 => ⟨g, rfl, hb, (Array.getElem?_eq_some_iff.1 hgg).1, fun j hj r u hu => ?_⟩⟩
    have hr : r < T.k := by have := (List.getElem?_eq_some_iff.1 hu).1; rw [T.len] at this; exact this
    have := World.ownsRow.cells h.1 (g := g) rfl (j * T.k + r) u (by rw [dcells_at T h.2.1 hj hr]; exact hu)
    rw [Nat.zero_add]
    simpa [Addr.add_lit] using this
end

theorem own_typeB {w : World} {B k n : Nat} {t : TypeId} {v : Value} {xs : List Value} (h : w.ownsRow B t k v n xs) : ∀ g, v.ownBlock = some g → g < w.heap.size ∧ ∃ cur, w.heap[g]? = some (.cells cur t (0, 0)) := by
  intro g hg
  rcases h.2 with ⟨rfl, _⟩ | ⟨g', cap, cur, rfl, hb, hgg, rest⟩
  · cases hg
  · simp only [Value.ownBlock, Option.map_some] at hg
    injection hg with hg
    subst hg
    exact ⟨(Array.getElem?_eq_some_iff.1 hgg).1, cur, hgg⟩
theorem own_farT {w w' : World} {B B' k k' n n' : Nat} {t t' : TypeId} {u v : Value} {xs ys : List Value} (h : w.ownsRow B t k u n xs) (hv : w.ownsRow B' t' k' v n' ys) (hne : t ≠ t') (hg : w.grownBy w' v.ownBlock) : w'.ownsRow B t k u n xs := by
  refine ⟨h.1, ?_⟩
  rcases h.2 with hn | ⟨g, cap, cur, rfl, hb, hgg, rest⟩
  · exact .inl hn
  · refine .inr ⟨g, cap, cur, rfl, hb, ?_, rest⟩
    rw [hg.block g (Array.getElem?_eq_some_iff.1 hgg).1 (fun e => ?_)]
    · exact hgg
    · obtain ⟨_, c2, e2⟩ := own_typeB hv g e.symm
      rw [hgg] at e2
      injection e2 with e2
      injection e2 with _ e3 _
      exact hne e3
instance : Inhabited Value := ⟨.slice none 0 0⟩
theorem getD_mem {α : Type} [Inhabited α] {l : List α} {j : Nat} (h : j < l.length) : l.getD j default ∈ l := by simp [h]
end Go.Proofs.Ytnngeaibdnnpoaa
