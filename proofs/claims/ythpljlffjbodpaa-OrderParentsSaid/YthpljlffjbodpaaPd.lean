/- Plain: what an order is with all, or a part, of it done. -/
import Derived.Test.YthpljlffjbodpaaCn
namespace Go.Proofs.Ythpljlffjbodpaa
open Go.RowKit
set_option linter.unusedSimpArgs false
set_option linter.unusedVariables false

theorem freshL_nil (l : List Int) : freshL [] l = l := by
  unfold freshL
  refine List.filter_eq_self.2 fun x _ => ?_
  have : hasS [] x = false := by rw [Bool.eq_false_iff]; intro h; have := (hasS_iff [] x).1 h; simp at this
  rw [this]; rfl
theorem rises_nil : Rises [] := fun j hj => absurd hj (by simp)
theorem orderB_done {D : DagD} {a : Int} {done : List Int} (hm : mayS D = true) (hr : Rises done) (h : orderE D a [] = 0) : orderB D a done = freshL done (orderB D a []) ∧ orderE D a done = 0 := by
  have r0 : risS [] = true := risS_iff.2 rises_nil
  have r1 : risS done = true := risS_iff.2 hr
  unfold orderE at h
  rw [if_pos ⟨hm, r0⟩] at h
  refine ⟨?_, by unfold orderE; rw [if_pos ⟨hm, r1⟩]; exact h⟩
  unfold orderB
  simp only [hm, r0, r1, true_and]
  split
  · rw [freshL_nil]
  · rfl
theorem orderB_apart {D : DagD} {a : Int} (hm : mayS D = true) {i j : Nat} (hij : i < j) (hj : j < (orderB D a []).length) : nth (orderB D a []) i ≠ nth (orderB D a []) j := by
  have hp : List.Pairwise (fun x y : Int => x ≠ y) (orderB D a []) := by
    unfold orderB
    split
    · rw [freshL_nil]
      unfold belowS belowL
      rw [List.pairwise_map]
      refine List.Pairwise.imp_of_mem ?_ (List.Pairwise.filter _ (List.pairwise_lt_range))
      intro x y hx hy hxy
      have hy2 := List.mem_range.1 (List.mem_filter.1 hy).1
      exact (mayS_iff.1 hm).dist x y hxy hy2
    · exact List.Pairwise.nil
  have := List.pairwise_iff_getElem.1 hp i j (by omega) hj hij
  simpa [nth, hj, (by omega : i < (orderB D a []).length)] using this
def restL (L : List Int) : Nat → List Int
  | 0 => []
  | k + 1 => if k % 3 = 1 then restL L k else restL L k ++ [nth L k]
theorem restL_len (L : List Int) : ∀ k, (restL L k).length ≤ k
  | 0 => by simp [restL]
  | k + 1 => by
    unfold restL
    split
    · exact Nat.le_succ_of_le (restL_len L k)
    · simp; exact restL_len L k
/-- The list S tells those of the first k places of L at which p holds. -/
def Told (L : List Int) (p : Nat → Bool) (k : Nat) (S : List Int) : Prop := ∀ y, hasS S y = true ↔ ∃ j, j < k ∧ p j = true ∧ nth L j = y
theorem told_zero (L : List Int) (p : Nat → Bool) : Told L p 0 [] := fun y => by
  rw [hasS_iff]; simp
theorem told_with {L : List Int} {p : Nat → Bool} {k : Nat} {S S' : List Int} (h : Told L p k S) (hp : p k = true) (hw : ∀ y, hasS S' y = (hasS S y || decide (y = nth L k))) : Told L p (k + 1) S' := fun y => by
  rw [hw, Bool.or_eq_true, h y, decide_eq_true_eq]
  constructor
  · rintro (⟨j, h1, h2⟩ | e)
    · exact ⟨j, by omega, h2⟩
    · exact ⟨k, by omega, hp, e.symm⟩
  · rintro ⟨j, h1, h2, h3⟩
    rcases Nat.lt_or_ge j k with h | h
    · exact .inl ⟨j, h, h2, h3⟩
    · have e : j = k := by omega
      subst e; exact .inr h3.symm
theorem told_no {L : List Int} {p : Nat → Bool} {k : Nat} {S : List Int} (h : Told L p k S) (hp : p k = false) : Told L p (k + 1) S := fun y => by
  rw [h y]
  constructor
  · rintro ⟨j, h1, h2⟩; exact ⟨j, by omega, h2⟩
  · rintro ⟨j, h1, h2, h3⟩
    rcases Nat.lt_or_ge j k with h | h
    · exact ⟨j, h, h2, h3⟩
    · have e : j = k := by omega
      subst e; rw [hp] at h2; cases h2
theorem fresh_all {L A : List Int} (h : Told L (fun _ => true) L.length A) : freshL A L = [] := by
  unfold freshL
  refine List.filter_eq_nil_iff.2 fun x hx => ?_
  obtain ⟨j, hj, e⟩ := List.getElem_of_mem hx
  have : hasS A x = true := (h x).2 ⟨j, hj, rfl, by simp [nth, hj, e]⟩
  simp [this]
theorem fresh_part {L S : List Int} (hd : ∀ i j, i < j → j < L.length → nth L i ≠ nth L j) (h : Told L (fun j => decide (j % 3 = 1)) L.length S) : ∀ k, k ≤ L.length → freshL S (L.take k) = restL L k
  | 0, _ => by simp [freshL, restL]
  | k + 1, hk => by
    have ih := fresh_part hd h k (by omega)
    unfold restL
    by_cases h3 : k % 3 = 1
    · rw [if_pos h3, freshL_no (by omega) ((h _).2 ⟨k, by omega, by simpa using h3, rfl⟩), ih]
    · have hn : hasS S (nth L k) = false := by
        rw [Bool.eq_false_iff]; intro g
        obtain ⟨j, hj, hp, e⟩ := (h _).1 g
        rcases Nat.lt_trichotomy j k with h1 | h1 | h1
        · exact hd j k h1 (by omega) e
        · subst h1; exact h3 (by simpa using hp)
        · exact hd k j h1 hj e.symm
      rw [if_neg h3, freshL_yes (by omega) hn, ih]
def Sep (v u : Value) : Prop := ∀ g, v.ownBlock = some g → u.ownBlock ≠ some g
theorem OwnI.apart {w w' : World} {B : Nat} {v u : Value} {l : List Int} (h : OwnI w B v l) (hg : w.grownBy w' u.ownBlock) (hs : Sep v u) : OwnI w' B v l :=
  h.of_heap fun k hk => hg.block k (h.lt k hk).2 (fun e => hs k hk e.symm)
theorem Sep.new {w : World} {B : Nat} {v v' u : Value} {l : List Int} (hs : Sep v u) (hu : OwnI w B u l) (hv : v'.ownBlock = v.ownBlock ∨ ∃ g, v'.ownBlock = some g ∧ w.heap.size ≤ g) : Sep v' u := fun g hg hgu => by
  have := (hu.lt g hgu).2
  rcases hv with e | ⟨g', e, hge⟩
  · exact hs g (by rw [← e]; exact hg) hgu
  · rw [e] at hg; injection hg with hg; omega
theorem Sep.new2 {w : World} {B : Nat} {v u u' : Value} {l : List Int} (hs : Sep v u) (hv : OwnI w B v l) (hu : u'.ownBlock = u.ownBlock ∨ u'.ownBlock = some w.heap.size) : Sep v u' := fun g hg hgu => by
  have := (hv.lt g hg).2
  rcases hu with e | e
  · exact hs g hg (by rw [← e]; exact hgu)
  · rw [e] at hgu; injection hgu with hgu; omega
theorem sep_nil (u : Value) : Sep (.slice none 0 0) u := fun g hg => by simp [Value.ownBlock] at hg
end Go.Proofs.Ythpljlffjbodpaa
