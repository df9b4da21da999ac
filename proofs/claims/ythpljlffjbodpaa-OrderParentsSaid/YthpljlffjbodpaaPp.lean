/- Plain: an order's places rise; what was asked of comes last. -/
import Derived.Test.YthpljlffjbodpaaPd
namespace Go.Proofs.Ythpljlffjbodpaa
open Go.RowKit
set_option linter.unusedSimpArgs false
set_option linter.unusedVariables false

/-- The places that an order of place i tells. -/
def placesL (D : DagD) (i : Nat) (done : List Int) : List Nat :=
  ((List.range D.certs.length).filter fun p => marksS D.certs D.low i p && decide (deep D.certs i < (cth D.certs p).h.ro)).filter fun p => !hasS done (cth D.certs p).di
theorem order_places (D : DagD) (i : Nat) (done : List Int) : freshL done (belowS D.certs D.low (deep D.certs i) i) = (placesL D i done).map fun p => (cth D.certs p).di := by
  unfold freshL belowS belowL placesL
  rw [List.filter_map]
  rfl
theorem places_up (D : DagD) (i : Nat) (done : List Int) : List.Pairwise (· < ·) (placesL D i done) := by
  unfold placesL
  exact List.Pairwise.filter _ (List.Pairwise.filter _ List.pairwise_lt_range)
theorem places_mem {D : DagD} {i p : Nat} {done : List Int} : p ∈ placesL D i done ↔ p < D.certs.length ∧ marksS D.certs D.low i p = true ∧ deep D.certs i < (cth D.certs p).h.ro ∧ hasS done (cth D.certs p).di = false := by
  unfold placesL
  simp only [List.mem_filter, List.mem_range, Bool.and_eq_true, decide_eq_true_eq, Bool.not_eq_true']
  constructor
  · rintro ⟨⟨h1, h2, h3⟩, h4⟩; exact ⟨h1, h2, h3, h4⟩
  · rintro ⟨h1, h2, h3, h4⟩; exact ⟨⟨h1, h2, h3⟩, h4⟩
/-- At position k of the order: its place. -/
theorem place_at {D : DagD} {i k : Nat} {done L : List Int} (hL : L = freshL done (belowS D.certs D.low (deep D.certs i) i)) (hk : k < L.length) : ∃ hk' : k < (placesL D i done).length, nth L k = (cth D.certs ((placesL D i done)[k])).di := by
  subst hL
  have e := order_places D i done
  rw [e] at hk ⊢
  rw [List.length_map] at hk
  exact ⟨hk, by simp [nth, hk]⟩
theorem places_len {D : DagD} {i : Nat} {done L : List Int} (hL : L = freshL done (belowS D.certs D.low (deep D.certs i) i)) : L.length = (placesL D i done).length := by
  rw [hL, order_places, List.length_map]
/-- Each that is told: its place, its round, not done. -/
theorem par_mem {D : DagD} {i k : Nat} {done L : List Int} (hok : DagOk D) (hL : L = freshL done (belowS D.certs D.low (deep D.certs i) i)) (hk : k < L.length) :
    ∃ j, j < D.certs.length ∧ nth L k = (cth D.certs j).di ∧ findS D.certs (nth L k) = (j : Int) ∧ deep D.certs i < (cth D.certs j).h.ro ∧ hasS done (nth L k) = false := by
  obtain ⟨hk', e⟩ := place_at hL hk
  obtain ⟨h1, h2, h3, h4⟩ := places_mem.1 (List.getElem_mem hk')
  exact ⟨_, h1, e, by rw [e]; exact hok.dist.find h1, h3, by rw [e]; exact h4⟩
theorem par_order {D : DagD} {i k k' j j' : Nat} {done L : List Int} (hok : DagOk D) (hL : L = freshL done (belowS D.certs D.low (deep D.certs i) i)) (hkk : k < k') (hk : k' < L.length) (hj : j < D.certs.length) (hj' : j' < D.certs.length)
    (e : nth L k = (cth D.certs j).di) (e' : nth L k' = (cth D.certs j').di) : j < j' := by
  obtain ⟨h1, a1⟩ := place_at hL (k := k) (by omega)
  obtain ⟨h2, a2⟩ := place_at hL hk
  have b1 := hok.dist.eq hj (places_mem.1 (List.getElem_mem h1)).1 (e.symm.trans a1)
  have b2 := hok.dist.eq hj' (places_mem.1 (List.getElem_mem h2)).1 (e'.symm.trans a2)
  rw [b1, b2]
  exact List.pairwise_iff_getElem.1 (places_up D i done) k k' h1 h2 hkk
theorem par_once {D : DagD} {i k : Nat} {done L : List Int} (hok : DagOk D) (hL : L = freshL done (belowS D.certs D.low (deep D.certs i) i)) (hk : k < L.length) : hasS (L.take k) (nth L k) = false := by
  rw [Bool.eq_false_iff]
  intro h
  obtain ⟨t, ht, e⟩ := List.getElem_of_mem ((hasS_iff _ _).1 h)
  simp only [List.length_take] at ht
  have e2 : nth L t = nth L k := by rw [List.getElem_take] at e; rw [← e]; simp [nth, (by omega : t < L.length)]
  obtain ⟨j, h1, h2, _⟩ := par_mem hok hL hk
  have := par_order hok hL (k := t) (k' := k) (by omega) hk h1 h1 (e2.trans h2) h2
  omega
/-- What stands from k on is of no lower round. -/
theorem par_behind {D : DagD} {i k j p : Nat} {done L : List Int} (hok : DagOk D) (hL : L = freshL done (belowS D.certs D.low (deep D.certs i) i)) (hk : k < L.length) (hj : j < D.certs.length) (e : nth L k = (cth D.certs j).di) {x : Int} (hx : hasS (L.drop k) x = true) (hp : p < D.certs.length) (hf : findS D.certs x = (p : Int)) : (cth D.certs j).h.ro ≤ (cth D.certs p).h.ro := by
  obtain ⟨t, ht, et⟩ := List.getElem_of_mem ((hasS_iff _ _).1 hx)
  simp only [List.length_drop] at ht
  have e2 : nth L (k + t) = x := by rw [List.getElem_drop] at et; rw [← et]; simp [nth, (by omega : k + t < L.length)]
  obtain ⟨q, h1, h2, h3, _⟩ := par_mem hok hL (k := k + t) (by omega)
  rw [e2, hf] at h3
  have hqp : q = p := by omega
  subst hqp
  rcases Nat.eq_zero_or_pos t with h0 | h0
  · subst h0
    rw [Nat.add_zero] at h2
    have := hok.dist.eq hj h1 (e.symm.trans h2)
    subst this; exact Int.le_refl _
  · exact hok.mono _ _ (Nat.le_of_lt (par_order hok hL (k := k) (k' := k + t) (by omega) (by omega) hj h1 e h2)) h1
theorem par_last {D : DagD} {i : Nat} {done L : List Int} (hok : DagOk D) (hi : i < D.certs.length) (hL : L = freshL done (belowS D.certs D.low (deep D.certs i) i)) (hd : hasS done (cth D.certs i).di = false) : 0 < L.length ∧ nth L (L.length - 1) = (cth D.certs i).di := by
  have hdeep : deep D.certs i < (cth D.certs i).h.ro := by
    have := (mayS_ro (mayS_iff.2 hok) (k := i) hi).1
    unfold deep; split <;> omega
  have hm : i ∈ placesL D i done := places_mem.2 ⟨hi, marksS_self hok hi, hdeep, hd⟩
  obtain ⟨t, ht, e⟩ := List.getElem_of_mem hm
  have hlen := places_len hL
  refine ⟨by omega, ?_⟩
  obtain ⟨h1, a1⟩ := place_at hL (k := L.length - 1) (by omega)
  rw [a1]
  have hq := List.getElem_mem h1
  rcases Nat.lt_or_ge t (L.length - 1) with h | h
  · have h2 := List.pairwise_iff_getElem.1 (places_up D i done) t (L.length - 1) ht h1 h
    have h3 := (places_mem.1 hq).2.1
    rw [marksS_gt hok hi (by omega)] at h3
    cases h3
  · have ht2 : t = L.length - 1 := by omega
    subst ht2
    rw [e]
theorem par_not {D : DagD} {i : Nat} {done L : List Int} (hok : DagOk D) (hi : i < D.certs.length) (hL : L = freshL done (belowS D.certs D.low (deep D.certs i) i)) (hd : hasS done (cth D.certs i).di = true) (h : 0 < L.length) : nth L (L.length - 1) ≠ (cth D.certs i).di := fun e => by
  obtain ⟨_, _, _, _, _, h5⟩ := par_mem hok hL (k := L.length - 1) (by omega)
  rw [e, hd] at h5
  cases h5
end Go.Proofs.Ythpljlffjbodpaa
