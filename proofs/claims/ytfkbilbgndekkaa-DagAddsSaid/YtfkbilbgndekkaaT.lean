/- The plain laws: Below against marks; what marks mean: a path of parents. -/
import Derived.Test.YtfkbilbgndekkaaQ
namespace Go.Proofs.Ytfkbilbgndekkaa
open Go.RowKit
set_option linter.unusedSimpArgs false
set_option linter.unusedVariables false

theorem ext_nth {l m : List Int} (h : l.length = m.length) (hh : ∀ j, j < l.length → nth l j = nth m j) : l = m := by
  apply List.ext_getElem h
  intro i h1 h2
  have := hh i h1
  simpa [nth, h1, h2] using this
/-- The digests of marked places above a round, of the first n places. -/
def belowL (certs : List CertD) (low : Int) (M : Nat → Bool) (n : Nat) : List Int := ((List.range n).filter fun p => M p && decide (low < (cth certs p).h.ro)).map fun p => (cth certs p).di
theorem belowL_zero (certs : List CertD) (low : Int) (M : Nat → Bool) : belowL certs low M 0 = [] := rfl
theorem belowL_yes (certs : List CertD) (low : Int) (M : Nat → Bool) (n : Nat) (h : M n = true) (h2 : low < (cth certs n).h.ro) : belowL certs low M (n + 1) = belowL certs low M n ++ [(cth certs n).di] := by
  simp [belowL, List.range_succ, List.filter_append, h, h2]
theorem belowL_no (certs : List CertD) (low : Int) (M : Nat → Bool) (n : Nat) (h : M n = false) : belowL certs low M (n + 1) = belowL certs low M n := by
  simp [belowL, List.range_succ, List.filter_append, h]
theorem belowL_low (certs : List CertD) (low : Int) (M : Nat → Bool) (n : Nat) (h : ¬ low < (cth certs n).h.ro) : belowL certs low M (n + 1) = belowL certs low M n := by
  have h' : decide (low < (cth certs n).h.ro) = false := decide_eq_false h
  simp only [belowL, List.range_succ, List.filter_append, List.filter_cons, List.filter_nil, h', Bool.and_false]
  simp
theorem belowL_len (certs : List CertD) (low : Int) (M : Nat → Bool) (n : Nat) : (belowL certs low M n).length ≤ n := by
  unfold belowL
  rw [List.length_map]
  exact Nat.le_trans (List.length_filter_le _ _) (by simp)
def belowS (certs : List CertD) (dlow low : Int) (i : Nat) : List Int := belowL certs low (marksS certs dlow i) certs.length
theorem belowS_len (certs : List CertD) (dlow low : Int) (i : Nat) : (belowS certs dlow low i).length ≤ certs.length := belowL_len _ _ _ _
theorem belowL_empty (certs : List CertD) (low : Int) (M : Nat → Bool) : ∀ (n : Nat), (∀ p, p < n → ¬ low < (cth certs p).h.ro) → belowL certs low M n = []
  | 0, _ => rfl
  | n + 1, h => by rw [belowL_low _ _ _ _ (h n (by omega))]; exact belowL_empty certs low M n (fun p hp => h p (by omega))
theorem belowL_up (certs : List CertD) (low : Int) (M : Nat → Bool) (m : Nat) : ∀ (k : Nat), (∀ p, m ≤ p → p < m + k → M p = false) → belowL certs low M (m + k) = belowL certs low M m
  | 0, _ => rfl
  | k + 1, h => by rw [← Nat.add_assoc, belowL_no _ _ _ _ (h (m + k) (by omega) (by omega))]; exact belowL_up certs low M m k (fun p h1 h2 => h p h1 (by omega))
theorem Madd_mono {certs : List CertD} {M : Nat → Bool} {l : List Int} {j : Nat} (h : M j = true) : Madd certs M l j = true := by simp [Madd, h]
theorem marksM {l : List CertD} {dlow : Int} {R : Int → Bool} {M : Nat → Bool} {m : Nat} (hd : Dist l) (hRM : ∀ p, p < l.length → M p = R (cth l p).di) : ∀ p, p < l.length →
    (if dlow + 1 < (cth l m).h.ro then Madd l M (cth l m).h.pa else M) p = (if dlow + 1 < (cth l m).h.ro then Radd R (cth l m).h.pa else R) (cth l p).di := by
  intro p hpl
  split
  · unfold Madd Radd
    rw [hRM p hpl]
    congr 1
    rw [decide_eq_decide]
    constructor
    · rintro ⟨y, hy, e⟩
      rcases findS_cases l y with ⟨h1, _⟩ | ⟨i, h1, h2, h3, _⟩
      · omega
      · obtain rfl : i = p := by omega
        rw [h3]; exact hy
    · intro h'; exact ⟨_, h', hd.find hpl⟩
  · exact hRM p hpl
theorem down_below {l : List CertD} {dlow low : Int} (hd : Dist l) (hm : Mono l) (hp : ParLt l dlow) : ∀ (m : Nat), m ≤ l.length → ∀ (R : Int → Bool) (M : Nat → Bool), (∀ p, p < l.length → M p = R (cth l p).di) →
    (downL l dlow low m R).reverse = belowL l low (marksL l dlow m M) m
  | 0, _, _, _, _ => rfl
  | m + 1, hml, R, M, hRM => by
    have hMm := hRM m (by omega)
    by_cases hro : (cth l m).h.ro ≤ low
    · rw [downL_ge _ _ _ _ _ hro, belowL_empty _ _ _ _ (fun p hp' => by have := hm p m (by omega) (by omega); omega)]; rfl
    · cases hR : R (cth l m).di
      · rw [hR] at hMm
        rw [downL_no _ _ _ _ _ hro hR, marksL_no _ _ _ _ hMm, belowL_no _ _ _ _ (by rw [marksL_ge hp m (by omega) _ _ (Nat.le_refl _)]; exact hMm)]
        exact down_below hd hm hp m (by omega) R M hRM
      · rw [hR] at hMm
        have hM' : marksL l dlow m (if dlow + 1 < (cth l m).h.ro then Madd l M (cth l m).h.pa else M) m = true := by
          rw [marksL_ge hp m (by omega) _ _ (Nat.le_refl _)]
          split
          · exact Madd_mono hMm
          · exact hMm
        rw [downL_yes _ _ _ _ _ hro hR, marksL_yes _ _ _ _ hMm, belowL_yes _ _ _ _ hM' (by omega), List.reverse_cons, down_below hd hm hp m (by omega) _ _ (marksM hd hRM)]
theorem marksS_gt {D : DagD} (h : DagOk D) {i j : Nat} (hi : i < D.certs.length) (hij : i < j) : marksS D.certs D.low i j = false := by
  unfold marksS
  rw [marksL_ge h.parLt (i + 1) (by omega) _ j (by omega)]
  simp [Mset]; omega
theorem below_eq {D : DagD} (h : DagOk D) {i : Nat} (low : Int) (hi : i < D.certs.length) : (downS D.certs D.low i low).reverse = belowS D.certs D.low low i := by
  unfold downS belowS
  have hd := h.dist
  have h0 : ∀ p, p < D.certs.length → Mset (fun _ => false) i p = (fun x => if x = (cth D.certs i).di then true else false) (cth D.certs p).di := by
    intro p hpl
    by_cases e : p = i
    · subst e; simp [Mset]
    · have : (cth D.certs p).di ≠ (cth D.certs i).di := fun e' => e (hd.eq hpl hi e')
      simp [Mset, e, this]
  rw [down_below hd h.mono h.parLt (i + 1) (by omega) _ _ h0]
  have := belowL_up D.certs low (marksS D.certs D.low i) (i + 1) (D.certs.length - (i + 1)) (fun p h1 h2 => marksS_gt h hi (by omega))
  rw [show i + 1 + (D.certs.length - (i + 1)) = D.certs.length by omega] at this
  rw [this]; rfl

/-! ### paths -/
def Edge (l : List CertD) (dlow : Int) (i j : Nat) : Prop := dlow + 1 < (cth l i).h.ro ∧ ∃ y ∈ (cth l i).h.pa, findS l y = (j : Int)
inductive Rch (l : List CertD) (dlow : Int) : Nat → Nat → Prop
  | refl (i : Nat) : Rch l dlow i i
  | step {i k j : Nat} (h : Edge l dlow i k) (h2 : Rch l dlow k j) : Rch l dlow i j
theorem Rch.trans {l : List CertD} {dlow : Int} {i k j : Nat} (h : Rch l dlow i k) (h2 : Rch l dlow k j) : Rch l dlow i j := by
  induction h with
  | refl => exact h2
  | step e _ ih => exact .step e (ih h2)
theorem marksL_iff {l : List CertD} {dlow : Int} (hp : ParLt l dlow) : ∀ (m : Nat), m ≤ l.length → ∀ (M : Nat → Bool) (j : Nat), marksL l dlow m M j = true ↔ M j = true ∨ ∃ p, p < m ∧ M p = true ∧ Rch l dlow p j
  | 0, _, M, j => by constructor
                     · exact .inl
                     · rintro (h | ⟨p, h, _⟩)
                       · exact h
                       · omega
  | m + 1, hml, M, j => by
    cases hM : M m
    · rw [marksL_no _ _ _ _ hM, marksL_iff hp m (by omega)]
      constructor
      · rintro (h | ⟨p, h1, h2, h3⟩)
        · exact .inl h
        · exact .inr ⟨p, by omega, h2, h3⟩
      · rintro (h | ⟨p, h1, h2, h3⟩)
        · exact .inl h
        · rcases Nat.lt_or_ge p m with h | h
          · exact .inr ⟨p, h, h2, h3⟩
          · obtain rfl : p = m := by omega
            rw [hM] at h2; cases h2
    · rw [marksL_yes _ _ _ _ hM, marksL_iff hp m (by omega)]
      have hM' : ∀ p, (if dlow + 1 < (cth l m).h.ro then Madd l M (cth l m).h.pa else M) p = true ↔ M p = true ∨ Edge l dlow m p := by
        intro p
        unfold Edge
        split
        · rename_i hlow; simp [Madd, hlow]
        · rename_i hlow; simp [hlow]
      constructor
      · rintro (h | ⟨p, h1, h2, h3⟩)
        · rcases (hM' j).1 h with h | h
          · exact .inl h
          · exact .inr ⟨m, by omega, hM, .step h (.refl _)⟩
        · rcases (hM' p).1 h2 with h | h
          · exact .inr ⟨p, by omega, h, h3⟩
          · exact .inr ⟨m, by omega, hM, .step h h3⟩
      · rintro (h | ⟨p, h1, h2, h3⟩)
        · exact .inl ((hM' j).2 (.inl h))
        · rcases Nat.lt_or_ge p m with h | h
          · exact .inr ⟨p, h, (hM' p).2 (.inl h2), h3⟩
          · obtain rfl : p = m := by omega
            cases h3 with
            | refl => exact .inl ((hM' _).2 (.inl hM))
            | step e h4 =>
              rename_i k
              obtain ⟨hlow, y, hy, ey⟩ := e
              exact .inr ⟨k, hp _ (by omega) hlow y hy k ey, (hM' k).2 (.inr ⟨hlow, y, hy, ey⟩), h4⟩
theorem marksS_iff {D : DagD} (h : DagOk D) {i j : Nat} (hi : i < D.certs.length) : marksS D.certs D.low i j = true ↔ Rch D.certs D.low i j := by
  unfold marksS
  rw [marksL_iff h.parLt (i + 1) (by omega)]
  constructor
  · rintro (h | ⟨p, h1, h2, h3⟩)
    · simp [Mset] at h; subst h; exact .refl _
    · simp [Mset] at h2; subst h2; exact h3
  · intro h; exact .inr ⟨i, by omega, by simp [Mset], h⟩
end Go.Proofs.Ytfkbilbgndekkaa
