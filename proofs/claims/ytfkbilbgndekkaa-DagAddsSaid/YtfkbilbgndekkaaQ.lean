/- The plain laws: May, and Reach against marks. -/
import Derived.Test.YtfkbilbgndekkaaP
namespace Go.Proofs.Ytfkbilbgndekkaa
open Go.RowKit
set_option linter.unusedSimpArgs false
set_option linter.unusedVariables false

theorem seenL_none (l : List CertD) (x : Int) : ∀ k, (∀ j, j < k → (cth l j).di ≠ x) → seenL l k x = 0
  | 0, _ => rfl
  | k + 1, h => by
    unfold seenL
    rw [if_neg (fun e => h k (by omega) e.symm)]
    exact seenL_none l x k (fun j hj => h j (by omega))
theorem seenL_cases (l : List CertD) (x : Int) : ∀ k, (seenL l k x = 0 ∧ ∀ j, j < k → (cth l j).di ≠ x) ∨ ∃ j, j < k ∧ (cth l j).di = x ∧ seenL l k x = (cth l j).h.ro
  | 0 => .inl ⟨rfl, fun j h => absurd h (by omega)⟩
  | k + 1 => by
    unfold seenL
    by_cases hx : x = (cth l k).di
    · rw [if_pos hx]; exact .inr ⟨k, by omega, hx.symm, rfl⟩
    · rw [if_neg hx]
      rcases seenL_cases l x k with ⟨h1, h2⟩ | ⟨j, h1, h2, h3⟩
      · refine .inl ⟨h1, fun j hj => ?_⟩
        rcases Nat.lt_or_ge j k with h | h
        · exact h2 j h
        · obtain rfl : j = k := by omega
          exact fun e => hx e.symm
      · exact .inr ⟨j, by omega, h2, h3⟩
/-- Digests are unlike; rounds do not fall. -/
def Dist (l : List CertD) : Prop := ∀ i j, i < j → j < l.length → (cth l i).di ≠ (cth l j).di
def Mono (l : List CertD) : Prop := ∀ i j, i ≤ j → j < l.length → (cth l i).h.ro ≤ (cth l j).h.ro
theorem Dist.eq {l : List CertD} (h : Dist l) {i j : Nat} (hi : i < l.length) (hj : j < l.length) (e : (cth l i).di = (cth l j).di) : i = j := by
  rcases Nat.lt_trichotomy i j with h1 | h1 | h1
  · exact absurd e (h i j h1 hj)
  · exact h1
  · exact absurd e.symm (h j i h1 hi)
theorem Dist.find {l : List CertD} (h : Dist l) {j : Nat} (hj : j < l.length) : findS l (cth l j).di = (j : Int) := by
  rcases findS_cases l (cth l j).di with ⟨_, h2⟩ | ⟨i, h1, h2, h3, _⟩
  · exact absurd rfl (h2 j hj)
  · rw [h2, h.eq h1 hj h3]
theorem mono_of_bef {l : List CertD} (h : ∀ k, k < l.length → 0 < k → befS (cth l (k-1)).h.ro (cth l (k-1)).h.au (cth l k).h.ro (cth l k).h.au = true) : Mono l := by
  intro i j hij hj
  induction j with
  | zero => obtain rfl : i = 0 := by omega
            exact Int.le_refl _
  | succ j ih =>
    rcases Nat.lt_or_ge j i with h1 | h1
    · obtain rfl : i = j + 1 := by omega
      exact Int.le_refl _
    · have h2 := ih h1 (by omega)
      have h3 := befS_iff.1 (h (j + 1) hj (by omega))
      simp only [Nat.add_sub_cancel] at h3
      omega
theorem seen_iff {l : List CertD} {k : Nat} {x r : Int} (hr : 1 ≤ r) (hk : k ≤ l.length) (hd : Dist l) (hm : Mono l) (hlt : ∀ j, k ≤ j → j < l.length → r < (cth l j).h.ro) :
    seenL l k x = r ↔ ∃ j, j < l.length ∧ findS l x = (j : Int) ∧ (cth l j).h.ro = r := by
  constructor
  · intro e
    rcases seenL_cases l x k with ⟨h1, _⟩ | ⟨j, h1, h2, h3⟩
    · omega
    · exact ⟨j, by omega, by rw [← h2]; exact hd.find (by omega), by omega⟩
  · rintro ⟨j, hj, hf, hro⟩
    have hdi : (cth l j).di = x := by
      rcases findS_cases l x with ⟨h1, _⟩ | ⟨i, h1, h2, h3, _⟩
      · omega
      · obtain rfl : i = j := by omega
        exact h3
    have hjk : j < k := by
      rcases Nat.lt_or_ge j k with h | h
      · exact h
      · have := hlt j h hj; omega
    rcases seenL_cases l x k with ⟨_, h2⟩ | ⟨i, h1, h2, h3⟩
    · exact absurd hdi (h2 j hjk)
    · have := hd.eq (i := i) (j := j) (by omega) hj (h2.trans hdi.symm)
      subst this
      omega
theorem dist_of {l : List CertD} (h : ∀ k, k < l.length → ∀ m, m < k → (cth l m).di ≠ (cth l k).di) : Dist l := fun i j hij hj => h j hj i hij
theorem DagOk.dist {D : DagD} (h : DagOk D) : Dist D.certs := by
  refine dist_of fun k hk m hm => ?_
  obtain ⟨h1, h2, h3, h4, h5⟩ := h.2.2.2.2 k hk
  intro e
  rcases seenL_cases D.certs (cth D.certs k).di k with ⟨_, g⟩ | ⟨j, g1, g2, g3⟩
  · exact g m hm e
  · have := certS_bd (h.2.2.2.2 j (by omega)).1; omega
theorem DagOk.mono {D : DagD} (h : DagOk D) : Mono D.certs := mono_of_bef fun k hk h0 => (h.2.2.2.2 k hk).2.2.2.1 h0
theorem nth_mem {l : List Int} {x : Int} (h : x ∈ l) : ∃ i, i < l.length ∧ nth l i = x := by
  obtain ⟨i, hi, e⟩ := List.getElem_of_mem h
  exact ⟨i, hi, by simp [nth, hi, e]⟩
theorem mem_nth {l : List Int} {i : Nat} (h : i < l.length) : nth l i ∈ l := by
  simp [nth, h]
theorem lack_false {l : List CertD} {ro x : Int} : lackB l ro x = false ↔ ∃ j, j < l.length ∧ findS l x = (j : Int) ∧ (cth l j).h.ro = ro - 1 := by
  unfold lackB
  rcases findS_cases l x with ⟨h1, _⟩ | ⟨i, h1, h2, _, _⟩
  · rw [h1]
    constructor
    · intro h; simp at h
    · rintro ⟨j, _, e, _⟩; omega
  · rw [h2]
    have e0 : decide ((i : Int) < 0) = false := by simp
    rw [e0, Bool.false_or, decide_eq_false_iff_not, Int.toNat_natCast]
    constructor
    · intro h; exact ⟨i, h1, rfl, Decidable.not_not.1 h⟩
    · rintro ⟨j, hj, e, h⟩
      obtain rfl : i = j := by omega
      exact fun h' => h' h
theorem par_iff {l : List CertD} {low : Int} {k : Nat} (h0 : 0 ≤ low) (hk : k < l.length) (hd : Dist l) (hm : Mono l) :
    (∀ i, i < (cth l k).h.pa.length → ParOk l low k i) ↔ lacksS l low (cth l k).h = [] := by
  unfold lacksS ParOk
  by_cases hlow : (cth l k).h.ro - 1 ≤ low
  · rw [if_pos hlow]; simp; intro i _ h; omega
  · rw [if_neg hlow, List.filter_eq_nil_iff]
    have key : ∀ x, seenL l k x = (cth l k).h.ro - 1 ↔ ∃ j, j < l.length ∧ findS l x = (j : Int) ∧ (cth l j).h.ro = (cth l k).h.ro - 1 :=
      fun x => seen_iff (by omega) (by omega) hd hm (fun j h1 h2 => by have := hm k j h1 h2; omega)
    constructor
    · intro h x hx
      obtain ⟨i, hi, rfl⟩ := nth_mem hx
      have := lack_false.2 ((key _).1 (h i hi (by omega)))
      simp [this]
    · intro h i hi _
      have := h _ (mem_nth hi)
      exact (key _).2 (lack_false.1 (by simpa using this))
theorem ok_iff (D : DagD) : DagOk D ↔ RefOk D := by
  constructor
  · intro h
    have hd := h.dist
    have hm := h.mono
    obtain ⟨g1, g2, g3, g4, g5⟩ := h
    refine ⟨g1, g2, g3, g4, fun k hk => ?_⟩
    obtain ⟨q1, q2, q3, q4, q5⟩ := g5 k hk
    exact ⟨q1, q2, q4, fun m hmk => hd m k hmk hk, (par_iff g2 hk hd hm).1 q5⟩
  · rintro ⟨g1, g2, g3, g4, g5⟩
    have hd : Dist D.certs := dist_of fun k hk => (g5 k hk).2.2.2.1
    have hm : Mono D.certs := mono_of_bef fun k hk h0 => (g5 k hk).2.2.1 h0
    refine ⟨g1, g2, g3, g4, fun k hk => ?_⟩
    obtain ⟨q1, q2, q3, q4, q5⟩ := g5 k hk
    exact ⟨q1, q2, by rw [seenL_none _ _ k (fun j hj => q4 j hj)]; omega, q3, (par_iff g2 hk hd hm).2 q5⟩
theorem may_eq (D : DagD) : refMayS D = mayS D := by
  unfold refMayS mayS
  rw [show DagOk D = RefOk D from propext (ok_iff D)]

theorem inF_iff (x : Int) : ∀ (l : List Int) (k : Int), 0 ≤ k → (0 ≤ inF x k l ↔ x ∈ l)
  | [], k, _ => by simp [inF]
  | y :: l, k, hk => by
    unfold inF
    by_cases h : y = x
    · simp [h, hk]
    · rw [if_neg h, inF_iff x l (k + 1) (by omega)]; simp [Ne.symm h]
theorem hasS_iff (l : List Int) (x : Int) : hasS l x = true ↔ x ∈ l := by
  unfold hasS inS; rw [decide_eq_true_eq]; exact inF_iff x l 0 (Int.le_refl _)
/-- Parents above the low stand lower. -/
def ParLt (l : List CertD) (dlow : Int) : Prop := ∀ k, k < l.length → dlow + 1 < (cth l k).h.ro → ∀ y, y ∈ (cth l k).h.pa → ∀ p : Nat, findS l y = (p : Int) → p < k
theorem DagOk.parLt {D : DagD} (h : DagOk D) : ParLt D.certs D.low := by
  intro k hk hlow y hy p hp
  have hl := (par_iff h.2.1 hk h.dist h.mono).1 (h.2.2.2.2 k hk).2.2.2.2
  unfold lacksS at hl
  rw [if_neg (by omega), List.filter_eq_nil_iff] at hl
  obtain ⟨j, hj, e, hr⟩ := lack_false.1 (by simpa using hl y hy)
  obtain rfl : j = p := by omega
  rcases Nat.lt_or_ge j k with h1 | h1
  · exact h1
  · have := h.mono k j h1 hj; omega
theorem marksL_ge {l : List CertD} {dlow : Int} (hp : ParLt l dlow) : ∀ (m : Nat), m ≤ l.length → ∀ (M : Nat → Bool) (p : Nat), m ≤ p → marksL l dlow m M p = M p
  | 0, _, _, _, _ => rfl
  | m + 1, hm, M, p, h => by
    cases hM : M m
    · rw [marksL_no _ _ _ _ hM]; exact marksL_ge hp m (by omega) M p (by omega)
    · rw [marksL_yes _ _ _ _ hM, marksL_ge hp m (by omega) _ p (by omega)]
      split
      · rename_i hlow
        unfold Madd
        have : ¬ ∃ y ∈ (cth l m).h.pa, findS l y = (p : Int) := by
          rintro ⟨y, hy, e⟩
          have := hp m (by omega) hlow y hy p e
          omega
        rw [decide_eq_false this, Bool.or_false]
      · rfl
theorem downL_mem {l : List CertD} {dlow low : Int} {x : Int} : ∀ (m : Nat) (R : Int → Bool), x ∈ downL l dlow low m R → ∃ p, p < m ∧ x = (cth l p).di
  | 0, R, h => by simp [downL] at h
  | m + 1, R, h => by
    unfold downL at h
    split at h
    · simp at h
    · split at h
      · rcases List.mem_cons.1 h with rfl | h
        · exact ⟨m, by omega, rfl⟩
        · obtain ⟨p, h1, h2⟩ := downL_mem m _ h; exact ⟨p, by omega, h2⟩
      · obtain ⟨p, h1, h2⟩ := downL_mem m _ h; exact ⟨p, by omega, h2⟩
theorem down_marks {l : List CertD} {dlow low : Int} (hd : Dist l) (hm : Mono l) (hp : ParLt l dlow) (j : Nat) (hj : j < l.length) (hlow : low < (cth l j).h.ro) : ∀ (m : Nat), m ≤ l.length → j < m → ∀ (R : Int → Bool) (M : Nat → Bool),
    (∀ p, p < l.length → M p = R (cth l p).di) → ((cth l j).di ∈ downL l dlow low m R ↔ marksL l dlow m M j = true)
  | 0, _, h, _, _, _ => absurd h (by omega)
  | m + 1, hml, hjm, R, M, hRM => by
    have hro : ¬ (cth l m).h.ro ≤ low := by have := hm j m (by omega) (by omega); omega
    have hMm := hRM m (by omega)
    cases hR : R (cth l m).di
    · rw [hR] at hMm
      rw [downL_no _ _ _ _ _ hro hR, marksL_no _ _ _ _ hMm]
      rcases Nat.lt_or_ge j m with h | h
      · exact down_marks hd hm hp j hj hlow m (by omega) h R M hRM
      · obtain rfl : j = m := by omega
        rw [marksL_ge hp j (by omega) M j (Nat.le_refl _), hMm]
        constructor
        · intro h'
          obtain ⟨p, h1, h2⟩ := downL_mem _ _ h'
          exact absurd h2.symm (hd p j h1 hj)
        · intro h'; simp at h'
    · rw [hR] at hMm
      rw [downL_yes _ _ _ _ _ hro hR, marksL_yes _ _ _ _ hMm]
      have hRM' : ∀ p, p < l.length → (if dlow + 1 < (cth l m).h.ro then Madd l M (cth l m).h.pa else M) p = (if dlow + 1 < (cth l m).h.ro then Radd R (cth l m).h.pa else R) (cth l p).di := by
        intro p hpl
        split
        · unfold Madd Radd
          rw [hRM p hpl]
          congr 1
          rw [decide_eq_decide]
          constructor
          · rintro ⟨y, hy, e⟩
            rcases findS_cases l y with ⟨h1, _⟩ | ⟨i, h1, h2, h3, _⟩
            · omega
            · obtain rfl : i = p := by omega
              rw [h3]; exact hy
          · intro h'; exact ⟨_, h', hd.find hpl⟩
        · exact hRM p hpl
      rcases Nat.lt_or_ge j m with h | h
      · rw [List.mem_cons]
        rw [← down_marks hd hm hp j hj hlow m (by omega) h _ _ hRM']
        constructor
        · rintro (h' | h')
          · exact absurd h' (hd j m h (by omega))
          · exact h'
        · exact .inr
      · obtain rfl : j = m := by omega
        rw [marksL_ge hp j (by omega) _ j (Nat.le_refl _), hRM' j hj]
        constructor
        · intro _
          split
          · simp [Radd, hR]
          · exact hR
        · intro _; exact List.mem_cons_self
theorem reach_eq {D : DagD} (h : DagOk D) {i j : Nat} (hi : i < D.certs.length) (hj : j < D.certs.length) : reachesS D.certs D.low i j = marksS D.certs D.low i j := by
  have hd := h.dist; have hm := h.mono; have hp := h.parLt
  rw [Bool.eq_iff_iff]
  unfold reachesS marksS downS
  rw [hasS_iff]
  have h0 : ∀ p, p < D.certs.length → Mset (fun _ => false) i p = (fun x => if x = (cth D.certs i).di then true else false) (cth D.certs p).di := by
    intro p hpl
    by_cases e : p = i
    · subst e; simp [Mset]
    · have : (cth D.certs p).di ≠ (cth D.certs i).di := fun e' => e (hd.eq hpl hi e')
      simp [Mset, e, this]
  rcases Nat.lt_or_ge i j with hij | hij
  · rw [marksL_ge hp (i + 1) (by omega) _ j (by omega)]
    constructor
    · intro h'
      obtain ⟨p, h1, h2⟩ := downL_mem _ _ h'
      exact absurd h2.symm (hd p j (by omega) hj)
    · intro h'
      simp [Mset] at h'
      omega
  · exact down_marks hd hm hp j hj (by omega) (i + 1) (by omega) (by omega) _ _ h0
end Go.Proofs.Ytfkbilbgndekkaa
