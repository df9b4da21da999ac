/- Plain: what has few votes is reached by each certificate two rounds above it, or more. -/
import Derived.Test.YthpljlffjbodpaaCl
import Derived.Test.YthpljlffjbodpaaOa
namespace Go.Proofs.Ythpljlffjbodpaa
open Go.RowKit
set_option linter.unusedSimpArgs false
set_option linter.unusedVariables false

/-- Numbers of 1..n, each once, are at most n. -/
theorem pigeon : ∀ (n : Nat) (l : List Int), l.Nodup → (∀ x, x ∈ l → 1 ≤ x ∧ x ≤ (n : Int)) → l.length ≤ n
  | 0, l, _, h => by
    cases l with
    | nil => simp
    | cons x l => have := h x (by simp); omega
  | n + 1, l, hd, h => by
    by_cases hm : ((n + 1 : Nat) : Int) ∈ l
    · have h1 := List.length_erase_of_mem hm
      have h2 := pigeon n (l.erase ((n + 1 : Nat) : Int)) (hd.erase _) (fun x hx => by
        obtain ⟨h3, h4⟩ := (hd.mem_erase_iff).1 hx
        have := h x h4
        omega)
      omega
    · have := pigeon n l hd (fun x hx => by
        have h3 := h x hx
        have h4 : x ≠ ((n + 1 : Nat) : Int) := fun e => hm (e ▸ hx)
        omega)
      omega
theorem par_place {D : DagD} (h : DagOk D) {i : Nat} (hi : i < D.certs.length) (hlow : D.low + 1 < (cth D.certs i).h.ro) {y : Int} (hy : y ∈ (cth D.certs i).h.pa) :
    ∃ k, k < D.certs.length ∧ findS D.certs y = (k : Int) ∧ (cth D.certs k).di = y ∧ (cth D.certs k).h.ro = (cth D.certs i).h.ro - 1 := by
  obtain ⟨m, hm, e⟩ := nth_mem hy
  have h1 := (h.2.2.2.2 i hi).2.2.2.2 m hm hlow
  rw [e] at h1
  have h0 := h.2.1
  rcases seenL_cases D.certs y i with ⟨g, _⟩ | ⟨j, g1, g2, g3⟩
  · omega
  · exact ⟨j, by omega, by rw [← g2]; exact h.dist.find (by omega), g2, by omega⟩
theorem par_many {D : DagD} (h : DagOk D) {i : Nat} (hi : i < D.certs.length) (hro : (cth D.certs i).h.ro ≠ 1) : 2 * (D.nodes / 3) + 1 ≤ ((cth D.certs i).h.pa.length : Int) ∧ Rises (cth D.certs i).h.pa := by
  have h1 := certS_hd (h.2.2.2.2 i hi).1
  simp only [headS, digsS, crisS, Bool.and_eq_true, dec_iff] at h1
  obtain ⟨⟨_, _, h2, _⟩, h3⟩ := h1
  have h4 : ((cth D.certs i).h.ro == 1) = false := by simpa using hro
  rw [h4] at h3
  exact ⟨by simpa using h3, h2⟩
/-- Of one round and one author there is one. -/
theorem place_one {D : DagD} (h : DagOk D) {i j : Nat} (hi : i < D.certs.length) (hj : j < D.certs.length) (e1 : (cth D.certs i).h.ro = (cth D.certs j).h.ro) (e2 : (cth D.certs i).h.au = (cth D.certs j).h.au) : i = j := by
  rcases Nat.lt_trichotomy i j with g | g | g
  · have := befS_iff.1 (h.places.1 i j g hj); omega
  · exact g
  · have := befS_iff.1 (h.places.1 j i g hi); omega
theorem auth_bd {D : DagD} (h : DagOk D) {i : Nat} (hi : i < D.certs.length) : 1 ≤ (cth D.certs i).h.au ∧ (cth D.certs i).h.au ≤ D.nodes := by
  have := headS_bd (certS_hd (h.2.2.2.2 i hi).1); omega
/-- Many parents and few votes meet. -/
theorem votes_meet {D : DagD} (h : DagOk D) {r : Int} (hdir : directS D r = true) {i : Nat} (hi : i < D.certs.length) (hro : (cth D.certs i).h.ro = r + 2) (hlow : D.low < r) (h2 : 2 ≤ r) :
    ∃ y, y ∈ (cth D.certs i).h.pa ∧ ∃ k, k < D.certs.length ∧ findS D.certs y = (k : Int) ∧ (cth D.certs k).h.ro = r + 1 ∧ hasS (cth D.certs k).h.pa (anchS D r) = true := by
  apply Classical.byContradiction
  intro hno
  have hn := isS_iff.1 h.1
  have hdir2 := of_decide_eq_true hdir
  have ha : 0 < anchS D r := by
    apply Classical.byContradiction
    intro g
    unfold votesS at hdir2
    rw [if_neg g] at hdir2
    have : 0 ≤ (D.nodes - 1) / 3 := by omega
    omega
  unfold votesS at hdir2
  rw [if_pos ha] at hdir2
  obtain ⟨hpl, hri⟩ := par_many h hi (by omega)
  obtain ⟨A, hA⟩ : ∃ A, A = votL D.certs (r + 1) (anchS D r) := ⟨_, rfl⟩
  obtain ⟨P, hP⟩ : ∃ P, P = (cth D.certs i).h.pa := ⟨_, rfl⟩
  rw [← hA] at hdir2
  rw [← hP] at hpl hri
  have hAm : ∀ c, c ∈ A → ∃ k, k < D.certs.length ∧ c = cth D.certs k ∧ (cth D.certs k).h.ro = r + 1 ∧ hasS (cth D.certs k).h.pa (anchS D r) = true := fun c hc => by
    rw [hA] at hc
    unfold votL at hc
    rw [List.mem_filter, Bool.and_eq_true, decide_eq_true_eq] at hc
    obtain ⟨k, hk, e⟩ := mem_cth hc.1
    exact ⟨k, hk, e.symm, by rw [e]; exact hc.2.1, by rw [e]; exact hc.2.2⟩
  have hPm : ∀ y, y ∈ P → ∃ k, k < D.certs.length ∧ findS D.certs y = (k : Int) ∧ (cth D.certs k).di = y ∧ (cth D.certs k).h.ro = r + 1 := fun y hy => by
    rw [hP] at hy
    obtain ⟨k, a1, a2, a3, a4⟩ := par_place h hi (by omega) hy
    exact ⟨k, a1, a2, a3, by omega⟩
  let f : Int → Int := fun y => (cth D.certs (findS D.certs y).toNat).h.au
  have hall : List.Pairwise (fun c d : CertD => c.h.ro < d.h.ro ∨ c.h.ro = d.h.ro ∧ c.h.au < d.h.au) D.certs := by
    rw [List.pairwise_iff_getElem]
    intro a b h1 h2 hab
    have := befS_iff.1 (h.places.1 a b hab h2)
    simpa [cth, h1, h2] using this
  have hA1 : (A.map fun c => c.h.au).Nodup := by
    rw [List.Nodup, List.pairwise_map]
    have h1 : List.Pairwise (fun c d : CertD => c.h.ro < d.h.ro ∨ c.h.ro = d.h.ro ∧ c.h.au < d.h.au) A := by rw [hA]; exact List.Pairwise.filter _ hall
    refine List.Pairwise.imp_of_mem ?_ h1
    intro c d hc hd hcd
    obtain ⟨_, _, e1, e2, _⟩ := hAm c hc
    obtain ⟨_, _, e3, e4, _⟩ := hAm d hd
    rw [← e1] at e2
    rw [← e3] at e4
    omega
  have hP1 : (P.map f).Nodup := by
    rw [List.Nodup, List.pairwise_map]
    have h1 : List.Pairwise (fun a b : Int => a < b) P := by
      rw [List.pairwise_iff_getElem]
      intro a b h1 h2 hab
      have := hri.lt hab h2
      simpa [nth, h1, h2] using this
    refine List.Pairwise.imp_of_mem ?_ h1
    intro a b ha' hb' hab e
    obtain ⟨ka, a1, a2, a3, a4⟩ := hPm a ha'
    obtain ⟨kb, b1, b2, b3, b4⟩ := hPm b hb'
    simp only [f, a2, b2, Int.toNat_natCast] at e
    have := place_one h a1 b1 (by omega) e
    subst this
    omega
  have hdis : ∀ x, x ∈ A.map (fun c => c.h.au) → ∀ y, y ∈ P.map f → x ≠ y := by
    intro x hx y hy e
    rw [List.mem_map] at hx hy
    obtain ⟨c, hc, ec⟩ := hx
    obtain ⟨z, hz, ez⟩ := hy
    obtain ⟨k, c1, c2, c3, c4⟩ := hAm c hc
    obtain ⟨kz, z1, z2, z3, z4⟩ := hPm z hz
    simp only [f, z2, Int.toNat_natCast] at ez
    have := place_one h c1 z1 (by omega) (by rw [← c2]; omega)
    subst this
    exact hno ⟨z, by rw [← hP]; exact hz, k, c1, z2, c3, c4⟩
  have hlen := pigeon D.nodes.toNat (A.map (fun c => c.h.au) ++ P.map f) (List.nodup_append.2 ⟨hA1, hP1, hdis⟩) (by
    intro x hx
    rw [List.mem_append, List.mem_map, List.mem_map] at hx
    rcases hx with ⟨c, hc, e⟩ | ⟨z, hz, e⟩
    · obtain ⟨k, c1, c2, _⟩ := hAm c hc
      have := auth_bd h c1
      rw [← c2, e] at this
      omega
    · obtain ⟨k, z1, z2, _⟩ := hPm z hz
      have := auth_bd h z1
      simp only [f, z2, Int.toNat_natCast] at e
      rw [e] at this
      omega)
  rw [List.length_append, List.length_map, List.length_map] at hlen
  omega
/-- A round's anchor with few votes is reached from two rounds above, and from higher. -/
theorem votes_reach {D : DagD} (h : DagOk D) {r : Int} (hdir : directS D r = true) (hlow : D.low < r) (h2 : 2 ≤ r) {j : Nat} (hj : findS D.certs (anchS D r) = (j : Int)) :
    ∀ (m : Nat) (i : Nat), i < D.certs.length → (cth D.certs i).h.ro = r + 2 + m → Rch D.certs D.low i j
  | 0, i, hi, hro => by
    obtain ⟨y, hy, k, hk, ek, hk1, hk2⟩ := votes_meet h hdir hi (by omega) hlow h2
    refine .step (k := k) ⟨by omega, y, hy, ek⟩ (.step (k := j) ⟨by omega, anchS D r, (hasS_iff _ _).1 hk2, hj⟩ (.refl _))
  | m + 1, i, hi, hro => by
    obtain ⟨hpl, _⟩ := par_many h hi (by omega)
    have hn := isS_iff.1 h.1
    have h0 : 0 < (cth D.certs i).h.pa.length := by omega
    have hy : nth (cth D.certs i).h.pa 0 ∈ (cth D.certs i).h.pa := mem_nth h0
    obtain ⟨k, k1, k2, _, k4⟩ := par_place h hi (by omega) hy
    exact .step (k := k) ⟨by omega, _, hy, k2⟩ (votes_reach h hdir hlow h2 hj m k k1 (by omega))
theorem back_holds {D : DagD} (h : DagOk D) {r : Int} (hdir : directS D r = true) (hlow : D.low < r) (h2 : 2 ≤ r) (hz : ¬ anchS D r = 0) (he : r % 2 = 0) :
    ∀ (m : Nat) (q : Int) (k : Nat), q ≤ m → q % 2 = 0 → r < q → k < D.certs.length → r + 2 ≤ (cth D.certs k).h.ro → anchS D r ∈ backL D (r - 2) m q k
  | 0, q, k, h1, _, h3, _, _ => by omega
  | m + 1, q, k, h1, hq, h3, hk, hkr => by
    have hne : ¬ (q - 2 ≤ r - 2 ∨ q - 2 ≤ D.low) := by omega
    by_cases hqr : q - 2 = r
    · obtain ⟨j, j1, j2, j3, j4⟩ := anch_at h hz
      have hr := votes_reach h hdir hlow h2 j2 ((cth D.certs k).h.ro - r - 2).toNat k hk (by omega)
      have hrr : reachesS D.certs D.low k j = true := by rw [reach_eq h hk j1]; exact (marksS_iff h hk).2 hr
      rw [backL_yes (j := j) hne (by rw [hqr]; exact hz) (by rw [hqr]; exact j2) hrr, hqr]
      exact List.mem_cons_self
    · by_cases hz2 : anchS D (q - 2) = 0
      · rw [backL_zero hne hz2]
        exact back_holds h hdir hlow h2 hz he m (q - 2) k (by omega) (by omega) (by omega) hk hkr
      · obtain ⟨j, j1, j2, j3, j4⟩ := anch_at h hz2
        cases hr : reachesS D.certs D.low k j
        · rw [backL_no (j := j) hne hz2 j2 hr]
          exact back_holds h hdir hlow h2 hz he m (q - 2) k (by omega) (by omega) (by omega) hk hkr
        · rw [backL_yes (j := j) hne hz2 j2 hr]
          exact List.mem_cons_of_mem _ (back_holds h hdir hlow h2 hz he m (q - 2) j (by omega) (by omega) (by omega) j1 (by omega))
theorem chain_holds {D : DagD} {r q : Int} (hd : diB D r = true) (hlow : D.low < r) (hq : chE D (r - 2) q = 0) : hasS (chB D (r - 2) q) (anchS D r) = true := by
  unfold diB at hd
  rw [Bool.and_eq_true] at hd
  have hask := hd.1
  unfold askS at hask
  rw [Bool.and_eq_true] at hask
  have hok := mayS_iff.1 hask.1
  have hev := evenS_iff.1 hask.2
  obtain ⟨c1, c2, c3⟩ := chE_zero hq
  have c4 := chOk_iff.1 c2
  have hqe : q % 2 = 0 := by unfold askS at c1; rw [Bool.and_eq_true] at c1; exact (evenS_iff.1 c1.2).2.2
  have hz : ¬ anchS D r = 0 := fun g => by
    have := of_decide_eq_true hd.2
    unfold votesS at this
    rw [if_neg (by omega)] at this
    have := isS_iff.1 hok.1
    omega
  obtain ⟨j, j1, j2, j3, j4⟩ := anch_at hok c3
  unfold chB
  rw [if_pos ⟨c1, c2, c3⟩, hasS_iff, List.mem_reverse]
  unfold chainL
  rw [j2, Int.toNat_natCast]
  by_cases hrq : q = r
  · subst hrq; exact List.mem_cons_self
  · exact List.mem_cons_of_mem _ (back_holds hok hd.2 hlow hev.1 hz hev.2.2 q.toNat q j (by omega) hqe (by omega) j1 (by omega))
end Go.Proofs.Ythpljlffjbodpaa
