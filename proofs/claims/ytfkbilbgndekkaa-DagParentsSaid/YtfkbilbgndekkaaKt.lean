/- Plain counts: how many certificates a round has; each parent is found in the round ahead. -/
import Derived.Test.YtfkbilbgndekkaaKy
namespace Go.Proofs.Ytfkbilbgndekkaa
open Go.RowKit
set_option linter.unusedSimpArgs false
set_option linter.unusedVariables false

theorem pw_len : ∀ {l : List Int} {lo hi : Int}, l.Pairwise (· < ·) → (∀ x ∈ l, lo ≤ x ∧ x ≤ hi) → l ≠ [] → (l.length : Int) ≤ hi - lo + 1
  | [], _, _, _, _, h => absurd rfl h
  | [x], lo, hi, _, hb, _ => by have := hb x (by simp); simp; omega
  | x :: y :: t, lo, hi, hp, hb, _ => by
    have h1 := hb x (by simp)
    have hp' := List.pairwise_cons.1 hp
    have := pw_len (l := y :: t) (lo := lo + 1) (hi := hi) hp'.2 (fun z hz => by
      have h2 := hp'.1 z hz
      have h3 := hb z (List.mem_cons_of_mem _ hz)
      omega) (by simp)
    simp only [List.length_cons] at this ⊢
    omega
theorem nodup_le : ∀ {a b : List Int}, a.Pairwise (· ≠ ·) → (∀ x ∈ a, x ∈ b) → a.length ≤ b.length
  | [], _, _, _ => Nat.zero_le _
  | x :: t, b, hp, hs => by
    have hp' := List.pairwise_cons.1 hp
    have hx := hs x (by simp)
    have h1 := nodup_le (a := t) (b := b.erase x) hp'.2 (fun z hz => by
      have := hp'.1 z hz
      exact (List.mem_erase_of_ne (Ne.symm this)).2 (hs z (List.mem_cons_of_mem _ hz)))
    have h2 := List.length_erase_of_mem hx
    have h3 := List.length_pos_of_mem hx
    simp only [List.length_cons]
    omega
theorem ris_pw {l : List Int} {lo hi : Int} (h : crisS l lo hi = true) : l.Pairwise (· ≠ ·) := by
  have hr : ∀ j i, i < j → j < l.length → nth l i < nth l j := by
    intro j
    induction j with
    | zero => intro i h; omega
    | succ j ih =>
      intro i hi hj
      have h1 := (dec_iff.1 h).1 j hj
      rcases Nat.lt_or_ge i j with h2 | h2
      · have := ih i h2 (by omega); omega
      · obtain rfl : i = j := by omega
        exact h1
  rw [List.pairwise_iff_getElem]
  intro i j hi hj hij e
  have := hr j i hij hj
  simp only [nth, List.getD_eq_getElem?_getD, List.getElem?_eq_getElem hi, List.getElem?_eq_getElem hj, Option.getD_some] at this
  omega
theorem head_par {H : HeaderD} {n : Int} (h : headS H n = true) : crisS H.pa 1 65536 = true ∧ (1 < H.ro → 2 * (n / 3) + 1 ≤ (H.pa.length : Int)) := by
  simp only [headS, digsS, Bool.and_eq_true, decide_eq_true_eq] at h
  refine ⟨h.1.2.2, fun hr => ?_⟩
  have h2 := h.2
  rw [show (H.ro == 1) = false by rw [beq_eq_false_iff_ne]; omega] at h2
  simpa using h2
theorem par_find {D : DagD} (hm : mayS D = true) {c : CertD} (hc : c ∈ D.certs) (hr : D.low + 1 < c.h.ro) {x : Int} (hx : x ∈ c.h.pa) : pkE D (findS D.certs x) = 0 ∧ (pkC D (findS D.certs x)).h.ro = c.h.ro - 1 := by
  obtain ⟨g1, g2, g3, g4, g5, g6, g7⟩ := dag_iff.1 (mayS_iff.1 hm)
  obtain ⟨q1, q2, q3⟩ := g7 c hc
  have hl := (lack_in (dist_pw.2 g6)).2 (q3 hr x hx)
  obtain ⟨j, hj, e, h⟩ := lack_false.1 hl
  rw [e]
  refine ⟨by simp [pkE, hm], ?_⟩
  simp only [pkC, hm, true_and]
  rw [if_pos (by omega)]
  simpa using h
theorem par_quo {D : DagD} (hm : mayS D = true) {c : CertD} (hc : c ∈ D.certs) (hr : D.low + 1 < c.h.ro) : 2 * (D.nodes / 3) + 1 ≤ (c.h.pa.length : Int) := by
  obtain ⟨g1, g2, g3, g4, g5, g6, g7⟩ := dag_iff.1 (mayS_iff.1 hm)
  obtain ⟨q1, q2, q3⟩ := g7 c hc
  exact (head_par (certS_hd q1)).2 (by omega)
theorem round_some {D : DagD} (hm : mayS D = true) : ∀ (k : Nat) (r : Int), r = topL D.certs - (k : Int) → D.low < r → ∃ c ∈ D.certs, c.h.ro = r
  | 0, r, e, h => by
    obtain ⟨g1, g2, g3, g4, g5, g6, g7⟩ := dag_iff.1 (mayS_iff.1 hm)
    by_cases hl : D.certs.length = 0
    · simp [topL, hl] at e; omega
    · refine ⟨cth D.certs (D.certs.length - 1), cth_mem (by omega), ?_⟩
      unfold topL at e
      rw [if_neg hl] at e
      omega
  | k + 1, r, e, h => by
    obtain ⟨g1, g2, g3, g4, g5, g6, g7⟩ := dag_iff.1 (mayS_iff.1 hm)
    obtain ⟨c, hc, hr⟩ := round_some hm k (r + 1) (by omega) (by omega)
    obtain ⟨q1, q2, q3⟩ := g7 c hc
    have hn := (isS_bd g1).1
    have h1 := par_quo hm hc (by omega)
    have h2 : 0 < c.h.pa.length := by omega
    obtain ⟨p, hp, _, h4⟩ := q3 (by omega) _ (List.getElem_mem h2)
    exact ⟨p, hp, by omega⟩
theorem round_counts {D : DagD} (hm : mayS D = true) {r : Int} (h1 : D.low < r) (h2 : r ≤ topL D.certs) :
    0 < (roundL D.certs r).length ∧ ((roundL D.certs r).length : Int) ≤ D.nodes ∧ (r < topL D.certs → 2 * (D.nodes / 3) + 1 ≤ ((roundL D.certs r).length : Int)) := by
  obtain ⟨g1, g2, g3, g4, g5, g6, g7⟩ := dag_iff.1 (mayS_iff.1 hm)
  have hne : 0 < (roundL D.certs r).length := by
    obtain ⟨c, hc, e⟩ := round_some hm (topL D.certs - r).toNat r (by omega) h1
    exact List.length_pos_of_mem (List.mem_filter.2 ⟨hc, by simpa using e⟩)
  refine ⟨hne, ?_, fun h3 => ?_⟩
  · have hp : ((roundL D.certs r).map fun c => c.h.au).Pairwise (· < ·) := by
      rw [List.pairwise_map]
      refine List.Pairwise.imp_of_mem (fun {a b} ha hb hab => ?_) (g5.filter _)
      have e1 := (List.mem_filter.1 ha).2
      have e2 := (List.mem_filter.1 hb).2
      have h5 : befS a.h.ro a.h.au b.h.ro b.h.au = true := hab
      rw [befS_iff] at h5
      simp at e1 e2
      omega
    have := pw_len (lo := 1) (hi := D.nodes) hp (fun x hx => by
      obtain ⟨c, hc, rfl⟩ := List.mem_map.1 hx
      have := headS_bd (certS_hd (g7 c (List.mem_filter.1 hc).1).1)
      omega) (by intro e; rw [List.map_eq_nil_iff] at e; rw [e] at hne; simp at hne)
    simp only [List.length_map] at this
    omega
  · obtain ⟨c, hc, e⟩ := round_some hm (topL D.certs - (r + 1)).toNat (r + 1) (by omega) (by omega)
    have hq := par_quo hm hc (by omega)
    have hh := head_par (certS_hd (g7 c hc).1)
    have := nodup_le (a := c.h.pa) (b := (roundL D.certs r).map fun c => c.di) (ris_pw hh.1) (fun x hx => by
      obtain ⟨p, hp, e1, e2⟩ := (g7 c hc).2.2 (by omega) x hx
      exact List.mem_map.2 ⟨p, List.mem_filter.2 ⟨hp, by simp; omega⟩, e1⟩)
    simp only [List.length_map] at this
    omega
end Go.Proofs.Ytfkbilbgndekkaa
