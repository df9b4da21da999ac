/- The law PathReaches: the walk. -/
import Derived.Test.YtfkbilbgndekkaaQ
namespace Go.Proofs.Ytfkbilbgndekkaa
open Go.RowKit
set_option linter.unusedSimpArgs false
set_option linter.unusedVariables false

theorem reach_bad {D : DagD} (h : mayS D = false) (a b : Int) : reachB D a b = false ∧ reachE D a b = 1 := by simp [reachB, reachE, h]
theorem reach_none {D : DagD} (h : mayS D = true) {a b : Int} (hn : findS D.certs a < 0 ∨ findS D.certs b < 0) : reachB D a b = false ∧ reachE D a b = 3 := by
  constructor
  · simp only [reachB, h, Bool.true_and]
    rcases hn with q | q
    · rw [decide_eq_false (Int.not_le.2 q)]; simp
    · rw [decide_eq_false (Int.not_le.2 q)]; simp
  · unfold reachE; rw [if_pos h, if_neg (by omega)]
theorem reach_ok {D : DagD} (h : mayS D = true) {a b : Int} {i j : Nat} (ha : findS D.certs a = (i : Int)) (hb : findS D.certs b = (j : Int)) : reachB D a b = marksS D.certs D.low i j ∧ reachE D a b = 0 := by
  have hi := findS_lt (l := D.certs) (x := a) (by omega)
  have hj := findS_lt (l := D.certs) (x := b) (by omega)
  rw [ha] at hi; rw [hb] at hj
  constructor
  · simp [reachB, h, ha, hb, reach_eq (mayS_iff.1 h) (i := i) (j := j) (by omega) (by omega)]
  · simp [reachE, h, ha, hb]
theorem may_facts {D : DagD} (h : mayS D = true) : -9223372036854775808 ≤ D.low ∧ D.low ≤ 1099511627776 ∧ D.certs.length ≤ 65536 ∧ ∀ k, k < D.certs.length → 1 ≤ (cth D.certs k).h.ro ∧ (cth D.certs k).h.ro ≤ 1099511627776 := by
  have hok := mayS_iff.1 h
  exact ⟨by have := hok.2.1; omega, hok.2.2.1, hok.2.2.2.1, fun k hk => mayS_ro h hk⟩
end Go.Proofs.Ytfkbilbgndekkaa
