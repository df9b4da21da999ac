/- droverref14.Add, where it refuses: all cases in one. -/
import Derived.Test.YtfkbilbgndekkaaMa
namespace Go.Proofs.Ytfkbilbgndekkaa
open Go.RowKit
set_option linter.unusedSimpArgs false
set_option linter.unusedVariables false

noncomputable def raddE (D : DagD) (C : CertD) : Int := if certS C D.nodes = true then putE D C else 1
theorem ref14_Add_no (A : Option Addr) (n c : Nat) (D : DagD) (C : CertD) (bA pA sA : Option Addr) (bn bc pn pc sn sc : Nat) (y : Int) (w : World) (hl : CertsR w A n D.certs) (hr : CertR w ⟨⟨⟨bA, bn, bc⟩, ⟨pA, pn, pc⟩⟩, ⟨sA, sn, sc⟩⟩ C) (hok : mayS D = true) (hpn : pn ≤ 65536) (hy : raddE D C = y) (hy0 : y ≠ 0) :
    Calls Try.prog 41 #[.agg #[.int .i64 D.nodes, .int .i64 D.low, .slice A n c], .agg #[.int .i64 C.h.au, .int .i64 C.h.ro, .slice bA bn bc, .slice pA pn pc, .int .i64 C.di, .slice sA sn sc]] w fun e w' => e = .returned (.tuple #[.agg #[.int .i64 D.nodes, .int .i64 D.low, .slice A n c], .int .i64 y]) ∧ Below w.heap.size w w' := by
  have hn : n ≤ 65536 := by rw [← hl.1]; exact (mayS_iff.1 hok).2.2.2.1
  have hd := (mayS_iff.1 hok).dist
  unfold raddE at hy
  cases h : certS C D.nodes
  · rw [h, if_neg (by simp)] at hy; subst hy
    exact ref14_Add_form A n c D C bA pA sA bn bc pn pc sn sc w hl hr h
  · rw [if_pos h] at hy
    have hbd := certS_bd h
    unfold putE at hy
    by_cases h1 : C.h.ro ≤ D.low
    · rw [if_pos h1] at hy; subst hy
      exact ref14_Add_old A n c D C bA pA sA bn bc pn pc sn sc w hl hr h h1
    · rw [if_neg h1] at hy
      have hdi : ∀ i : Nat, i < D.certs.length → atS D.certs C.h.ro C.h.au = (i : Int) → ((cth D.certs i).di = C.di ↔ atS D.certs C.h.ro C.h.au = findS D.certs C.di) := fun i hi e => by
        constructor
        · intro e2; rw [e, ← e2, hd.find hi]
        · intro e2
          rcases findS_cases D.certs C.di with ⟨g, _⟩ | ⟨j, hj, g, g2, _⟩
          · omega
          · obtain rfl : i = j := by omega
            exact g2
      rcases atS_cases D.certs C.h.ro C.h.au with ⟨ha, _⟩ | ⟨i, hi, ha, _⟩
      · rw [if_neg (by omega)] at hy
        by_cases h3 : 0 ≤ findS D.certs C.di
        · rw [if_pos h3] at hy; subst hy
          exact ref14_Add_has A n c D C bA pA sA bn bc pn pc sn sc w hl hr _ _ rfl rfl h (by omega) (by omega) h3
        · rw [if_neg h3] at hy
          by_cases h4 : lacksS D.certs D.low C.h = []
          · rw [if_pos h4] at hy; exact absurd hy.symm hy0
          · rw [if_neg h4] at hy; subst hy
            have hll : (lacksS D.certs D.low C.h).length ≤ 65536 := by
              have h5 : C.h.pa.length ≤ 65536 := by have h6 : C.h.pa.length = pn := hr.1.2.1; omega
              unfold lacksS; split
              · simp
              · exact Nat.le_trans (List.length_filter_le _ _) h5
            exact ref14_Add_lack A n c D C bA pA sA bn bc pn pc sn sc w hl hr _ _ rfl rfl h (by omega) (by omega) (by omega) h4 hn hpn (by omega) (by omega) hll
      · rw [if_pos (by omega)] at hy
        have e1 : (atS D.certs C.h.ro C.h.au).toNat = i := by omega
        rw [e1] at hy
        by_cases h3 : (cth D.certs i).di = C.di
        · rw [if_pos h3] at hy; subst hy
          exact ref14_Add_there A n c D C bA pA sA bn bc pn pc sn sc w hl hr _ _ rfl rfl h (by omega) (by omega) ((hdi i hi ha).1 h3)
        · rw [if_neg h3] at hy; subst hy
          exact ref14_Add_two A n c D C bA pA sA bn bc pn pc sn sc w hl hr _ _ rfl rfl h (by omega) (by omega) (fun g => h3 ((hdi i hi ha).2 g))
end Go.Proofs.Ytfkbilbgndekkaa
