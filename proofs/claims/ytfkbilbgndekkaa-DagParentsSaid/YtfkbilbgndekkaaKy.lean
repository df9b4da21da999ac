/- The certificate of a digest, of a place, in any DAG, at the program. -/
import Derived.Test.YtfkbilbgndekkaaKx
namespace Go.Proofs.Ytfkbilbgndekkaa
open Go.RowKit
set_option linter.unusedSimpArgs false
set_option linter.unusedVariables false

theorem CertO.zero (w : World) (B : Nat) : CertO w B default default := ⟨⟨OwnI.nil _ _, OwnI.nil _ _⟩, OwnI.nil _ _⟩
/-- The certificate at place k, if the DAG may be; else none. -/
noncomputable def pkC (D : DagD) (k : Int) : CertD := if mayS D = true ∧ 0 ≤ k then cth D.certs k.toNat else default
noncomputable def pkE (D : DagD) (k : Int) : Int := if mayS D = true then (if 0 ≤ k then 0 else 3) else 1
theorem dag_GetAt (A : Option Addr) (n c : Nat) (l : List CertD) (nodes low x y : Int) (w : World) (hl : CertsR w A n l) (hy : findS l x = y) :
    Calls Try.prog 71 #[.agg #[.int .i64 nodes, .int .i64 low, .slice A n c], .int .i64 x] w fun e w' => e = .returned (.int .i64 y) ∧ Below w.heap.size w w' := hy ▸ dag_Get A n c l nodes low x w hl
set_option maxRecDepth 100000 in
set_option maxHeartbeats 4000000 in
theorem dag_Find (A : Option Addr) (n c : Nat) (D : DagD) (x y : Int) (C : CertD) (w : World) (hl : CertsR w A n D.certs) (hy : pkE D (findS D.certs x) = y) (hC : pkC D (findS D.certs x) = C) :
    Calls Try.prog 61 #[.agg #[.int .i64 D.nodes, .int .i64 D.low, .slice A n c], .int .i64 x] w fun e w' => ∃ p : CertP, e = .returned (.tuple #[.agg #[.int .i64 C.h.au, .int .i64 C.h.ro, .slice p.h.b.A p.h.b.n p.h.b.c, .slice p.h.p.A p.h.p.n p.h.p.c, .int .i64 C.di, .slice p.s.A p.s.n p.s.c], .int .i64 y]) ∧ CertO w' w.heap.size p C ∧ Below w.heap.size w w' := by
  have HL := Lib.hid hl
  cases hm : mayS D
  · obtain rfl : y = 1 := by rw [← hy]; simp [pkE, hm]
    obtain rfl : C = default := by rw [← hC]; simp [pkC, hm]
    have HM := Lib.hid hm
    clear hy hC hm hl
    go_enter Try.func61, Try.ntmps61
    go_wp2_with fail
    refine (dag_May A n c D _ (HL.out.up (by (repeat (first | (with_reducible exact Below.refl _ _) | (with_reducible assumption) | (with_reducible apply bel_alloc) | (with_reducible apply bel_drew) | (with_reducible apply bel_drewN) | (with_reducible refine bel_trans ?_ (by with_reducible assumption)) | (with_reducible refine bel_trans ?_ (HF.out _)) | (with_reducible refine bel_set ?_ (by simp) _) | (with_reducible refine bel_set ?_ (by simp; omega) _) | (with_reducible refine bel_set ?_ (by omega) _)))))).mono ?_
    rintro e w1 ⟨rfl, hb1⟩
    rw [HM.out]
    have hz_w1 : w.heap.size + 2 ≤ w1.heap.size := (by have hq := (hb1).size; (try simp at hq); omega); have hc0_w1 := fun o => (bcell hb1).1 (w.heap.size) o (by first | (simp; done) | (simp; omega) | omega); have hc1_w1 := fun o => (bcell hb1).1 (w.heap.size + 1) o (by first | (simp; done) | (simp; omega) | omega); have hf0_w1 := fun o => (bcell hb1).2 (w.heap.size) o (by first | (simp; done) | (simp; omega) | omega); have hf1_w1 := fun o => (bcell hb1).2 (w.heap.size + 1) o (by first | (simp; done) | (simp; omega) | omega)
    go_wp2_with fail
    exact bodyPost_ret (v := .tuple #[.agg #[.int .i64 0, .int .i64 0, .slice none 0 0, .slice none 0 0, .int .i64 0, .slice none 0 0], .int .i64 1]) (by simp [results, Try.results61, go_sem, hc0_w1, hc1_w1]) rfl ⟨default, rfl, CertO.zero _ _, by (repeat (first | (with_reducible exact Below.refl _ _) | (with_reducible assumption) | (with_reducible apply bel_alloc) | (with_reducible apply bel_drew) | (with_reducible apply bel_drewN) | (with_reducible refine bel_trans ?_ (by with_reducible assumption)) | (with_reducible refine bel_trans ?_ (HF.out _)) | ((with_reducible refine bel_set3 ?_ ?_); rotate_left; omega)))⟩
  · have hn : n ≤ 65536 := by rw [← hl.1]; exact (mayS_iff.1 hm).2.2.2.1
    rcases findS_cases D.certs x with ⟨hk, -⟩ | ⟨i, hi, hk, -⟩
    · obtain rfl : y = 3 := by rw [← hy, hk]; simp [pkE, hm]
      obtain rfl : C = default := by rw [← hC, hk]; simp [pkC]
      have HM := Lib.hid hm
      have HK := Lib.hid hk
      clear hy hC hm hl hk
      go_enter Try.func61, Try.ntmps61
      go_wp2_with fail
      refine (dag_May A n c D _ (HL.out.up (by (repeat (first | (with_reducible exact Below.refl _ _) | (with_reducible assumption) | (with_reducible apply bel_alloc) | (with_reducible apply bel_drew) | (with_reducible apply bel_drewN) | (with_reducible refine bel_trans ?_ (by with_reducible assumption)) | (with_reducible refine bel_trans ?_ (HF.out _)) | (with_reducible refine bel_set ?_ (by simp) _) | (with_reducible refine bel_set ?_ (by simp; omega) _) | (with_reducible refine bel_set ?_ (by omega) _)))))).mono ?_
      rintro e w1 ⟨rfl, hb1⟩
      rw [HM.out]
      have hbw1 : Below w.heap.size w w1 := by (repeat (first | (with_reducible exact Below.refl _ _) | (with_reducible assumption) | (with_reducible apply bel_alloc) | (with_reducible apply bel_drew) | (with_reducible apply bel_drewN) | (with_reducible refine bel_trans ?_ (by with_reducible assumption)) | (with_reducible refine bel_trans ?_ (HF.out _)) | (with_reducible refine bel_set ?_ (by simp) _) | (with_reducible refine bel_set ?_ (by simp; omega) _) | (with_reducible refine bel_set ?_ (by omega) _)))
      have hz_w1 : w.heap.size + 2 ≤ w1.heap.size := (by have hq := (hb1).size; (try simp at hq); omega); have hc0_w1 := fun o => (bcell hb1).1 (w.heap.size) o (by first | (simp; done) | (simp; omega) | omega); have hc1_w1 := fun o => (bcell hb1).1 (w.heap.size + 1) o (by first | (simp; done) | (simp; omega) | omega); have hf0_w1 := fun o => (bcell hb1).2 (w.heap.size) o (by first | (simp; done) | (simp; omega) | omega); have hf1_w1 := fun o => (bcell hb1).2 (w.heap.size + 1) o (by first | (simp; done) | (simp; omega) | omega)
      go_wp2_with fail
      refine (dag_GetAt A n c D.certs _ _ x (-1) _ (HL.out.up hbw1) HK.out).mono ?_
      rintro e w2 ⟨rfl, hb2⟩
      have hb12 := bel_trans hb1 hb2
      have hz_w2 : w.heap.size + 2 ≤ w2.heap.size := (by have hq := (hb12).size; (try simp at hq); omega); have hc0_w2 := fun o => (bcell hb12).1 (w.heap.size) o (by first | (simp; done) | (simp; omega) | omega); have hc1_w2 := fun o => (bcell hb12).1 (w.heap.size + 1) o (by first | (simp; done) | (simp; omega) | omega); have hf0_w2 := fun o => (bcell hb12).2 (w.heap.size) o (by first | (simp; done) | (simp; omega) | omega); have hf1_w2 := fun o => (bcell hb12).2 (w.heap.size + 1) o (by first | (simp; done) | (simp; omega) | omega)
      go_wp2_with fail
      exact bodyPost_ret (v := .tuple #[.agg #[.int .i64 0, .int .i64 0, .slice none 0 0, .slice none 0 0, .int .i64 0, .slice none 0 0], .int .i64 3]) (by simp [results, Try.results61, go_sem, hc0_w2, hc1_w2]) rfl ⟨default, rfl, CertO.zero _ _, by (repeat (first | (with_reducible exact Below.refl _ _) | (with_reducible assumption) | (with_reducible apply bel_alloc) | (with_reducible apply bel_drew) | (with_reducible apply bel_drewN) | (with_reducible refine bel_trans ?_ (by with_reducible assumption)) | (with_reducible refine bel_trans ?_ (HF.out _)) | ((with_reducible refine bel_set3 ?_ ?_); rotate_left; omega)))⟩
    · obtain rfl : y = 0 := by rw [← hy, hk]; simp [pkE, hm]
      obtain rfl : C = cth D.certs i := by rw [← hC, hk]; simp [pkC, hm]
      obtain ⟨t1, t2, t3⟩ := mayS_tiny hm i hi
      have hin : i < n := by rw [← hl.1]; exact hi
      have HM := Lib.hid hm
      have HK := Lib.hid hk
      clear hy hC hm hl hk hi
      go_enter Try.func61, Try.ntmps61
      go_wp2_with fail
      refine (dag_May A n c D _ (HL.out.up (by (repeat (first | (with_reducible exact Below.refl _ _) | (with_reducible assumption) | (with_reducible apply bel_alloc) | (with_reducible apply bel_drew) | (with_reducible apply bel_drewN) | (with_reducible refine bel_trans ?_ (by with_reducible assumption)) | (with_reducible refine bel_trans ?_ (HF.out _)) | (with_reducible refine bel_set ?_ (by simp) _) | (with_reducible refine bel_set ?_ (by simp; omega) _) | (with_reducible refine bel_set ?_ (by omega) _)))))).mono ?_
      rintro e w1 ⟨rfl, hb1⟩
      rw [HM.out]
      have hbw1 : Below w.heap.size w w1 := by (repeat (first | (with_reducible exact Below.refl _ _) | (with_reducible assumption) | (with_reducible apply bel_alloc) | (with_reducible apply bel_drew) | (with_reducible apply bel_drewN) | (with_reducible refine bel_trans ?_ (by with_reducible assumption)) | (with_reducible refine bel_trans ?_ (HF.out _)) | (with_reducible refine bel_set ?_ (by simp) _) | (with_reducible refine bel_set ?_ (by simp; omega) _) | (with_reducible refine bel_set ?_ (by omega) _)))
      have hz_w1 : w.heap.size + 2 ≤ w1.heap.size := (by have hq := (hb1).size; (try simp at hq); omega); have hc0_w1 := fun o => (bcell hb1).1 (w.heap.size) o (by first | (simp; done) | (simp; omega) | omega); have hc1_w1 := fun o => (bcell hb1).1 (w.heap.size + 1) o (by first | (simp; done) | (simp; omega) | omega); have hf0_w1 := fun o => (bcell hb1).2 (w.heap.size) o (by first | (simp; done) | (simp; omega) | omega); have hf1_w1 := fun o => (bcell hb1).2 (w.heap.size + 1) o (by first | (simp; done) | (simp; omega) | omega)
      go_wp2_with fail
      refine (dag_GetAt A n c D.certs _ _ x i _ (HL.out.up hbw1) HK.out).mono ?_
      rintro e w2 ⟨rfl, hb2⟩
      have hb12 := bel_trans hb1 hb2
      have hbw2 : Below w.heap.size w w2 := bel_trans hbw1 hb2
      have hz_w2 : w.heap.size + 2 ≤ w2.heap.size := (by have hq := (hb12).size; (try simp at hq); omega); have hc0_w2 := fun o => (bcell hb12).1 (w.heap.size) o (by first | (simp; done) | (simp; omega) | omega); have hc1_w2 := fun o => (bcell hb12).1 (w.heap.size + 1) o (by first | (simp; done) | (simp; omega) | omega); have hf0_w2 := fun o => (bcell hb12).2 (w.heap.size) o (by first | (simp; done) | (simp; omega) | omega); have hf1_w2 := fun o => (bcell hb12).2 (w.heap.size + 1) o (by first | (simp; done) | (simp; omega) | omega)
      obtain ⟨b, off, rfl, hb, hc⟩ := (HL.out.up hbw2).2.2 (by omega)
      obtain ⟨p, hat, hcr⟩ := hc i hin
      obtain ⟨c0, c1, c2, c3, c4, c5⟩ := hat
      have h1 : p.h.b.n ≤ 900000000 := by rw [← hcr.1.1.1]; exact t1
      have h2 : p.h.p.n ≤ 900000000 := by rw [← hcr.1.2.1]; exact t2
      have h3 : p.s.n ≤ 900000000 := by rw [← hcr.2.1]; exact t3
      have HCR := Lib.hid hcr
      obtain ⟨⟨⟨bA, bn, bc⟩, ⟨pA, pn, pc⟩⟩, ⟨sA, sn, sc⟩⟩ := p
      dsimp only at c0 c1 c2 c3 c4 c5 h1 h2 h3
      clear hc hcr
      go_wp2_with fail
      refine (header_OwnCert (cth D.certs i) bA pA sA bn bc pn pc sn sc _ HCR.out h1 h2 h3).mono ?_
      rintro e w3 ⟨p, rfl, ho, hb3⟩
      have hb13 := bel_trans hb12 hb3
      have hz_w3 : w.heap.size + 2 ≤ w3.heap.size := (by have hq := (hb13).size; (try simp at hq); omega); have hc0_w3 := fun o => (bcell hb13).1 (w.heap.size) o (by first | (simp; done) | (simp; omega) | omega); have hc1_w3 := fun o => (bcell hb13).1 (w.heap.size + 1) o (by first | (simp; done) | (simp; omega) | omega); have hf0_w3 := fun o => (bcell hb13).2 (w.heap.size) o (by first | (simp; done) | (simp; omega) | omega); have hf1_w3 := fun o => (bcell hb13).2 (w.heap.size + 1) o (by first | (simp; done) | (simp; omega) | omega)
      have hs2 : w.heap.size + 2 ≤ w2.heap.size := by have := hb12.size; simp at this; omega
      have HO := Lib.hid (ho.mono hs2)
      clear ho
      go_wp2_with fail
      refine bodyPost_ret (v := .tuple #[.agg #[.int .i64 (cth D.certs i).h.au, .int .i64 (cth D.certs i).h.ro, .slice p.h.b.A p.h.b.n p.h.b.c, .slice p.h.p.A p.h.p.n p.h.p.c, .int .i64 (cth D.certs i).di, .slice p.s.A p.s.n p.s.c], .int .i64 0]) (by simp [results, Try.results61, go_sem, hc0_w3, hc1_w3]) rfl ⟨p, rfl, CertO.mono (B := w.heap.size + 2) ?_ (by omega), by (repeat (first | (with_reducible exact Below.refl _ _) | (with_reducible assumption) | (with_reducible apply bel_alloc) | (with_reducible apply bel_drew) | (with_reducible apply bel_drewN) | (with_reducible refine bel_trans ?_ (by with_reducible assumption)) | (with_reducible refine bel_trans ?_ (HF.out _)) | ((with_reducible refine bel_set3 ?_ ?_); rotate_left; omega)))⟩
      iterate 6 (refine CertO.setLow (b := w.heap.size + 1) ?_ (by omega))
      exact HO.out
end Go.Proofs.Ytfkbilbgndekkaa
