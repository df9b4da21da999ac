/- droverref14.Add, where it refuses. -/
import Derived.Test.YtfkbilbgndekkaaKg
namespace Go.Proofs.Ytfkbilbgndekkaa
open Go.RowKit
set_option linter.unusedSimpArgs false
set_option linter.unusedVariables false

set_option maxRecDepth 100000 in
set_option maxHeartbeats 4000000 in
theorem ref14_Add_form (A : Option Addr) (n c : Nat) (D : DagD) (C : CertD) (bA pA sA : Option Addr) (bn bc pn pc sn sc : Nat) (w : World) (hl : CertsR w A n D.certs) (hr : CertR w ⟨⟨⟨bA, bn, bc⟩, ⟨pA, pn, pc⟩⟩, ⟨sA, sn, sc⟩⟩ C) (h : certS C D.nodes = false) :
    Calls Try.prog 41 #[.agg #[.int .i64 D.nodes, .int .i64 D.low, .slice A n c], .agg #[.int .i64 C.h.au, .int .i64 C.h.ro, .slice bA bn bc, .slice pA pn pc, .int .i64 C.di, .slice sA sn sc]] w fun e w' => e = .returned (.tuple #[.agg #[.int .i64 D.nodes, .int .i64 D.low, .slice A n c], .int .i64 1]) ∧ Below w.heap.size w w' := by
  have HL := Lib.hid hl
  have HR := Lib.hid hr
  have HCS := Lib.hid h
  clear h hl hr
  go_enter Try.func41, Try.ntmps41
  go_wp2_with fail
  refine (ref4_Cert' C bA pA sA bn bc pn pc sn sc D.nodes _ (HR.out.up (by (repeat (first | (with_reducible exact Below.refl _ _) | (with_reducible assumption) | (with_reducible apply bel_alloc) | (with_reducible apply bel_drew) | (with_reducible apply bel_drewN) | (with_reducible refine bel_trans ?_ (by with_reducible assumption)) | (with_reducible refine bel_trans ?_ (HF.out _)) | ((with_reducible refine bel_set3 ?_ ?_); rotate_left; omega)))))).mono ?_
  rintro e w1 ⟨rfl, hb1⟩
  rw [HCS.out]
  have hbw1 : Below w.heap.size w w1 := by (repeat (first | (with_reducible exact Below.refl _ _) | (with_reducible assumption) | (with_reducible apply bel_alloc) | (with_reducible apply bel_drew) | (with_reducible apply bel_drewN) | (with_reducible refine bel_trans ?_ (by with_reducible assumption)) | (with_reducible refine bel_trans ?_ (HF.out _)) | ((with_reducible refine bel_set3 ?_ ?_); rotate_left; omega)))
  have hz_w1 : w.heap.size + 3 ≤ w1.heap.size := (by have hq := (hb1).size; (try simp at hq); omega); have hc0_w1 := fun o => (bcell hb1).1 (w.heap.size) o (by first | (simp; done) | (simp; omega) | omega); have hc1_w1 := fun o => (bcell hb1).1 (w.heap.size + 1) o (by first | (simp; done) | (simp; omega) | omega); have hc2_w1 := fun o => (bcell hb1).1 (w.heap.size + 1 + 1) o (by first | (simp; done) | (simp; omega) | omega); have hf0_w1 := fun o => (bcell hb1).2 (w.heap.size) o (by first | (simp; done) | (simp; omega) | omega); have hf1_w1 := fun o => (bcell hb1).2 (w.heap.size + 1) o (by first | (simp; done) | (simp; omega) | omega); have hf2_w1 := fun o => (bcell hb1).2 (w.heap.size + 1 + 1) o (by first | (simp; done) | (simp; omega) | omega)
  go_wp2_with fail
  exact bodyPost_ret (v := .tuple #[.agg #[.int .i64 D.nodes, .int .i64 D.low, .slice A n c], .int .i64 1]) (by simp [results, Try.results41, go_sem, hc0_w1, hc1_w1, hc2_w1]) rfl ⟨rfl, by (repeat (first | (with_reducible exact Below.refl _ _) | (with_reducible assumption) | (with_reducible apply bel_alloc) | (with_reducible apply bel_drew) | (with_reducible apply bel_drewN) | (with_reducible refine bel_trans ?_ (by with_reducible assumption)) | (with_reducible refine bel_trans ?_ (HF.out _)) | ((with_reducible refine bel_set3 ?_ ?_); rotate_left; omega)))⟩
set_option maxRecDepth 100000 in
set_option maxHeartbeats 4000000 in
theorem ref14_Add_old (A : Option Addr) (n c : Nat) (D : DagD) (C : CertD) (bA pA sA : Option Addr) (bn bc pn pc sn sc : Nat) (w : World) (hl : CertsR w A n D.certs) (hr : CertR w ⟨⟨⟨bA, bn, bc⟩, ⟨pA, pn, pc⟩⟩, ⟨sA, sn, sc⟩⟩ C) (h : certS C D.nodes = true) (h1 : C.h.ro ≤ D.low) :
    Calls Try.prog 41 #[.agg #[.int .i64 D.nodes, .int .i64 D.low, .slice A n c], .agg #[.int .i64 C.h.au, .int .i64 C.h.ro, .slice bA bn bc, .slice pA pn pc, .int .i64 C.di, .slice sA sn sc]] w fun e w' => e = .returned (.tuple #[.agg #[.int .i64 D.nodes, .int .i64 D.low, .slice A n c], .int .i64 6]) ∧ Below w.heap.size w w' := by
  have HL := Lib.hid hl
  have HR := Lib.hid hr
  have HCS := Lib.hid h
  have hd : decide (C.h.ro ≤ D.low) = true := by simpa using h1
  clear h hl hr h1
  go_enter Try.func41, Try.ntmps41
  go_wp2_with fail
  refine (ref4_Cert' C bA pA sA bn bc pn pc sn sc D.nodes _ (HR.out.up (by (repeat (first | (with_reducible exact Below.refl _ _) | (with_reducible assumption) | (with_reducible apply bel_alloc) | (with_reducible apply bel_drew) | (with_reducible apply bel_drewN) | (with_reducible refine bel_trans ?_ (by with_reducible assumption)) | (with_reducible refine bel_trans ?_ (HF.out _)) | ((with_reducible refine bel_set3 ?_ ?_); rotate_left; omega)))))).mono ?_
  rintro e w1 ⟨rfl, hb1⟩
  rw [HCS.out]
  have hbw1 : Below w.heap.size w w1 := by (repeat (first | (with_reducible exact Below.refl _ _) | (with_reducible assumption) | (with_reducible apply bel_alloc) | (with_reducible apply bel_drew) | (with_reducible apply bel_drewN) | (with_reducible refine bel_trans ?_ (by with_reducible assumption)) | (with_reducible refine bel_trans ?_ (HF.out _)) | ((with_reducible refine bel_set3 ?_ ?_); rotate_left; omega)))
  have hz_w1 : w.heap.size + 3 ≤ w1.heap.size := (by have hq := (hb1).size; (try simp at hq); omega); have hc0_w1 := fun o => (bcell hb1).1 (w.heap.size) o (by first | (simp; done) | (simp; omega) | omega); have hc1_w1 := fun o => (bcell hb1).1 (w.heap.size + 1) o (by first | (simp; done) | (simp; omega) | omega); have hc2_w1 := fun o => (bcell hb1).1 (w.heap.size + 1 + 1) o (by first | (simp; done) | (simp; omega) | omega); have hf0_w1 := fun o => (bcell hb1).2 (w.heap.size) o (by first | (simp; done) | (simp; omega) | omega); have hf1_w1 := fun o => (bcell hb1).2 (w.heap.size + 1) o (by first | (simp; done) | (simp; omega) | omega); have hf2_w1 := fun o => (bcell hb1).2 (w.heap.size + 1 + 1) o (by first | (simp; done) | (simp; omega) | omega)
  go_wp2_with fail
  exact bodyPost_ret (v := .tuple #[.agg #[.int .i64 D.nodes, .int .i64 D.low, .slice A n c], .int .i64 6]) (by simp [results, Try.results41, go_sem, hc0_w1, hc1_w1, hc2_w1]) rfl ⟨rfl, by (repeat (first | (with_reducible exact Below.refl _ _) | (with_reducible assumption) | (with_reducible apply bel_alloc) | (with_reducible apply bel_drew) | (with_reducible apply bel_drewN) | (with_reducible refine bel_trans ?_ (by with_reducible assumption)) | (with_reducible refine bel_trans ?_ (HF.out _)) | ((with_reducible refine bel_set3 ?_ ?_); rotate_left; omega)))⟩
set_option maxRecDepth 100000 in
set_option maxHeartbeats 4000000 in
theorem ref14_Add_there (A : Option Addr) (n c : Nat) (D : DagD) (C : CertD) (bA pA sA : Option Addr) (bn bc pn pc sn sc : Nat) (w : World) (hl : CertsR w A n D.certs) (hr : CertR w ⟨⟨⟨bA, bn, bc⟩, ⟨pA, pn, pc⟩⟩, ⟨sA, sn, sc⟩⟩ C) (a b : Int) (hA : atS D.certs C.h.ro C.h.au = a) (hB : findS D.certs C.di = b) (h : certS C D.nodes = true) (h1 : D.low < C.h.ro) (h2 : 0 ≤ a) (h3 : a = b) :
    Calls Try.prog 41 #[.agg #[.int .i64 D.nodes, .int .i64 D.low, .slice A n c], .agg #[.int .i64 C.h.au, .int .i64 C.h.ro, .slice bA bn bc, .slice pA pn pc, .int .i64 C.di, .slice sA sn sc]] w fun e w' => e = .returned (.tuple #[.agg #[.int .i64 D.nodes, .int .i64 D.low, .slice A n c], .int .i64 4]) ∧ Below w.heap.size w w' := by
  have HL := Lib.hid hl
  have HR := Lib.hid hr
  have HA := Lib.hid hA
  have HB := Lib.hid hB
  clear hA hB
  have HCS := Lib.hid h
  have hd : decide (C.h.ro ≤ D.low) = false := by simpa using h1
  have hd1 : decide (0 ≤ a) = true := by simpa using h2
  have hd2 : (a == b) = true := by simpa using h3
  clear h hl hr h1 h2 h3
  go_enter Try.func41, Try.ntmps41
  go_wp2_with fail
  refine (ref4_Cert' C bA pA sA bn bc pn pc sn sc D.nodes _ (HR.out.up (by (repeat (first | (with_reducible exact Below.refl _ _) | (with_reducible assumption) | (with_reducible apply bel_alloc) | (with_reducible apply bel_drew) | (with_reducible apply bel_drewN) | (with_reducible refine bel_trans ?_ (by with_reducible assumption)) | (with_reducible refine bel_trans ?_ (HF.out _)) | ((with_reducible refine bel_set3 ?_ ?_); rotate_left; omega)))))).mono ?_
  rintro e w1 ⟨rfl, hb1⟩
  rw [HCS.out]
  have hbw1 : Below w.heap.size w w1 := by (repeat (first | (with_reducible exact Below.refl _ _) | (with_reducible assumption) | (with_reducible apply bel_alloc) | (with_reducible apply bel_drew) | (with_reducible apply bel_drewN) | (with_reducible refine bel_trans ?_ (by with_reducible assumption)) | (with_reducible refine bel_trans ?_ (HF.out _)) | ((with_reducible refine bel_set3 ?_ ?_); rotate_left; omega)))
  have hz_w1 : w.heap.size + 3 ≤ w1.heap.size := (by have hq := (hb1).size; (try simp at hq); omega); have hc0_w1 := fun o => (bcell hb1).1 (w.heap.size) o (by first | (simp; done) | (simp; omega) | omega); have hc1_w1 := fun o => (bcell hb1).1 (w.heap.size + 1) o (by first | (simp; done) | (simp; omega) | omega); have hc2_w1 := fun o => (bcell hb1).1 (w.heap.size + 1 + 1) o (by first | (simp; done) | (simp; omega) | omega); have hf0_w1 := fun o => (bcell hb1).2 (w.heap.size) o (by first | (simp; done) | (simp; omega) | omega); have hf1_w1 := fun o => (bcell hb1).2 (w.heap.size + 1) o (by first | (simp; done) | (simp; omega) | omega); have hf2_w1 := fun o => (bcell hb1).2 (w.heap.size + 1 + 1) o (by first | (simp; done) | (simp; omega) | omega)
  go_wp2_with fail
  refine (ref14_AtAt A n c D.certs _ _ C.h.ro C.h.au a _ (HL.out.up hbw1) HA.out).mono ?_
  rintro e w2 ⟨rfl, hb2⟩
  have hb12 := bel_trans hb1 hb2
  have hbw2 := bel_trans hbw1 hb2
  have hz_w2 : w.heap.size + 3 ≤ w2.heap.size := (by have hq := (hb12).size; (try simp at hq); omega); have hc0_w2 := fun o => (bcell hb12).1 (w.heap.size) o (by first | (simp; done) | (simp; omega) | omega); have hc1_w2 := fun o => (bcell hb12).1 (w.heap.size + 1) o (by first | (simp; done) | (simp; omega) | omega); have hc2_w2 := fun o => (bcell hb12).1 (w.heap.size + 1 + 1) o (by first | (simp; done) | (simp; omega) | omega); have hf0_w2 := fun o => (bcell hb12).2 (w.heap.size) o (by first | (simp; done) | (simp; omega) | omega); have hf1_w2 := fun o => (bcell hb12).2 (w.heap.size + 1) o (by first | (simp; done) | (simp; omega) | omega); have hf2_w2 := fun o => (bcell hb12).2 (w.heap.size + 1 + 1) o (by first | (simp; done) | (simp; omega) | omega)
  go_wp2_with fail
  refine (ref14_FindAt' A n c D.certs _ _ C.di b _ (HL.out.up hbw2) HB.out).mono ?_
  rintro e w3 ⟨rfl, hb3⟩
  have hb13 := bel_trans hb12 hb3
  have hbw3 := bel_trans hbw2 hb3
  have hz_w3 : w.heap.size + 3 ≤ w3.heap.size := (by have hq := (hb13).size; (try simp at hq); omega); have hc0_w3 := fun o => (bcell hb13).1 (w.heap.size) o (by first | (simp; done) | (simp; omega) | omega); have hc1_w3 := fun o => (bcell hb13).1 (w.heap.size + 1) o (by first | (simp; done) | (simp; omega) | omega); have hc2_w3 := fun o => (bcell hb13).1 (w.heap.size + 1 + 1) o (by first | (simp; done) | (simp; omega) | omega); have hf0_w3 := fun o => (bcell hb13).2 (w.heap.size) o (by first | (simp; done) | (simp; omega) | omega); have hf1_w3 := fun o => (bcell hb13).2 (w.heap.size + 1) o (by first | (simp; done) | (simp; omega) | omega); have hf2_w3 := fun o => (bcell hb13).2 (w.heap.size + 1 + 1) o (by first | (simp; done) | (simp; omega) | omega)
  go_wp2_with fail
  exact bodyPost_ret (v := .tuple #[.agg #[.int .i64 D.nodes, .int .i64 D.low, .slice A n c], .int .i64 4]) (by simp [results, Try.results41, go_sem, hc0_w3, hc1_w3, hc2_w3]) rfl ⟨rfl, by (repeat (first | (with_reducible exact Below.refl _ _) | (with_reducible assumption) | (with_reducible apply bel_alloc) | (with_reducible apply bel_drew) | (with_reducible apply bel_drewN) | (with_reducible refine bel_trans ?_ (by with_reducible assumption)) | (with_reducible refine bel_trans ?_ (HF.out _)) | ((with_reducible refine bel_set3 ?_ ?_); rotate_left; omega)))⟩
set_option maxRecDepth 100000 in
set_option maxHeartbeats 4000000 in
theorem ref14_Add_two (A : Option Addr) (n c : Nat) (D : DagD) (C : CertD) (bA pA sA : Option Addr) (bn bc pn pc sn sc : Nat) (w : World) (hl : CertsR w A n D.certs) (hr : CertR w ⟨⟨⟨bA, bn, bc⟩, ⟨pA, pn, pc⟩⟩, ⟨sA, sn, sc⟩⟩ C) (a b : Int) (hA : atS D.certs C.h.ro C.h.au = a) (hB : findS D.certs C.di = b) (h : certS C D.nodes = true) (h1 : D.low < C.h.ro) (h2 : 0 ≤ a) (h3 : a ≠ b) :
    Calls Try.prog 41 #[.agg #[.int .i64 D.nodes, .int .i64 D.low, .slice A n c], .agg #[.int .i64 C.h.au, .int .i64 C.h.ro, .slice bA bn bc, .slice pA pn pc, .int .i64 C.di, .slice sA sn sc]] w fun e w' => e = .returned (.tuple #[.agg #[.int .i64 D.nodes, .int .i64 D.low, .slice A n c], .int .i64 5]) ∧ Below w.heap.size w w' := by
  have HL := Lib.hid hl
  have HR := Lib.hid hr
  have HA := Lib.hid hA
  have HB := Lib.hid hB
  clear hA hB
  have HCS := Lib.hid h
  have hd : decide (C.h.ro ≤ D.low) = false := by simpa using h1
  have hd1 : decide (0 ≤ a) = true := by simpa using h2
  have hd2 : (a == b) = false := by simpa using h3
  clear h hl hr h1 h2 h3
  go_enter Try.func41, Try.ntmps41
  go_wp2_with fail
  refine (ref4_Cert' C bA pA sA bn bc pn pc sn sc D.nodes _ (HR.out.up (by (repeat (first | (with_reducible exact Below.refl _ _) | (with_reducible assumption) | (with_reducible apply bel_alloc) | (with_reducible apply bel_drew) | (with_reducible apply bel_drewN) | (with_reducible refine bel_trans ?_ (by with_reducible assumption)) | (with_reducible refine bel_trans ?_ (HF.out _)) | ((with_reducible refine bel_set3 ?_ ?_); rotate_left; omega)))))).mono ?_
  rintro e w1 ⟨rfl, hb1⟩
  rw [HCS.out]
  have hbw1 : Below w.heap.size w w1 := by (repeat (first | (with_reducible exact Below.refl _ _) | (with_reducible assumption) | (with_reducible apply bel_alloc) | (with_reducible apply bel_drew) | (with_reducible apply bel_drewN) | (with_reducible refine bel_trans ?_ (by with_reducible assumption)) | (with_reducible refine bel_trans ?_ (HF.out _)) | ((with_reducible refine bel_set3 ?_ ?_); rotate_left; omega)))
  have hz_w1 : w.heap.size + 3 ≤ w1.heap.size := (by have hq := (hb1).size; (try simp at hq); omega); have hc0_w1 := fun o => (bcell hb1).1 (w.heap.size) o (by first | (simp; done) | (simp; omega) | omega); have hc1_w1 := fun o => (bcell hb1).1 (w.heap.size + 1) o (by first | (simp; done) | (simp; omega) | omega); have hc2_w1 := fun o => (bcell hb1).1 (w.heap.size + 1 + 1) o (by first | (simp; done) | (simp; omega) | omega); have hf0_w1 := fun o => (bcell hb1).2 (w.heap.size) o (by first | (simp; done) | (simp; omega) | omega); have hf1_w1 := fun o => (bcell hb1).2 (w.heap.size + 1) o (by first | (simp; done) | (simp; omega) | omega); have hf2_w1 := fun o => (bcell hb1).2 (w.heap.size + 1 + 1) o (by first | (simp; done) | (simp; omega) | omega)
  go_wp2_with fail
  refine (ref14_AtAt A n c D.certs _ _ C.h.ro C.h.au a _ (HL.out.up hbw1) HA.out).mono ?_
  rintro e w2 ⟨rfl, hb2⟩
  have hb12 := bel_trans hb1 hb2
  have hbw2 := bel_trans hbw1 hb2
  have hz_w2 : w.heap.size + 3 ≤ w2.heap.size := (by have hq := (hb12).size; (try simp at hq); omega); have hc0_w2 := fun o => (bcell hb12).1 (w.heap.size) o (by first | (simp; done) | (simp; omega) | omega); have hc1_w2 := fun o => (bcell hb12).1 (w.heap.size + 1) o (by first | (simp; done) | (simp; omega) | omega); have hc2_w2 := fun o => (bcell hb12).1 (w.heap.size + 1 + 1) o (by first | (simp; done) | (simp; omega) | omega); have hf0_w2 := fun o => (bcell hb12).2 (w.heap.size) o (by first | (simp; done) | (simp; omega) | omega); have hf1_w2 := fun o => (bcell hb12).2 (w.heap.size + 1) o (by first | (simp; done) | (simp; omega) | omega); have hf2_w2 := fun o => (bcell hb12).2 (w.heap.size + 1 + 1) o (by first | (simp; done) | (simp; omega) | omega)
  go_wp2_with fail
  refine (ref14_FindAt' A n c D.certs _ _ C.di b _ (HL.out.up hbw2) HB.out).mono ?_
  rintro e w3 ⟨rfl, hb3⟩
  have hb13 := bel_trans hb12 hb3
  have hbw3 := bel_trans hbw2 hb3
  have hz_w3 : w.heap.size + 3 ≤ w3.heap.size := (by have hq := (hb13).size; (try simp at hq); omega); have hc0_w3 := fun o => (bcell hb13).1 (w.heap.size) o (by first | (simp; done) | (simp; omega) | omega); have hc1_w3 := fun o => (bcell hb13).1 (w.heap.size + 1) o (by first | (simp; done) | (simp; omega) | omega); have hc2_w3 := fun o => (bcell hb13).1 (w.heap.size + 1 + 1) o (by first | (simp; done) | (simp; omega) | omega); have hf0_w3 := fun o => (bcell hb13).2 (w.heap.size) o (by first | (simp; done) | (simp; omega) | omega); have hf1_w3 := fun o => (bcell hb13).2 (w.heap.size + 1) o (by first | (simp; done) | (simp; omega) | omega); have hf2_w3 := fun o => (bcell hb13).2 (w.heap.size + 1 + 1) o (by first | (simp; done) | (simp; omega) | omega)
  go_wp2_with fail
  exact bodyPost_ret (v := .tuple #[.agg #[.int .i64 D.nodes, .int .i64 D.low, .slice A n c], .int .i64 5]) (by simp [results, Try.results41, go_sem, hc0_w3, hc1_w3, hc2_w3]) rfl ⟨rfl, by (repeat (first | (with_reducible exact Below.refl _ _) | (with_reducible assumption) | (with_reducible apply bel_alloc) | (with_reducible apply bel_drew) | (with_reducible apply bel_drewN) | (with_reducible refine bel_trans ?_ (by with_reducible assumption)) | (with_reducible refine bel_trans ?_ (HF.out _)) | ((with_reducible refine bel_set3 ?_ ?_); rotate_left; omega)))⟩
set_option maxRecDepth 100000 in
set_option maxHeartbeats 4000000 in
theorem ref14_Add_has (A : Option Addr) (n c : Nat) (D : DagD) (C : CertD) (bA pA sA : Option Addr) (bn bc pn pc sn sc : Nat) (w : World) (hl : CertsR w A n D.certs) (hr : CertR w ⟨⟨⟨bA, bn, bc⟩, ⟨pA, pn, pc⟩⟩, ⟨sA, sn, sc⟩⟩ C) (a b : Int) (hA : atS D.certs C.h.ro C.h.au = a) (hB : findS D.certs C.di = b) (h : certS C D.nodes = true) (h1 : D.low < C.h.ro) (h2 : a < 0) (h3 : 0 ≤ b) :
    Calls Try.prog 41 #[.agg #[.int .i64 D.nodes, .int .i64 D.low, .slice A n c], .agg #[.int .i64 C.h.au, .int .i64 C.h.ro, .slice bA bn bc, .slice pA pn pc, .int .i64 C.di, .slice sA sn sc]] w fun e w' => e = .returned (.tuple #[.agg #[.int .i64 D.nodes, .int .i64 D.low, .slice A n c], .int .i64 5]) ∧ Below w.heap.size w w' := by
  have HL := Lib.hid hl
  have HR := Lib.hid hr
  have HA := Lib.hid hA
  have HB := Lib.hid hB
  clear hA hB
  have HCS := Lib.hid h
  have hd : decide (C.h.ro ≤ D.low) = false := by simpa using h1
  have hd1 : decide (0 ≤ a) = false := by simpa using h2
  have hd2 : decide (0 ≤ b) = true := by simpa using h3
  clear h hl hr h1 h2 h3
  go_enter Try.func41, Try.ntmps41
  go_wp2_with fail
  refine (ref4_Cert' C bA pA sA bn bc pn pc sn sc D.nodes _ (HR.out.up (by (repeat (first | (with_reducible exact Below.refl _ _) | (with_reducible assumption) | (with_reducible apply bel_alloc) | (with_reducible apply bel_drew) | (with_reducible apply bel_drewN) | (with_reducible refine bel_trans ?_ (by with_reducible assumption)) | (with_reducible refine bel_trans ?_ (HF.out _)) | ((with_reducible refine bel_set3 ?_ ?_); rotate_left; omega)))))).mono ?_
  rintro e w1 ⟨rfl, hb1⟩
  rw [HCS.out]
  have hbw1 : Below w.heap.size w w1 := by (repeat (first | (with_reducible exact Below.refl _ _) | (with_reducible assumption) | (with_reducible apply bel_alloc) | (with_reducible apply bel_drew) | (with_reducible apply bel_drewN) | (with_reducible refine bel_trans ?_ (by with_reducible assumption)) | (with_reducible refine bel_trans ?_ (HF.out _)) | ((with_reducible refine bel_set3 ?_ ?_); rotate_left; omega)))
  have hz_w1 : w.heap.size + 3 ≤ w1.heap.size := (by have hq := (hb1).size; (try simp at hq); omega); have hc0_w1 := fun o => (bcell hb1).1 (w.heap.size) o (by first | (simp; done) | (simp; omega) | omega); have hc1_w1 := fun o => (bcell hb1).1 (w.heap.size + 1) o (by first | (simp; done) | (simp; omega) | omega); have hc2_w1 := fun o => (bcell hb1).1 (w.heap.size + 1 + 1) o (by first | (simp; done) | (simp; omega) | omega); have hf0_w1 := fun o => (bcell hb1).2 (w.heap.size) o (by first | (simp; done) | (simp; omega) | omega); have hf1_w1 := fun o => (bcell hb1).2 (w.heap.size + 1) o (by first | (simp; done) | (simp; omega) | omega); have hf2_w1 := fun o => (bcell hb1).2 (w.heap.size + 1 + 1) o (by first | (simp; done) | (simp; omega) | omega)
  go_wp2_with fail
  refine (ref14_AtAt A n c D.certs _ _ C.h.ro C.h.au a _ (HL.out.up hbw1) HA.out).mono ?_
  rintro e w2 ⟨rfl, hb2⟩
  have hb12 := bel_trans hb1 hb2
  have hbw2 := bel_trans hbw1 hb2
  have hz_w2 : w.heap.size + 3 ≤ w2.heap.size := (by have hq := (hb12).size; (try simp at hq); omega); have hc0_w2 := fun o => (bcell hb12).1 (w.heap.size) o (by first | (simp; done) | (simp; omega) | omega); have hc1_w2 := fun o => (bcell hb12).1 (w.heap.size + 1) o (by first | (simp; done) | (simp; omega) | omega); have hc2_w2 := fun o => (bcell hb12).1 (w.heap.size + 1 + 1) o (by first | (simp; done) | (simp; omega) | omega); have hf0_w2 := fun o => (bcell hb12).2 (w.heap.size) o (by first | (simp; done) | (simp; omega) | omega); have hf1_w2 := fun o => (bcell hb12).2 (w.heap.size + 1) o (by first | (simp; done) | (simp; omega) | omega); have hf2_w2 := fun o => (bcell hb12).2 (w.heap.size + 1 + 1) o (by first | (simp; done) | (simp; omega) | omega)
  go_wp2_with fail
  refine (ref14_FindAt' A n c D.certs _ _ C.di b _ (HL.out.up hbw2) HB.out).mono ?_
  rintro e w3 ⟨rfl, hb3⟩
  have hb13 := bel_trans hb12 hb3
  have hbw3 := bel_trans hbw2 hb3
  have hz_w3 : w.heap.size + 3 ≤ w3.heap.size := (by have hq := (hb13).size; (try simp at hq); omega); have hc0_w3 := fun o => (bcell hb13).1 (w.heap.size) o (by first | (simp; done) | (simp; omega) | omega); have hc1_w3 := fun o => (bcell hb13).1 (w.heap.size + 1) o (by first | (simp; done) | (simp; omega) | omega); have hc2_w3 := fun o => (bcell hb13).1 (w.heap.size + 1 + 1) o (by first | (simp; done) | (simp; omega) | omega); have hf0_w3 := fun o => (bcell hb13).2 (w.heap.size) o (by first | (simp; done) | (simp; omega) | omega); have hf1_w3 := fun o => (bcell hb13).2 (w.heap.size + 1) o (by first | (simp; done) | (simp; omega) | omega); have hf2_w3 := fun o => (bcell hb13).2 (w.heap.size + 1 + 1) o (by first | (simp; done) | (simp; omega) | omega)
  go_wp2_with fail
  exact bodyPost_ret (v := .tuple #[.agg #[.int .i64 D.nodes, .int .i64 D.low, .slice A n c], .int .i64 5]) (by simp [results, Try.results41, go_sem, hc0_w3, hc1_w3, hc2_w3]) rfl ⟨rfl, by (repeat (first | (with_reducible exact Below.refl _ _) | (with_reducible assumption) | (with_reducible apply bel_alloc) | (with_reducible apply bel_drew) | (with_reducible apply bel_drewN) | (with_reducible refine bel_trans ?_ (by with_reducible assumption)) | (with_reducible refine bel_trans ?_ (HF.out _)) | ((with_reducible refine bel_set3 ?_ ?_); rotate_left; omega)))⟩
set_option maxRecDepth 100000 in
set_option maxHeartbeats 4000000 in
theorem ref14_Add_lack (A : Option Addr) (n c : Nat) (D : DagD) (C : CertD) (bA pA sA : Option Addr) (bn bc pn pc sn sc : Nat) (w : World) (hl : CertsR w A n D.certs) (hr : CertR w ⟨⟨⟨bA, bn, bc⟩, ⟨pA, pn, pc⟩⟩, ⟨sA, sn, sc⟩⟩ C) (a b : Int) (hA : atS D.certs C.h.ro C.h.au = a) (hB : findS D.certs C.di = b) (h : certS C D.nodes = true) (h1 : D.low < C.h.ro) (h2 : a < 0) (h3 : b < 0) (h4 : lacksS D.certs D.low C.h ≠ []) (hn : n ≤ 65536) (hpn : pn ≤ 65536) (hr1 : 1 ≤ C.h.ro) (hr2 : C.h.ro ≤ 1099511627776) (hll : (lacksS D.certs D.low C.h).length ≤ 65536) :
    Calls Try.prog 41 #[.agg #[.int .i64 D.nodes, .int .i64 D.low, .slice A n c], .agg #[.int .i64 C.h.au, .int .i64 C.h.ro, .slice bA bn bc, .slice pA pn pc, .int .i64 C.di, .slice sA sn sc]] w fun e w' => e = .returned (.tuple #[.agg #[.int .i64 D.nodes, .int .i64 D.low, .slice A n c], .int .i64 7]) ∧ Below w.heap.size w w' := by
  have HL := Lib.hid hl
  have HR := Lib.hid hr
  have HA := Lib.hid hA
  have HB := Lib.hid hB
  clear hA hB
  have HCS := Lib.hid h
  have hd : decide (C.h.ro ≤ D.low) = false := by simpa using h1
  have hd1 : decide (0 ≤ a) = false := by simpa using h2
  have hd2 : decide (0 ≤ b) = false := by simpa using h3
  have hd3 : decide (0 < ((lacksS D.certs D.low C.h).length : Int)) = true := by simpa using List.length_pos_iff.2 h4
  clear h hl hr h1 h2 h3 h4
  go_enter Try.func41, Try.ntmps41
  go_wp2_with fail
  refine (ref4_Cert' C bA pA sA bn bc pn pc sn sc D.nodes _ (HR.out.up (by (repeat (first | (with_reducible exact Below.refl _ _) | (with_reducible assumption) | (with_reducible apply bel_alloc) | (with_reducible apply bel_drew) | (with_reducible apply bel_drewN) | (with_reducible refine bel_trans ?_ (by with_reducible assumption)) | (with_reducible refine bel_trans ?_ (HF.out _)) | ((with_reducible refine bel_set3 ?_ ?_); rotate_left; omega)))))).mono ?_
  rintro e w1 ⟨rfl, hb1⟩
  rw [HCS.out]
  have hbw1 : Below w.heap.size w w1 := by (repeat (first | (with_reducible exact Below.refl _ _) | (with_reducible assumption) | (with_reducible apply bel_alloc) | (with_reducible apply bel_drew) | (with_reducible apply bel_drewN) | (with_reducible refine bel_trans ?_ (by with_reducible assumption)) | (with_reducible refine bel_trans ?_ (HF.out _)) | ((with_reducible refine bel_set3 ?_ ?_); rotate_left; omega)))
  have hz_w1 : w.heap.size + 3 ≤ w1.heap.size := (by have hq := (hb1).size; (try simp at hq); omega); have hc0_w1 := fun o => (bcell hb1).1 (w.heap.size) o (by first | (simp; done) | (simp; omega) | omega); have hc1_w1 := fun o => (bcell hb1).1 (w.heap.size + 1) o (by first | (simp; done) | (simp; omega) | omega); have hc2_w1 := fun o => (bcell hb1).1 (w.heap.size + 1 + 1) o (by first | (simp; done) | (simp; omega) | omega); have hf0_w1 := fun o => (bcell hb1).2 (w.heap.size) o (by first | (simp; done) | (simp; omega) | omega); have hf1_w1 := fun o => (bcell hb1).2 (w.heap.size + 1) o (by first | (simp; done) | (simp; omega) | omega); have hf2_w1 := fun o => (bcell hb1).2 (w.heap.size + 1 + 1) o (by first | (simp; done) | (simp; omega) | omega)
  go_wp2_with fail
  refine (ref14_AtAt A n c D.certs _ _ C.h.ro C.h.au a _ (HL.out.up hbw1) HA.out).mono ?_
  rintro e w2 ⟨rfl, hb2⟩
  have hb12 := bel_trans hb1 hb2
  have hbw2 := bel_trans hbw1 hb2
  have hz_w2 : w.heap.size + 3 ≤ w2.heap.size := (by have hq := (hb12).size; (try simp at hq); omega); have hc0_w2 := fun o => (bcell hb12).1 (w.heap.size) o (by first | (simp; done) | (simp; omega) | omega); have hc1_w2 := fun o => (bcell hb12).1 (w.heap.size + 1) o (by first | (simp; done) | (simp; omega) | omega); have hc2_w2 := fun o => (bcell hb12).1 (w.heap.size + 1 + 1) o (by first | (simp; done) | (simp; omega) | omega); have hf0_w2 := fun o => (bcell hb12).2 (w.heap.size) o (by first | (simp; done) | (simp; omega) | omega); have hf1_w2 := fun o => (bcell hb12).2 (w.heap.size + 1) o (by first | (simp; done) | (simp; omega) | omega); have hf2_w2 := fun o => (bcell hb12).2 (w.heap.size + 1 + 1) o (by first | (simp; done) | (simp; omega) | omega)
  go_wp2_with fail
  refine (ref14_FindAt' A n c D.certs _ _ C.di b _ (HL.out.up hbw2) HB.out).mono ?_
  rintro e w3 ⟨rfl, hb3⟩
  have hb13 := bel_trans hb12 hb3
  have hbw3 := bel_trans hbw2 hb3
  have hz_w3 : w.heap.size + 3 ≤ w3.heap.size := (by have hq := (hb13).size; (try simp at hq); omega); have hc0_w3 := fun o => (bcell hb13).1 (w.heap.size) o (by first | (simp; done) | (simp; omega) | omega); have hc1_w3 := fun o => (bcell hb13).1 (w.heap.size + 1) o (by first | (simp; done) | (simp; omega) | omega); have hc2_w3 := fun o => (bcell hb13).1 (w.heap.size + 1 + 1) o (by first | (simp; done) | (simp; omega) | omega); have hf0_w3 := fun o => (bcell hb13).2 (w.heap.size) o (by first | (simp; done) | (simp; omega) | omega); have hf1_w3 := fun o => (bcell hb13).2 (w.heap.size + 1) o (by first | (simp; done) | (simp; omega) | omega); have hf2_w3 := fun o => (bcell hb13).2 (w.heap.size + 1 + 1) o (by first | (simp; done) | (simp; omega) | omega)
  go_wp2_with fail
  refine (ref14_Lacks A n c D.certs _ _ ⟨⟨bA, bn, bc⟩, ⟨pA, pn, pc⟩⟩ C.h _ (HL.out.up hbw3) (HR.out.1.up hbw3) hn hpn hr1 hr2).mono ?_
  rintro e w4 ⟨v, rfl, hown, hb4⟩
  obtain ⟨A4, c4, rfl, hint, _⟩ := hown.ints (by omega)
  clear hint hown
  generalize (lacksS D.certs D.low C.h).length = m at *
  have hm0 : 0 < m := by simpa using hd3
  have hb14 := bel_trans hb13 hb4
  have hbw4 := bel_trans hbw3 hb4
  have hz_w4 : w.heap.size + 3 ≤ w4.heap.size := (by have hq := (hb14).size; (try simp at hq); omega); have hc0_w4 := fun o => (bcell hb14).1 (w.heap.size) o (by first | (simp; done) | (simp; omega) | omega); have hc1_w4 := fun o => (bcell hb14).1 (w.heap.size + 1) o (by first | (simp; done) | (simp; omega) | omega); have hc2_w4 := fun o => (bcell hb14).1 (w.heap.size + 1 + 1) o (by first | (simp; done) | (simp; omega) | omega); have hf0_w4 := fun o => (bcell hb14).2 (w.heap.size) o (by first | (simp; done) | (simp; omega) | omega); have hf1_w4 := fun o => (bcell hb14).2 (w.heap.size + 1) o (by first | (simp; done) | (simp; omega) | omega); have hf2_w4 := fun o => (bcell hb14).2 (w.heap.size + 1 + 1) o (by first | (simp; done) | (simp; omega) | omega)
  go_wp2_with fail
  all_goals first | (exfalso; omega) | exact bodyPost_ret (v := .tuple #[.agg #[.int .i64 D.nodes, .int .i64 D.low, .slice A n c], .int .i64 7]) (by simp [results, Try.results41, go_sem, hc0_w4, hc1_w4, hc2_w4]) rfl ⟨rfl, by (repeat (first | (with_reducible exact Below.refl _ _) | (with_reducible assumption) | (with_reducible apply bel_alloc) | (with_reducible apply bel_drew) | (with_reducible apply bel_drewN) | (with_reducible refine bel_trans ?_ (by with_reducible assumption)) | (with_reducible refine bel_trans ?_ (HF.out _)) | ((with_reducible refine bel_set3 ?_ ?_); rotate_left; omega)))⟩
end Go.Proofs.Ytfkbilbgndekkaa
