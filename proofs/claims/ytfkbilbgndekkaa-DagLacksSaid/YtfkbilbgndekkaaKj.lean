/- dag.Lacks; the law DagLacks. -/
import Derived.Test.YtfkbilbgndekkaaKh
import Derived.Deep.RegionHeld3
namespace Go.Proofs.Ytfkbilbgndekkaa
open Go.RowKit
set_option linter.unusedSimpArgs false
set_option linter.unusedVariables false

noncomputable def lkE (D : DagD) (C : CertD) : Int := if mayS D = true ∧ certS C D.nodes = true then (if C.h.ro ≤ D.low then 6 else 0) else 1
noncomputable def lkL (D : DagD) (C : CertD) : List Int := if lkE D C = 0 then lacksS D.certs D.low C.h else []
theorem lkL_len (D : DagD) (C : CertD) : (lkL D C).length ≤ C.h.pa.length := by
  unfold lkL; split
  · exact lacks_len _ _ _
  · simp
set_option maxRecDepth 100000 in
set_option maxHeartbeats 4000000 in
theorem dag_Lacks (A : Option Addr) (n c : Nat) (D : DagD) (C : CertD) (bA pA sA : Option Addr) (bn bc pn pc sn sc : Nat) (y : Int) (L : List Int) (w : World) (hl : CertsR w A n D.certs) (hr : CertR w ⟨⟨⟨bA, bn, bc⟩, ⟨pA, pn, pc⟩⟩, ⟨sA, sn, sc⟩⟩ C) (hcap : n ≤ c) (hcb : c ≤ 9223372036854775807) (hy : lkE D C = y) (hL : lkL D C = L) :
    Calls Try.prog 53 #[.agg #[.int .i64 D.nodes, .int .i64 D.low, .slice A n c], .agg #[.int .i64 C.h.au, .int .i64 C.h.ro, .slice bA bn bc, .slice pA pn pc, .int .i64 C.di, .slice sA sn sc]] w fun e w' => ∃ v, e = .returned (.tuple #[v, .int .i64 y]) ∧ OwnI w' w.heap.size v L ∧ Below w.heap.size w w' := by
  have HL := Lib.hid hl
  have HR := Lib.hid hr
  have HN := Lib.hid hl.1
  cases hm : mayS D
  · have hyl : y = 1 ∧ L = [] := by
      have h1 : lkE D C = 1 := by unfold lkE; rw [if_neg (by rw [hm]; simp)]
      exact ⟨by rw [← hy, h1], by rw [← hL]; unfold lkL; rw [if_neg (by rw [h1]; omega)]⟩
    have HYL := Lib.hid hyl
    have HM := Lib.hid hm
    clear hl hr hy hL hyl hm
    go_enter Try.func53, Try.ntmps53
    go_wp2_with fail
    refine (dag_May A n c D _ (HL.out.up (by (repeat (first | (with_reducible exact Below.refl _ _) | (with_reducible assumption) | (with_reducible apply bel_alloc) | (with_reducible apply bel_drew) | (with_reducible apply bel_drewN) | (with_reducible refine bel_trans ?_ (by with_reducible assumption)) | (with_reducible refine bel_trans ?_ (HF.out _)) | (with_reducible refine bel_set ?_ (by simp) _) | (with_reducible refine bel_set ?_ (by simp; omega) _) | (with_reducible refine bel_set ?_ (by omega) _)))))).mono ?_
    rintro e w1 ⟨rfl, hb1⟩
    rw [HM.out]
    go_wp2_with fail
    go_ret2
    exact ⟨.slice none 0 0, by rw [HYL.out.1]; rfl, by rw [HYL.out.2]; exact OwnI.nil _ _, by (repeat (first | (with_reducible exact Below.refl _ _) | (with_reducible assumption) | (with_reducible apply bel_alloc) | (with_reducible apply bel_drew) | (with_reducible apply bel_drewN) | (with_reducible refine bel_trans ?_ (by with_reducible assumption)) | (with_reducible refine bel_trans ?_ (HF.out _)) | (with_reducible refine bel_set ?_ (by simp) _) | (with_reducible refine bel_set ?_ (by simp; omega) _) | (with_reducible refine bel_set ?_ (by omega) _)))⟩
  · cases hc : certS C D.nodes
    · have hyl : y = 1 ∧ L = [] := by
        have h1 : lkE D C = 1 := by unfold lkE; rw [if_neg (by rw [hc]; simp)]
        exact ⟨by rw [← hy, h1], by rw [← hL]; unfold lkL; rw [if_neg (by rw [h1]; omega)]⟩
      have HYL := Lib.hid hyl
      have HM := Lib.hid hm
      have HC := Lib.hid hc
      clear hl hr hy hL hyl hm hc
      go_enter Try.func53, Try.ntmps53
      go_wp2_with fail
      refine (dag_May A n c D _ (HL.out.up (by (repeat (first | (with_reducible exact Below.refl _ _) | (with_reducible assumption) | (with_reducible apply bel_alloc) | (with_reducible apply bel_drew) | (with_reducible apply bel_drewN) | (with_reducible refine bel_trans ?_ (by with_reducible assumption)) | (with_reducible refine bel_trans ?_ (HF.out _)) | (with_reducible refine bel_set ?_ (by simp) _) | (with_reducible refine bel_set ?_ (by simp; omega) _) | (with_reducible refine bel_set ?_ (by omega) _)))))).mono ?_
      rintro e w1 ⟨rfl, hb1⟩
      rw [HM.out]
      have hz_w1 : w.heap.size + 2 ≤ w1.heap.size := (by have hq := (hb1).size; (try simp at hq); omega); have hc0_w1 := fun o => (bcell hb1).1 (w.heap.size) o (by first | (simp; done) | (simp; omega) | omega); have hc1_w1 := fun o => (bcell hb1).1 (w.heap.size + 1) o (by first | (simp; done) | (simp; omega) | omega)
      go_wp2_with fail
      refine (header_MayCert' C _ _ _ _ _ _ _ _ _ _ _ (HR.out.up (by (repeat (first | (with_reducible exact Below.refl _ _) | (with_reducible assumption) | (with_reducible apply bel_alloc) | (with_reducible apply bel_drew) | (with_reducible apply bel_drewN) | (with_reducible refine bel_trans ?_ (by with_reducible assumption)) | (with_reducible refine bel_trans ?_ (HF.out _)) | (with_reducible refine bel_set ?_ (by simp) _) | (with_reducible refine bel_set ?_ (by simp; omega) _) | (with_reducible refine bel_set ?_ (by omega) _)))))).mono ?_
      rintro e w2 ⟨rfl, hb2⟩
      rw [HC.out]
      go_wp2_with fail
      go_ret2
      exact ⟨.slice none 0 0, by rw [HYL.out.1]; rfl, by rw [HYL.out.2]; exact OwnI.nil _ _, by (repeat (first | (with_reducible exact Below.refl _ _) | (with_reducible assumption) | (with_reducible apply bel_alloc) | (with_reducible apply bel_drew) | (with_reducible apply bel_drewN) | (with_reducible refine bel_trans ?_ (by with_reducible assumption)) | (with_reducible refine bel_trans ?_ (HF.out _)) | (with_reducible refine bel_set ?_ (by simp) _) | (with_reducible refine bel_set ?_ (by simp; omega) _) | (with_reducible refine bel_set ?_ (by omega) _)))⟩
    · have hok := mayS_iff.1 hm
      have hn : n ≤ 65536 := by rw [← hl.1]; exact hok.2.2.2.1
      by_cases hlow : C.h.ro ≤ D.low
      · have hyl : y = 6 ∧ L = [] := by
          have h1 : lkE D C = 6 := by unfold lkE; rw [if_pos ⟨hm, hc⟩, if_pos hlow]
          exact ⟨by rw [← hy, h1], by rw [← hL]; unfold lkL; rw [if_neg (by rw [h1]; omega)]⟩
        have hd : decide (C.h.ro ≤ D.low) = true := by simpa using hlow
        have HYL := Lib.hid hyl
        have HM := Lib.hid hm
        have HC := Lib.hid hc
        clear hl hr hy hL hyl hm hc hlow hok
        go_enter Try.func53, Try.ntmps53
        go_wp2_with fail
        refine (dag_May A n c D _ (HL.out.up (by (repeat (first | (with_reducible exact Below.refl _ _) | (with_reducible assumption) | (with_reducible apply bel_alloc) | (with_reducible apply bel_drew) | (with_reducible apply bel_drewN) | (with_reducible refine bel_trans ?_ (by with_reducible assumption)) | (with_reducible refine bel_trans ?_ (HF.out _)) | (with_reducible refine bel_set ?_ (by simp) _) | (with_reducible refine bel_set ?_ (by simp; omega) _) | (with_reducible refine bel_set ?_ (by omega) _)))))).mono ?_
        rintro e w1 ⟨rfl, hb1⟩
        rw [HM.out]
        have hz_w1 : w.heap.size + 2 ≤ w1.heap.size := (by have hq := (hb1).size; (try simp at hq); omega); have hc0_w1 := fun o => (bcell hb1).1 (w.heap.size) o (by first | (simp; done) | (simp; omega) | omega); have hc1_w1 := fun o => (bcell hb1).1 (w.heap.size + 1) o (by first | (simp; done) | (simp; omega) | omega)
        go_wp2_with fail
        refine (header_MayCert' C _ _ _ _ _ _ _ _ _ _ _ (HR.out.up (by (repeat (first | (with_reducible exact Below.refl _ _) | (with_reducible assumption) | (with_reducible apply bel_alloc) | (with_reducible apply bel_drew) | (with_reducible apply bel_drewN) | (with_reducible refine bel_trans ?_ (by with_reducible assumption)) | (with_reducible refine bel_trans ?_ (HF.out _)) | (with_reducible refine bel_set ?_ (by simp) _) | (with_reducible refine bel_set ?_ (by simp; omega) _) | (with_reducible refine bel_set ?_ (by omega) _)))))).mono ?_
        rintro e w2 ⟨rfl, hb2⟩
        rw [HC.out]
        have hz_w2 : w.heap.size + 2 ≤ w2.heap.size := (by have hq := (hb2).size; (try simp at hq); omega); have hc0_w2 := fun o => (bcell hb2).1 (w.heap.size) o (by first | (simp; done) | (simp; omega) | omega); have hc1_w2 := fun o => (bcell hb2).1 (w.heap.size + 1) o (by first | (simp; done) | (simp; omega) | omega)
        go_wp2_with fail
        go_ret2
        exact ⟨.slice none 0 0, by rw [HYL.out.1]; rfl, by rw [HYL.out.2]; exact OwnI.nil _ _, by (repeat (first | (with_reducible exact Below.refl _ _) | (with_reducible assumption) | (with_reducible apply bel_alloc) | (with_reducible apply bel_drew) | (with_reducible apply bel_drewN) | (with_reducible refine bel_trans ?_ (by with_reducible assumption)) | (with_reducible refine bel_trans ?_ (HF.out _)) | (with_reducible refine bel_set ?_ (by simp) _) | (with_reducible refine bel_set ?_ (by simp; omega) _) | (with_reducible refine bel_set ?_ (by omega) _)))⟩
      · have hyl : y = 0 ∧ L = lackP D.certs D.low C.h := by
          have h1 : lkE D C = 0 := by unfold lkE; rw [if_pos ⟨hm, hc⟩, if_neg hlow]
          exact ⟨by rw [← hy, h1], by rw [← hL]; unfold lkL; rw [if_pos h1, lackP_eq hok.dist]⟩
        have hd : decide (C.h.ro ≤ D.low) = false := by simpa using hlow
        have hpn : pn ≤ 65536 := by
          have h1 := hr.1.2.1
          have h2 := head_pa (certS_hd hc)
          dsimp only at h1
          omega
        have hbd := certS_bd hc
        have hr1 : 1 ≤ C.h.ro := hbd.2.2.2.2.2.1
        have hr2 : C.h.ro ≤ 1099511627776 := hbd.2.2.2.2.2.2.1
        have hlo1 : 0 ≤ D.low := hok.2.1
        have hlo2 : D.low ≤ 1099511627776 := hok.2.2.1
        have HYL := Lib.hid hyl
        have HM := Lib.hid hm
        have HC := Lib.hid hc
        have HOK := Lib.hid hok
        clear hl hr hy hL hyl hm hc hlow hok hbd
        go_enter Try.func53, Try.ntmps53
        go_wp2_with fail
        refine (dag_May A n c D _ (HL.out.up (by (repeat (first | (with_reducible exact Below.refl _ _) | (with_reducible assumption) | (with_reducible apply bel_alloc) | (with_reducible apply bel_drew) | (with_reducible apply bel_drewN) | (with_reducible refine bel_trans ?_ (by with_reducible assumption)) | (with_reducible refine bel_trans ?_ (HF.out _)) | (with_reducible refine bel_set ?_ (by simp) _) | (with_reducible refine bel_set ?_ (by simp; omega) _) | (with_reducible refine bel_set ?_ (by omega) _)))))).mono ?_
        rintro e w1 ⟨rfl, hb1⟩
        rw [HM.out]
        have hz_w1 : w.heap.size + 2 ≤ w1.heap.size := (by have hq := (hb1).size; (try simp at hq); omega); have hc0_w1 := fun o => (bcell hb1).1 (w.heap.size) o (by first | (simp; done) | (simp; omega) | omega); have hc1_w1 := fun o => (bcell hb1).1 (w.heap.size + 1) o (by first | (simp; done) | (simp; omega) | omega)
        go_wp2_with fail
        refine (header_MayCert' C _ _ _ _ _ _ _ _ _ _ _ (HR.out.up (by (repeat (first | (with_reducible exact Below.refl _ _) | (with_reducible assumption) | (with_reducible apply bel_alloc) | (with_reducible apply bel_drew) | (with_reducible apply bel_drewN) | (with_reducible refine bel_trans ?_ (by with_reducible assumption)) | (with_reducible refine bel_trans ?_ (HF.out _)) | (with_reducible refine bel_set ?_ (by simp) _) | (with_reducible refine bel_set ?_ (by simp; omega) _) | (with_reducible refine bel_set ?_ (by omega) _)))))).mono ?_
        rintro e w2 ⟨rfl, hb2⟩
        rw [HC.out]
        have hz_w2 : w.heap.size + 2 ≤ w2.heap.size := (by have hq := (hb2).size; (try simp at hq); omega); have hc0_w2 := fun o => (bcell hb2).1 (w.heap.size) o (by first | (simp; done) | (simp; omega) | omega); have hc1_w2 := fun o => (bcell hb2).1 (w.heap.size + 1) o (by first | (simp; done) | (simp; omega) | omega)
        go_wp2_with fail
        refine (dag_Lack A n c D.certs D.nodes D.low bA pA bn bc pn pc C.h _ (HL.out.up (by (repeat (first | (with_reducible exact Below.refl _ _) | (with_reducible assumption) | (with_reducible apply bel_alloc) | (with_reducible apply bel_drew) | (with_reducible apply bel_drewN) | (with_reducible refine bel_trans ?_ (by with_reducible assumption)) | (with_reducible refine bel_trans ?_ (HF.out _)) | (with_reducible refine bel_set ?_ (by simp) _) | (with_reducible refine bel_set ?_ (by simp; omega) _) | (with_reducible refine bel_set ?_ (by omega) _))))) (HR.out.1.up (by (repeat (first | (with_reducible exact Below.refl _ _) | (with_reducible assumption) | (with_reducible apply bel_alloc) | (with_reducible apply bel_drew) | (with_reducible apply bel_drewN) | (with_reducible refine bel_trans ?_ (by with_reducible assumption)) | (with_reducible refine bel_trans ?_ (HF.out _)) | (with_reducible refine bel_set ?_ (by simp) _) | (with_reducible refine bel_set ?_ (by simp; omega) _) | (with_reducible refine bel_set ?_ (by omega) _))))) HOK.out.places HOK.out.auths hn hcap hcb hpn hr1 hr2 hlo1 hlo2).mono ?_
        rintro e w3 ⟨v, rfl, hown, hb3⟩
        go_wp2_with fail
        go_ret2
        exact ⟨v, by rw [HYL.out.1]; rfl, by rw [HYL.out.2]; exact hown.mono (by omega), by (repeat (first | (with_reducible exact Below.refl _ _) | (with_reducible assumption) | (with_reducible apply bel_alloc) | (with_reducible apply bel_drew) | (with_reducible apply bel_drewN) | (with_reducible refine bel_trans ?_ (by with_reducible assumption)) | (with_reducible refine bel_trans ?_ (HF.out _)) | (with_reducible refine bel_set ?_ (by simp) _) | (with_reducible refine bel_set ?_ (by simp; omega) _) | (with_reducible refine bel_set ?_ (by omega) _)))⟩
set_option maxRecDepth 100000 in
set_option maxHeartbeats 16000000 in
theorem law_DagLacks (P : AskP) (D : AskD) (w : World) (h : AskR w P D) :
    Calls Try.prog 10 #[askV P D] w fun e w' => e = .returned (.bool true) ∧ Below w.heap.size w w' := by
  obtain ⟨⟨dA, dn, dc⟩, ⟨cA, cn, cc⟩, ⟨iA, im, ic⟩, ⟨pA, pn, pc⟩⟩ := P
  have H := Lib.hid h
  have HD : Hid (CertsR w dA dn D.D.certs) := Lib.hid h.d
  have HC : Hid (CertsR w cA cn D.C) := Lib.hid h.c
  have HI : Hid (IntsR w iA im D.I) := Lib.hid h.i
  have HP : Hid (FloatsR w pA pn D.P) := Lib.hid h.p
  have hdc : dn ≤ dc := h.dc
  have hdm : dc ≤ 9223372036854775807 := h.dm
  clear h
  show Calls Try.prog 10 #[.agg #[.int .i64 D.D.nodes, .int .i64 D.D.low, .slice dA dn dc, .slice cA cn cc, .slice iA im ic, .slice pA pn pc]] w _
  go_enter Try.func10, Try.ntmps10
  go_wp2_with fail
  refine (law14_heavy ⟨⟨dA, dn, dc⟩, ⟨cA, cn, cc⟩, ⟨iA, im, ic⟩, ⟨pA, pn, pc⟩⟩ D _ (H.out.up (by (repeat (first | (with_reducible exact Below.refl _ _) | (with_reducible assumption) | (with_reducible apply bel_alloc) | (with_reducible apply bel_drew) | (with_reducible apply bel_drewN) | (with_reducible refine bel_trans ?_ (by with_reducible assumption)) | (with_reducible refine bel_trans ?_ (HF.out _)) | (with_reducible refine bel_set ?_ (by simp) _) | (with_reducible refine bel_set ?_ (by simp; omega) _) | (with_reducible refine bel_set ?_ (by omega) _)))))).mono ?_
  rintro e w1 ⟨⟨x, rfl, hx⟩, hb1⟩
  cases x
  case true =>
    clear hx
    go_wp2_with fail
    go_ret
    exact ⟨rfl, by (repeat (first | (with_reducible exact Below.refl _ _) | (with_reducible assumption) | (with_reducible apply bel_alloc) | (with_reducible apply bel_drew) | (with_reducible apply bel_drewN) | (with_reducible refine bel_trans ?_ (by with_reducible assumption)) | (with_reducible refine bel_trans ?_ (HF.out _)) | (with_reducible refine bel_set ?_ (by simp) _) | (with_reducible refine bel_set ?_ (by simp; omega) _) | (with_reducible refine bel_set ?_ (by omega) _)))⟩
  case false =>
  have hLt := hx rfl
  have hLd : Light D.D.certs := hLt.d
  have hd80 : dn ≤ 80 := by rw [← HD.out.1]; exact hLd.1
  have hc40 : cn ≤ 40 := hLt.cn
  have hi40 : im ≤ 40 := hLt.i
  have hp40 : pn ≤ 40 := hLt.p
  have hlc : ∀ k, k < cn → LightC (cth D.C k) := hLt.c
  have HLD := Lib.hid hLd
  have HLC := Lib.hid hlc
  have hB1 : BoxR w1 w.heap.size [.int .i64 D.D.nodes, .int .i64 D.D.low, .slice dA dn dc, .slice cA cn cc, .slice iA im ic, .slice pA pn pc] := (BoxR.new w [.int .i64 D.D.nodes, .int .i64 D.D.low, .slice dA dn dc, .slice cA cn cc, .slice iA im ic, .slice pA pn pc] 58).up hb1
  have hbw1 : Below w.heap.size w w1 := by (repeat (first | (with_reducible exact Below.refl _ _) | (with_reducible assumption) | (with_reducible apply bel_alloc) | (with_reducible apply bel_drew) | (with_reducible apply bel_drewN) | (with_reducible refine bel_trans ?_ (by with_reducible assumption)) | (with_reducible refine bel_trans ?_ (HF.out _)) | (with_reducible refine bel_set ?_ (by simp) _) | (with_reducible refine bel_set ?_ (by simp; omega) _) | (with_reducible refine bel_set ?_ (by omega) _)))
  clear hx hLt hLd hlc hb1
  have HB1 := Lib.hid hB1
  have hg1 := hB1.1
  have b_0 := (hB1).2 0 _ rfl; have b_1 := (hB1).2 1 _ rfl; have b_2 := (hB1).2 2 _ rfl; have b_3 := (hB1).2 3 _ rfl; have b_4 := (hB1).2 4 _ rfl; have b_5 := (hB1).2 5 _ rfl
  clear hB1
  go_wp2_with fail
  go_loopw [3] (fun si wr => ∃ i : Nat, i ≤ cn ∧ si = .int .i64 i ∧ BoxR wr w.heap.size [.int .i64 D.D.nodes, .int .i64 D.D.low, .slice dA dn dc, .slice cA cn cc, .slice iA im ic, .slice pA pn pc] ∧ Below w.heap.size w wr) (fun si _ => cn - (intOf si).toNat)
  case atStart => exact ⟨0, Nat.zero_le _, rfl, HB1.out, hbw1⟩
  case round =>
    obtain ⟨i, hi, rfl, hB, hbw⟩ := hrel
    (obtain ⟨wk, hwk⟩ : ∃ x, x = wr := ⟨_, rfl⟩); subst hwk
    have hgHB := hB.1
    have HB := Lib.hid hB
    clear hB b_0 b_1 b_2 b_3 b_4 b_5
    by_cases hlt : i < cn
    · obtain ⟨cb, coff, rfl, hcbl, hcc⟩ := (HC.out.up hbw).2.2 (by omega)
      obtain ⟨p, hat, hcr⟩ := hcc i hlt
      obtain ⟨C, hCC⟩ : ∃ C, C = cth D.C i := ⟨_, rfl⟩
      rw [← hCC] at hat hcr
      have hlj := HLC.out i hlt
      rw [← hCC] at hlj
      obtain ⟨⟨⟨bA, bn, bc⟩, ⟨qA, qn, qc⟩⟩, ⟨sA, sn, sc⟩⟩ := p
      have HCR := Lib.hid hcr
      have hqn : qn ≤ 65536 := by have h1 := hcr.1.2.1; have h2 := hlj.2.1; dsimp only at h1; omega
      have hcells : ∀ X, Below wk.heap.size wk X → X.cell? ⟨w.heap.size, 0, none⟩ = some (.int .i64 D.D.nodes) ∧ X.cell? ⟨w.heap.size, 1, none⟩ = some (.int .i64 D.D.low) ∧ X.cell? ⟨w.heap.size, 2, none⟩ = some (.slice dA dn dc) ∧ X.cell? ⟨w.heap.size, 3, none⟩ = some (.slice (some ⟨cb, coff, none⟩) cn cc) ∧ X.cell? ⟨w.heap.size, 4, none⟩ = some (.slice iA im ic) ∧ X.cell? ⟨w.heap.size, 5, none⟩ = some (.slice pA pn pc) ∧ X.cell? ⟨cb, coff + i * 6, none⟩ = some (.int .i64 C.h.au) ∧ X.cell? ⟨cb, coff + i * 6 + 1, none⟩ = some (.int .i64 C.h.ro) ∧ X.cell? ⟨cb, coff + i * 6 + 2, none⟩ = some (.slice bA bn bc) ∧ X.cell? ⟨cb, coff + i * 6 + 3, none⟩ = some (.slice qA qn qc) ∧ X.cell? ⟨cb, coff + i * 6 + 4, none⟩ = some (.int .i64 C.di) ∧ X.cell? ⟨cb, coff + i * 6 + 5, none⟩ = some (.slice sA sn sc) := fun X hX => by
        obtain ⟨c0, c1, c2, c3, c4, c5⟩ := hat.up hX hcbl
        exact ⟨(HB.out.up hX).2 0 _ rfl, (HB.out.up hX).2 1 _ rfl, (HB.out.up hX).2 2 _ rfl, (HB.out.up hX).2 3 _ rfl, (HB.out.up hX).2 4 _ rfl, (HB.out.up hX).2 5 _ rfl, c0, c1, c2, c3, c4, c5⟩
      have HC12 := Lib.hid hcells
      obtain ⟨L, hL⟩ : ∃ L, lkL D.D C = L := ⟨_, rfl⟩
      have hll1 : L.length ≤ 1000000 := by rw [← hL]; have := lkL_len D.D C; have h2 := hlj.2.1; omega
      have hll9 : L.length ≤ 9223372036854775807 := by omega
      have HCCC := Lib.hid hCC
      clear hcc hat hcr hcells hlj hCC
      obtain ⟨b_0, b_1, b_2, b_3, b_4, b_5, c0, c1, c2, c3, c4, c5⟩ := HC12.out wk (by (repeat (first | (with_reducible exact Below.refl _ _) | (with_reducible assumption) | (with_reducible apply bel_alloc) | (with_reducible apply bel_drew) | (with_reducible apply bel_drewN) | (with_reducible refine bel_trans ?_ (by with_reducible assumption)) | (with_reducible refine bel_trans ?_ (HF.out _)) | (with_reducible refine bel_set ?_ (by simp) _) | (with_reducible refine bel_set ?_ (by simp; omega) _) | (with_reducible refine bel_set ?_ (by omega) _))))
      cases hm : mayS D.D
      · have HCHK : Hid (chkE D.D = 1) := Lib.hid (by unfold chkE; rw [hm]; rfl)
        have hle : lkE D.D C = 1 := by unfold lkE; rw [if_neg (by rw [hm]; simp)]
        have HLN : Hid (L = []) := Lib.hid (by rw [← hL]; unfold lkL; rw [if_neg (by rw [hle]; omega)])
        have HLE := Lib.hid hle
        have HLL := Lib.hid hL
        have HCE : Hid True := Lib.hid trivial
        clear hle hL hm
        go_wp2_with fail
        refine (law14_check dA dn dc D.D 1 _ (HD.out.up hbw) HCHK.out).mono ?_
        rintro e w5 ⟨rfl, hb5⟩
        have hb5k : Below wk.heap.size wk w5 := hb5
        have hg5 : w.heap.size < w5.heap.size := Nat.lt_of_lt_of_le hgHB hb5k.size
        have hi5 : cb < w5.heap.size := Nat.lt_of_lt_of_le hcbl hb5k.size
        clear b_0 b_1 b_2 b_3 b_4 b_5 c0 c1 c2 c3 c4 c5
        obtain ⟨b_0, b_1, b_2, b_3, b_4, b_5, c0, c1, c2, c3, c4, c5⟩ := HC12.out w5 (by (repeat (first | (with_reducible exact Below.refl _ _) | (with_reducible assumption) | (with_reducible apply bel_alloc) | (with_reducible apply bel_drew) | (with_reducible apply bel_drewN) | (with_reducible refine bel_trans ?_ (by with_reducible assumption)) | (with_reducible refine bel_trans ?_ (HF.out _)) | (with_reducible refine bel_set ?_ (by simp) _) | (with_reducible refine bel_set ?_ (by simp; omega) _) | (with_reducible refine bel_set ?_ (by omega) _))))
        go_wp2_with fail
        refine wp_region_fam (by kernel_rfl) (by kernel_rfl) (fun ι F hne hF hcl => ?_)
        have hcF0 := fun n o => (bcell (hF n)).1 (w.heap.size) o (by first | (simp; done) | (simp; omega) | omega)
        have hcF1 := fun n o => (bcell (hF n)).1 (cb) o (by first | (simp; done) | (simp; omega) | omega)
        have HF := Lib.hid hF; clear hF
        have HC := Lib.hid hcl; clear hcl
        repeat (any_goals (first
         | go_big_quiet_step (first | (go_at_call 51; exact Calls.fam HC.out (ref4_Cert' C _ _ _ _ _ _ _ _ _ _ _ (HCR.out.up (bel_trans hb5k (HF.out _))))))
         | (refine wpQuiet_guard _ _ _ rfl rfl ?_; (fail_if_success (intro b' hb; have h2 := hb.symm; have : b' = true := h2.trans (by with_reducible rfl))); (fail_if_success (intro b' hb; have h2 := hb.symm; have : b' = false := h2.trans (by with_reducible rfl))); intro b' hb; simp only [hb]; cases b' <;> (try simp only [Bool.not_eq_true', Bool.not_eq_false', decide_eq_true_eq, decide_eq_false_iff_not, Int.not_lt, Int.not_le, Bool.and_eq_true, Bool.or_eq_true, Bool.or_eq_false_iff, beq_iff_eq, beq_eq_false_iff_ne, Int.natCast_pos] at hb))))
        all_goals (refine wpQuiet_nil ?_; intro nq)
        all_goals (try (exfalso; omega))
        have hFw6 := HF.out nq
        clear HF HC hne
        generalize F nq = w6 at *
        have hb6k : Below wk.heap.size wk w6 := bel_trans hb5k hFw6
        have hg6 : w.heap.size < w6.heap.size := Nat.lt_of_lt_of_le hgHB hb6k.size
        have hi6 : cb < w6.heap.size := Nat.lt_of_lt_of_le hcbl hb6k.size
        clear hcF0 hcF1
        clear b_0 b_1 b_2 b_3 b_4 b_5 c0 c1 c2 c3 c4 c5
        obtain ⟨b_0, b_1, b_2, b_3, b_4, b_5, c0, c1, c2, c3, c4, c5⟩ := HC12.out w6 (by (repeat (first | (with_reducible exact Below.refl _ _) | (with_reducible assumption) | (with_reducible apply bel_alloc) | (with_reducible apply bel_drew) | (with_reducible apply bel_drewN) | (with_reducible refine bel_trans ?_ (by with_reducible assumption)) | (with_reducible refine bel_trans ?_ (HF.out _)) | (with_reducible refine bel_set ?_ (by simp) _) | (with_reducible refine bel_set ?_ (by simp; omega) _) | (with_reducible refine bel_set ?_ (by omega) _))))
        go_wp2_with fail
        refine wp_region_fam (by kernel_rfl) (by kernel_rfl) (fun ι F hne hF hcl => ?_)
        have hcF0 := fun n o => (bcell (hF n)).1 (w.heap.size) o (by first | (simp; done) | (simp; omega) | omega)
        have hcF1 := fun n o => (bcell (hF n)).1 (cb) o (by first | (simp; done) | (simp; omega) | omega)
        have HF := Lib.hid hF; clear hF
        have HC := Lib.hid hcl; clear hcl
        repeat (any_goals (first
         | go_big_quiet_step (first | (fail))
         | (refine wpQuiet_guard _ _ _ rfl rfl ?_; (fail_if_success (intro b' hb; have h2 := hb.symm; have : b' = true := h2.trans (by with_reducible rfl))); (fail_if_success (intro b' hb; have h2 := hb.symm; have : b' = false := h2.trans (by with_reducible rfl))); intro b' hb; simp only [hb]; cases b' <;> (try simp only [Bool.not_eq_true', Bool.not_eq_false', decide_eq_true_eq, decide_eq_false_iff_not, Int.not_lt, Int.not_le, Bool.and_eq_true, Bool.or_eq_true, Bool.or_eq_false_iff, beq_iff_eq, beq_eq_false_iff_ne, Int.natCast_pos] at hb))))
        all_goals (refine wpQuiet_nil ?_; intro nq)
        all_goals (try (exfalso; omega))
        have hFw7 := HF.out nq
        clear HF HC hne
        generalize F nq = w7 at *
        have hb7k : Below wk.heap.size wk w7 := bel_trans hb6k hFw7
        have hg7 : w.heap.size < w7.heap.size := Nat.lt_of_lt_of_le hgHB hb7k.size
        have hi7 : cb < w7.heap.size := Nat.lt_of_lt_of_le hcbl hb7k.size
        clear hcF0 hcF1
        clear b_0 b_1 b_2 b_3 b_4 b_5 c0 c1 c2 c3 c4 c5
        obtain ⟨b_0, b_1, b_2, b_3, b_4, b_5, c0, c1, c2, c3, c4, c5⟩ := HC12.out w7 (by (repeat (first | (with_reducible exact Below.refl _ _) | (with_reducible assumption) | (with_reducible apply bel_alloc) | (with_reducible apply bel_drew) | (with_reducible apply bel_drewN) | (with_reducible refine bel_trans ?_ (by with_reducible assumption)) | (with_reducible refine bel_trans ?_ (HF.out _)) | (with_reducible refine bel_set ?_ (by simp) _) | (with_reducible refine bel_set ?_ (by simp; omega) _) | (with_reducible refine bel_set ?_ (by omega) _))))
        go_wp2_with fail
        clear b_0 b_1 b_2 b_3 b_4 b_5 c0 c1 c2 c3 c4 c5
        go_region_held3 (fun X => X.cell? ⟨w.heap.size, 0, none⟩ = some (.int .i64 D.D.nodes) ∧ X.cell? ⟨w.heap.size, 1, none⟩ = some (.int .i64 D.D.low) ∧ X.cell? ⟨w.heap.size, 2, none⟩ = some (.slice dA dn dc) ∧ X.cell? ⟨w.heap.size, 3, none⟩ = some (.slice (some ⟨cb, coff, none⟩) cn cc) ∧ X.cell? ⟨w.heap.size, 4, none⟩ = some (.slice iA im ic) ∧ X.cell? ⟨w.heap.size, 5, none⟩ = some (.slice pA pn pc) ∧ X.cell? ⟨cb, coff + i * 6, none⟩ = some (.int .i64 C.h.au) ∧ X.cell? ⟨cb, coff + i * 6 + 1, none⟩ = some (.int .i64 C.h.ro) ∧ X.cell? ⟨cb, coff + i * 6 + 2, none⟩ = some (.slice bA bn bc) ∧ X.cell? ⟨cb, coff + i * 6 + 3, none⟩ = some (.slice qA qn qc) ∧ X.cell? ⟨cb, coff + i * 6 + 4, none⟩ = some (.int .i64 C.di) ∧ X.cell? ⟨cb, coff + i * 6 + 5, none⟩ = some (.slice sA sn sc))
          (exact HC12.out _ (by (repeat (first | (with_reducible exact Below.refl _ _) | (with_reducible assumption) | (with_reducible apply bel_alloc) | (with_reducible apply bel_drew) | (with_reducible apply bel_drewN) | (with_reducible refine bel_trans ?_ (by with_reducible assumption)) | (with_reducible refine bel_trans ?_ (HF.out _)) | (with_reducible refine bel_set ?_ (by simp) _) | (with_reducible refine bel_set ?_ (by simp; omega) _) | (with_reducible refine bel_set ?_ (by omega) _)))))
          ((go_at_call 53; refine (dag_Lacks dA dn dc D.D C bA qA sA bn bc qn qc sn sc 1 L _ (HD.out.up (bel_trans hbw (by (repeat (first | (with_reducible exact Below.refl _ _) | (with_reducible assumption) | (with_reducible apply bel_alloc) | (with_reducible apply bel_drew) | (with_reducible apply bel_drewN) | (with_reducible refine bel_trans ?_ (by with_reducible assumption)) | (with_reducible refine bel_trans ?_ (HF.out _)) | (with_reducible refine bel_set ?_ (by simp) _) | (with_reducible refine bel_set ?_ (by simp; omega) _) | (with_reducible refine bel_set ?_ (by omega) _)))))) (HCR.out.up (by (repeat (first | (with_reducible exact Below.refl _ _) | (with_reducible assumption) | (with_reducible apply bel_alloc) | (with_reducible apply bel_drew) | (with_reducible apply bel_drewN) | (with_reducible refine bel_trans ?_ (by with_reducible assumption)) | (with_reducible refine bel_trans ?_ (HF.out _)) | (with_reducible refine bel_set ?_ (by simp) _) | (with_reducible refine bel_set ?_ (by simp; omega) _) | (with_reducible refine bel_set ?_ (by omega) _))))) hdc hdm HLE.out HLL.out).mono ?_; rintro e w9 ⟨v9, rfl, hown9, hb9⟩; obtain ⟨A9, c9, rfl, hint9, _⟩ := hown9.ints hll9; have ho9 := OwnI.mono hown9 (Below.size (B := wk.heap.size) (w := wk) (by (repeat (first | (with_reducible exact Below.refl _ _) | (with_reducible assumption) | (with_reducible apply bel_alloc) | (with_reducible apply bel_drew) | (with_reducible apply bel_drewN) | (with_reducible refine bel_trans ?_ (by with_reducible assumption)) | (with_reducible refine bel_trans ?_ (HF.out _)) | (with_reducible refine bel_set ?_ (by simp) _) | (with_reducible refine bel_set ?_ (by simp; omega) _) | (with_reducible refine bel_set ?_ (by omega) _))))); have hb9k : Below wk.heap.size wk w9 := (by (repeat (first | (with_reducible exact Below.refl _ _) | (with_reducible assumption) | (with_reducible apply bel_alloc) | (with_reducible apply bel_drew) | (with_reducible apply bel_drewN) | (with_reducible refine bel_trans ?_ (by with_reducible assumption)) | (with_reducible refine bel_trans ?_ (HF.out _)) | (with_reducible refine bel_set ?_ (by simp) _) | (with_reducible refine bel_set ?_ (by simp; omega) _) | (with_reducible refine bel_set ?_ (by omega) _))))))
        have HO9 := Lib.hid ho9
        have HI9 := Lib.hid hint9
        have hz9 := hb9.size
        clear hown9 hint9 ho9
        go_wp2_with (go_at_call 44; refine (law14_num _ _).mono ?_; rintro e w' ⟨rfl, rfl⟩)
        refine (ref0_EqNumbers_same _ _ _ L _ _ _ _ HI9.out (HLN.out ▸ IntsR.nil _ _)).mono ?_
        rintro e w10 ⟨rfl, hb10⟩
        have hb10k := bel_trans hb9k hb10
        go_wp2_with fail
        refine (law0_Numbers _ L wk.heap.size _ (HO9.out.up hb10) hll1 hb10k.size).mono ?_
        rintro e w11 ⟨rfl, hb11⟩
        have hb11k : Below wk.heap.size wk w11 := hb10k.trans hb11
        go_wp2_with fail
        (first | (go_round; (case rel => exact ⟨i + 1, by omega, by go_num, HB.out.up hb11k, bel_trans hbw hb11k⟩); (case measure => (simp [intOf] <;> omega))) | (go_roundw; (case rel => exact ⟨i + 1, by omega, by go_num, HB.out.up hb11k, bel_trans hbw hb11k⟩); (case measure => (simp [intOf] <;> omega))) | (refine ⟨?_, by simp [intOf] <;> omega⟩; (repeat apply Exists.intro); refine ⟨?rel, ?fr⟩; (case fr => ((repeat' apply And.intro) <;> rfl)); (case rel => exact ⟨i + 1, by omega, by go_num, HB.out.up hb11k, bel_trans hbw hb11k⟩)))
      · cases hce : certS C D.D.nodes
        · have HCHK : Hid (chkE D.D = 0) := Lib.hid (by unfold chkE; rw [hm]; rfl)
          have hle : lkE D.D C = 1 := by unfold lkE; rw [if_neg (by rw [hce]; simp)]
          have HLN : Hid (L = []) := Lib.hid (by rw [← hL]; unfold lkL; rw [if_neg (by rw [hle]; omega)])
          have HLE := Lib.hid hle
          have HLL := Lib.hid hL
          have HCE := Lib.hid hce
          clear hle hL hm hce
          go_wp2_with fail
          refine (law14_check dA dn dc D.D 0 _ (HD.out.up hbw) HCHK.out).mono ?_
          rintro e w5 ⟨rfl, hb5⟩
          have hb5k : Below wk.heap.size wk w5 := hb5
          have hg5 : w.heap.size < w5.heap.size := Nat.lt_of_lt_of_le hgHB hb5k.size
          have hi5 : cb < w5.heap.size := Nat.lt_of_lt_of_le hcbl hb5k.size
          clear b_0 b_1 b_2 b_3 b_4 b_5 c0 c1 c2 c3 c4 c5
          obtain ⟨b_0, b_1, b_2, b_3, b_4, b_5, c0, c1, c2, c3, c4, c5⟩ := HC12.out w5 (by (repeat (first | (with_reducible exact Below.refl _ _) | (with_reducible assumption) | (with_reducible apply bel_alloc) | (with_reducible apply bel_drew) | (with_reducible apply bel_drewN) | (with_reducible refine bel_trans ?_ (by with_reducible assumption)) | (with_reducible refine bel_trans ?_ (HF.out _)) | (with_reducible refine bel_set ?_ (by simp) _) | (with_reducible refine bel_set ?_ (by simp; omega) _) | (with_reducible refine bel_set ?_ (by omega) _))))
          go_wp2_with fail
          refine wp_region_fam (by kernel_rfl) (by kernel_rfl) (fun ι F hne hF hcl => ?_)
          have hcF0 := fun n o => (bcell (hF n)).1 (w.heap.size) o (by first | (simp; done) | (simp; omega) | omega)
          have hcF1 := fun n o => (bcell (hF n)).1 (cb) o (by first | (simp; done) | (simp; omega) | omega)
          have hceq := HCE.out
          have HF := Lib.hid hF; clear hF
          have HC := Lib.hid hcl; clear hcl
          repeat (any_goals (first
           | go_big_quiet_step (first | (go_at_call 51; exact Calls.fam HC.out (ref4_Cert' C _ _ _ _ _ _ _ _ _ _ _ (HCR.out.up (bel_trans hb5k (HF.out _))))))
           | (refine wpQuiet_guard _ _ _ rfl rfl ?_; (fail_if_success (intro b' hb; have h2 := hb.symm; have : b' = true := h2.trans (by with_reducible rfl))); (fail_if_success (intro b' hb; have h2 := hb.symm; have : b' = false := h2.trans (by with_reducible rfl))); intro b' hb; simp only [hb]; cases b' <;> (try simp only [Bool.not_eq_true', Bool.not_eq_false', decide_eq_true_eq, decide_eq_false_iff_not, Int.not_lt, Int.not_le, Bool.and_eq_true, Bool.or_eq_true, Bool.or_eq_false_iff, beq_iff_eq, beq_eq_false_iff_ne, Int.natCast_pos] at hb))))
          all_goals (refine wpQuiet_nil ?_; intro nq)
          all_goals (try (exfalso; omega))
          have hFw6 := HF.out nq
          clear HF HC hne
          generalize F nq = w6 at *
          have hb6k : Below wk.heap.size wk w6 := bel_trans hb5k hFw6
          have hg6 : w.heap.size < w6.heap.size := Nat.lt_of_lt_of_le hgHB hb6k.size
          have hi6 : cb < w6.heap.size := Nat.lt_of_lt_of_le hcbl hb6k.size
          clear hcF0 hcF1
          clear b_0 b_1 b_2 b_3 b_4 b_5 c0 c1 c2 c3 c4 c5
          obtain ⟨b_0, b_1, b_2, b_3, b_4, b_5, c0, c1, c2, c3, c4, c5⟩ := HC12.out w6 (by (repeat (first | (with_reducible exact Below.refl _ _) | (with_reducible assumption) | (with_reducible apply bel_alloc) | (with_reducible apply bel_drew) | (with_reducible apply bel_drewN) | (with_reducible refine bel_trans ?_ (by with_reducible assumption)) | (with_reducible refine bel_trans ?_ (HF.out _)) | (with_reducible refine bel_set ?_ (by simp) _) | (with_reducible refine bel_set ?_ (by simp; omega) _) | (with_reducible refine bel_set ?_ (by omega) _))))
          go_wp2_with fail
          refine wp_region_fam (by kernel_rfl) (by kernel_rfl) (fun ι F hne hF hcl => ?_)
          have hcF0 := fun n o => (bcell (hF n)).1 (w.heap.size) o (by first | (simp; done) | (simp; omega) | omega)
          have hcF1 := fun n o => (bcell (hF n)).1 (cb) o (by first | (simp; done) | (simp; omega) | omega)
          have HF := Lib.hid hF; clear hF
          have HC := Lib.hid hcl; clear hcl
          repeat (any_goals (first
           | go_big_quiet_step (first | (fail))
           | (refine wpQuiet_guard _ _ _ rfl rfl ?_; (fail_if_success (intro b' hb; have h2 := hb.symm; have : b' = true := h2.trans (by with_reducible rfl))); (fail_if_success (intro b' hb; have h2 := hb.symm; have : b' = false := h2.trans (by with_reducible rfl))); intro b' hb; simp only [hb]; cases b' <;> (try simp only [Bool.not_eq_true', Bool.not_eq_false', decide_eq_true_eq, decide_eq_false_iff_not, Int.not_lt, Int.not_le, Bool.and_eq_true, Bool.or_eq_true, Bool.or_eq_false_iff, beq_iff_eq, beq_eq_false_iff_ne, Int.natCast_pos] at hb))))
          all_goals (refine wpQuiet_nil ?_; intro nq)
          all_goals (try (exfalso; omega))
          have hFw7 := HF.out nq
          clear HF HC hne
          generalize F nq = w7 at *
          have hb7k : Below wk.heap.size wk w7 := bel_trans hb6k hFw7
          have hg7 : w.heap.size < w7.heap.size := Nat.lt_of_lt_of_le hgHB hb7k.size
          have hi7 : cb < w7.heap.size := Nat.lt_of_lt_of_le hcbl hb7k.size
          clear hcF0 hcF1
          clear b_0 b_1 b_2 b_3 b_4 b_5 c0 c1 c2 c3 c4 c5
          obtain ⟨b_0, b_1, b_2, b_3, b_4, b_5, c0, c1, c2, c3, c4, c5⟩ := HC12.out w7 (by (repeat (first | (with_reducible exact Below.refl _ _) | (with_reducible assumption) | (with_reducible apply bel_alloc) | (with_reducible apply bel_drew) | (with_reducible apply bel_drewN) | (with_reducible refine bel_trans ?_ (by with_reducible assumption)) | (with_reducible refine bel_trans ?_ (HF.out _)) | (with_reducible refine bel_set ?_ (by simp) _) | (with_reducible refine bel_set ?_ (by simp; omega) _) | (with_reducible refine bel_set ?_ (by omega) _))))
          go_wp2_with fail
          clear b_0 b_1 b_2 b_3 b_4 b_5 c0 c1 c2 c3 c4 c5
          go_region_held3 (fun X => X.cell? ⟨w.heap.size, 0, none⟩ = some (.int .i64 D.D.nodes) ∧ X.cell? ⟨w.heap.size, 1, none⟩ = some (.int .i64 D.D.low) ∧ X.cell? ⟨w.heap.size, 2, none⟩ = some (.slice dA dn dc) ∧ X.cell? ⟨w.heap.size, 3, none⟩ = some (.slice (some ⟨cb, coff, none⟩) cn cc) ∧ X.cell? ⟨w.heap.size, 4, none⟩ = some (.slice iA im ic) ∧ X.cell? ⟨w.heap.size, 5, none⟩ = some (.slice pA pn pc) ∧ X.cell? ⟨cb, coff + i * 6, none⟩ = some (.int .i64 C.h.au) ∧ X.cell? ⟨cb, coff + i * 6 + 1, none⟩ = some (.int .i64 C.h.ro) ∧ X.cell? ⟨cb, coff + i * 6 + 2, none⟩ = some (.slice bA bn bc) ∧ X.cell? ⟨cb, coff + i * 6 + 3, none⟩ = some (.slice qA qn qc) ∧ X.cell? ⟨cb, coff + i * 6 + 4, none⟩ = some (.int .i64 C.di) ∧ X.cell? ⟨cb, coff + i * 6 + 5, none⟩ = some (.slice sA sn sc))
            (exact HC12.out _ (by (repeat (first | (with_reducible exact Below.refl _ _) | (with_reducible assumption) | (with_reducible apply bel_alloc) | (with_reducible apply bel_drew) | (with_reducible apply bel_drewN) | (with_reducible refine bel_trans ?_ (by with_reducible assumption)) | (with_reducible refine bel_trans ?_ (HF.out _)) | (with_reducible refine bel_set ?_ (by simp) _) | (with_reducible refine bel_set ?_ (by simp; omega) _) | (with_reducible refine bel_set ?_ (by omega) _)))))
            ((go_at_call 53; refine (dag_Lacks dA dn dc D.D C bA qA sA bn bc qn qc sn sc 1 L _ (HD.out.up (bel_trans hbw (by (repeat (first | (with_reducible exact Below.refl _ _) | (with_reducible assumption) | (with_reducible apply bel_alloc) | (with_reducible apply bel_drew) | (with_reducible apply bel_drewN) | (with_reducible refine bel_trans ?_ (by with_reducible assumption)) | (with_reducible refine bel_trans ?_ (HF.out _)) | (with_reducible refine bel_set ?_ (by simp) _) | (with_reducible refine bel_set ?_ (by simp; omega) _) | (with_reducible refine bel_set ?_ (by omega) _)))))) (HCR.out.up (by (repeat (first | (with_reducible exact Below.refl _ _) | (with_reducible assumption) | (with_reducible apply bel_alloc) | (with_reducible apply bel_drew) | (with_reducible apply bel_drewN) | (with_reducible refine bel_trans ?_ (by with_reducible assumption)) | (with_reducible refine bel_trans ?_ (HF.out _)) | (with_reducible refine bel_set ?_ (by simp) _) | (with_reducible refine bel_set ?_ (by simp; omega) _) | (with_reducible refine bel_set ?_ (by omega) _))))) hdc hdm HLE.out HLL.out).mono ?_; rintro e w9 ⟨v9, rfl, hown9, hb9⟩; obtain ⟨A9, c9, rfl, hint9, _⟩ := hown9.ints hll9; have ho9 := OwnI.mono hown9 (Below.size (B := wk.heap.size) (w := wk) (by (repeat (first | (with_reducible exact Below.refl _ _) | (with_reducible assumption) | (with_reducible apply bel_alloc) | (with_reducible apply bel_drew) | (with_reducible apply bel_drewN) | (with_reducible refine bel_trans ?_ (by with_reducible assumption)) | (with_reducible refine bel_trans ?_ (HF.out _)) | (with_reducible refine bel_set ?_ (by simp) _) | (with_reducible refine bel_set ?_ (by simp; omega) _) | (with_reducible refine bel_set ?_ (by omega) _))))); have hb9k : Below wk.heap.size wk w9 := (by (repeat (first | (with_reducible exact Below.refl _ _) | (with_reducible assumption) | (with_reducible apply bel_alloc) | (with_reducible apply bel_drew) | (with_reducible apply bel_drewN) | (with_reducible refine bel_trans ?_ (by with_reducible assumption)) | (with_reducible refine bel_trans ?_ (HF.out _)) | (with_reducible refine bel_set ?_ (by simp) _) | (with_reducible refine bel_set ?_ (by simp; omega) _) | (with_reducible refine bel_set ?_ (by omega) _))))))
          have HO9 := Lib.hid ho9
          have HI9 := Lib.hid hint9
          have hz9 := hb9.size
          clear hown9 hint9 ho9
          go_wp2_with (go_at_call 44; refine (law14_num _ _).mono ?_; rintro e w' ⟨rfl, rfl⟩)
          refine (ref0_EqNumbers_same _ _ _ L _ _ _ _ HI9.out (HLN.out ▸ IntsR.nil _ _)).mono ?_
          rintro e w10 ⟨rfl, hb10⟩
          have hb10k := bel_trans hb9k hb10
          go_wp2_with fail
          refine (law0_Numbers _ L wk.heap.size _ (HO9.out.up hb10) hll1 hb10k.size).mono ?_
          rintro e w11 ⟨rfl, hb11⟩
          have hb11k : Below wk.heap.size wk w11 := hb10k.trans hb11
          go_wp2_with fail
          (first | (go_round; (case rel => exact ⟨i + 1, by omega, by go_num, HB.out.up hb11k, bel_trans hbw hb11k⟩); (case measure => (simp [intOf] <;> omega))) | (go_roundw; (case rel => exact ⟨i + 1, by omega, by go_num, HB.out.up hb11k, bel_trans hbw hb11k⟩); (case measure => (simp [intOf] <;> omega))) | (refine ⟨?_, by simp [intOf] <;> omega⟩; (repeat apply Exists.intro); refine ⟨?rel, ?fr⟩; (case fr => ((repeat' apply And.intro) <;> rfl)); (case rel => exact ⟨i + 1, by omega, by go_num, HB.out.up hb11k, bel_trans hbw hb11k⟩)))
        · by_cases hlow : C.h.ro ≤ D.D.low
          · have HCHK : Hid (chkE D.D = 0) := Lib.hid (by unfold chkE; rw [hm]; rfl)
            have hle : lkE D.D C = 6 := by unfold lkE; rw [if_pos ⟨hm, hce⟩, if_pos hlow]
            have HLN : Hid (L = []) := Lib.hid (by rw [← hL]; unfold lkL; rw [if_neg (by rw [hle]; omega)])
            have HLE := Lib.hid hle
            have HLL := Lib.hid hL
            have HCE := Lib.hid hce
            have hd : decide (C.h.ro ≤ D.D.low) = true := by simpa using hlow
            clear hlow
            clear hle hL hm hce
            go_wp2_with fail
            refine (law14_check dA dn dc D.D 0 _ (HD.out.up hbw) HCHK.out).mono ?_
            rintro e w5 ⟨rfl, hb5⟩
            have hb5k : Below wk.heap.size wk w5 := hb5
            have hg5 : w.heap.size < w5.heap.size := Nat.lt_of_lt_of_le hgHB hb5k.size
            have hi5 : cb < w5.heap.size := Nat.lt_of_lt_of_le hcbl hb5k.size
            clear b_0 b_1 b_2 b_3 b_4 b_5 c0 c1 c2 c3 c4 c5
            obtain ⟨b_0, b_1, b_2, b_3, b_4, b_5, c0, c1, c2, c3, c4, c5⟩ := HC12.out w5 (by (repeat (first | (with_reducible exact Below.refl _ _) | (with_reducible assumption) | (with_reducible apply bel_alloc) | (with_reducible apply bel_drew) | (with_reducible apply bel_drewN) | (with_reducible refine bel_trans ?_ (by with_reducible assumption)) | (with_reducible refine bel_trans ?_ (HF.out _)) | (with_reducible refine bel_set ?_ (by simp) _) | (with_reducible refine bel_set ?_ (by simp; omega) _) | (with_reducible refine bel_set ?_ (by omega) _))))
            go_wp2_with fail
            refine wp_region_fam (by kernel_rfl) (by kernel_rfl) (fun ι F hne hF hcl => ?_)
            have hcF0 := fun n o => (bcell (hF n)).1 (w.heap.size) o (by first | (simp; done) | (simp; omega) | omega)
            have hcF1 := fun n o => (bcell (hF n)).1 (cb) o (by first | (simp; done) | (simp; omega) | omega)
            have hceq := HCE.out
            have HF := Lib.hid hF; clear hF
            have HC := Lib.hid hcl; clear hcl
            repeat (any_goals (first
             | go_big_quiet_step (first | (go_at_call 51; exact Calls.fam HC.out (ref4_Cert' C _ _ _ _ _ _ _ _ _ _ _ (HCR.out.up (bel_trans hb5k (HF.out _))))))
             | (refine wpQuiet_guard _ _ _ rfl rfl ?_; (fail_if_success (intro b' hb; have h2 := hb.symm; have : b' = true := h2.trans (by with_reducible rfl))); (fail_if_success (intro b' hb; have h2 := hb.symm; have : b' = false := h2.trans (by with_reducible rfl))); intro b' hb; simp only [hb]; cases b' <;> (try simp only [Bool.not_eq_true', Bool.not_eq_false', decide_eq_true_eq, decide_eq_false_iff_not, Int.not_lt, Int.not_le, Bool.and_eq_true, Bool.or_eq_true, Bool.or_eq_false_iff, beq_iff_eq, beq_eq_false_iff_ne, Int.natCast_pos] at hb))))
            all_goals (refine wpQuiet_nil ?_; intro nq)
            all_goals (try (exfalso; omega))
            have hFw6 := HF.out nq
            clear HF HC hne
            generalize F nq = w6 at *
            have hb6k : Below wk.heap.size wk w6 := bel_trans hb5k hFw6
            have hg6 : w.heap.size < w6.heap.size := Nat.lt_of_lt_of_le hgHB hb6k.size
            have hi6 : cb < w6.heap.size := Nat.lt_of_lt_of_le hcbl hb6k.size
            clear hcF0 hcF1
            clear b_0 b_1 b_2 b_3 b_4 b_5 c0 c1 c2 c3 c4 c5
            obtain ⟨b_0, b_1, b_2, b_3, b_4, b_5, c0, c1, c2, c3, c4, c5⟩ := HC12.out w6 (by (repeat (first | (with_reducible exact Below.refl _ _) | (with_reducible assumption) | (with_reducible apply bel_alloc) | (with_reducible apply bel_drew) | (with_reducible apply bel_drewN) | (with_reducible refine bel_trans ?_ (by with_reducible assumption)) | (with_reducible refine bel_trans ?_ (HF.out _)) | (with_reducible refine bel_set ?_ (by simp) _) | (with_reducible refine bel_set ?_ (by simp; omega) _) | (with_reducible refine bel_set ?_ (by omega) _))))
            go_wp2_with fail
            refine wp_region_fam (by kernel_rfl) (by kernel_rfl) (fun ι F hne hF hcl => ?_)
            have hcF0 := fun n o => (bcell (hF n)).1 (w.heap.size) o (by first | (simp; done) | (simp; omega) | omega)
            have hcF1 := fun n o => (bcell (hF n)).1 (cb) o (by first | (simp; done) | (simp; omega) | omega)
            have HF := Lib.hid hF; clear hF
            have HC := Lib.hid hcl; clear hcl
            repeat (any_goals (first
             | go_big_quiet_step (first | (fail))
             | (refine wpQuiet_guard _ _ _ rfl rfl ?_; (fail_if_success (intro b' hb; have h2 := hb.symm; have : b' = true := h2.trans (by with_reducible rfl))); (fail_if_success (intro b' hb; have h2 := hb.symm; have : b' = false := h2.trans (by with_reducible rfl))); intro b' hb; simp only [hb]; cases b' <;> (try simp only [Bool.not_eq_true', Bool.not_eq_false', decide_eq_true_eq, decide_eq_false_iff_not, Int.not_lt, Int.not_le, Bool.and_eq_true, Bool.or_eq_true, Bool.or_eq_false_iff, beq_iff_eq, beq_eq_false_iff_ne, Int.natCast_pos] at hb))))
            all_goals (refine wpQuiet_nil ?_; intro nq)
            all_goals (try (exfalso; omega))
            have hFw7 := HF.out nq
            clear HF HC hne
            generalize F nq = w7 at *
            have hb7k : Below wk.heap.size wk w7 := bel_trans hb6k hFw7
            have hg7 : w.heap.size < w7.heap.size := Nat.lt_of_lt_of_le hgHB hb7k.size
            have hi7 : cb < w7.heap.size := Nat.lt_of_lt_of_le hcbl hb7k.size
            clear hcF0 hcF1
            clear b_0 b_1 b_2 b_3 b_4 b_5 c0 c1 c2 c3 c4 c5
            obtain ⟨b_0, b_1, b_2, b_3, b_4, b_5, c0, c1, c2, c3, c4, c5⟩ := HC12.out w7 (by (repeat (first | (with_reducible exact Below.refl _ _) | (with_reducible assumption) | (with_reducible apply bel_alloc) | (with_reducible apply bel_drew) | (with_reducible apply bel_drewN) | (with_reducible refine bel_trans ?_ (by with_reducible assumption)) | (with_reducible refine bel_trans ?_ (HF.out _)) | (with_reducible refine bel_set ?_ (by simp) _) | (with_reducible refine bel_set ?_ (by simp; omega) _) | (with_reducible refine bel_set ?_ (by omega) _))))
            go_wp2_with fail
            clear b_0 b_1 b_2 b_3 b_4 b_5 c0 c1 c2 c3 c4 c5
            go_region_held3 (fun X => X.cell? ⟨w.heap.size, 0, none⟩ = some (.int .i64 D.D.nodes) ∧ X.cell? ⟨w.heap.size, 1, none⟩ = some (.int .i64 D.D.low) ∧ X.cell? ⟨w.heap.size, 2, none⟩ = some (.slice dA dn dc) ∧ X.cell? ⟨w.heap.size, 3, none⟩ = some (.slice (some ⟨cb, coff, none⟩) cn cc) ∧ X.cell? ⟨w.heap.size, 4, none⟩ = some (.slice iA im ic) ∧ X.cell? ⟨w.heap.size, 5, none⟩ = some (.slice pA pn pc) ∧ X.cell? ⟨cb, coff + i * 6, none⟩ = some (.int .i64 C.h.au) ∧ X.cell? ⟨cb, coff + i * 6 + 1, none⟩ = some (.int .i64 C.h.ro) ∧ X.cell? ⟨cb, coff + i * 6 + 2, none⟩ = some (.slice bA bn bc) ∧ X.cell? ⟨cb, coff + i * 6 + 3, none⟩ = some (.slice qA qn qc) ∧ X.cell? ⟨cb, coff + i * 6 + 4, none⟩ = some (.int .i64 C.di) ∧ X.cell? ⟨cb, coff + i * 6 + 5, none⟩ = some (.slice sA sn sc))
              (exact HC12.out _ (by (repeat (first | (with_reducible exact Below.refl _ _) | (with_reducible assumption) | (with_reducible apply bel_alloc) | (with_reducible apply bel_drew) | (with_reducible apply bel_drewN) | (with_reducible refine bel_trans ?_ (by with_reducible assumption)) | (with_reducible refine bel_trans ?_ (HF.out _)) | (with_reducible refine bel_set ?_ (by simp) _) | (with_reducible refine bel_set ?_ (by simp; omega) _) | (with_reducible refine bel_set ?_ (by omega) _)))))
              ((go_at_call 53; refine (dag_Lacks dA dn dc D.D C bA qA sA bn bc qn qc sn sc 6 L _ (HD.out.up (bel_trans hbw (by (repeat (first | (with_reducible exact Below.refl _ _) | (with_reducible assumption) | (with_reducible apply bel_alloc) | (with_reducible apply bel_drew) | (with_reducible apply bel_drewN) | (with_reducible refine bel_trans ?_ (by with_reducible assumption)) | (with_reducible refine bel_trans ?_ (HF.out _)) | (with_reducible refine bel_set ?_ (by simp) _) | (with_reducible refine bel_set ?_ (by simp; omega) _) | (with_reducible refine bel_set ?_ (by omega) _)))))) (HCR.out.up (by (repeat (first | (with_reducible exact Below.refl _ _) | (with_reducible assumption) | (with_reducible apply bel_alloc) | (with_reducible apply bel_drew) | (with_reducible apply bel_drewN) | (with_reducible refine bel_trans ?_ (by with_reducible assumption)) | (with_reducible refine bel_trans ?_ (HF.out _)) | (with_reducible refine bel_set ?_ (by simp) _) | (with_reducible refine bel_set ?_ (by simp; omega) _) | (with_reducible refine bel_set ?_ (by omega) _))))) hdc hdm HLE.out HLL.out).mono ?_; rintro e w9 ⟨v9, rfl, hown9, hb9⟩; obtain ⟨A9, c9, rfl, hint9, _⟩ := hown9.ints hll9; have ho9 := OwnI.mono hown9 (Below.size (B := wk.heap.size) (w := wk) (by (repeat (first | (with_reducible exact Below.refl _ _) | (with_reducible assumption) | (with_reducible apply bel_alloc) | (with_reducible apply bel_drew) | (with_reducible apply bel_drewN) | (with_reducible refine bel_trans ?_ (by with_reducible assumption)) | (with_reducible refine bel_trans ?_ (HF.out _)) | (with_reducible refine bel_set ?_ (by simp) _) | (with_reducible refine bel_set ?_ (by simp; omega) _) | (with_reducible refine bel_set ?_ (by omega) _))))); have hb9k : Below wk.heap.size wk w9 := (by (repeat (first | (with_reducible exact Below.refl _ _) | (with_reducible assumption) | (with_reducible apply bel_alloc) | (with_reducible apply bel_drew) | (with_reducible apply bel_drewN) | (with_reducible refine bel_trans ?_ (by with_reducible assumption)) | (with_reducible refine bel_trans ?_ (HF.out _)) | (with_reducible refine bel_set ?_ (by simp) _) | (with_reducible refine bel_set ?_ (by simp; omega) _) | (with_reducible refine bel_set ?_ (by omega) _))))))
            have HO9 := Lib.hid ho9
            have HI9 := Lib.hid hint9
            have hz9 := hb9.size
            clear hown9 hint9 ho9
            go_wp2_with (go_at_call 44; refine (law14_num _ _).mono ?_; rintro e w' ⟨rfl, rfl⟩)
            refine (ref0_EqNumbers_same _ _ _ L _ _ _ _ HI9.out (HLN.out ▸ IntsR.nil _ _)).mono ?_
            rintro e w10 ⟨rfl, hb10⟩
            have hb10k := bel_trans hb9k hb10
            go_wp2_with fail
            refine (law0_Numbers _ L wk.heap.size _ (HO9.out.up hb10) hll1 hb10k.size).mono ?_
            rintro e w11 ⟨rfl, hb11⟩
            have hb11k : Below wk.heap.size wk w11 := hb10k.trans hb11
            go_wp2_with fail
            (first | (go_round; (case rel => exact ⟨i + 1, by omega, by go_num, HB.out.up hb11k, bel_trans hbw hb11k⟩); (case measure => (simp [intOf] <;> omega))) | (go_roundw; (case rel => exact ⟨i + 1, by omega, by go_num, HB.out.up hb11k, bel_trans hbw hb11k⟩); (case measure => (simp [intOf] <;> omega))) | (refine ⟨?_, by simp [intOf] <;> omega⟩; (repeat apply Exists.intro); refine ⟨?rel, ?fr⟩; (case fr => ((repeat' apply And.intro) <;> rfl)); (case rel => exact ⟨i + 1, by omega, by go_num, HB.out.up hb11k, bel_trans hbw hb11k⟩)))
          · have HCHK : Hid (chkE D.D = 0) := Lib.hid (by unfold chkE; rw [hm]; rfl)
            have hle : lkE D.D C = 0 := by unfold lkE; rw [if_pos ⟨hm, hce⟩, if_neg hlow]
            have hLL : L = lacksS D.D.certs D.D.low C.h := by rw [← hL]; unfold lkL; rw [if_pos hle]
            have HLW := Lib.hid hLL
            have HLE := Lib.hid hle
            have HLL := Lib.hid hL
            have HCE := Lib.hid hce
            have hbd := certS_bd hce
            have hr1 : 1 ≤ C.h.ro := hbd.2.2.2.2.2.1
            have hr2 : C.h.ro ≤ 1099511627776 := hbd.2.2.2.2.2.2.1
            clear hbd
            have hd : decide (C.h.ro ≤ D.D.low) = false := by simpa using hlow
            clear hlow
            have hll : (lacksS D.D.certs D.D.low C.h).length ≤ 9223372036854775807 := by rw [← hLL]; exact hll9
            clear hLL
            clear hle hL hm hce
            go_wp2_with fail
            refine (law14_check dA dn dc D.D 0 _ (HD.out.up hbw) HCHK.out).mono ?_
            rintro e w5 ⟨rfl, hb5⟩
            have hb5k : Below wk.heap.size wk w5 := hb5
            have hg5 : w.heap.size < w5.heap.size := Nat.lt_of_lt_of_le hgHB hb5k.size
            have hi5 : cb < w5.heap.size := Nat.lt_of_lt_of_le hcbl hb5k.size
            clear b_0 b_1 b_2 b_3 b_4 b_5 c0 c1 c2 c3 c4 c5
            obtain ⟨b_0, b_1, b_2, b_3, b_4, b_5, c0, c1, c2, c3, c4, c5⟩ := HC12.out w5 (by (repeat (first | (with_reducible exact Below.refl _ _) | (with_reducible assumption) | (with_reducible apply bel_alloc) | (with_reducible apply bel_drew) | (with_reducible apply bel_drewN) | (with_reducible refine bel_trans ?_ (by with_reducible assumption)) | (with_reducible refine bel_trans ?_ (HF.out _)) | (with_reducible refine bel_set ?_ (by simp) _) | (with_reducible refine bel_set ?_ (by simp; omega) _) | (with_reducible refine bel_set ?_ (by omega) _))))
            go_wp2_with fail
            refine wp_region_fam (by kernel_rfl) (by kernel_rfl) (fun ι F hne hF hcl => ?_)
            have hcF0 := fun n o => (bcell (hF n)).1 (w.heap.size) o (by first | (simp; done) | (simp; omega) | omega)
            have hcF1 := fun n o => (bcell (hF n)).1 (cb) o (by first | (simp; done) | (simp; omega) | omega)
            have hceq := HCE.out
            have HF := Lib.hid hF; clear hF
            have HC := Lib.hid hcl; clear hcl
            repeat (any_goals (first
             | go_big_quiet_step (first | (go_at_call 51; exact Calls.fam HC.out (ref4_Cert' C _ _ _ _ _ _ _ _ _ _ _ (HCR.out.up (bel_trans hb5k (HF.out _))))))
             | (refine wpQuiet_guard _ _ _ rfl rfl ?_; (fail_if_success (intro b' hb; have h2 := hb.symm; have : b' = true := h2.trans (by with_reducible rfl))); (fail_if_success (intro b' hb; have h2 := hb.symm; have : b' = false := h2.trans (by with_reducible rfl))); intro b' hb; simp only [hb]; cases b' <;> (try simp only [Bool.not_eq_true', Bool.not_eq_false', decide_eq_true_eq, decide_eq_false_iff_not, Int.not_lt, Int.not_le, Bool.and_eq_true, Bool.or_eq_true, Bool.or_eq_false_iff, beq_iff_eq, beq_eq_false_iff_ne, Int.natCast_pos] at hb))))
            all_goals (refine wpQuiet_nil ?_; intro nq)
            all_goals (try (exfalso; omega))
            have hFw6 := HF.out nq
            clear HF HC hne
            generalize F nq = w6 at *
            have hb6k : Below wk.heap.size wk w6 := bel_trans hb5k hFw6
            have hg6 : w.heap.size < w6.heap.size := Nat.lt_of_lt_of_le hgHB hb6k.size
            have hi6 : cb < w6.heap.size := Nat.lt_of_lt_of_le hcbl hb6k.size
            clear hcF0 hcF1
            clear b_0 b_1 b_2 b_3 b_4 b_5 c0 c1 c2 c3 c4 c5
            obtain ⟨b_0, b_1, b_2, b_3, b_4, b_5, c0, c1, c2, c3, c4, c5⟩ := HC12.out w6 (by (repeat (first | (with_reducible exact Below.refl _ _) | (with_reducible assumption) | (with_reducible apply bel_alloc) | (with_reducible apply bel_drew) | (with_reducible apply bel_drewN) | (with_reducible refine bel_trans ?_ (by with_reducible assumption)) | (with_reducible refine bel_trans ?_ (HF.out _)) | (with_reducible refine bel_set ?_ (by simp) _) | (with_reducible refine bel_set ?_ (by simp; omega) _) | (with_reducible refine bel_set ?_ (by omega) _))))
            go_wp2_with fail
            refine wp_region_fam (by kernel_rfl) (by kernel_rfl) (fun ι F hne hF hcl => ?_)
            have hcF0 := fun n o => (bcell (hF n)).1 (w.heap.size) o (by first | (simp; done) | (simp; omega) | omega)
            have hcF1 := fun n o => (bcell (hF n)).1 (cb) o (by first | (simp; done) | (simp; omega) | omega)
            have HF := Lib.hid hF; clear hF
            have HC := Lib.hid hcl; clear hcl
            repeat (any_goals (first
             | go_big_quiet_step (first | (fail))
             | (refine wpQuiet_guard _ _ _ rfl rfl ?_; (fail_if_success (intro b' hb; have h2 := hb.symm; have : b' = true := h2.trans (by with_reducible rfl))); (fail_if_success (intro b' hb; have h2 := hb.symm; have : b' = false := h2.trans (by with_reducible rfl))); intro b' hb; simp only [hb]; cases b' <;> (try simp only [Bool.not_eq_true', Bool.not_eq_false', decide_eq_true_eq, decide_eq_false_iff_not, Int.not_lt, Int.not_le, Bool.and_eq_true, Bool.or_eq_true, Bool.or_eq_false_iff, beq_iff_eq, beq_eq_false_iff_ne, Int.natCast_pos] at hb))))
            all_goals (refine wpQuiet_nil ?_; intro nq)
            all_goals (try (exfalso; omega))
            have hFw7 := HF.out nq
            clear HF HC hne
            generalize F nq = w7 at *
            have hb7k : Below wk.heap.size wk w7 := bel_trans hb6k hFw7
            have hg7 : w.heap.size < w7.heap.size := Nat.lt_of_lt_of_le hgHB hb7k.size
            have hi7 : cb < w7.heap.size := Nat.lt_of_lt_of_le hcbl hb7k.size
            clear hcF0 hcF1
            clear b_0 b_1 b_2 b_3 b_4 b_5 c0 c1 c2 c3 c4 c5
            obtain ⟨b_0, b_1, b_2, b_3, b_4, b_5, c0, c1, c2, c3, c4, c5⟩ := HC12.out w7 (by (repeat (first | (with_reducible exact Below.refl _ _) | (with_reducible assumption) | (with_reducible apply bel_alloc) | (with_reducible apply bel_drew) | (with_reducible apply bel_drewN) | (with_reducible refine bel_trans ?_ (by with_reducible assumption)) | (with_reducible refine bel_trans ?_ (HF.out _)) | (with_reducible refine bel_set ?_ (by simp) _) | (with_reducible refine bel_set ?_ (by simp; omega) _) | (with_reducible refine bel_set ?_ (by omega) _))))
            go_wp2_with fail
            clear b_0 b_1 b_2 b_3 b_4 b_5 c0 c1 c2 c3 c4 c5
            go_region_held3 (fun X => X.cell? ⟨w.heap.size, 0, none⟩ = some (.int .i64 D.D.nodes) ∧ X.cell? ⟨w.heap.size, 1, none⟩ = some (.int .i64 D.D.low) ∧ X.cell? ⟨w.heap.size, 2, none⟩ = some (.slice dA dn dc) ∧ X.cell? ⟨w.heap.size, 3, none⟩ = some (.slice (some ⟨cb, coff, none⟩) cn cc) ∧ X.cell? ⟨w.heap.size, 4, none⟩ = some (.slice iA im ic) ∧ X.cell? ⟨w.heap.size, 5, none⟩ = some (.slice pA pn pc) ∧ X.cell? ⟨cb, coff + i * 6, none⟩ = some (.int .i64 C.h.au) ∧ X.cell? ⟨cb, coff + i * 6 + 1, none⟩ = some (.int .i64 C.h.ro) ∧ X.cell? ⟨cb, coff + i * 6 + 2, none⟩ = some (.slice bA bn bc) ∧ X.cell? ⟨cb, coff + i * 6 + 3, none⟩ = some (.slice qA qn qc) ∧ X.cell? ⟨cb, coff + i * 6 + 4, none⟩ = some (.int .i64 C.di) ∧ X.cell? ⟨cb, coff + i * 6 + 5, none⟩ = some (.slice sA sn sc))
              (exact HC12.out _ (by (repeat (first | (with_reducible exact Below.refl _ _) | (with_reducible assumption) | (with_reducible apply bel_alloc) | (with_reducible apply bel_drew) | (with_reducible apply bel_drewN) | (with_reducible refine bel_trans ?_ (by with_reducible assumption)) | (with_reducible refine bel_trans ?_ (HF.out _)) | (with_reducible refine bel_set ?_ (by simp) _) | (with_reducible refine bel_set ?_ (by simp; omega) _) | (with_reducible refine bel_set ?_ (by omega) _)))))
              ((go_at_call 52; refine (ref14_Lacks dA dn dc D.D.certs _ _ ⟨⟨bA, bn, bc⟩, ⟨qA, qn, qc⟩⟩ C.h _ (HD.out.up (bel_trans hbw (by (repeat (first | (with_reducible exact Below.refl _ _) | (with_reducible assumption) | (with_reducible apply bel_alloc) | (with_reducible apply bel_drew) | (with_reducible apply bel_drewN) | (with_reducible refine bel_trans ?_ (by with_reducible assumption)) | (with_reducible refine bel_trans ?_ (HF.out _)) | (with_reducible refine bel_set ?_ (by simp) _) | (with_reducible refine bel_set ?_ (by simp; omega) _) | (with_reducible refine bel_set ?_ (by omega) _)))))) (HCR.out.1.up (by (repeat (first | (with_reducible exact Below.refl _ _) | (with_reducible assumption) | (with_reducible apply bel_alloc) | (with_reducible apply bel_drew) | (with_reducible apply bel_drewN) | (with_reducible refine bel_trans ?_ (by with_reducible assumption)) | (with_reducible refine bel_trans ?_ (HF.out _)) | (with_reducible refine bel_set ?_ (by simp) _) | (with_reducible refine bel_set ?_ (by simp; omega) _) | (with_reducible refine bel_set ?_ (by omega) _))))) (by omega) hqn hr1 hr2).mono ?_; rintro e w8 ⟨v8, rfl, hown8, hb8⟩; obtain ⟨A8, c8, rfl, hint8, _⟩ := hown8.ints (by exact hll); have hb8k : Below wk.heap.size wk w8 := (by (repeat (first | (with_reducible exact Below.refl _ _) | (with_reducible assumption) | (with_reducible apply bel_alloc) | (with_reducible apply bel_drew) | (with_reducible apply bel_drewN) | (with_reducible refine bel_trans ?_ (by with_reducible assumption)) | (with_reducible refine bel_trans ?_ (HF.out _)) | (with_reducible refine bel_set ?_ (by simp) _) | (with_reducible refine bel_set ?_ (by simp; omega) _) | (with_reducible refine bel_set ?_ (by omega) _))))))
            rw [← HLW.out] at hint8 ⊢
            clear hown8 hb8
            have HW := Lib.hid hint8
            clear hint8
            have hg8 : w.heap.size < w8.heap.size := Nat.lt_of_lt_of_le hgHB hb8k.size
            obtain ⟨b_0, b_1, b_2, b_3, b_4, b_5, c0, c1, c2, c3, c4, c5⟩ := HC12.out w8 (by (repeat (first | (with_reducible exact Below.refl _ _) | (with_reducible assumption) | (with_reducible apply bel_alloc) | (with_reducible apply bel_drew) | (with_reducible apply bel_drewN) | (with_reducible refine bel_trans ?_ (by with_reducible assumption)) | (with_reducible refine bel_trans ?_ (HF.out _)) | (with_reducible refine bel_set ?_ (by simp) _) | (with_reducible refine bel_set ?_ (by simp; omega) _) | (with_reducible refine bel_set ?_ (by omega) _))))
            go_wp2_with fail
            clear b_0 b_1 b_2 b_3 b_4 b_5 c0 c1 c2 c3 c4 c5
            go_region_held3 (fun X => X.cell? ⟨w.heap.size, 0, none⟩ = some (.int .i64 D.D.nodes) ∧ X.cell? ⟨w.heap.size, 1, none⟩ = some (.int .i64 D.D.low) ∧ X.cell? ⟨w.heap.size, 2, none⟩ = some (.slice dA dn dc) ∧ X.cell? ⟨w.heap.size, 3, none⟩ = some (.slice (some ⟨cb, coff, none⟩) cn cc) ∧ X.cell? ⟨w.heap.size, 4, none⟩ = some (.slice iA im ic) ∧ X.cell? ⟨w.heap.size, 5, none⟩ = some (.slice pA pn pc) ∧ X.cell? ⟨cb, coff + i * 6, none⟩ = some (.int .i64 C.h.au) ∧ X.cell? ⟨cb, coff + i * 6 + 1, none⟩ = some (.int .i64 C.h.ro) ∧ X.cell? ⟨cb, coff + i * 6 + 2, none⟩ = some (.slice bA bn bc) ∧ X.cell? ⟨cb, coff + i * 6 + 3, none⟩ = some (.slice qA qn qc) ∧ X.cell? ⟨cb, coff + i * 6 + 4, none⟩ = some (.int .i64 C.di) ∧ X.cell? ⟨cb, coff + i * 6 + 5, none⟩ = some (.slice sA sn sc))
              (exact HC12.out _ (by (repeat (first | (with_reducible exact Below.refl _ _) | (with_reducible assumption) | (with_reducible apply bel_alloc) | (with_reducible apply bel_drew) | (with_reducible apply bel_drewN) | (with_reducible refine bel_trans ?_ (by with_reducible assumption)) | (with_reducible refine bel_trans ?_ (HF.out _)) | (with_reducible refine bel_set ?_ (by simp) _) | (with_reducible refine bel_set ?_ (by simp; omega) _) | (with_reducible refine bel_set ?_ (by omega) _)))))
              ((go_at_call 53; refine (dag_Lacks dA dn dc D.D C bA qA sA bn bc qn qc sn sc 0 L _ (HD.out.up (bel_trans hbw (by (repeat (first | (with_reducible exact Below.refl _ _) | (with_reducible assumption) | (with_reducible apply bel_alloc) | (with_reducible apply bel_drew) | (with_reducible apply bel_drewN) | (with_reducible refine bel_trans ?_ (by with_reducible assumption)) | (with_reducible refine bel_trans ?_ (HF.out _)) | (with_reducible refine bel_set ?_ (by simp) _) | (with_reducible refine bel_set ?_ (by simp; omega) _) | (with_reducible refine bel_set ?_ (by omega) _)))))) (HCR.out.up (by (repeat (first | (with_reducible exact Below.refl _ _) | (with_reducible assumption) | (with_reducible apply bel_alloc) | (with_reducible apply bel_drew) | (with_reducible apply bel_drewN) | (with_reducible refine bel_trans ?_ (by with_reducible assumption)) | (with_reducible refine bel_trans ?_ (HF.out _)) | (with_reducible refine bel_set ?_ (by simp) _) | (with_reducible refine bel_set ?_ (by simp; omega) _) | (with_reducible refine bel_set ?_ (by omega) _))))) hdc hdm HLE.out HLL.out).mono ?_; rintro e w9 ⟨v9, rfl, hown9, hb9⟩; obtain ⟨A9, c9, rfl, hint9, _⟩ := hown9.ints hll9; have ho9 := OwnI.mono hown9 (Below.size (B := wk.heap.size) (w := wk) (by (repeat (first | (with_reducible exact Below.refl _ _) | (with_reducible assumption) | (with_reducible apply bel_alloc) | (with_reducible apply bel_drew) | (with_reducible apply bel_drewN) | (with_reducible refine bel_trans ?_ (by with_reducible assumption)) | (with_reducible refine bel_trans ?_ (HF.out _)) | (with_reducible refine bel_set ?_ (by simp) _) | (with_reducible refine bel_set ?_ (by simp; omega) _) | (with_reducible refine bel_set ?_ (by omega) _))))); have hb9k : Below wk.heap.size wk w9 := (by (repeat (first | (with_reducible exact Below.refl _ _) | (with_reducible assumption) | (with_reducible apply bel_alloc) | (with_reducible apply bel_drew) | (with_reducible apply bel_drewN) | (with_reducible refine bel_trans ?_ (by with_reducible assumption)) | (with_reducible refine bel_trans ?_ (HF.out _)) | (with_reducible refine bel_set ?_ (by simp) _) | (with_reducible refine bel_set ?_ (by simp; omega) _) | (with_reducible refine bel_set ?_ (by omega) _))))))
            have HO9 := Lib.hid ho9
            have HI9 := Lib.hid hint9
            have hz9 := hb9.size
            clear hown9 hint9 ho9
            go_wp2_with (go_at_call 44; refine (law14_num _ _).mono ?_; rintro e w' ⟨rfl, rfl⟩)
            refine (ref0_EqNumbers_same _ _ _ L _ _ _ _ HI9.out (HW.out.up (bel_trans (bel_drew (Below.refl _ _)) hb9))).mono ?_
            rintro e w10 ⟨rfl, hb10⟩
            have hb10k := bel_trans hb9k hb10
            go_wp2_with fail
            refine (law0_Numbers _ L wk.heap.size _ (HO9.out.up hb10) hll1 hb10k.size).mono ?_
            rintro e w11 ⟨rfl, hb11⟩
            have hb11k : Below wk.heap.size wk w11 := hb10k.trans hb11
            go_wp2_with fail
            (first | (go_round; (case rel => exact ⟨i + 1, by omega, by go_num, HB.out.up hb11k, bel_trans hbw hb11k⟩); (case measure => (simp [intOf] <;> omega))) | (go_roundw; (case rel => exact ⟨i + 1, by omega, by go_num, HB.out.up hb11k, bel_trans hbw hb11k⟩); (case measure => (simp [intOf] <;> omega))) | (refine ⟨?_, by simp [intOf] <;> omega⟩; (repeat apply Exists.intro); refine ⟨?rel, ?fr⟩; (case fr => ((repeat' apply And.intro) <;> rfl)); (case rel => exact ⟨i + 1, by omega, by go_num, HB.out.up hb11k, bel_trans hbw hb11k⟩)))
    · obtain ⟨b_0, b_1, b_2, b_3, b_4, b_5⟩ : wk.cell? ⟨w.heap.size, 0, none⟩ = some (.int .i64 D.D.nodes) ∧ wk.cell? ⟨w.heap.size, 1, none⟩ = some (.int .i64 D.D.low) ∧ wk.cell? ⟨w.heap.size, 2, none⟩ = some (.slice dA dn dc) ∧ wk.cell? ⟨w.heap.size, 3, none⟩ = some (.slice cA cn cc) ∧ wk.cell? ⟨w.heap.size, 4, none⟩ = some (.slice iA im ic) ∧ wk.cell? ⟨w.heap.size, 5, none⟩ = some (.slice pA pn pc) := ⟨HB.out.2 0 _ rfl, HB.out.2 1 _ rfl, HB.out.2 2 _ rfl, HB.out.2 3 _ rfl, HB.out.2 4 _ rfl, HB.out.2 5 _ rfl⟩
      go_wp2_with fail
      refine (law14_wakes _).mono ?_
      rintro e w9 ⟨rfl, hb9⟩
      go_wp2_with fail
      go_ret
      exact ⟨rfl, bel_trans hbw hb9⟩
end Go.Proofs.Ytfkbilbgndekkaa
