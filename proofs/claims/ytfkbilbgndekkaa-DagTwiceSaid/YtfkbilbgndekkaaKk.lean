/- The law DagTwice. -/
import Derived.Test.YtfkbilbgndekkaaKh
namespace Go.Proofs.Ytfkbilbgndekkaa
open Go.RowKit
set_option linter.unusedSimpArgs false
set_option linter.unusedVariables false

theorem at_self {l : List CertD} (hP : Places l) {i : Nat} (hi : i < l.length) : atS l (cth l i).h.ro (cth l i).h.au = (i : Int) := by
  rcases atS_cases l (cth l i).h.ro (cth l i).h.au with ⟨_, h2⟩ | ⟨j, h1, h2, h3, _⟩
  · exact absurd ⟨rfl, rfl⟩ (h2 i hi)
  · rw [h2]
    rcases Nat.lt_trichotomy i j with h | h | h
    · have := befS_iff.1 (hP.1 i j h h1); omega
    · rw [h]
    · have := befS_iff.1 (hP.1 j i h hi); omega
theorem head_with {H : HeaderD} {n au : Int} (h : headS H n = true) (h1 : 1 ≤ au) (h2 : au ≤ n) : headS ⟨au, H.ro, H.ba, H.pa⟩ n = true := by
  simp only [headS, Bool.and_eq_true, decide_eq_true_eq] at h ⊢
  obtain ⟨⟨⟨⟨⟨⟨⟨a, b⟩, c⟩, d⟩, e⟩, f⟩, g⟩, k⟩ := h
  exact ⟨⟨⟨⟨⟨⟨⟨a, h1⟩, h2⟩, d⟩, e⟩, f⟩, g⟩, k⟩
theorem cert_with {C : CertD} {n au di : Int} (h : certS C n = true) (h1 : 1 ≤ au) (h2 : au ≤ n) (h3 : digS di = true) : certS ⟨⟨au, C.h.ro, C.h.ba, C.h.pa⟩, di, C.si⟩ n = true := by
  have hh := head_with (certS_hd h) h1 h2
  simp only [certS, Bool.and_eq_true, decide_eq_true_eq] at h ⊢
  obtain ⟨⟨⟨a, b⟩, c⟩, d⟩ := h
  exact ⟨⟨⟨hh, h3⟩, c⟩, d⟩
/-- What is there, put in again; with another digest; from another author. -/
theorem twice_there {D : DagD} (hm : mayS D = true) {i : Nat} (hi : i < D.certs.length) : addE D (cth D.certs i) = 4 := by
  have hok := mayS_iff.1 hm
  have hc := (hok.2.2.2.2 i hi)
  have ha := at_self hok.places hi
  unfold addE putE
  rw [if_pos ⟨hm, hc.1⟩, if_neg (by have := hc.2.1; omega), ha, if_pos (by omega), Int.toNat_natCast, if_pos rfl]
theorem twice_digest {D : DagD} (hm : mayS D = true) {i : Nat} (hi : i < D.certs.length) {di : Int} (h : digS di = true) (hne : di ≠ (cth D.certs i).di) : addE D ⟨(cth D.certs i).h, di, (cth D.certs i).si⟩ = 5 := by
  have hok := mayS_iff.1 hm
  have hc := (hok.2.2.2.2 i hi)
  have ha := at_self hok.places hi
  have hbd := certS_bd hc.1
  have hce : certS ⟨(cth D.certs i).h, di, (cth D.certs i).si⟩ D.nodes = true := cert_with (au := (cth D.certs i).h.au) hc.1 (headS_bd (certS_hd hc.1)).2.2.2.1 (headS_bd (certS_hd hc.1)).2.2.2.2.1 h
  unfold addE putE
  rw [if_pos ⟨hm, hce⟩, if_neg (by have := hc.2.1; show ¬ (cth D.certs i).h.ro ≤ _; omega)]
  dsimp only
  rw [ha, if_pos (by omega), Int.toNat_natCast, if_neg (fun e => hne e.symm)]
theorem twice_author {D : DagD} (hm : mayS D = true) {i : Nat} (hi : i < D.certs.length) {au : Int} (h1 : 1 ≤ au) (h2 : au ≤ D.nodes) (hne : au ≠ (cth D.certs i).h.au) : addE D ⟨⟨au, (cth D.certs i).h.ro, (cth D.certs i).h.ba, (cth D.certs i).h.pa⟩, (cth D.certs i).di, (cth D.certs i).si⟩ = 5 := by
  have hok := mayS_iff.1 hm
  have hc := (hok.2.2.2.2 i hi)
  have hdg : digS (cth D.certs i).di = true := by
    have := hc.1
    simp only [certS, Bool.and_eq_true] at this
    exact this.1.1.2
  have hce := cert_with (au := au) hc.1 h1 h2 hdg
  have hf := hok.dist.find hi
  unfold addE putE
  rw [if_pos ⟨hm, hce⟩, if_neg (by have := hc.2.1; show ¬ (cth D.certs i).h.ro ≤ _; omega)]
  dsimp only
  by_cases h : 0 ≤ atS D.certs (cth D.certs i).h.ro au
  · rw [if_pos h, if_neg]
    intro e
    rcases atS_cases D.certs (cth D.certs i).h.ro au with ⟨g1, _⟩ | ⟨j, g1, g2, g3, _⟩
    · omega
    · rw [g2, Int.toNat_natCast] at e
      have := hok.dist.eq g1 hi e
      subst this
      exact hne g3.2.symm
  · rw [if_neg h, hf, if_pos (by omega)]
theorem dag_Add_no (A : Option Addr) (n c : Nat) (D : DagD) (C : CertD) (bA pA sA : Option Addr) (bn bc pn pc sn sc : Nat) (y : Int) (w : World) (hl : CertsR w A n D.certs) (hr : CertR w ⟨⟨⟨bA, bn, bc⟩, ⟨pA, pn, pc⟩⟩, ⟨sA, sn, sc⟩⟩ C) (hy : addE D C = y) (hy0 : y ≠ 0) :
    Calls Try.prog 43 #[.agg #[.int .i64 D.nodes, .int .i64 D.low, .slice A n c], .agg #[.int .i64 C.h.au, .int .i64 C.h.ro, .slice bA bn bc, .slice pA pn pc, .int .i64 C.di, .slice sA sn sc]] w fun e w' => ∃ A' c', e = .returned (.tuple #[.agg #[.int .i64 0, .int .i64 0, .slice A' 0 c'], .int .i64 y]) ∧ Below w.heap.size w w' :=
  (dag_Add A n c D C bA pA sA bn bc pn pc sn sc y ⟨0, 0, []⟩ w hl hr hy (by unfold addD; rw [if_neg (by rw [hy]; exact hy0)])).mono fun e w' ⟨v, qs, he, ho, hb⟩ => by
    obtain ⟨A', c', e', _⟩ := own_row ho.1 (by simp)
    subst e'
    exact ⟨A', c', he, hb⟩
set_option maxRecDepth 100000 in
set_option maxHeartbeats 16000000 in
theorem law_DagTwice (P : AskP) (D : AskD) (w : World) (h : AskR w P D) :
    Calls Try.prog 9 #[askV P D] w fun e w' => e = .returned (.bool true) ∧ Below w.heap.size w w' := by
  obtain ⟨⟨dA, dn, dc⟩, ⟨cA, cn, cc⟩, ⟨iA, im, ic⟩, ⟨pA, pn, pc⟩⟩ := P
  have H := Lib.hid h
  have HD : Hid (CertsR w dA dn D.D.certs) := Lib.hid h.d
  have HC : Hid (CertsR w cA cn D.C) := Lib.hid h.c
  have HI : Hid (IntsR w iA im D.I) := Lib.hid h.i
  have HP : Hid (FloatsR w pA pn D.P) := Lib.hid h.p
  have hdc : dn ≤ dc := h.dc
  have hdm : dc ≤ 9223372036854775807 := h.dm
  clear h
  show Calls Try.prog 9 #[.agg #[.int .i64 D.D.nodes, .int .i64 D.D.low, .slice dA dn dc, .slice cA cn cc, .slice iA im ic, .slice pA pn pc]] w _
  go_enter Try.func9, Try.ntmps9
  go_wp2_with fail
  refine (law14_heavy ⟨⟨dA, dn, dc⟩, ⟨cA, cn, cc⟩, ⟨iA, im, ic⟩, ⟨pA, pn, pc⟩⟩ D _ (H.out.up (by (repeat (first | (with_reducible exact Below.refl _ _) | (with_reducible assumption) | (with_reducible apply bel_alloc) | (with_reducible apply bel_drew) | (with_reducible apply bel_drewN) | (with_reducible refine bel_trans ?_ (by with_reducible assumption)) | (with_reducible refine bel_trans ?_ (HF.out _)) | (with_reducible refine bel_set ?_ (by simp) _) | (with_reducible refine bel_set ?_ (by simp; omega) _) | (with_reducible refine bel_set ?_ (by omega) _)))))).mono ?_
  rintro e w1 ⟨⟨x, rfl, hx⟩, hb1⟩
  cases x
  case true =>
    clear hx
    go_wp2_with fail
    go_ret
    exact ⟨rfl, by (repeat (first | (with_reducible exact Below.refl _ _) | (with_reducible assumption) | (with_reducible apply bel_alloc) | (with_reducible apply bel_drew) | (with_reducible apply bel_drewN) | (with_reducible refine bel_trans ?_ (by with_reducible assumption)) | (with_reducible refine bel_trans ?_ (HF.out _)) | (with_reducible refine bel_set ?_ (by simp) _) | (with_reducible refine bel_set ?_ (by simp; omega) _) | (with_reducible refine bel_set ?_ (by omega) _)))⟩
  case false =>
  have hLt := hx rfl
  have hLd : Light D.D.certs := hLt.d
  have hd80 : dn ≤ 80 := by rw [← HD.out.1]; exact hLd.1
  have hc40 : cn ≤ 40 := hLt.cn
  have hi40 : im ≤ 40 := hLt.i
  have hp40 : pn ≤ 40 := hLt.p
  have hlc : ∀ k, k < cn → LightC (cth D.C k) := hLt.c
  have HLD := Lib.hid hLd
  have HLC := Lib.hid hlc
  have hB1 : BoxR w1 w.heap.size [.int .i64 D.D.nodes, .int .i64 D.D.low, .slice dA dn dc, .slice cA cn cc, .slice iA im ic, .slice pA pn pc] := (BoxR.new w [.int .i64 D.D.nodes, .int .i64 D.D.low, .slice dA dn dc, .slice cA cn cc, .slice iA im ic, .slice pA pn pc] 58).up hb1
  have hbw1 : Below w.heap.size w w1 := by (repeat (first | (with_reducible exact Below.refl _ _) | (with_reducible assumption) | (with_reducible apply bel_alloc) | (with_reducible apply bel_drew) | (with_reducible apply bel_drewN) | (with_reducible refine bel_trans ?_ (by with_reducible assumption)) | (with_reducible refine bel_trans ?_ (HF.out _)) | (with_reducible refine bel_set ?_ (by simp) _) | (with_reducible refine bel_set ?_ (by simp; omega) _) | (with_reducible refine bel_set ?_ (by omega) _)))
  clear hx hLt hLd hlc hb1
  have HB1 := Lib.hid hB1
  have hg1 := hB1.1
  have b_0 := (hB1).2 0 _ rfl; have b_1 := (hB1).2 1 _ rfl; have b_2 := (hB1).2 2 _ rfl; have b_3 := (hB1).2 3 _ rfl; have b_4 := (hB1).2 4 _ rfl; have b_5 := (hB1).2 5 _ rfl
  clear hB1
  cases hm : mayS D.D
  · have HM : Hid (chkE D.D = 1) := Lib.hid (by unfold chkE; rw [hm]; rfl)
    clear hm
    go_wp2_with fail
    refine (dag_Check dA dn dc D.D 1 _ (HD.out.up hbw1) HM.out).mono ?_
    rintro e w2 ⟨rfl, hb2⟩
    go_wp2_with (go_at_call 44; refine (law14_num _ _).mono ?_; rintro e w' ⟨rfl, rfl⟩)
    go_ret
    exact ⟨rfl, bel_trans hbw1 hb2⟩
  · have HMM : Hid (chkE D.D = 0) := Lib.hid (by unfold chkE; rw [hm]; rfl)
    have HM := Lib.hid hm
    clear hm
    go_wp2_with fail
    refine (dag_Check dA dn dc D.D 0 _ (HD.out.up hbw1) HMM.out).mono ?_
    rintro e w2 ⟨rfl, hb2⟩
    replace hbw1 := bel_trans hbw1 hb2
    replace HB1 := Lib.hid (HB1.out.up hb2)
    clear b_0 b_1 b_2 b_3 b_4 b_5
    go_wp2_with (go_at_call 44; refine (law14_num _ _).mono ?_; rintro e w' ⟨rfl, rfl⟩)
    go_loopw [3] (fun si wr => ∃ i : Nat, i ≤ dn ∧ si = .int .i64 i ∧ BoxR wr w.heap.size [.int .i64 D.D.nodes, .int .i64 D.D.low, .slice dA dn dc, .slice cA cn cc, .slice iA im ic, .slice pA pn pc] ∧ Below w.heap.size w wr) (fun si _ => dn - (intOf si).toNat)
    case atStart => exact ⟨0, Nat.zero_le _, rfl, HB1.out, hbw1⟩
    case round =>
      obtain ⟨i, hi, rfl, hB, hbw⟩ := hrel
      (obtain ⟨wk, hwk⟩ : ∃ x, x = wr := ⟨_, rfl⟩); subst hwk
      have hgHB := hB.1
      have HB := Lib.hid hB
      clear hB
      by_cases hlt : i < dn ∧ i < 20
      · obtain ⟨hlt1, hlt2⟩ := hlt
        have hlt3 : decide ((i : Int) < 20) = true := by simp; omega
        obtain ⟨db, doff, rfl, hdb, hcc⟩ := (HD.out.up hbw).2.2 (by omega)
        obtain ⟨p, hat, hcr⟩ := hcc i hlt1
        obtain ⟨C, hCC⟩ : ∃ C, C = cth D.D.certs i := ⟨_, rfl⟩
        have hil : i < D.D.certs.length := by rw [HD.out.1]; exact hlt1
        have hcok := ((mayS_iff.1 HM.out).2.2.2.2 i hil).1
        have hlj := HLD.out.2 i hil
        have he1 := twice_there HM.out hil
        rw [← hCC] at hat hcr hlj hcok he1
        obtain ⟨⟨⟨bA, bn, bc⟩, ⟨qA, qn, qc⟩⟩, ⟨sA, sn, sc⟩⟩ := p
        have hq1 : bn ≤ 1000000000 := by have h1 := hlj.1; have h2 := hcr.1.1.1; dsimp only at h2; omega
        have hq2 : qn ≤ 1000000000 := by have h1 := hlj.2.1; have h2 := hcr.1.2.1; dsimp only at h2; omega
        have hq3 : sn ≤ 1000000000 := by have h1 := hlj.2.2; have h2 := hcr.2.1; dsimp only at h2; omega
        have hhb := headS_bd (certS_hd hcok)
        have hau1 : 1 ≤ C.h.au := hhb.2.2.2.1
        have hau2 : C.h.au ≤ D.D.nodes := hhb.2.2.2.2.1
        have hnn2 : D.D.nodes ≤ 16 := hhb.2.1
        have hdg : 1 ≤ C.di ∧ C.di ≤ 65536 := by
          have := hcok
          simp only [certS, Bool.and_eq_true] at this
          exact digS_iff.1 this.1.1.2
        have hdg1 : 1 ≤ C.di := hdg.1
        have hdg2 : C.di ≤ 65536 := hdg.2
        obtain ⟨d2, hd2⟩ : ∃ d2, d2 = 1 + C.di % 65536 := ⟨_, rfl⟩
        obtain ⟨a2, ha2⟩ : ∃ a2, a2 = 1 + C.h.au % D.D.nodes := ⟨_, rfl⟩
        have hd2t : C.di.tmod 65536 = d2 - 1 := by rw [hd2, Int.tmod_eq_emod_of_nonneg (by omega)]; omega
        have hd2e : C.di % 65536 = d2 - 1 := by omega
        have ham := Int.emod_nonneg C.h.au (show D.D.nodes ≠ 0 by omega)
        have ham2 := Int.emod_lt_of_pos C.h.au (show 0 < D.D.nodes by omega)
        have ha2t : C.h.au.tmod D.D.nodes = a2 - 1 := by rw [ha2, Int.tmod_eq_emod_of_nonneg (by omega)]; omega
        have ha2e : C.h.au % D.D.nodes = a2 - 1 := by omega
        have hd2b : 1 ≤ d2 ∧ d2 ≤ 65536 ∧ d2 ≠ C.di := by omega
        have ha2b : 1 ≤ a2 ∧ a2 ≤ D.D.nodes := by omega
        have ha2n : 1 < D.D.nodes → a2 ≠ C.h.au := fun h => by
          rcases Int.lt_or_le C.h.au D.D.nodes with h1 | h1
          · rw [Int.emod_eq_of_lt (by omega) h1] at ha2; omega
          · have : C.h.au = D.D.nodes := by omega
            rw [this, Int.emod_self] at ha2; omega
        have ha2o : ¬ 1 < D.D.nodes → a2 = C.h.au := fun h => by
          have : D.D.nodes = 1 := by omega
          rw [this, Int.emod_one] at ha2; omega
        have he2 : addE D.D ⟨C.h, d2, C.si⟩ = 5 := by rw [hCC]; exact twice_digest HM.out hil (digS_iff.2 ⟨hd2b.1, hd2b.2.1⟩) (by rw [← hCC]; exact hd2b.2.2)
        obtain ⟨y3, hy3⟩ : ∃ y3, addE D.D ⟨⟨a2, C.h.ro, C.h.ba, C.h.pa⟩, C.di, C.si⟩ = y3 := ⟨_, rfl⟩
        have hy31 : y3 ≠ 0 ∧ (1 < D.D.nodes → y3 = 5) := by
          by_cases hn1 : 1 < D.D.nodes
          · have h5 := twice_author HM.out hil ha2b.1 ha2b.2 (by rw [← hCC]; exact ha2n hn1)
            rw [← hCC, hy3] at h5
            exact ⟨by omega, fun _ => h5⟩
          · rw [ha2o hn1] at hy3
            have h5 : y3 = 4 := by rw [← hy3]; exact he1
            exact ⟨by omega, fun h => absurd h hn1⟩
        have HCR := Lib.hid hcr
        have HE1 := Lib.hid he1
        have HE2 := Lib.hid he2
        have HE3 := Lib.hid hy3
        have HE30 := Lib.hid hy31.1
        have HE35 := Lib.hid hy31.2
        have HD2T := Lib.hid hd2t
        have HD2E := Lib.hid hd2e
        have HA2T := Lib.hid ha2t
        have HA2E := Lib.hid ha2e
        obtain ⟨hd21, hd22, _⟩ := hd2b
        obtain ⟨ha21, ha22⟩ := ha2b
        have hcells : ∀ X, Below wk.heap.size wk X → X.cell? ⟨w.heap.size, 0, none⟩ = some (.int .i64 D.D.nodes) ∧ X.cell? ⟨w.heap.size, 1, none⟩ = some (.int .i64 D.D.low) ∧ X.cell? ⟨w.heap.size, 2, none⟩ = some (.slice (some ⟨db, doff, none⟩) dn dc) ∧ X.cell? ⟨w.heap.size, 3, none⟩ = some (.slice cA cn cc) ∧ X.cell? ⟨w.heap.size, 4, none⟩ = some (.slice iA im ic) ∧ X.cell? ⟨w.heap.size, 5, none⟩ = some (.slice pA pn pc) ∧ X.cell? ⟨db, doff + i * 6, none⟩ = some (.int .i64 C.h.au) ∧ X.cell? ⟨db, doff + i * 6 + 1, none⟩ = some (.int .i64 C.h.ro) ∧ X.cell? ⟨db, doff + i * 6 + 2, none⟩ = some (.slice bA bn bc) ∧ X.cell? ⟨db, doff + i * 6 + 3, none⟩ = some (.slice qA qn qc) ∧ X.cell? ⟨db, doff + i * 6 + 4, none⟩ = some (.int .i64 C.di) ∧ X.cell? ⟨db, doff + i * 6 + 5, none⟩ = some (.slice sA sn sc) := fun X hX => by
          obtain ⟨c0, c1, c2, c3, c4, c5⟩ := hat.up hX hdb
          exact ⟨(HB.out.up hX).2 0 _ rfl, (HB.out.up hX).2 1 _ rfl, (HB.out.up hX).2 2 _ rfl, (HB.out.up hX).2 3 _ rfl, (HB.out.up hX).2 4 _ rfl, (HB.out.up hX).2 5 _ rfl, c0, c1, c2, c3, c4, c5⟩
        have HC12 := Lib.hid hcells
        clear hcc hat hcr hcells hlj hCC hcok hhb hdg he1 he2 hy3 hy31 hd2t hd2e ha2t ha2e hd2 ha2 ham ham2 ha2n ha2o hil
        obtain ⟨b_0, b_1, b_2, b_3, b_4, b_5, c0, c1, c2, c3, c4, c5⟩ := HC12.out wk (by (repeat (first | (with_reducible exact Below.refl _ _) | (with_reducible assumption) | (with_reducible apply bel_alloc) | (with_reducible apply bel_drew) | (with_reducible apply bel_drewN) | (with_reducible refine bel_trans ?_ (by with_reducible assumption)) | (with_reducible refine bel_trans ?_ (HF.out _)) | ((with_reducible refine bel_set3 ?_ ?_); rotate_left; omega))))
        go_wp2_with fail
        refine (ref0_CopyCert C bA qA sA bn bc qn qc sn sc _ HCR.out hq1 hq2 hq3).mono ?_
        rintro e w2 ⟨p2, rfl, hR2, hN2, hb2⟩
        obtain ⟨⟨⟨b2A, b2n, b2c⟩, ⟨q2A, q2n, q2c⟩⟩, ⟨s2A, s2n, s2c⟩⟩ := p2
        have HR2 := Lib.hid hR2
        have hg2 : w.heap.size < w2.heap.size := Nat.lt_of_lt_of_le hgHB hb2.size
        have hi2 : db < w2.heap.size := Nat.lt_of_lt_of_le hdb hb2.size
        have hk2 : wk.heap.size ≤ w2.heap.size := hb2.size
        clear b_0 b_1 b_2 b_3 b_4 b_5 c0 c1 c2 c3 c4 c5
        obtain ⟨b_0, b_1, b_2, b_3, b_4, b_5, c0, c1, c2, c3, c4, c5⟩ := HC12.out w2 (by (repeat (first | (with_reducible exact Below.refl _ _) | (with_reducible assumption) | (with_reducible apply bel_alloc) | (with_reducible apply bel_drew) | (with_reducible apply bel_drewN) | (with_reducible refine bel_trans ?_ (by with_reducible assumption)) | (with_reducible refine bel_trans ?_ (HF.out _)) | ((with_reducible refine bel_set3 ?_ ?_); rotate_left; omega))))
        clear hR2 hN2
        dsimp only
        go_wp2_with fail
        have hX : Blk (w2.alloc (.cells #[.int .i64 C.h.au, .int .i64 C.h.ro, .slice b2A b2n b2c, .slice q2A q2n q2c, .int .i64 C.di, .slice s2A s2n s2c] 48)) w2.heap.size 48 [.int .i64 C.h.au, .int .i64 C.h.ro, .slice b2A b2n b2c, .slice q2A q2n q2c, .int .i64 C.di, .slice s2A s2n s2c] := Blk.new w2 48 [.int .i64 C.h.au, .int .i64 C.h.ro, .slice b2A b2n b2c, .slice q2A q2n q2c, .int .i64 C.di, .slice s2A s2n s2c]
        have hbX : Below w2.heap.size w2 (w2.alloc (.cells #[.int .i64 C.h.au, .int .i64 C.h.ro, .slice b2A b2n b2c, .slice q2A q2n q2c, .int .i64 C.di, .slice s2A s2n s2c] 48)) := by (repeat (first | (with_reducible exact Below.refl _ _) | (with_reducible assumption) | (with_reducible apply bel_alloc) | (with_reducible apply bel_drew) | (with_reducible apply bel_drewN) | (with_reducible refine bel_trans ?_ (by with_reducible assumption)) | (with_reducible refine bel_trans ?_ (HF.out _)) | (with_reducible refine bel_set ?_ (by simp) _) | (with_reducible refine bel_set ?_ (by simp; omega) _) | (with_reducible refine bel_set ?_ (by omega) _)))
        generalize (w2.alloc (.cells #[.int .i64 C.h.au, .int .i64 C.h.ro, .slice b2A b2n b2c, .slice q2A q2n q2c, .int .i64 C.di, .slice s2A s2n s2c] 48)) = X at *
        have hbkX : Below wk.heap.size wk X := bel_trans hb2 hbX
        refine (dag_Add_no (some ⟨db, doff, none⟩) dn dc D.D C b2A q2A s2A b2n b2c q2n q2c s2n s2c 4 _ (HD.out.up (bel_trans hbw hbkX)) (HR2.out.up hbX) HE1.out (by omega)).mono ?_
        rintro e w3 ⟨rA3, rc3, rfl, hb3⟩
        have hb23 : Below w2.heap.size w2 w3 := bel_trans hbX hb3
        have hbk3 : Below wk.heap.size wk w3 := bel_trans hbkX hb3
        have hX3 := hX.up hb3
        have hg3 : w.heap.size < w3.heap.size := Nat.lt_of_lt_of_le hg2 hb23.size
        have hi3 : db < w3.heap.size := Nat.lt_of_lt_of_le hi2 hb23.size
        have hgx3 := hX3.lt
        have hfx3 := hX3.frozen
        have x_0 := (hX3.box).2 0 _ rfl; have x_1 := (hX3.box).2 1 _ rfl; have x_2 := (hX3.box).2 2 _ rfl; have x_3 := (hX3.box).2 3 _ rfl; have x_4 := (hX3.box).2 4 _ rfl; have x_5 := (hX3.box).2 5 _ rfl
        clear b_0 b_1 b_2 b_3 b_4 b_5 c0 c1 c2 c3 c4 c5
        obtain ⟨b_0, b_1, b_2, b_3, b_4, b_5, c0, c1, c2, c3, c4, c5⟩ := HC12.out w3 (by (repeat (first | (with_reducible exact Below.refl _ _) | (with_reducible assumption) | (with_reducible apply bel_alloc) | (with_reducible apply bel_drew) | (with_reducible apply bel_drewN) | (with_reducible refine bel_trans ?_ (by with_reducible assumption)) | (with_reducible refine bel_trans ?_ (HF.out _)) | ((with_reducible refine bel_set3 ?_ ?_); rotate_left; omega))))
        have hd2t := HD2T.out
        have hd2e := HD2E.out
        go_wp2_with fail
        rw [show (1 + (d2 - 1) : Int) = d2 by omega]
        have hY : Blk ((w3.setCell ⟨w2.heap.size, 4, none⟩ (.int .i64 d2)).alloc (.cells #[.int .i64 0, .int .i64 0, .slice rA3 0 rc3] 24)) w2.heap.size 48 [.int .i64 C.h.au, .int .i64 C.h.ro, .slice b2A b2n b2c, .slice q2A q2n q2c, .int .i64 d2, .slice s2A s2n s2c] := (hX3.set_ 4 (.int .i64 d2)).up (by (repeat (first | (with_reducible exact Below.refl _ _) | (with_reducible assumption) | (with_reducible apply bel_alloc) | (with_reducible apply bel_drew) | (with_reducible apply bel_drewN) | (with_reducible refine bel_trans ?_ (by with_reducible assumption)) | (with_reducible refine bel_trans ?_ (HF.out _)) | (with_reducible refine bel_set ?_ (by simp) _) | (with_reducible refine bel_set ?_ (by simp; omega) _) | (with_reducible refine bel_set ?_ (by omega) _))))
        have hbY : Below w2.heap.size w2 ((w3.setCell ⟨w2.heap.size, 4, none⟩ (.int .i64 d2)).alloc (.cells #[.int .i64 0, .int .i64 0, .slice rA3 0 rc3] 24)) := by (repeat (first | (with_reducible exact Below.refl _ _) | (with_reducible assumption) | (with_reducible apply bel_alloc) | (with_reducible apply bel_drew) | (with_reducible apply bel_drewN) | (with_reducible refine bel_trans ?_ (by with_reducible assumption)) | (with_reducible refine bel_trans ?_ (HF.out _)) | ((with_reducible refine bel_set3 ?_ ?_); rotate_left; omega)))
        clear hX hX3 hgx3 hfx3 x_0 x_1 x_2 x_3 x_4 x_5
        generalize ((w3.setCell ⟨w2.heap.size, 4, none⟩ (.int .i64 d2)).alloc (.cells #[.int .i64 0, .int .i64 0, .slice rA3 0 rc3] 24)) = Y at *
        have hbkY : Below wk.heap.size wk Y := bel_trans hb2 hbY
        refine (dag_Add_no (some ⟨db, doff, none⟩) dn dc D.D ⟨C.h, d2, C.si⟩ b2A q2A s2A b2n b2c q2n q2c s2n s2c 5 _ (HD.out.up (bel_trans hbw hbkY)) ⟨(HR2.out.up hbY).1, (HR2.out.up hbY).2⟩ HE2.out (by omega)).mono ?_
        rintro e w4 ⟨rA4, rc4, rfl, hb4⟩
        have hb24 : Below w2.heap.size w2 w4 := bel_trans hbY hb4
        have hbk4 : Below wk.heap.size wk w4 := bel_trans hbkY hb4
        have hX4 := hY.up hb4
        have hg4 : w.heap.size < w4.heap.size := Nat.lt_of_lt_of_le hg2 hb24.size
        have hi4 : db < w4.heap.size := Nat.lt_of_lt_of_le hi2 hb24.size
        have hgx4 := hX4.lt
        have hfx4 := hX4.frozen
        have x_0 := (hX4.box).2 0 _ rfl; have x_1 := (hX4.box).2 1 _ rfl; have x_2 := (hX4.box).2 2 _ rfl; have x_3 := (hX4.box).2 3 _ rfl; have x_4 := (hX4.box).2 4 _ rfl; have x_5 := (hX4.box).2 5 _ rfl
        have hne1 : ¬ w.heap.size = w2.heap.size := by omega
        have hne2 : ¬ db = w2.heap.size := by omega
        clear b_0 b_1 b_2 b_3 b_4 b_5 c0 c1 c2 c3 c4 c5
        obtain ⟨b_0, b_1, b_2, b_3, b_4, b_5, c0, c1, c2, c3, c4, c5⟩ := HC12.out w4 (by (repeat (first | (with_reducible exact Below.refl _ _) | (with_reducible assumption) | (with_reducible apply bel_alloc) | (with_reducible apply bel_drew) | (with_reducible apply bel_drewN) | (with_reducible refine bel_trans ?_ (by with_reducible assumption)) | (with_reducible refine bel_trans ?_ (HF.out _)) | ((with_reducible refine bel_set3 ?_ ?_); rotate_left; omega))))
        have ha2t := HA2T.out
        have ha2e := HA2E.out
        go_wp2_with fail
        rw [show (1 + (a2 - 1) : Int) = a2 by omega]
        have hbZ : Below w2.heap.size w2 (((w4.setCell ⟨w2.heap.size, 4, none⟩ (.int .i64 C.di)).setCell ⟨w2.heap.size, 0, none⟩ (.int .i64 a2)).alloc (.cells #[.int .i64 0, .int .i64 0, .slice rA4 0 rc4] 24)) := by (repeat (first | (with_reducible exact Below.refl _ _) | (with_reducible assumption) | (with_reducible apply bel_alloc) | (with_reducible apply bel_drew) | (with_reducible apply bel_drewN) | (with_reducible refine bel_trans ?_ (by with_reducible assumption)) | (with_reducible refine bel_trans ?_ (HF.out _)) | ((with_reducible refine bel_set3 ?_ ?_); rotate_left; omega)))
        clear hX4 hgx4 hfx4 x_0 x_1 x_2 x_3 x_4 x_5
        generalize (((w4.setCell ⟨w2.heap.size, 4, none⟩ (.int .i64 C.di)).setCell ⟨w2.heap.size, 0, none⟩ (.int .i64 a2)).alloc (.cells #[.int .i64 0, .int .i64 0, .slice rA4 0 rc4] 24)) = Z at *
        have hbkZ : Below wk.heap.size wk Z := bel_trans hb2 hbZ
        refine (dag_Add_no (some ⟨db, doff, none⟩) dn dc D.D ⟨⟨a2, C.h.ro, C.h.ba, C.h.pa⟩, C.di, C.si⟩ b2A q2A s2A b2n b2c q2n q2c s2n s2c y3 _ (HD.out.up (bel_trans hbw hbkZ)) ⟨(HR2.out.up hbZ).1, (HR2.out.up hbZ).2⟩ HE3.out HE30.out).mono ?_
        rintro e w5 ⟨rA5, rc5, rfl, hb5⟩
        have hbk5 : Below wk.heap.size wk w5 := bel_trans hbkZ hb5
        have hg5 : w.heap.size < w5.heap.size := Nat.lt_of_lt_of_le hgHB hbk5.size
        have hi5 : db < w5.heap.size := Nat.lt_of_lt_of_le hdb hbk5.size
        clear b_0 b_1 b_2 b_3 b_4 b_5 c0 c1 c2 c3 c4 c5
        obtain ⟨b_0, b_1, b_2, b_3, b_4, b_5, c0, c1, c2, c3, c4, c5⟩ := HC12.out w5 (by (repeat (first | (with_reducible exact Below.refl _ _) | (with_reducible assumption) | (with_reducible apply bel_alloc) | (with_reducible apply bel_drew) | (with_reducible apply bel_drewN) | (with_reducible refine bel_trans ?_ (by with_reducible assumption)) | (with_reducible refine bel_trans ?_ (HF.out _)) | ((with_reducible refine bel_set3 ?_ ?_); rotate_left; omega))))
        by_cases hn1 : 1 < D.D.nodes
        · have e5 := HE35.out hn1
          have hnd : decide (1 < D.D.nodes) = true := by simpa using hn1
          subst e5
          clear hn1 hne1 hne2
          go_wp2_with (go_at_call 44; refine (law14_num _ _).mono ?_; rintro e w' ⟨rfl, rfl⟩)
          (first | (go_round; (case rel => exact ⟨i + 1, by omega, by go_num, HB.out.up (bel_trans hbk5 (by (repeat (first | (with_reducible exact Below.refl _ _) | (with_reducible assumption) | (with_reducible apply bel_alloc) | (with_reducible apply bel_drew) | (with_reducible apply bel_drewN) | (with_reducible refine bel_trans ?_ (by with_reducible assumption)) | (with_reducible refine bel_trans ?_ (HF.out _)) | (with_reducible refine bel_set ?_ (by simp) _) | (with_reducible refine bel_set ?_ (by simp; omega) _) | (with_reducible refine bel_set ?_ (by omega) _))))), bel_trans hbw (bel_trans hbk5 (by (repeat (first | (with_reducible exact Below.refl _ _) | (with_reducible assumption) | (with_reducible apply bel_alloc) | (with_reducible apply bel_drew) | (with_reducible apply bel_drewN) | (with_reducible refine bel_trans ?_ (by with_reducible assumption)) | (with_reducible refine bel_trans ?_ (HF.out _)) | (with_reducible refine bel_set ?_ (by simp) _) | (with_reducible refine bel_set ?_ (by simp; omega) _) | (with_reducible refine bel_set ?_ (by omega) _)))))⟩); (case measure => (simp [intOf] <;> omega))) | (go_roundw; (case rel => exact ⟨i + 1, by omega, by go_num, HB.out.up (bel_trans hbk5 (by (repeat (first | (with_reducible exact Below.refl _ _) | (with_reducible assumption) | (with_reducible apply bel_alloc) | (with_reducible apply bel_drew) | (with_reducible apply bel_drewN) | (with_reducible refine bel_trans ?_ (by with_reducible assumption)) | (with_reducible refine bel_trans ?_ (HF.out _)) | (with_reducible refine bel_set ?_ (by simp) _) | (with_reducible refine bel_set ?_ (by simp; omega) _) | (with_reducible refine bel_set ?_ (by omega) _))))), bel_trans hbw (bel_trans hbk5 (by (repeat (first | (with_reducible exact Below.refl _ _) | (with_reducible assumption) | (with_reducible apply bel_alloc) | (with_reducible apply bel_drew) | (with_reducible apply bel_drewN) | (with_reducible refine bel_trans ?_ (by with_reducible assumption)) | (with_reducible refine bel_trans ?_ (HF.out _)) | (with_reducible refine bel_set ?_ (by simp) _) | (with_reducible refine bel_set ?_ (by simp; omega) _) | (with_reducible refine bel_set ?_ (by omega) _)))))⟩); (case measure => (simp [intOf] <;> omega))) | (refine ⟨?_, by simp [intOf] <;> omega⟩; (repeat apply Exists.intro); refine ⟨?rel, ?fr⟩; (case fr => ((repeat' apply And.intro) <;> rfl)); (case rel => exact ⟨i + 1, by omega, by go_num, HB.out.up (bel_trans hbk5 (by (repeat (first | (with_reducible exact Below.refl _ _) | (with_reducible assumption) | (with_reducible apply bel_alloc) | (with_reducible apply bel_drew) | (with_reducible apply bel_drewN) | (with_reducible refine bel_trans ?_ (by with_reducible assumption)) | (with_reducible refine bel_trans ?_ (HF.out _)) | (with_reducible refine bel_set ?_ (by simp) _) | (with_reducible refine bel_set ?_ (by simp; omega) _) | (with_reducible refine bel_set ?_ (by omega) _))))), bel_trans hbw (bel_trans hbk5 (by (repeat (first | (with_reducible exact Below.refl _ _) | (with_reducible assumption) | (with_reducible apply bel_alloc) | (with_reducible apply bel_drew) | (with_reducible apply bel_drewN) | (with_reducible refine bel_trans ?_ (by with_reducible assumption)) | (with_reducible refine bel_trans ?_ (HF.out _)) | (with_reducible refine bel_set ?_ (by simp) _) | (with_reducible refine bel_set ?_ (by simp; omega) _) | (with_reducible refine bel_set ?_ (by omega) _)))))⟩)))
        · have hnd : decide (1 < D.D.nodes) = false := by simpa using hn1
          clear hn1 hne1 hne2
          go_wp2_with (go_at_call 44; refine (law14_num _ _).mono ?_; rintro e w' ⟨rfl, rfl⟩)
          (first | (go_round; (case rel => exact ⟨i + 1, by omega, by go_num, HB.out.up (bel_trans hbk5 (by (repeat (first | (with_reducible exact Below.refl _ _) | (with_reducible assumption) | (with_reducible apply bel_alloc) | (with_reducible apply bel_drew) | (with_reducible apply bel_drewN) | (with_reducible refine bel_trans ?_ (by with_reducible assumption)) | (with_reducible refine bel_trans ?_ (HF.out _)) | (with_reducible refine bel_set ?_ (by simp) _) | (with_reducible refine bel_set ?_ (by simp; omega) _) | (with_reducible refine bel_set ?_ (by omega) _))))), bel_trans hbw (bel_trans hbk5 (by (repeat (first | (with_reducible exact Below.refl _ _) | (with_reducible assumption) | (with_reducible apply bel_alloc) | (with_reducible apply bel_drew) | (with_reducible apply bel_drewN) | (with_reducible refine bel_trans ?_ (by with_reducible assumption)) | (with_reducible refine bel_trans ?_ (HF.out _)) | (with_reducible refine bel_set ?_ (by simp) _) | (with_reducible refine bel_set ?_ (by simp; omega) _) | (with_reducible refine bel_set ?_ (by omega) _)))))⟩); (case measure => (simp [intOf] <;> omega))) | (go_roundw; (case rel => exact ⟨i + 1, by omega, by go_num, HB.out.up (bel_trans hbk5 (by (repeat (first | (with_reducible exact Below.refl _ _) | (with_reducible assumption) | (with_reducible apply bel_alloc) | (with_reducible apply bel_drew) | (with_reducible apply bel_drewN) | (with_reducible refine bel_trans ?_ (by with_reducible assumption)) | (with_reducible refine bel_trans ?_ (HF.out _)) | (with_reducible refine bel_set ?_ (by simp) _) | (with_reducible refine bel_set ?_ (by simp; omega) _) | (with_reducible refine bel_set ?_ (by omega) _))))), bel_trans hbw (bel_trans hbk5 (by (repeat (first | (with_reducible exact Below.refl _ _) | (with_reducible assumption) | (with_reducible apply bel_alloc) | (with_reducible apply bel_drew) | (with_reducible apply bel_drewN) | (with_reducible refine bel_trans ?_ (by with_reducible assumption)) | (with_reducible refine bel_trans ?_ (HF.out _)) | (with_reducible refine bel_set ?_ (by simp) _) | (with_reducible refine bel_set ?_ (by simp; omega) _) | (with_reducible refine bel_set ?_ (by omega) _)))))⟩); (case measure => (simp [intOf] <;> omega))) | (refine ⟨?_, by simp [intOf] <;> omega⟩; (repeat apply Exists.intro); refine ⟨?rel, ?fr⟩; (case fr => ((repeat' apply And.intro) <;> rfl)); (case rel => exact ⟨i + 1, by omega, by go_num, HB.out.up (bel_trans hbk5 (by (repeat (first | (with_reducible exact Below.refl _ _) | (with_reducible assumption) | (with_reducible apply bel_alloc) | (with_reducible apply bel_drew) | (with_reducible apply bel_drewN) | (with_reducible refine bel_trans ?_ (by with_reducible assumption)) | (with_reducible refine bel_trans ?_ (HF.out _)) | (with_reducible refine bel_set ?_ (by simp) _) | (with_reducible refine bel_set ?_ (by simp; omega) _) | (with_reducible refine bel_set ?_ (by omega) _))))), bel_trans hbw (bel_trans hbk5 (by (repeat (first | (with_reducible exact Below.refl _ _) | (with_reducible assumption) | (with_reducible apply bel_alloc) | (with_reducible apply bel_drew) | (with_reducible apply bel_drewN) | (with_reducible refine bel_trans ?_ (by with_reducible assumption)) | (with_reducible refine bel_trans ?_ (HF.out _)) | (with_reducible refine bel_set ?_ (by simp) _) | (with_reducible refine bel_set ?_ (by simp; omega) _) | (with_reducible refine bel_set ?_ (by omega) _)))))⟩)))
      · have b_0 := (HB.out).2 0 _ rfl; have b_1 := (HB.out).2 1 _ rfl; have b_2 := (HB.out).2 2 _ rfl; have b_3 := (HB.out).2 3 _ rfl; have b_4 := (HB.out).2 4 _ rfl; have b_5 := (HB.out).2 5 _ rfl
        by_cases h1 : i < dn
        · have h20 : decide ((i : Int) < 20) = false := by simp; omega
          clear hlt
          go_wp2_with fail
          refine (law14_wakes _).mono ?_
          rintro e w9 ⟨rfl, hb9⟩
          go_wp2_with fail
          go_ret
          exact ⟨rfl, bel_trans hbw hb9⟩
        · clear hlt
          go_wp2_with fail
          refine (law14_wakes _).mono ?_
          rintro e w9 ⟨rfl, hb9⟩
          go_wp2_with fail
          go_ret
          exact ⟨rfl, bel_trans hbw hb9⟩
end Go.Proofs.Ytfkbilbgndekkaa
