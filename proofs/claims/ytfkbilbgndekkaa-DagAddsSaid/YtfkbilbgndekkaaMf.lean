/- The law DagAdds. -/
import Derived.Test.YtfkbilbgndekkaaMe
import Derived.Test.YtfkbilbgndekkaaKr
namespace Go.Proofs.Ytfkbilbgndekkaa
open Go.RowKit
set_option linter.unusedSimpArgs false
set_option linter.unusedVariables false

theorem addE_split (E : DagD) (C : CertD) : (mayS E = false ∧ addE E C = 1 ∧ addD E C = ⟨0, 0, []⟩) ∨ (mayS E = true ∧ addE E C = raddE E C ∧ ((addE E C = 0 ∧ addD E C = ⟨E.nodes, E.low, insC E.certs C⟩) ∨ (addE E C ≠ 0 ∧ addD E C = ⟨0, 0, []⟩))) := by
  cases hm : mayS E
  · left
    have e : addE E C = 1 := by unfold addE; rw [if_neg (by rw [hm]; simp)]
    exact ⟨rfl, e, by unfold addD; rw [if_neg (by rw [e]; decide)]⟩
  · right
    refine ⟨rfl, ?_, ?_⟩
    · unfold addE raddE
      cases certS C E.nodes
      · rw [if_neg (by simp), if_neg (by simp)]
      · rw [if_pos ⟨hm, rfl⟩, if_pos rfl]
    · by_cases h : addE E C = 0
      · exact .inl ⟨h, by unfold addD; rw [if_pos h]⟩
      · exact .inr ⟨h, by unfold addD; rw [if_neg h]⟩
theorem radd_zero {E : DagD} {C : CertD} (hm : mayS E = true) (h : addE E C = 0) : certS C E.nodes = true ∧ E.low < C.h.ro ∧ atS E.certs C.h.ro C.h.au < 0 ∧ findS E.certs C.di < 0 ∧ lacksS E.certs E.low C.h = [] := by
  unfold addE at h
  split at h
  · rename_i g
    exact ⟨g.2, put_ok h⟩
  · omega
theorem LightM.ins {l : List CertD} {C : CertD} (h : LightM l) (hc : LightC C) (hl : l.length < 1000) : LightM (insC l C) := .mk' (by rw [insC_len]; omega) (fun x hx => by
  rcases mem_insC.1 hx with rfl | hx
  · exact hc
  · exact lightC_mem h x hx)
structure AddsJ (D : DagD) (y0 : Int) (k : Nat) (E : DagD) : Prop where
  m : (mayS E = true ↔ y0 = 0)
  l : LightM E.certs
  n : E.certs.length ≤ 80 + k
theorem AddsJ.next {D E : DagD} {C : CertD} {y0 : Int} {k : Nat} (h : AddsJ D y0 k E) (hk : k ≤ 100) (hc : LightC C) (he : addE E C = 0) : AddsJ D y0 (k + 1) (addD E C) := by
  have hm : mayS E = true := by
    cases e : mayS E
    · rcases addE_split E C with ⟨_, h1, _⟩ | ⟨h1, _⟩
      · omega
      · rw [e] at h1; cases h1
    · rfl
  have hR : addD E C = ⟨E.nodes, E.low, insC E.certs C⟩ := by unfold addD; rw [if_pos he]
  have hok := add_ok he (by have := h.n; omega)
  rw [hR] at hok ⊢
  refine ⟨⟨fun _ => h.m.1 hm, fun _ => mayS_iff.2 hok⟩, h.l.ins hc (by have := h.n; omega), by show (insC E.certs C).length ≤ _; rw [insC_len]; have := h.n; omega⟩
theorem AddsJ.same {D E : DagD} {y0 : Int} {k : Nat} (h : AddsJ D y0 k E) : AddsJ D y0 (k + 1) E := ⟨h.m, h.l, by have := h.n; omega⟩
set_option maxRecDepth 100000 in
set_option maxHeartbeats 1000000 in
theorem copyDagMO (A : Option Addr) (n c : Nat) (D : DagD) (w : World) (hl : CertsR w A n D.certs) (hli : LightM D.certs) :
    Calls Try.prog 17 #[.agg #[.int .i64 D.nodes, .int .i64 D.low, .slice A n c]] w fun e w' => ∃ A' c' ps, e = .returned (.agg #[.int .i64 D.nodes, .int .i64 D.low, .slice A' n c']) ∧ OwnC w' w.heap.size (.slice A' n c') ps D.certs ∧ Below w.heap.size w w' := by
  have HL := Lib.hid hl
  have hn : n ≤ 1000 := by rw [← hl.1]; exact hli.1
  have HN := Lib.hid hl.1
  have HLI := Lib.hid hli
  clear hl hli
  go_enter Try.func17, Try.ntmps17
  go_wp2_with fail
  refine (copyCertsM A n c D.certs _ (HL.out.up (by (repeat (first | (with_reducible exact Below.refl _ _) | (with_reducible assumption) | (with_reducible apply bel_alloc) | (with_reducible apply bel_drew) | (with_reducible apply bel_drewN) | (with_reducible refine bel_trans ?_ (by with_reducible assumption)) | (with_reducible refine bel_trans ?_ (HF.out _)) | ((with_reducible refine bel_set3 ?_ ?_); rotate_left; omega))))) HLI.out).mono ?_
  rintro e w1 ⟨v, ps, rfl, hown, hb1⟩
  obtain ⟨A1, c1, rfl, _, _⟩ := hown.certs (by rw [HN.out]; omega)
  have hown' := hown.mono (B' := w.heap.size + 3) (by simp)
  clear hown
  rw [HN.out] at hown' ⊢
  have HO := Lib.hid hown'
  clear hown'
  have hz_w1 : w.heap.size + 3 ≤ w1.heap.size := (by have hq := (hb1).size; (try simp at hq); omega); have hc0_w1 := fun o => (bcell hb1).1 (w.heap.size) o (by first | (simp; done) | (simp; omega) | omega); have hc1_w1 := fun o => (bcell hb1).1 (w.heap.size + 1) o (by first | (simp; done) | (simp; omega) | omega); have hc2_w1 := fun o => (bcell hb1).1 (w.heap.size + 2) o (by first | (simp; done) | (simp; omega) | omega); have hf0_w1 := fun o => (bcell hb1).2 (w.heap.size) o (by first | (simp; done) | (simp; omega) | omega); have hf1_w1 := fun o => (bcell hb1).2 (w.heap.size + 1) o (by first | (simp; done) | (simp; omega) | omega); have hf2_w1 := fun o => (bcell hb1).2 (w.heap.size + 2) o (by first | (simp; done) | (simp; omega) | omega)
  go_wp2_with fail
  have hfin := (((HO.out.setLow (b := w.heap.size + 1 + 1) (o := 2) (u := .slice A1 n c1) (by omega)).setLow (b := w.heap.size + 1) (o := 0) (u := .int .i64 D.nodes) (by omega)).setLow (b := w.heap.size + 1) (o := 1) (u := .int .i64 D.low) (by omega)).setLow (b := w.heap.size + 1) (o := 2) (u := .slice A1 n c1) (by omega)
  exact bodyPost_ret (v := .agg #[.int .i64 D.nodes, .int .i64 D.low, .slice A1 n c1]) (by simp [results, Try.results17, go_sem, hc0_w1, hc1_w1, hc2_w1]) rfl ⟨A1, c1, ps, rfl, hfin.mono (by omega), by (repeat (first | (with_reducible exact Below.refl _ _) | (with_reducible assumption) | (with_reducible apply bel_alloc) | (with_reducible apply bel_drew) | (with_reducible apply bel_drewN) | (with_reducible refine bel_trans ?_ (by with_reducible assumption)) | (with_reducible refine bel_trans ?_ (HF.out _)) | ((with_reducible refine bel_set3 ?_ ?_); rotate_left; omega)))⟩
theorem ref0_EqDag' (A : Option Addr) (n c : Nat) (B : Option Addr) (m d : Nat) (D : DagD) (x y : Int) (w : World) (hx : x = D.nodes) (hy : y = D.low) (hm : m = n) (hl : CertsR w A n D.certs) (hk : CertsR w B m D.certs) :
    Calls Try.prog 23 #[.agg #[.int .i64 D.nodes, .int .i64 D.low, .slice A n c], .agg #[.int .i64 x, .int .i64 y, .slice B m d]] w fun e w' => e = .returned (.bool true) ∧ Below w.heap.size w w' := by
  subst hx; subst hy; subst hm
  exact ref0_EqDag A m c B d D w hl hk
set_option maxRecDepth 100000 in
set_option maxHeartbeats 16000000 in
theorem law_DagChecks (P : AskP) (D : AskD) (w : World) (h : AskR w P D) :
    Calls Try.prog 7 #[askV P D] w fun e w' => e = .returned (.bool true) ∧ Below w.heap.size w w' := by
  obtain ⟨⟨dA, dn, dc⟩, ⟨cA, cn, cc⟩, ⟨iA, im, ic⟩, ⟨pA, pn, pc⟩⟩ := P
  have H := Lib.hid h
  have HD : Hid (CertsR w dA dn D.D.certs) := Lib.hid h.d
  have HC : Hid (CertsR w cA cn D.C) := Lib.hid h.c
  have HI : Hid (IntsR w iA im D.I) := Lib.hid h.i
  have HP : Hid (FloatsR w pA pn D.P) := Lib.hid h.p
  have hdc : dn ≤ dc := h.dc
  have hdm : dc ≤ 9223372036854775807 := h.dm
  clear h
  show Calls Try.prog 7 #[.agg #[.int .i64 D.D.nodes, .int .i64 D.D.low, .slice dA dn dc, .slice cA cn cc, .slice iA im ic, .slice pA pn pc]] w _
  go_enter Try.func7, Try.ntmps7
  go_wp2_with fail
  refine (law14_heavy ⟨⟨dA, dn, dc⟩, ⟨cA, cn, cc⟩, ⟨iA, im, ic⟩, ⟨pA, pn, pc⟩⟩ D _ (H.out.up (by (repeat (first | (with_reducible exact Below.refl _ _) | (with_reducible assumption) | (with_reducible apply bel_alloc) | (with_reducible apply bel_drew) | (with_reducible apply bel_drewN) | (with_reducible refine bel_trans ?_ (by with_reducible assumption)) | (with_reducible refine bel_trans ?_ (HF.out _)) | (with_reducible refine bel_set ?_ (by simp) _) | (with_reducible refine bel_set ?_ (by simp; omega) _) | (with_reducible refine bel_set ?_ (by omega) _)))))).mono ?_
  rintro e w1 ⟨⟨x, rfl, hx⟩, hb1⟩
  cases x
  case true =>
    clear hx
    go_wp2_with fail
    go_ret
    exact ⟨rfl, by (repeat (first | (with_reducible exact Below.refl _ _) | (with_reducible assumption) | (with_reducible apply bel_alloc) | (with_reducible apply bel_drew) | (with_reducible apply bel_drewN) | (with_reducible refine bel_trans ?_ (by with_reducible assumption)) | (with_reducible refine bel_trans ?_ (HF.out _)) | (with_reducible refine bel_set ?_ (by simp) _) | (with_reducible refine bel_set ?_ (by simp; omega) _) | (with_reducible refine bel_set ?_ (by omega) _)))⟩
  case false =>
  have hLt := hx rfl
  have hLd : Light D.D.certs := hLt.d
  have hd80 : dn ≤ 80 := by rw [← HD.out.1]; exact hLd.1
  have hc40 : cn ≤ 40 := hLt.cn
  have hi40 : im ≤ 40 := hLt.i
  have hp40 : pn ≤ 40 := hLt.p
  have hlc : ∀ k, k < cn → LightC (cth D.C k) := hLt.c
  have HLD := Lib.hid hLd
  have HLC := Lib.hid hlc
  have hB1 : BoxR w1 w.heap.size [.int .i64 D.D.nodes, .int .i64 D.D.low, .slice dA dn dc, .slice cA cn cc, .slice iA im ic, .slice pA pn pc] := (BoxR.new w [.int .i64 D.D.nodes, .int .i64 D.D.low, .slice dA dn dc, .slice cA cn cc, .slice iA im ic, .slice pA pn pc] 58).up hb1
  have hbw1 : Below w.heap.size w w1 := by (repeat (first | (with_reducible exact Below.refl _ _) | (with_reducible assumption) | (with_reducible apply bel_alloc) | (with_reducible apply bel_drew) | (with_reducible apply bel_drewN) | (with_reducible refine bel_trans ?_ (by with_reducible assumption)) | (with_reducible refine bel_trans ?_ (HF.out _)) | (with_reducible refine bel_set ?_ (by simp) _) | (with_reducible refine bel_set ?_ (by simp; omega) _) | (with_reducible refine bel_set ?_ (by omega) _)))
  clear hx hLt hLd hlc hb1
  have HB1 := Lib.hid hB1
  have hg1 := hB1.1
  have b_0 := (hB1).2 0 _ rfl; have b_1 := (hB1).2 1 _ rfl; have b_2 := (hB1).2 2 _ rfl; have b_3 := (hB1).2 3 _ rfl; have b_4 := (hB1).2 4 _ rfl; have b_5 := (hB1).2 5 _ rfl
  clear hB1
  go_wp2_with fail
  refine (ref0_CopyDag dA dn dc D.D _ (HD.out.up hbw1) HLD.out).mono ?_
  rintro e w2 ⟨A2, c2, rfl, hD2, hb2⟩
  obtain ⟨y, hy⟩ : ∃ y, chkE D.D = y := ⟨_, rfl⟩
  have HY := Lib.hid hy
  have HD2 := Lib.hid hD2
  have hB2 := HB1.out.up hb2
  have hbw2 := bel_trans hbw1 hb2
  have hg2 := hB2.1
  have HB2 := Lib.hid hB2
  clear hy hD2 b_0 b_1 b_2 b_3 b_4 b_5 hB2
  go_wp2_with fail
  have hX : BoxR (w2.alloc (.cells #[.int .i64 D.D.nodes, .int .i64 D.D.low, .slice A2 dn c2] 24)) w2.heap.size [.int .i64 D.D.nodes, .int .i64 D.D.low, .slice A2 dn c2] := BoxR.new w2 [.int .i64 D.D.nodes, .int .i64 D.D.low, .slice A2 dn c2] 24
  have hbX : Below w2.heap.size w2 (w2.alloc (.cells #[.int .i64 D.D.nodes, .int .i64 D.D.low, .slice A2 dn c2] 24)) := by (repeat (first | (with_reducible exact Below.refl _ _) | (with_reducible assumption) | (with_reducible apply bel_alloc) | (with_reducible apply bel_drew) | (with_reducible apply bel_drewN) | (with_reducible refine bel_trans ?_ (by with_reducible assumption)) | (with_reducible refine bel_trans ?_ (HF.out _)) | (with_reducible refine bel_set ?_ (by simp) _) | (with_reducible refine bel_set ?_ (by simp; omega) _) | (with_reducible refine bel_set ?_ (by omega) _)))
  generalize (w2.alloc (.cells #[.int .i64 D.D.nodes, .int .i64 D.D.low, .slice A2 dn c2] 24)) = X at *
  have HBX := Lib.hid (HB2.out.up hbX)
  have hbwX := bel_trans hbw2 hbX
  have hgX := HBX.out.1
  have hg3 := hX.1
  have b_0 := (HBX.out).2 0 _ rfl; have b_1 := (HBX.out).2 1 _ rfl; have b_2 := (HBX.out).2 2 _ rfl; have b_3 := (HBX.out).2 3 _ rfl; have b_4 := (HBX.out).2 4 _ rfl; have b_5 := (HBX.out).2 5 _ rfl
  have x_0 := (hX).2 0 _ rfl; have x_1 := (hX).2 1 _ rfl; have x_2 := (hX).2 2 _ rfl
  have HD2X := Lib.hid (HD2.out.up hbX)
  have HDX := Lib.hid (HD.out.up hbwX)
  clear hX
  refine wp_region_fam (by kernel_rfl) (by kernel_rfl) (fun ι F hne hF hcl => ?_)
  have hcF0 := fun n o => (bcell (hF n)).1 (w.heap.size) o (by first | (simp; done) | (simp; omega) | omega)
  have hcF1 := fun n o => (bcell (hF n)).1 (w2.heap.size) o (by first | (simp; done) | (simp; omega) | omega)
  have HF := Lib.hid hF; clear hF
  have HC := Lib.hid hcl; clear hcl
  repeat (any_goals (first
   | go_big_quiet_step (first | (go_at_call 44; exact Calls.fam_same (law14_num _ _)) | (go_at_call 48; exact Calls.fam HC.out (dag_Check A2 dn c2 D.D y _ (HD2X.out.up (HF.out _)) HY.out)) | (go_at_call 40; exact Calls.fam HC.out (law14_check dA dn dc D.D y _ (HDX.out.up (HF.out _)) HY.out)) | (go_at_call 23; exact Calls.fam HC.out (ref0_EqDag A2 dn c2 dA dc D.D _ (HD2X.out.up (HF.out _)) (HDX.out.up (HF.out _)))))
   | (refine wpQuiet_guard _ _ _ rfl rfl ?_; (fail_if_success (intro b' hb; have h2 := hb.symm; have : b' = true := h2.trans (by with_reducible rfl))); (fail_if_success (intro b' hb; have h2 := hb.symm; have : b' = false := h2.trans (by with_reducible rfl))); intro b' hb; simp only [hb]; cases b' <;> (try simp only [Bool.not_eq_true', Bool.not_eq_false', decide_eq_true_eq, decide_eq_false_iff_not, Int.not_lt, Int.not_le, Bool.and_eq_true, Bool.or_eq_true, Bool.or_eq_false_iff, beq_iff_eq, beq_eq_false_iff_ne, Int.natCast_pos] at hb))))
  all_goals (refine wpQuiet_nil ?_; intro nq)
  all_goals (try (exfalso; omega))
  have hFwf := HF.out nq
  clear HF HC hne
  generalize F nq = wf at *
  have hbwf := bel_trans hbwX hFwf
  have HBf := Lib.hid (HBX.out.up hFwf)
  clear b_0 b_1 b_2 b_3 b_4 b_5 x_0 x_1 x_2 hcF0 hcF1
  go_wp2_with fail
  go_loopw [4] (fun si wr => ∃ k : Nat, k ≤ im ∧ si = .int .i64 k ∧ BoxR wr w.heap.size [.int .i64 D.D.nodes, .int .i64 D.D.low, .slice dA dn dc, .slice cA cn cc, .slice iA im ic, .slice pA pn pc] ∧ Below w.heap.size w wr) (fun si _ => im - (intOf si).toNat)
  case atStart => exact ⟨0, Nat.zero_le _, rfl, HBf.out, hbwf⟩
  case round =>
    obtain ⟨k, hk, rfl, hB, hbw⟩ := hrel
    (obtain ⟨wk, hwk⟩ : ∃ x, x = wr := ⟨_, rfl⟩); subst hwk
    have hg4 := hB.1
    have HB := Lib.hid hB
    have b_0 := (hB).2 0 _ rfl; have b_1 := (hB).2 1 _ rfl; have b_2 := (hB).2 2 _ rfl; have b_3 := (hB).2 3 _ rfl; have b_4 := (hB).2 4 _ rfl; have b_5 := (hB).2 5 _ rfl
    clear hB
    by_cases hlt : k < im
    · obtain ⟨ib, ioff, rfl, hib, hic⟩ := (HI.out.up hbw).2.2 (by omega)
      have q0 := hic k hlt
      clear hic
      cases ho : isS (nth D.I k)
      · have HO := Lib.hid ho
        have hm : refMayS ⟨nth D.I k, 0, []⟩ = false := (may_eq _).trans ((may_empty _).trans ho)
        have HM := Lib.hid hm
        clear ho hm
        go_wp2_with fail
        refine (dag_New _ false _ HO.out).mono ?_
        rintro e w5 ⟨rfl, hb5⟩
        simp only [Bool.false_eq_true, if_false]
        have hb5' : Below wk.heap.size wk (w5.alloc (.cells #[.int .i64 (0), .int .i64 0, .slice none 0 0] 24)) := by (repeat (first | (with_reducible exact Below.refl _ _) | (with_reducible assumption) | (with_reducible apply bel_alloc) | (with_reducible apply bel_drew) | (with_reducible apply bel_drewN) | (with_reducible refine bel_trans ?_ (by with_reducible assumption)) | (with_reducible refine bel_trans ?_ (HF.out _)) | (with_reducible refine bel_set ?_ (by simp) _) | (with_reducible refine bel_set ?_ (by simp; omega) _) | (with_reducible refine bel_set ?_ (by omega) _)))
        have HB5 := Lib.hid (HB.out.up hb5')
        have q1 := (hb5'.cell (p := ⟨ib, ioff + k, none⟩) hib).trans q0
        have hg5 := HB5.out.1
        have hi5 : ib < (w5.alloc (.cells #[.int .i64 (0), .int .i64 0, .slice none 0 0] 24)).heap.size := Nat.lt_of_lt_of_le hib hb5'.size
        clear b_0 b_1 b_2 b_3 b_4 b_5 q0
        have b_0 := (HB5.out).2 0 _ rfl; have b_1 := (HB5.out).2 1 _ rfl; have b_2 := (HB5.out).2 2 _ rfl; have b_3 := (HB5.out).2 3 _ rfl; have b_4 := (HB5.out).2 4 _ rfl; have b_5 := (HB5.out).2 5 _ rfl
        go_wp2_with fail
        refine (ref14_May none 0 0 ⟨nth D.I k, 0, []⟩ _ CertsR.none).mono ?_
        rintro e w6 ⟨rfl, hb6⟩
        rw [HM.out]
        have hb6k : Below wk.heap.size wk w6 := bel_trans hb5' hb6
        have HB6 := Lib.hid (HB5.out.up hb6)
        have q2 := (hb6.cell (p := ⟨ib, ioff + k, none⟩) hi5).trans q1
        have hg6 := HB6.out.1
        have hi6 : ib < w6.heap.size := Nat.lt_of_lt_of_le hi5 hb6.size
        have hX := (BoxR.new w5 [.int .i64 (0), .int .i64 0, .slice none 0 0] 24).up hb6
        have hg7 := hX.1
        have x_0 := (hX).2 0 _ rfl; have x_1 := (hX).2 1 _ rfl; have x_2 := (hX).2 2 _ rfl
        clear b_0 b_1 b_2 b_3 b_4 b_5 q1 hX
        have b_0 := (HB6.out).2 0 _ rfl; have b_1 := (HB6.out).2 1 _ rfl; have b_2 := (HB6.out).2 2 _ rfl; have b_3 := (HB6.out).2 3 _ rfl; have b_4 := (HB6.out).2 4 _ rfl; have b_5 := (HB6.out).2 5 _ rfl
        go_wp2_with fail
        refine wp_region_fam (by kernel_rfl) (by kernel_rfl) (fun ι F hne hF hcl => ?_)
        have hcF0 := fun n o => (bcell (hF n)).1 (w.heap.size) o (by first | (simp; done) | (simp; omega) | omega)
        have hcF1 := fun n o => (bcell (hF n)).1 (w5.heap.size) o (by first | (simp; done) | (simp; omega) | omega)
        have hcF2 := fun n o => (bcell (hF n)).1 (ib) o (by first | (simp; done) | (simp; omega) | omega)
        have HF := Lib.hid hF; clear hF
        have HC := Lib.hid hcl; clear hcl
        repeat (any_goals (first
         | go_big_quiet_step (first | (go_at_call 44; exact Calls.fam_same (law14_num _ _)))
         | (refine wpQuiet_guard _ _ _ rfl rfl ?_; (fail_if_success (intro b' hb; have h2 := hb.symm; have : b' = true := h2.trans (by with_reducible rfl))); (fail_if_success (intro b' hb; have h2 := hb.symm; have : b' = false := h2.trans (by with_reducible rfl))); intro b' hb; simp only [hb]; cases b' <;> (try simp only [Bool.not_eq_true', Bool.not_eq_false', decide_eq_true_eq, decide_eq_false_iff_not, Int.not_lt, Int.not_le, Bool.and_eq_true, Bool.or_eq_true, Bool.or_eq_false_iff, beq_iff_eq, beq_eq_false_iff_ne, Int.natCast_pos] at hb))))
        all_goals (refine wpQuiet_nil ?_; intro nq)
        all_goals (try (exfalso; omega))
        have hFwg := HF.out nq
        clear HF HC hne
        generalize F nq = wg at *
        have hbg : Below wk.heap.size wk wg := bel_trans hb6k hFwg
        have hBg := HB6.out.up hFwg
        go_wp2_with fail
        (first | (go_round; (case rel => exact ⟨k + 1, by omega, by go_num, hBg, bel_trans hbw hbg⟩); (case measure => (simp [intOf] <;> omega))) | (go_roundw; (case rel => exact ⟨k + 1, by omega, by go_num, hBg, bel_trans hbw hbg⟩); (case measure => (simp [intOf] <;> omega))) | (refine ⟨?_, by simp [intOf] <;> omega⟩; (repeat apply Exists.intro); refine ⟨?rel, ?fr⟩; (case fr => ((repeat' apply And.intro) <;> rfl)); (case rel => exact ⟨k + 1, by omega, by go_num, hBg, bel_trans hbw hbg⟩)))
      · have HO := Lib.hid ho
        have hm : refMayS ⟨nth D.I k, 0, []⟩ = true := (may_eq _).trans ((may_empty _).trans ho)
        have HM := Lib.hid hm
        clear ho hm
        go_wp2_with fail
        refine (dag_New _ true _ HO.out).mono ?_
        rintro e w5 ⟨rfl, hb5⟩
        simp only [if_true]
        have hb5' : Below wk.heap.size wk (w5.alloc (.cells #[.int .i64 (nth D.I k), .int .i64 0, .slice none 0 0] 24)) := by (repeat (first | (with_reducible exact Below.refl _ _) | (with_reducible assumption) | (with_reducible apply bel_alloc) | (with_reducible apply bel_drew) | (with_reducible apply bel_drewN) | (with_reducible refine bel_trans ?_ (by with_reducible assumption)) | (with_reducible refine bel_trans ?_ (HF.out _)) | (with_reducible refine bel_set ?_ (by simp) _) | (with_reducible refine bel_set ?_ (by simp; omega) _) | (with_reducible refine bel_set ?_ (by omega) _)))
        have HB5 := Lib.hid (HB.out.up hb5')
        have q1 := (hb5'.cell (p := ⟨ib, ioff + k, none⟩) hib).trans q0
        have hg5 := HB5.out.1
        have hi5 : ib < (w5.alloc (.cells #[.int .i64 (nth D.I k), .int .i64 0, .slice none 0 0] 24)).heap.size := Nat.lt_of_lt_of_le hib hb5'.size
        clear b_0 b_1 b_2 b_3 b_4 b_5 q0
        have b_0 := (HB5.out).2 0 _ rfl; have b_1 := (HB5.out).2 1 _ rfl; have b_2 := (HB5.out).2 2 _ rfl; have b_3 := (HB5.out).2 3 _ rfl; have b_4 := (HB5.out).2 4 _ rfl; have b_5 := (HB5.out).2 5 _ rfl
        go_wp2_with fail
        refine (ref14_May none 0 0 ⟨nth D.I k, 0, []⟩ _ CertsR.none).mono ?_
        rintro e w6 ⟨rfl, hb6⟩
        rw [HM.out]
        have hb6k : Below wk.heap.size wk w6 := bel_trans hb5' hb6
        have HB6 := Lib.hid (HB5.out.up hb6)
        have q2 := (hb6.cell (p := ⟨ib, ioff + k, none⟩) hi5).trans q1
        have hg6 := HB6.out.1
        have hi6 : ib < w6.heap.size := Nat.lt_of_lt_of_le hi5 hb6.size
        have hX := (BoxR.new w5 [.int .i64 (nth D.I k), .int .i64 0, .slice none 0 0] 24).up hb6
        have hg7 := hX.1
        have x_0 := (hX).2 0 _ rfl; have x_1 := (hX).2 1 _ rfl; have x_2 := (hX).2 2 _ rfl
        clear b_0 b_1 b_2 b_3 b_4 b_5 q1 hX
        have b_0 := (HB6.out).2 0 _ rfl; have b_1 := (HB6.out).2 1 _ rfl; have b_2 := (HB6.out).2 2 _ rfl; have b_3 := (HB6.out).2 3 _ rfl; have b_4 := (HB6.out).2 4 _ rfl; have b_5 := (HB6.out).2 5 _ rfl
        go_wp2_with fail
        refine wp_region_fam (by kernel_rfl) (by kernel_rfl) (fun ι F hne hF hcl => ?_)
        have hcF0 := fun n o => (bcell (hF n)).1 (w.heap.size) o (by first | (simp; done) | (simp; omega) | omega)
        have hcF1 := fun n o => (bcell (hF n)).1 (w5.heap.size) o (by first | (simp; done) | (simp; omega) | omega)
        have hcF2 := fun n o => (bcell (hF n)).1 (ib) o (by first | (simp; done) | (simp; omega) | omega)
        have HF := Lib.hid hF; clear hF
        have HC := Lib.hid hcl; clear hcl
        repeat (any_goals (first
         | go_big_quiet_step (first | (go_at_call 44; exact Calls.fam_same (law14_num _ _)) | (go_at_call 23; exact Calls.fam HC.out (ref0_EqDag' none 0 0 none 0 0 ⟨nth D.I k, 0, []⟩ _ _ _ rfl rfl rfl CertsR.none CertsR.none)))
         | (refine wpQuiet_guard _ _ _ rfl rfl ?_; (fail_if_success (intro b' hb; have h2 := hb.symm; have : b' = true := h2.trans (by with_reducible rfl))); (fail_if_success (intro b' hb; have h2 := hb.symm; have : b' = false := h2.trans (by with_reducible rfl))); intro b' hb; simp only [hb]; cases b' <;> (try simp only [Bool.not_eq_true', Bool.not_eq_false', decide_eq_true_eq, decide_eq_false_iff_not, Int.not_lt, Int.not_le, Bool.and_eq_true, Bool.or_eq_true, Bool.or_eq_false_iff, beq_iff_eq, beq_eq_false_iff_ne, Int.natCast_pos] at hb))))
        all_goals (refine wpQuiet_nil ?_; intro nq)
        all_goals (try (exfalso; omega))
        have hFwg := HF.out nq
        clear HF HC hne
        generalize F nq = wg at *
        have hbg : Below wk.heap.size wk wg := bel_trans hb6k hFwg
        have hBg := HB6.out.up hFwg
        go_wp2_with fail
        (first | (go_round; (case rel => exact ⟨k + 1, by omega, by go_num, hBg, bel_trans hbw hbg⟩); (case measure => (simp [intOf] <;> omega))) | (go_roundw; (case rel => exact ⟨k + 1, by omega, by go_num, hBg, bel_trans hbw hbg⟩); (case measure => (simp [intOf] <;> omega))) | (refine ⟨?_, by simp [intOf] <;> omega⟩; (repeat apply Exists.intro); refine ⟨?rel, ?fr⟩; (case fr => ((repeat' apply And.intro) <;> rfl)); (case rel => exact ⟨k + 1, by omega, by go_num, hBg, bel_trans hbw hbg⟩)))
    · go_wp2_with fail
      refine (law14_wakes _).mono ?_
      rintro e w9 ⟨rfl, hb9⟩
      go_wp2_with fail
      go_ret
      exact ⟨rfl, bel_trans hbw hb9⟩
set_option maxRecDepth 100000 in
set_option maxHeartbeats 16000000 in
theorem law_DagAdds (P : AskP) (D : AskD) (w : World) (h : AskR w P D) :
    Calls Try.prog 6 #[askV P D] w fun e w' => e = .returned (.bool true) ∧ Below w.heap.size w w' := by
  obtain ⟨⟨dA, dn, dc⟩, ⟨cA, cn, cc⟩, ⟨iA, im, ic⟩, ⟨pA, pn, pc⟩⟩ := P
  have H := Lib.hid h
  have HD : Hid (CertsR w dA dn D.D.certs) := Lib.hid h.d
  have HC : Hid (CertsR w cA cn D.C) := Lib.hid h.c
  have HI : Hid (IntsR w iA im D.I) := Lib.hid h.i
  have HP : Hid (FloatsR w pA pn D.P) := Lib.hid h.p
  have hdc : dn ≤ dc := h.dc
  have hdm : dc ≤ 9223372036854775807 := h.dm
  clear h
  show Calls Try.prog 6 #[.agg #[.int .i64 D.D.nodes, .int .i64 D.D.low, .slice dA dn dc, .slice cA cn cc, .slice iA im ic, .slice pA pn pc]] w _
  go_enter Try.func6, Try.ntmps6
  go_wp2_with fail
  refine (law14_heavy ⟨⟨dA, dn, dc⟩, ⟨cA, cn, cc⟩, ⟨iA, im, ic⟩, ⟨pA, pn, pc⟩⟩ D _ (H.out.up (by (repeat (first | (with_reducible exact Below.refl _ _) | (with_reducible assumption) | (with_reducible apply bel_alloc) | (with_reducible apply bel_drew) | (with_reducible apply bel_drewN) | (with_reducible refine bel_trans ?_ (by with_reducible assumption)) | (with_reducible refine bel_trans ?_ (HF.out _)) | (with_reducible refine bel_set ?_ (by simp) _) | (with_reducible refine bel_set ?_ (by simp; omega) _) | (with_reducible refine bel_set ?_ (by omega) _)))))).mono ?_
  rintro e w1 ⟨⟨x, rfl, hx⟩, hb1⟩
  cases x
  case true =>
    clear hx
    go_wp2_with fail
    go_ret
    exact ⟨rfl, by (repeat (first | (with_reducible exact Below.refl _ _) | (with_reducible assumption) | (with_reducible apply bel_alloc) | (with_reducible apply bel_drew) | (with_reducible apply bel_drewN) | (with_reducible refine bel_trans ?_ (by with_reducible assumption)) | (with_reducible refine bel_trans ?_ (HF.out _)) | (with_reducible refine bel_set ?_ (by simp) _) | (with_reducible refine bel_set ?_ (by simp; omega) _) | (with_reducible refine bel_set ?_ (by omega) _)))⟩
  case false =>
  have hLt := hx rfl
  have hLd : Light D.D.certs := hLt.d
  have hd80 : dn ≤ 80 := by rw [← HD.out.1]; exact hLd.1
  have hc40 : cn ≤ 40 := hLt.cn
  have hi40 : im ≤ 40 := hLt.i
  have hp40 : pn ≤ 40 := hLt.p
  have hlc : ∀ k, k < cn → LightC (cth D.C k) := hLt.c
  have HLD := Lib.hid hLd
  have HLC := Lib.hid hlc
  have hB1 : BoxR w1 w.heap.size [.int .i64 D.D.nodes, .int .i64 D.D.low, .slice dA dn dc, .slice cA cn cc, .slice iA im ic, .slice pA pn pc] := (BoxR.new w [.int .i64 D.D.nodes, .int .i64 D.D.low, .slice dA dn dc, .slice cA cn cc, .slice iA im ic, .slice pA pn pc] 58).up hb1
  have hbw1 : Below w.heap.size w w1 := by (repeat (first | (with_reducible exact Below.refl _ _) | (with_reducible assumption) | (with_reducible apply bel_alloc) | (with_reducible apply bel_drew) | (with_reducible apply bel_drewN) | (with_reducible refine bel_trans ?_ (by with_reducible assumption)) | (with_reducible refine bel_trans ?_ (HF.out _)) | (with_reducible refine bel_set ?_ (by simp) _) | (with_reducible refine bel_set ?_ (by simp; omega) _) | (with_reducible refine bel_set ?_ (by omega) _)))
  clear hx hLt hLd hlc hb1
  have HB1 := Lib.hid hB1
  have hg1 := hB1.1
  have b_0 := (hB1).2 0 _ rfl; have b_1 := (hB1).2 1 _ rfl; have b_2 := (hB1).2 2 _ rfl; have b_3 := (hB1).2 3 _ rfl; have b_4 := (hB1).2 4 _ rfl; have b_5 := (hB1).2 5 _ rfl
  clear hB1
  obtain ⟨y0, hy0⟩ : ∃ y, chkE D.D = y := ⟨_, rfl⟩
  have hy01 : y0 = 0 ∨ y0 = 1 := by rw [← hy0]; unfold chkE; split <;> simp
  have hJ0 : AddsJ D.D y0 0 D.D := ⟨by rw [← hy0]; unfold chkE; cases mayS D.D <;> simp, LightM.of HLD.out, by have := HLD.out.1; omega⟩
  have HCK := Lib.hid hy0
  have HY0 := Lib.hid hy01
  have HJ0 := Lib.hid hJ0
  clear hy0 hy01 hJ0
  go_wp2_with fail
  refine (copyDagMO dA dn dc D.D _ (HD.out.up hbw1) (LightM.of HLD.out)).mono ?_
  rintro e w2 ⟨eA0, ec0, ps0, rfl, ho2, hb2⟩
  have hec0 : dn ≤ ec0 := by
    rcases ho2.1.2 with ⟨e, hn0⟩ | ⟨g, cap, cur, e, _, _, hnc, _⟩
    · injection e with e1 e2 e3; omega
    · injection e with e1 e2 e3; omega
  have hE2 : CertsR w2 eA0 dn D.D.certs := ho2.cs' (by have := HLD.out.1; omega)
  replace hbw1 := bel_trans hbw1 hb2
  clear b_0 b_1 b_2 b_3 b_4 b_5; replace HB1 := Lib.hid (HB1.out.up hb2); replace hgHB1 := HB1.out.1; have b_0 := (HB1.out).2 0 _ rfl; have b_1 := (HB1.out).2 1 _ rfl; have b_2 := (HB1.out).2 2 _ rfl; have b_3 := (HB1.out).2 3 _ rfl; have b_4 := (HB1.out).2 4 _ rfl; have b_5 := (HB1.out).2 5 _ rfl
  have hG2 : Blk (w2.alloc (.cells #[.int .i64 D.D.nodes, .int .i64 D.D.low, .slice eA0 dn ec0] 24)) w2.heap.size 24 [.int .i64 D.D.nodes, .int .i64 D.D.low, .slice eA0 dn ec0] := Blk.new w2 24 [.int .i64 D.D.nodes, .int .i64 D.D.low, .slice eA0 dn ec0]
  have HE2 := Lib.hid hE2
  have HG2 := Lib.hid hG2
  have hgs : w.heap.size < w2.heap.size := hgHB1
  clear ho2 hE2 hG2
  go_wp2_with fail
  refine (law14_check eA0 dn ec0 D.D y0 _ (HE2.out.up (by (repeat (first | (with_reducible exact Below.refl _ _) | (with_reducible assumption) | (with_reducible apply bel_alloc) | (with_reducible apply bel_drew) | (with_reducible apply bel_drewN) | (with_reducible refine bel_trans ?_ (by with_reducible assumption)) | (with_reducible refine bel_trans ?_ (HF.out _)) | (with_reducible refine bel_set ?_ (by simp) _) | (with_reducible refine bel_set ?_ (by simp; omega) _) | (with_reducible refine bel_set ?_ (by omega) _))))) HCK.out).mono ?_
  rintro e w3 ⟨rfl, hb3⟩
  have hb3' : Below w2.heap.size w2 w3 := by (repeat (first | (with_reducible exact Below.refl _ _) | (with_reducible assumption) | (with_reducible apply bel_alloc) | (with_reducible apply bel_drew) | (with_reducible apply bel_drewN) | (with_reducible refine bel_trans ?_ (by with_reducible assumption)) | (with_reducible refine bel_trans ?_ (HF.out _)) | (with_reducible refine bel_set ?_ (by simp) _) | (with_reducible refine bel_set ?_ (by simp; omega) _) | (with_reducible refine bel_set ?_ (by omega) _)))
  have hbw3 := bel_trans hbw1 hb3'
  have HB3 := Lib.hid (HB1.out.up hb3')
  have HG3 := Lib.hid (HG2.out.up hb3)
  have HE3 := Lib.hid (HE2.out.up hb3')
  obtain ⟨g3, hg3⟩ : ∃ g, g = w2.heap.size := ⟨_, rfl⟩
  have hgg : w.heap.size < g3 := by omega
  rw [← hg3] at HG3
  clear b_0 b_1 b_2 b_3 b_4 b_5
  go_wp2_with fail
  rw [← hg3]
  clear hb3 hb3' hb2 hbw1 HB1 HG2 HE2 hgHB1 hgs hg3
  go_loopw [5] (fun si wr => ∃ (k : Nat) (E : DagD) (eA : Option Addr) (en ec : Nat), k ≤ cn ∧ si = .int .i64 k ∧ Hid (AddsJ D.D y0 k E) ∧ Hid (Blk wr g3 24 [.int .i64 E.nodes, .int .i64 E.low, .slice eA en ec]) ∧ Hid (CertsR wr eA en E.certs) ∧ en ≤ ec ∧ Hid (BoxR wr w.heap.size [.int .i64 D.D.nodes, .int .i64 D.D.low, .slice dA dn dc, .slice cA cn cc, .slice iA im ic, .slice pA pn pc]) ∧ Below w.heap.size w wr) (fun si _ => cn - (intOf si).toNat)
  case atStart => exact ⟨0, D.D, eA0, dn, ec0, Nat.zero_le _, rfl, HJ0, HG3, HE3, hec0, HB3, hbw3⟩
  case round =>
    clear HJ0 HG3 HE3 hec0 HB3 hbw3
    obtain ⟨k, E, eA, en, ec, hk, rfl, HJ, HG, HE, hec, HB, hbw⟩ := hrel
    (obtain ⟨wk, hwk⟩ : ∃ x, x = wr := ⟨_, rfl⟩); subst hwk
    have hgB := HB.out.1
    have hgG := HG.out.lt
    by_cases hlt : k < cn
    · obtain ⟨lb, loff, rfl, hlb, hlc2⟩ := (HC.out.up hbw).2.2 (by omega)
      obtain ⟨p, hat, hcr⟩ := hlc2 k hlt
      obtain ⟨C, hCd⟩ : ∃ C, cth D.C k = C := ⟨_, rfl⟩
      have HLC1 : Hid (LightC C) := Lib.hid (by rw [← hCd]; exact HLC.out k hlt)
      rw [hCd] at hat hcr
      obtain ⟨⟨⟨bA, bn, bc⟩, ⟨qA, qn, qc⟩⟩, ⟨sA, sn, sc⟩⟩ := p
      obtain ⟨c0, c1, c2, c3, c4, c5⟩ := hat
      dsimp only at c0 c1 c2 c3 c4 c5
      have HCs := HC
      have HC := Lib.hid hcr
      have HLCs := HLC
      have HLC := HLC1
      have hq2 : qn ≤ 3000 := by have := HLC.out.2.1; rw [hcr.1.2.1] at this; dsimp only at this; omega
      have hq1 : bn ≤ 3000 := by have := HLC.out.1; rw [hcr.1.1.1] at this; dsimp only at this; omega
      have hq3 : sn ≤ 3000 := by have := HLC.out.2.2; rw [hcr.2.1] at this; dsimp only at this; omega
      have hen : en ≤ 200 := by have h1 := HJ.out.n; have h2 := HE.out.1; omega
      have hcells : ∀ Y, Below wk.heap.size wk Y → (Y.cell? ⟨w.heap.size, 0, none⟩ = some (.int .i64 D.D.nodes) ∧ Y.cell? ⟨w.heap.size, 1, none⟩ = some (.int .i64 D.D.low) ∧ Y.cell? ⟨w.heap.size, 2, none⟩ = some (.slice dA dn dc) ∧ Y.cell? ⟨w.heap.size, 3, none⟩ = some (.slice (some ⟨lb, loff, none⟩) cn cc) ∧ Y.cell? ⟨w.heap.size, 4, none⟩ = some (.slice iA im ic) ∧ Y.cell? ⟨w.heap.size, 5, none⟩ = some (.slice pA pn pc)) ∧ (Y.cell? ⟨lb, loff + k * 6, none⟩ = some (.int .i64 C.h.au) ∧ Y.cell? ⟨lb, loff + k * 6 + 1, none⟩ = some (.int .i64 C.h.ro) ∧ Y.cell? ⟨lb, loff + k * 6 + 2, none⟩ = some (.slice bA bn bc) ∧ Y.cell? ⟨lb, loff + k * 6 + 3, none⟩ = some (.slice qA qn qc) ∧ Y.cell? ⟨lb, loff + k * 6 + 4, none⟩ = some (.int .i64 C.di) ∧ Y.cell? ⟨lb, loff + k * 6 + 5, none⟩ = some (.slice sA sn sc)) ∧ (Y.cell? ⟨g3, 0, none⟩ = some (.int .i64 E.nodes) ∧ Y.cell? ⟨g3, 1, none⟩ = some (.int .i64 E.low) ∧ Y.cell? ⟨g3, 2, none⟩ = some (.slice eA en ec)) := fun Y hY =>
        ⟨⟨(HB.out.up hY).2 0 _ rfl, (HB.out.up hY).2 1 _ rfl, (HB.out.up hY).2 2 _ rfl, (HB.out.up hY).2 3 _ rfl, (HB.out.up hY).2 4 _ rfl, (HB.out.up hY).2 5 _ rfl⟩,
          ⟨(hY.cell (p := ⟨lb, loff + k * 6, none⟩) hlb).trans c0, (hY.cell (p := ⟨lb, loff + k * 6 + 1, none⟩) hlb).trans c1, (hY.cell (p := ⟨lb, loff + k * 6 + 2, none⟩) hlb).trans c2, (hY.cell (p := ⟨lb, loff + k * 6 + 3, none⟩) hlb).trans c3, (hY.cell (p := ⟨lb, loff + k * 6 + 4, none⟩) hlb).trans c4, (hY.cell (p := ⟨lb, loff + k * 6 + 5, none⟩) hlb).trans c5⟩,
          ⟨(HG.out.up hY).box.2 0 _ rfl, (HG.out.up hY).box.2 1 _ rfl, (HG.out.up hY).box.2 2 _ rfl⟩⟩
      have HCL := Lib.hid hcells
      obtain ⟨r, hr⟩ : ∃ r, addE E C = r := ⟨_, rfl⟩
      obtain ⟨R, hR⟩ : ∃ R, addD E C = R := ⟨_, rfl⟩
      have hsp := addE_split E C
      have HRE := Lib.hid hr
      have HRD0 := Lib.hid hR
      have hrb := addE_bd E C
      rw [hr, hR] at hsp
      rw [hr] at hrb
      clear hlc2 hcr hCd hcells c0 c1 c2 c3 c4 c5 hr hR
      obtain ⟨⟨b_0, b_1, b_2, b_3, b_4, b_5⟩, ⟨q_0, q_1, q_2, q_3, q_4, q_5⟩, ⟨e_0, e_1, e_2⟩⟩ := HCL.out wk (by (repeat (first | (with_reducible exact Below.refl _ _) | (with_reducible assumption) | (with_reducible apply bel_alloc) | (with_reducible apply bel_drew) | (with_reducible apply bel_drewN) | (with_reducible refine bel_trans ?_ (by with_reducible assumption)) | (with_reducible refine bel_trans ?_ (HF.out _)) | ((with_reducible refine bel_set3 ?_ ?_); rotate_left; omega))))
      go_upto_if 29 with fail
      have hX : Blk (wk.alloc (.cells #[.int .i64 0, .int .i64 0, .slice none 0 0] 24)) wk.heap.size 24 [.int .i64 0, .int .i64 0, .slice none 0 0] := Blk.new wk 24 [.int .i64 0, .int .i64 0, .slice none 0 0]
      have hbX : Below wk.heap.size wk (wk.alloc (.cells #[.int .i64 0, .int .i64 0, .slice none 0 0] 24)) := by (repeat (first | (with_reducible exact Below.refl _ _) | (with_reducible assumption) | (with_reducible apply bel_alloc) | (with_reducible apply bel_drew) | (with_reducible apply bel_drewN) | (with_reducible refine bel_trans ?_ (by with_reducible assumption)) | (with_reducible refine bel_trans ?_ (HF.out _)) | (with_reducible refine bel_set ?_ (by simp) _) | (with_reducible refine bel_set ?_ (by simp; omega) _) | (with_reducible refine bel_set ?_ (by omega) _)))
      generalize (wk.alloc (.cells #[.int .i64 0, .int .i64 0, .slice none 0 0] 24)) = X at *
      have hbwX : Below w.heap.size w X := bel_trans hbw hbX
      have HX := Lib.hid hX
      have hxl := hX.lt
      have hxf := hX.frozen
      have x_0 := (hX.box).2 0 _ rfl; have x_1 := (hX.box).2 1 _ rfl; have x_2 := (hX.box).2 2 _ rfl
      clear hX
      clear b_0 b_1 b_2 b_3 b_4 b_5 q_0 q_1 q_2 q_3 q_4 q_5 e_0 e_1 e_2
      obtain ⟨⟨b_0, b_1, b_2, b_3, b_4, b_5⟩, ⟨q_0, q_1, q_2, q_3, q_4, q_5⟩, ⟨e_0, e_1, e_2⟩⟩ := HCL.out X (by (repeat (first | (with_reducible exact Below.refl _ _) | (with_reducible assumption) | (with_reducible apply bel_alloc) | (with_reducible apply bel_drew) | (with_reducible apply bel_drewN) | (with_reducible refine bel_trans ?_ (by with_reducible assumption)) | (with_reducible refine bel_trans ?_ (HF.out _)) | ((with_reducible refine bel_set3 ?_ ?_); rotate_left; omega))))
      go_cut [7] from 28 to 42 (fun s7 wx => s7 = .int .i64 r ∧ ∃ (wA : Option Addr) (wn wc2 : Nat), Blk wx wk.heap.size 24 [.int .i64 R.nodes, .int .i64 R.low, .slice wA wn wc2] ∧ Hid (CertsR wx wA wn R.certs) ∧ Below wk.heap.size wk wx)
      case first =>
        rcases hsp with ⟨hm, hr, hR⟩ | ⟨hm, hrr, ⟨hr, hR⟩ | ⟨hr, hR⟩⟩
        · have hy1 : y0 = 1 := by
            rcases HY0.out with h | h
            · have := HJ.out.m.2 h; rw [hm] at this; cases this
            · exact h
          subst hy1
          subst hr
          go_wp2_with fail
          go_meet
          refine ⟨rfl, none, 0, 0, ?_, Lib.hid (by rw [hR]; exact certsR_nil0 _ _), hbX⟩
          rw [hR]; exact HX.out
        · have hy0 := HJ.out.m.1 hm
          subst hy0
          have hrb : r = 0 := hr
          subst hrb
          have HRD := Lib.hid hR
          obtain ⟨z1, z2, z3, z4, z5⟩ := radd_zero hm HRE.out
          obtain ⟨xa, hxa⟩ : ∃ z, atS E.certs C.h.ro C.h.au = z := ⟨_, rfl⟩
          obtain ⟨xb, hxb⟩ : ∃ z, findS E.certs C.di = z := ⟨_, rfl⟩
          rw [hxa] at z3
          rw [hxb] at z4
          have HXA := Lib.hid hxa
          have HXB := Lib.hid hxb
          have HZ1 := Lib.hid z1
          have HZ2 := Lib.hid z2
          have HZ5 := Lib.hid z5
          have hbd := certS_bd z1
          have hro1 : 1 ≤ C.h.ro := hbd.2.2.2.2.2.1
          have hro2 : C.h.ro ≤ 1099511627776 := hbd.2.2.2.2.2.2.1
          clear hm hrr hr hR z1 z2 z5 hxa hxb hbd
          go_upto_region 10 with fail
          clear b_0 b_1 b_2 b_3 b_4 b_5 q_0 q_1 q_2 q_3 q_4 q_5 e_0 e_1 e_2
          go_region_held3 (fun Y => (Y.cell? ⟨w.heap.size, 0, none⟩ = some (.int .i64 D.D.nodes) ∧ Y.cell? ⟨w.heap.size, 1, none⟩ = some (.int .i64 D.D.low) ∧ Y.cell? ⟨w.heap.size, 2, none⟩ = some (.slice dA dn dc) ∧ Y.cell? ⟨w.heap.size, 3, none⟩ = some (.slice (some ⟨lb, loff, none⟩) cn cc) ∧ Y.cell? ⟨w.heap.size, 4, none⟩ = some (.slice iA im ic) ∧ Y.cell? ⟨w.heap.size, 5, none⟩ = some (.slice pA pn pc)) ∧ (Y.cell? ⟨lb, loff + k * 6, none⟩ = some (.int .i64 C.h.au) ∧ Y.cell? ⟨lb, loff + k * 6 + 1, none⟩ = some (.int .i64 C.h.ro) ∧ Y.cell? ⟨lb, loff + k * 6 + 2, none⟩ = some (.slice bA bn bc) ∧ Y.cell? ⟨lb, loff + k * 6 + 3, none⟩ = some (.slice qA qn qc) ∧ Y.cell? ⟨lb, loff + k * 6 + 4, none⟩ = some (.int .i64 C.di) ∧ Y.cell? ⟨lb, loff + k * 6 + 5, none⟩ = some (.slice sA sn sc)) ∧ (Y.cell? ⟨g3, 0, none⟩ = some (.int .i64 E.nodes) ∧ Y.cell? ⟨g3, 1, none⟩ = some (.int .i64 E.low) ∧ Y.cell? ⟨g3, 2, none⟩ = some (.slice eA en ec)))
            (exact HCL.out _ (by (repeat (first | (with_reducible exact Below.refl _ _) | (with_reducible assumption) | (with_reducible apply bel_alloc) | (with_reducible apply bel_drew) | (with_reducible apply bel_drewN) | (with_reducible refine bel_trans ?_ (by with_reducible assumption)) | (with_reducible refine bel_trans ?_ (HF.out _)) | ((with_reducible refine bel_set3 ?_ ?_); rotate_left; omega)))))
            ((go_at_call 41; refine (ref14_Add_ok eA en ec E C bA qA sA bn bc qn qc sn sc _ (HE.out.up (bel_trans hbX (by (repeat (first | (with_reducible exact Below.refl _ _) | (with_reducible assumption) | (with_reducible apply bel_alloc) | (with_reducible apply bel_drew) | (with_reducible apply bel_drewN) | (with_reducible refine bel_trans ?_ (by with_reducible assumption)) | (with_reducible refine bel_trans ?_ (HF.out _)) | (with_reducible refine bel_set ?_ (by simp) _) | (with_reducible refine bel_set ?_ (by simp; omega) _) | (with_reducible refine bel_set ?_ (by omega) _)))))) (HC.out.up (bel_trans hbX (by (repeat (first | (with_reducible exact Below.refl _ _) | (with_reducible assumption) | (with_reducible apply bel_alloc) | (with_reducible apply bel_drew) | (with_reducible apply bel_drewN) | (with_reducible refine bel_trans ?_ (by with_reducible assumption)) | (with_reducible refine bel_trans ?_ (HF.out _)) | (with_reducible refine bel_set ?_ (by simp) _) | (with_reducible refine bel_set ?_ (by simp; omega) _) | (with_reducible refine bel_set ?_ (by omega) _)))))) xa xb HXA.out HXB.out HZ1.out HZ2.out z3 z4 HZ5.out (by omega) (by omega) hro1 hro2 HJ.out.l HLC.out hec).mono ?_; rintro e w7 ⟨v7, qs7, rfl, ho7, hb7⟩; obtain ⟨wA, wn, wc2, rfl, hwn⟩ := ho7.named2 (by rw [insC_len]; have := HJ.out.n; omega); have HO7 := Lib.hid ho7; have HWN := Lib.hid hwn; clear ho7 hwn; have hX7 := HX.out.up (bel_trans (bel_drew (Below.refl _ _)) hb7); have hxl7 := hX7.lt; have hxf7 := hX7.frozen; have y_0 := (hX7.box).2 0 _ rfl; have y_1 := (hX7.box).2 1 _ rfl; have y_2 := (hX7.box).2 2 _ rfl; have HX7 := Lib.hid hX7; clear hX7))
          all_goals
            go_wp2_with fail
            go_meet
            have h7 : Below wk.heap.size wk w7 := bel_trans hbX (bel_trans (bel_drew (Below.refl _ _)) hb7)
            have ho8 := ((HO7.out.setLow (b := wk.heap.size) (o := 0) (u := .int .i64 E.nodes) (by simpa using hxl)).setLow (b := wk.heap.size) (o := 1) (u := .int .i64 E.low) (by simpa using hxl)).setLow (b := wk.heap.size) (o := 2) (u := .slice wA wn wc2) (by simpa using hxl)
            refine ⟨rfl, wA, wn, wc2, ?_, Lib.hid ?_, by (repeat (first | (with_reducible exact Below.refl _ _) | (with_reducible assumption) | (with_reducible apply bel_alloc) | (with_reducible apply bel_drew) | (with_reducible apply bel_drewN) | (with_reducible refine bel_trans ?_ (by with_reducible assumption)) | (with_reducible refine bel_trans ?_ (HF.out _)) | ((with_reducible refine bel_set3 ?_ ?_); rotate_left; omega)))⟩
            · rw [HRD.out]; exact ((HX7.out.set_ 0 _).set_ 1 _).set_ 2 _
            · rw [HRD.out]; exact ho8.cs' (by rw [insC_len]; have := HJ.out.n; omega)
        · have hy0 := HJ.out.m.1 hm
          subst hy0
          have hr0 : r ≠ 0 := hr
          have hrd : (r != 0) = true := by simpa using hr0
          have hrd2 : (r == 0) = false := by simpa using hr0
          have HRD := Lib.hid hR
          have HM := Lib.hid hm
          have HRR := Lib.hid (show raddE E C = r from hrr.symm)
          have HR0 := Lib.hid hr0
          clear hm hrr hr hR hr0
          go_upto_region 10 with fail
          clear b_0 b_1 b_2 b_3 b_4 b_5 q_0 q_1 q_2 q_3 q_4 q_5 e_0 e_1 e_2
          go_region_held3 (fun Y => (Y.cell? ⟨w.heap.size, 0, none⟩ = some (.int .i64 D.D.nodes) ∧ Y.cell? ⟨w.heap.size, 1, none⟩ = some (.int .i64 D.D.low) ∧ Y.cell? ⟨w.heap.size, 2, none⟩ = some (.slice dA dn dc) ∧ Y.cell? ⟨w.heap.size, 3, none⟩ = some (.slice (some ⟨lb, loff, none⟩) cn cc) ∧ Y.cell? ⟨w.heap.size, 4, none⟩ = some (.slice iA im ic) ∧ Y.cell? ⟨w.heap.size, 5, none⟩ = some (.slice pA pn pc)) ∧ (Y.cell? ⟨lb, loff + k * 6, none⟩ = some (.int .i64 C.h.au) ∧ Y.cell? ⟨lb, loff + k * 6 + 1, none⟩ = some (.int .i64 C.h.ro) ∧ Y.cell? ⟨lb, loff + k * 6 + 2, none⟩ = some (.slice bA bn bc) ∧ Y.cell? ⟨lb, loff + k * 6 + 3, none⟩ = some (.slice qA qn qc) ∧ Y.cell? ⟨lb, loff + k * 6 + 4, none⟩ = some (.int .i64 C.di) ∧ Y.cell? ⟨lb, loff + k * 6 + 5, none⟩ = some (.slice sA sn sc)) ∧ (Y.cell? ⟨g3, 0, none⟩ = some (.int .i64 E.nodes) ∧ Y.cell? ⟨g3, 1, none⟩ = some (.int .i64 E.low) ∧ Y.cell? ⟨g3, 2, none⟩ = some (.slice eA en ec)))
            (exact HCL.out _ (by (repeat (first | (with_reducible exact Below.refl _ _) | (with_reducible assumption) | (with_reducible apply bel_alloc) | (with_reducible apply bel_drew) | (with_reducible apply bel_drewN) | (with_reducible refine bel_trans ?_ (by with_reducible assumption)) | (with_reducible refine bel_trans ?_ (HF.out _)) | ((with_reducible refine bel_set3 ?_ ?_); rotate_left; omega)))))
            ((go_at_call 41; refine (ref14_Add_no eA en ec E C bA qA sA bn bc qn qc sn sc r _ (HE.out.up (bel_trans hbX (by (repeat (first | (with_reducible exact Below.refl _ _) | (with_reducible assumption) | (with_reducible apply bel_alloc) | (with_reducible apply bel_drew) | (with_reducible apply bel_drewN) | (with_reducible refine bel_trans ?_ (by with_reducible assumption)) | (with_reducible refine bel_trans ?_ (HF.out _)) | (with_reducible refine bel_set ?_ (by simp) _) | (with_reducible refine bel_set ?_ (by simp; omega) _) | (with_reducible refine bel_set ?_ (by omega) _)))))) (HC.out.up (bel_trans hbX (by (repeat (first | (with_reducible exact Below.refl _ _) | (with_reducible assumption) | (with_reducible apply bel_alloc) | (with_reducible apply bel_drew) | (with_reducible apply bel_drewN) | (with_reducible refine bel_trans ?_ (by with_reducible assumption)) | (with_reducible refine bel_trans ?_ (HF.out _)) | (with_reducible refine bel_set ?_ (by simp) _) | (with_reducible refine bel_set ?_ (by simp; omega) _) | (with_reducible refine bel_set ?_ (by omega) _)))))) HM.out (by omega) HRR.out HR0.out).mono ?_; rintro e w7 ⟨rfl, hb7⟩; have hX7 := HX.out.up (bel_trans (bel_drew (Below.refl _ _)) hb7); have hxl7 := hX7.lt; have hxf7 := hX7.frozen; have y_0 := (hX7.box).2 0 _ rfl; have y_1 := (hX7.box).2 1 _ rfl; have y_2 := (hX7.box).2 2 _ rfl; have hY7 := ((hX7.set_ 0 (.int .i64 E.nodes)).set_ 1 (.int .i64 E.low)).set_ 2 (.slice eA en ec); have hyf7 := hY7.frozen; have HY7 := Lib.hid hY7; clear hX7 hY7))
          all_goals
            go_wp2_with fail
            go_meet
            have h7 : Below wk.heap.size wk w7 := bel_trans hbX (bel_trans (bel_drew (Below.refl _ _)) hb7)
            refine ⟨rfl, none, 0, 0, ?_, Lib.hid (by rw [HRD.out]; exact certsR_nil0 _ _), by (repeat (first | (with_reducible exact Below.refl _ _) | (with_reducible assumption) | (with_reducible apply bel_alloc) | (with_reducible apply bel_drew) | (with_reducible apply bel_drewN) | (with_reducible refine bel_trans ?_ (by with_reducible assumption)) | (with_reducible refine bel_trans ?_ (HF.out _)) | ((with_reducible refine bel_set3 ?_ ?_); rotate_left; omega)))⟩
            rw [HRD.out]; exact ((HY7.out.set_ 0 _).set_ 1 _).set_ 2 _
      case rest =>
      obtain ⟨rfl, wA, wn, wc2, hW, HWR, hbu⟩ := hcut
      obtain ⟨u, hu⟩ : ∃ x, x = wc := ⟨_, rfl⟩
      subst hu
      have HW := Lib.hid hW
      clear hW x_0 x_1 x_2 hxf hxl HX hbX hbwX
      clear b_0 b_1 b_2 b_3 b_4 b_5 q_0 q_1 q_2 q_3 q_4 q_5 e_0 e_1 e_2
      have hgk : g3 < wk.heap.size := hgG
      have HCC := HC
      have hlk : lb < wk.heap.size := hlb
      have hRl : R.certs.length ≤ 201 := by
        rcases hsp with ⟨_, _, h⟩ | ⟨_, _, ⟨_, h⟩ | ⟨_, h⟩⟩
        · rw [h]; simp
        · rw [h]; show (insC E.certs C).length ≤ 201; rw [insC_len]; have h1 := HE.out.1; omega
        · rw [h]; simp
      have hRL : LightM R.certs := by
        rcases hsp with ⟨_, _, h⟩ | ⟨_, _, ⟨_, h⟩ | ⟨_, h⟩⟩
        · rw [h]; exact ⟨by simp, fun k hk => absurd hk (by simp)⟩
        · rw [h]; exact HJ.out.l.ins HLC.out (by have h1 := HE.out.1; omega)
        · rw [h]; exact ⟨by simp, fun k hk => absurd hk (by simp)⟩
      have HRL := Lib.hid hRL
      have HRS : Hid (Short R.certs) := Lib.hid (fun k hk => by obtain ⟨a1, a2, a3⟩ := hRL.2 k hk; exact ⟨Nat.le_trans a1 (by omega), Nat.le_trans a2 (by omega), Nat.le_trans a3 (by omega)⟩)
      clear hsp hRL
      obtain ⟨⟨b_0, b_1, b_2, b_3, b_4, b_5⟩, ⟨q_0, q_1, q_2, q_3, q_4, q_5⟩, ⟨e_0, e_1, e_2⟩⟩ := HCL.out u hbu
      go_wp2_with fail
      refine (copyDagMO eA en ec E _ (HE.out.up hbu) HJ.out.l).mono ?_
      rintro e u1 ⟨A8, c8, ps8, rfl, ho8, hb8⟩
      have hE8 : CertsR u1 A8 en E.certs := ho8.cs' (by have h1 := HE.out.1; omega)
      have hbu1 := bel_trans hbu hb8
      have hG8 : Blk (u1.alloc (.cells #[.int .i64 E.nodes, .int .i64 E.low, .slice A8 en c8] 24)) u1.heap.size 24 [.int .i64 E.nodes, .int .i64 E.low, .slice A8 en c8] := Blk.new u1 24 [.int .i64 E.nodes, .int .i64 E.low, .slice A8 en c8]
      have hbA : Below u1.heap.size u1 (u1.alloc (.cells #[.int .i64 E.nodes, .int .i64 E.low, .slice A8 en c8] 24)) := by (repeat (first | (with_reducible exact Below.refl _ _) | (with_reducible assumption) | (with_reducible apply bel_alloc) | (with_reducible apply bel_drew) | (with_reducible apply bel_drewN) | (with_reducible refine bel_trans ?_ (by with_reducible assumption)) | (with_reducible refine bel_trans ?_ (HF.out _)) | (with_reducible refine bel_set ?_ (by simp) _) | (with_reducible refine bel_set ?_ (by simp; omega) _) | (with_reducible refine bel_set ?_ (by omega) _)))
      obtain ⟨g8, hg8⟩ : ∃ g, g = u1.heap.size := ⟨_, rfl⟩
      have hk8 : wk.heap.size < g8 := by rw [hg8]; have h1 := HW.out.lt; have h2 := hb8.size; omega
      rw [← hg8] at hG8
      go_upto_region 14 with fail
      rw [← hg8]
      generalize (u1.alloc (.cells #[.int .i64 E.nodes, .int .i64 E.low, .slice A8 en c8] 24)) = v at *
      have hbkv := bel_trans hbu1 hbA
      have HG8 := Lib.hid hG8
      have HE8 := Lib.hid (hE8.up hbA)
      have HWv := Lib.hid ((HW.out.up hb8).up hbA)
      have HRv := Lib.hid ((HWR.out.up hb8).up hbA)
      have h8l := hG8.lt
      clear ho8 hE8 hb8 hbA hG8 hg8 b_0 b_1 b_2 b_3 b_4 b_5 q_0 q_1 q_2 q_3 q_4 q_5 e_0 e_1 e_2 HW HWR
      obtain ⟨⟨b_0, b_1, b_2, b_3, b_4, b_5⟩, ⟨q_0, q_1, q_2, q_3, q_4, q_5⟩, ⟨e_0, e_1, e_2⟩⟩ := HCL.out v hbkv
      go_wp2_with fail
      refine (ref0_CopyCert C bA qA sA bn bc qn qc sn sc _ (HC.out.up hbkv) (by omega) (by omega) (by omega)).mono ?_
      rintro e v1 ⟨⟨⟨⟨c1, n1, k1⟩, ⟨c2, n2, k2⟩⟩, ⟨c3, n3, k3⟩⟩, rfl, hR9, hN9, hb9⟩
      have hG9 : Blk (v1.alloc (.cells #[.int .i64 C.h.au, .int .i64 C.h.ro, .slice c1 n1 k1, .slice c2 n2 k2, .int .i64 C.di, .slice c3 n3 k3] 48)) v1.heap.size 48 [.int .i64 C.h.au, .int .i64 C.h.ro, .slice c1 n1 k1, .slice c2 n2 k2, .int .i64 C.di, .slice c3 n3 k3] := Blk.new v1 48 [.int .i64 C.h.au, .int .i64 C.h.ro, .slice c1 n1 k1, .slice c2 n2 k2, .int .i64 C.di, .slice c3 n3 k3]
      have hbB : Below v1.heap.size v1 (v1.alloc (.cells #[.int .i64 C.h.au, .int .i64 C.h.ro, .slice c1 n1 k1, .slice c2 n2 k2, .int .i64 C.di, .slice c3 n3 k3] 48)) := by (repeat (first | (with_reducible exact Below.refl _ _) | (with_reducible assumption) | (with_reducible apply bel_alloc) | (with_reducible apply bel_drew) | (with_reducible apply bel_drewN) | (with_reducible refine bel_trans ?_ (by with_reducible assumption)) | (with_reducible refine bel_trans ?_ (HF.out _)) | (with_reducible refine bel_set ?_ (by simp) _) | (with_reducible refine bel_set ?_ (by simp; omega) _) | (with_reducible refine bel_set ?_ (by omega) _)))
      obtain ⟨g9, hg9⟩ : ∃ g, g = v1.heap.size := ⟨_, rfl⟩
      have hk9 : g8 < g9 := by rw [hg9]; have h2 := hb9.size; omega
      rw [← hg9] at hG9
      go_upto_region 15 with fail
      rw [← hg9]
      generalize (v1.alloc (.cells #[.int .i64 C.h.au, .int .i64 C.h.ro, .slice c1 n1 k1, .slice c2 n2 k2, .int .i64 C.di, .slice c3 n3 k3] 48)) = x at *
      have hbvx := bel_trans hb9 hbB
      have hbkx := bel_trans hbkv hbvx
      have HG9 := Lib.hid hG9
      have HR9 := Lib.hid (hR9.up hbB)
      have HG8x := Lib.hid (HG8.out.up hbvx)
      have HE8x := Lib.hid (HE8.out.up hbvx)
      have HWx := Lib.hid (HWv.out.up hbvx)
      have HRx := Lib.hid (HRv.out.up hbvx)
      have h9l := hG9.lt
      have h8x := HG8x.out.lt
      clear hR9 hN9 hb9 hbB hG9 hg9 HG8 HE8 HWv HRv b_0 b_1 b_2 b_3 b_4 b_5 q_0 q_1 q_2 q_3 q_4 q_5 e_0 e_1 e_2
      have f_0 := (HG8x.out.box).2 0 _ rfl; have f_1 := (HG8x.out.box).2 1 _ rfl; have f_2 := (HG8x.out.box).2 2 _ rfl
      have h_0 := (HG9.out.box).2 0 _ rfl; have h_1 := (HG9.out.box).2 1 _ rfl; have h_2 := (HG9.out.box).2 2 _ rfl; have h_3 := (HG9.out.box).2 3 _ rfl; have h_4 := (HG9.out.box).2 4 _ rfl; have h_5 := (HG9.out.box).2 5 _ rfl
      go_wp2_with fail
      refine (dag_Add A8 en c8 E C c1 c2 c3 n1 k1 n2 k2 n3 k3 r R _ HE8x.out HR9.out HRE.out HRD0.out).mono ?_
      rintro e x1 ⟨v10, qs10, rfl, ho10, hb10⟩
      obtain ⟨A10, k10, rfl, _⟩ := own_row ho10.1 (by omega)
      obtain ⟨m10, hm10⟩ : ∃ m, R.certs.length = m := ⟨_, rfl⟩
      have hC10 : CertsR x1 A10 m10 R.certs := by rw [← hm10]; exact ho10.cs' HRS.out (by omega)
      rw [hm10]
      have hG10 : Blk (x1.alloc (.cells #[.int .i64 R.nodes, .int .i64 R.low, .slice A10 m10 k10] 24)) x1.heap.size 24 [.int .i64 R.nodes, .int .i64 R.low, .slice A10 m10 k10] := Blk.new x1 24 [.int .i64 R.nodes, .int .i64 R.low, .slice A10 m10 k10]
      have hbD : Below x1.heap.size x1 (x1.alloc (.cells #[.int .i64 R.nodes, .int .i64 R.low, .slice A10 m10 k10] 24)) := by (repeat (first | (with_reducible exact Below.refl _ _) | (with_reducible assumption) | (with_reducible apply bel_alloc) | (with_reducible apply bel_drew) | (with_reducible apply bel_drewN) | (with_reducible refine bel_trans ?_ (by with_reducible assumption)) | (with_reducible refine bel_trans ?_ (HF.out _)) | (with_reducible refine bel_set ?_ (by simp) _) | (with_reducible refine bel_set ?_ (by simp; omega) _) | (with_reducible refine bel_set ?_ (by omega) _)))
      obtain ⟨g10, hg10⟩ : ∃ g, g = x1.heap.size := ⟨_, rfl⟩
      have hk10 : g9 < g10 := by rw [hg10]; have h2 := hb10.size; omega
      rw [← hg10] at hG10
      go_upto_region 16 with fail
      rw [← hg10]
      generalize (x1.alloc (.cells #[.int .i64 R.nodes, .int .i64 R.low, .slice A10 m10 k10] 24)) = y at *
      have hbxy := bel_trans hb10 hbD
      have hbky := bel_trans hbkx hbxy
      have HO10 := Lib.hid ho10
      have HG10 := Lib.hid hG10
      have HC10 := Lib.hid (hC10.up hbD)
      have HBD := Lib.hid hbD
      have hgl10 := hG10.lt
      have HMW : Hid (wn = m10) := Lib.hid (by rw [← hm10]; exact HRx.out.1.symm)
      have HM10 := Lib.hid hm10
      have hbl : w.heap.size < y.heap.size := by have h1 := hbky.size; omega
      clear hm10 ho10 hC10 hG10 hg10 f_0 f_1 f_2 h_0 h_1 h_2 h_3 h_4 h_5
      obtain ⟨⟨b_0, b_1, b_2, b_3, b_4, b_5⟩, ⟨q_0, q_1, q_2, q_3, q_4, q_5⟩, ⟨e_0, e_1, e_2⟩⟩ := HCL.out y hbky
      have f_0 := ((HG8x.out.up hbxy).box).2 0 _ rfl; have f_1 := ((HG8x.out.up hbxy).box).2 1 _ rfl; have f_2 := ((HG8x.out.up hbxy).box).2 2 _ rfl
      have h_0 := ((HG9.out.up hbxy).box).2 0 _ rfl; have h_1 := ((HG9.out.up hbxy).box).2 1 _ rfl; have h_2 := ((HG9.out.up hbxy).box).2 2 _ rfl; have h_3 := ((HG9.out.up hbxy).box).2 3 _ rfl; have h_4 := ((HG9.out.up hbxy).box).2 4 _ rfl; have h_5 := ((HG9.out.up hbxy).box).2 5 _ rfl
      have o_0 := ((HWx.out.up hbxy).box).2 0 _ rfl; have o_1 := ((HWx.out.up hbxy).box).2 1 _ rfl; have o_2 := ((HWx.out.up hbxy).box).2 2 _ rfl
      have t_0 := (HG10.out.box).2 0 _ rfl; have t_1 := (HG10.out.box).2 1 _ rfl; have t_2 := (HG10.out.box).2 2 _ rfl
      have hrr : (r != r) = false := by simp
      have hbx1 : x.heap.size ≤ x1.heap.size := hb10.size
      go_cut [82] from 57 to 82 (fun s82 wx => s82 = .bool false ∧ Below y.heap.size y wx)
      case first =>
        refine wp_region_fam (by kernel_rfl) (by kernel_rfl) (fun ι F hne hF hcl => ?_)
        have hcF0 := fun n o => (bcell (hF n)).1 (w.heap.size) o (by first | (simp; done) | (simp; omega) | omega)
        have hcF1 := fun n o => (bcell (hF n)).1 (lb) o (by first | (simp; done) | (simp; omega) | omega)
        have hcF2 := fun n o => (bcell (hF n)).1 (g3) o (by first | (simp; done) | (simp; omega) | omega)
        have hcF3 := fun n o => (bcell (hF n)).1 (wk.heap.size) o (by first | (simp; done) | (simp; omega) | omega)
        have hcF4 := fun n o => (bcell (hF n)).1 (g8) o (by first | (simp; done) | (simp; omega) | omega)
        have hcF5 := fun n o => (bcell (hF n)).1 (g9) o (by first | (simp; done) | (simp; omega) | omega)
        have hcF6 := fun n o => (bcell (hF n)).1 (g10) o (by first | (simp; done) | (simp; omega) | omega)
        have HF := Lib.hid hF; clear hF
        have HC := Lib.hid hcl; clear hcl
        iterate 9 (go_big_quiet_step (first | (go_at_call 44; exact Calls.fam_same (law14_num _ _)) | (go_at_call 23; exact Calls.fam HC.out (ref0_EqDag' A10 m10 k10 wA wn wc2 R _ _ _ rfl rfl HMW.out (HC10.out.up (HF.out _)) ((HRx.out.up hbxy).up (HF.out _))))))
        repeat (go_big_quiet_step (first | (go_at_call 23; exact Calls.fam HC.out (ref0_EqDag' A8 en c8 eA en ec E _ _ _ rfl rfl rfl ((HE8x.out.up hbxy).up (HF.out _)) ((HE.out.up hbky).up (HF.out _)))) | (go_at_call 45; exact Calls.fam HC.out (ref0_EqCert' C c1 c2 c3 bA qA sA n1 k1 n2 k2 n3 k3 bn bc qn qc sn sc _ ((HR9.out.up hbxy).up (HF.out _)) ((HCC.out.up hbky).up (HF.out _))))))
        refine wpQuiet_nil ?_
        intro nq
        all_goals (try (exfalso; omega))
        have hFwg := HF.out nq
        clear HF HC hne
        generalize F nq = wg at *
        go_wp2_with fail
        go_meet
        exact ⟨rfl, hFwg⟩
      case rest =>
      obtain ⟨rfl, hbz⟩ := hcut
      obtain ⟨z, hzz⟩ : ∃ x, x = wc := ⟨_, rfl⟩
      subst hzz
      have hG10z := HG10.out.up hbz
      have hl10z := hG10z.lt
      clear b_0 b_1 b_2 b_3 b_4 b_5 q_0 q_1 q_2 q_3 q_4 q_5 e_0 e_1 e_2 f_0 f_1 f_2 h_0 h_1 h_2 h_3 h_4 h_5 o_0 o_1 o_2 t_0 t_1 t_2
      have t_0 := (hG10z.box).2 0 _ rfl; have t_1 := (hG10z.box).2 1 _ rfl; have t_2 := (hG10z.box).2 2 _ rfl
      go_wp2_with fail
      have hb1z : Below x1.heap.size x1 z := bel_trans HBD.out hbz
      refine (law0_Certs _ m10 (rowCells qs10 R.certs) x.heap.size x1.heap.size _ (by have h1 := own_up HO10.out.1 hb1z; rw [HM10.out] at h1; exact h1) (fun j hj => (OwnD.rows HO10.out (Nat.le_refl _) (fun k hk => (by obtain ⟨a1, a2, a3⟩ := HRL.out.2 k hk; exact ⟨Nat.le_trans a1 (by omega), Nat.le_trans a2 (by omega), Nat.le_trans a3 (by omega)⟩)) j (by rw [HM10.out]; exact hj)).keep (KeepT.of_below hb1z)) (by have h1 := HM10.out; omega) (Nat.le_trans hbx1 hb1z.size) (fun g hg => (own_lt HO10.out.1 g (by rw [HM10.out]; exact hg)).2)).mono ?_
      rintro e z1 ⟨rfl, hmz⟩
      have hbxz : Below x.heap.size x z1 := (bel_trans hbxy hbz).trans (hmz.below (Nat.le_trans hbx1 hb1z.size))
      have hbkz := bel_trans hbkx hbxz
      have hbl1 : w.heap.size < z1.heap.size := by have h1 := hbkz.size; omega
      have h8z := (HG8x.out.up hbxz).lt
      have h9z := (HG9.out.up hbxz).lt
      clear t_0 t_1 t_2 hG10z hmz
      obtain ⟨⟨b_0, b_1, b_2, b_3, b_4, b_5⟩, ⟨q_0, q_1, q_2, q_3, q_4, q_5⟩, ⟨e_0, e_1, e_2⟩⟩ := HCL.out z1 hbkz
      have f_0 := ((HG8x.out.up hbxz).box).2 0 _ rfl; have f_1 := ((HG8x.out.up hbxz).box).2 1 _ rfl; have f_2 := ((HG8x.out.up hbxz).box).2 2 _ rfl
      have h_0 := ((HG9.out.up hbxz).box).2 0 _ rfl; have h_1 := ((HG9.out.up hbxz).box).2 1 _ rfl; have h_2 := ((HG9.out.up hbxz).box).2 2 _ rfl; have h_3 := ((HG9.out.up hbxz).box).2 3 _ rfl; have h_4 := ((HG9.out.up hbxz).box).2 4 _ rfl; have h_5 := ((HG9.out.up hbxz).box).2 5 _ rfl
      go_upto_region 19 with fail
      go_cut [99] from 86 to 99 (fun s99 wx => s99 = .bool false ∧ Below z1.heap.size z1 wx)
      case first =>
        refine wp_region_fam (by kernel_rfl) (by kernel_rfl) (fun ι F hne hF hcl => ?_)
        have hcF0 := fun n o => (bcell (hF n)).1 (w.heap.size) o (by first | (simp; done) | (simp; omega) | omega)
        have hcF1 := fun n o => (bcell (hF n)).1 (lb) o (by first | (simp; done) | (simp; omega) | omega)
        have hcF2 := fun n o => (bcell (hF n)).1 (g3) o (by first | (simp; done) | (simp; omega) | omega)
        have hcF3 := fun n o => (bcell (hF n)).1 (g8) o (by first | (simp; done) | (simp; omega) | omega)
        have hcF4 := fun n o => (bcell (hF n)).1 (g9) o (by first | (simp; done) | (simp; omega) | omega)
        have HF := Lib.hid hF; clear hF
        have HC := Lib.hid hcl; clear hcl
        repeat (any_goals (first
         | go_big_quiet_step (first | (go_at_call 23; exact Calls.fam HC.out (ref0_EqDag' A8 en c8 eA en ec E _ _ _ rfl rfl rfl ((HE8x.out.up hbxz).up (HF.out _)) ((HE.out.up hbkz).up (HF.out _)))) | (go_at_call 45; exact Calls.fam HC.out (ref0_EqCert' C c1 c2 c3 bA qA sA n1 k1 n2 k2 n3 k3 bn bc qn qc sn sc _ ((HR9.out.up hbxz).up (HF.out _)) ((HCC.out.up hbkz).up (HF.out _)))))
         | (refine wpQuiet_guard _ _ _ rfl rfl ?_; (fail_if_success (intro b' hb; have h2 := hb.symm; have : b' = true := h2.trans (by with_reducible rfl))); (fail_if_success (intro b' hb; have h2 := hb.symm; have : b' = false := h2.trans (by with_reducible rfl))); intro b' hb; simp only [hb]; cases b' <;> (try simp only [Bool.not_eq_true', Bool.not_eq_false', decide_eq_true_eq, decide_eq_false_iff_not, Int.not_lt, Int.not_le, Bool.and_eq_true, Bool.or_eq_true, Bool.or_eq_false_iff, beq_iff_eq, beq_eq_false_iff_ne, Int.natCast_pos] at hb))))
        all_goals (refine wpQuiet_nil ?_; intro nq)
        all_goals (try (exfalso; omega))
        have hFwh := HF.out nq
        clear HF HC hne
        generalize F nq = wh at *
        go_wp2_with fail
        go_meet
        exact ⟨rfl, hFwh⟩
      case rest =>
      obtain ⟨rfl, hbz2⟩ := hcut
      obtain ⟨z2, hz2⟩ : ∃ x, x = wc := ⟨_, rfl⟩
      subst hz2
      have hbk2 := bel_trans hbkz hbz2
      clear b_0 b_1 b_2 b_3 b_4 b_5 q_0 q_1 q_2 q_3 q_4 q_5 e_0 e_1 e_2 f_0 f_1 f_2 h_0 h_1 h_2 h_3 h_4 h_5
      by_cases h0 : r = 0
      · have hrz : (r == 0) = true := by simpa using h0
        have hJn := HJ.out.next (by omega) HLC.out (by rw [HRE.out]; exact h0)
        rw [HRD0.out] at hJn
        have HJn := Lib.hid hJn
        have hWz := HWx.out.up (bel_trans hbxz hbz2)
        have hG3z := HG.out.up hbk2
        have hlw := hWz.lt
        have hl3 := hG3z.lt
        have o_0 := (hWz.box).2 0 _ rfl; have o_1 := (hWz.box).2 1 _ rfl; have o_2 := (hWz.box).2 2 _ rfl
        clear hJn hWz hG3z
        go_wp2_with fail
        refine (copyDagMO wA wn wc2 R _ (HRx.out.up (bel_trans hbxz hbz2)) HRL.out).mono ?_
        rintro e z3 ⟨A5, c5, ps5, rfl, ho5, hb5⟩
        have hc5 : wn ≤ c5 := by
          rcases ho5.1.2 with ⟨e, hn0⟩ | ⟨g, cap, cur, e, _, _, hnc, _⟩
          · injection e with e1 e2 e3; omega
          · injection e with e1 e2 e3; have h1 := HRx.out.1; omega
        have hbk3 := bel_trans hbk2 hb5
        have hG3 := HG.out.up hbk3
        have hf3 := hG3.frozen
        have hl33 := hG3.lt
        have HG3n := Lib.hid (((hG3.set_ 0 (.int .i64 R.nodes)).set_ 1 (.int .i64 R.low)).set_ 2 (.slice A5 wn c5))
        have ho6 := ((ho5.setLow (b := g3) (o := 0) (u := .int .i64 R.nodes) (by omega)).setLow (b := g3) (o := 1) (u := .int .i64 R.low) (by omega)).setLow (b := g3) (o := 2) (u := .slice A5 wn c5) (by omega)
        have HE3n := Lib.hid (ho6.cs' (by omega))
        have HB3n := Lib.hid ((((HB.out.up hbk3).set (a := ⟨g3, 0, none⟩) (v := .int .i64 R.nodes) (by dsimp only; omega)).set (a := ⟨g3, 1, none⟩) (v := .int .i64 R.low) (by dsimp only; omega)).set (a := ⟨g3, 2, none⟩) (v := .slice A5 wn c5) (by dsimp only; omega))
        have hbwn : Below w.heap.size w (((z3.setCell ⟨g3, 0, none⟩ (.int .i64 R.nodes)).setCell ⟨g3, 1, none⟩ (.int .i64 R.low)).setCell ⟨g3, 2, none⟩ (.slice A5 wn c5)) := (((bel_trans hbw hbk3).setCell (p := ⟨g3, 0, none⟩) (by dsimp only; omega) _).setCell (p := ⟨g3, 1, none⟩) (by dsimp only; omega) _).setCell (p := ⟨g3, 2, none⟩) (by dsimp only; omega) _
        have e_0 := (hG3.box).2 0 _ rfl; have e_1 := (hG3.box).2 1 _ rfl; have e_2 := (hG3.box).2 2 _ rfl
        clear ho5 ho6 hG3 o_0 o_1 o_2
        go_wp2_with fail
        (first | (go_round; (case rel => exact ⟨k + 1, R, A5, wn, c5, by omega, by go_num, HJn, HG3n, HE3n, hc5, HB3n, hbwn⟩); (case measure => (simp [intOf] <;> omega))) | (go_roundw; (case rel => exact ⟨k + 1, R, A5, wn, c5, by omega, by go_num, HJn, HG3n, HE3n, hc5, HB3n, hbwn⟩); (case measure => (simp [intOf] <;> omega))) | (refine ⟨?_, by simp [intOf] <;> omega⟩; (repeat apply Exists.intro); refine ⟨?rel, ?fr⟩; (case fr => ((repeat' apply And.intro) <;> rfl)); (case rel => exact ⟨k + 1, R, A5, wn, c5, by omega, by go_num, HJn, HG3n, HE3n, hc5, HB3n, hbwn⟩)))
      · have hrz : (r == 0) = false := by simpa using h0
        have HJs := Lib.hid HJ.out.same
        have HGs := Lib.hid (HG.out.up hbk2)
        have HEs := Lib.hid (HE.out.up hbk2)
        have HBs := Lib.hid (HB.out.up hbk2)
        have hbws := bel_trans hbw hbk2
        go_wp2_with fail
        (first | (go_round; (case rel => exact ⟨k + 1, E, eA, en, ec, by omega, by go_num, HJs, HGs, HEs, hec, HBs, hbws⟩); (case measure => (simp [intOf] <;> omega))) | (go_roundw; (case rel => exact ⟨k + 1, E, eA, en, ec, by omega, by go_num, HJs, HGs, HEs, hec, HBs, hbws⟩); (case measure => (simp [intOf] <;> omega))) | (refine ⟨?_, by simp [intOf] <;> omega⟩; (repeat apply Exists.intro); refine ⟨?rel, ?fr⟩; (case fr => ((repeat' apply And.intro) <;> rfl)); (case rel => exact ⟨k + 1, E, eA, en, ec, by omega, by go_num, HJs, HGs, HEs, hec, HBs, hbws⟩)))
    · have b_0 := (HB.out).2 0 _ rfl; have b_1 := (HB.out).2 1 _ rfl; have b_2 := (HB.out).2 2 _ rfl; have b_3 := (HB.out).2 3 _ rfl; have b_4 := (HB.out).2 4 _ rfl; have b_5 := (HB.out).2 5 _ rfl
      go_wp2_with fail
      refine (law14_wakes _).mono ?_
      rintro e w9 ⟨rfl, hb9⟩
      go_wp2_with fail
      go_ret
      exact ⟨rfl, bel_trans hbw hb9⟩
end Go.Proofs.Ytfkbilbgndekkaa
