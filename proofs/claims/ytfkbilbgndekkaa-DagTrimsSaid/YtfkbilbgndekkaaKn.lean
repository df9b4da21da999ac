/- The law DagTrims. -/
import Derived.Test.YtfkbilbgndekkaaKm
import Derived.Test.YtfkbilbgndekkaaKh
import Derived.Deep.CutBlock
namespace Go.Proofs.Ytfkbilbgndekkaa
open Go.RowKit
set_option linter.unusedSimpArgs false
set_option linter.unusedVariables false

theorem ref14_MayAt (A : Option Addr) (n c : Nat) (D : DagD) (y : Bool) (w : World) (hl : CertsR w A n D.certs) (hy : refMayS D = y) :
    Calls Try.prog 16 #[.agg #[.int .i64 D.nodes, .int .i64 D.low, .slice A n c]] w fun e w' => e = .returned (.bool y) ∧ Below w.heap.size w w' := hy ▸ ref14_May A n c D w hl
theorem OwnC.cs {w : World} {B : Nat} {A : Option Addr} {m c : Nat} {ps : List CertP} {l : List CertD} (h : OwnC w B (.slice A m c) ps l) (hl : l.length ≤ 9223372036854775807) : CertsR w A m l := by
  obtain ⟨A', c', e, h1, _⟩ := h.certs hl
  injection e with e1 e2 e3
  subst e1; subst e2
  exact h1
theorem OwnD.cs {w : World} {B : Nat} {A : Option Addr} {m c : Nat} {ps : List CertP} {l : List CertD} (h : OwnD w B (.slice A m c) ps l) (hs : Short l) (hl : l.length ≤ 9223372036854775807) : CertsR w A m l := (h.toC hs).cs hl
theorem trD_len (D : DagD) (low : Int) : (trD D low).certs.length ≤ D.certs.length := by
  unfold trD; split
  · exact List.length_filter_le _ _
  · simp
theorem trD_short {D : DagD} {low : Int} (h : Light D.certs) : Short (trD D low).certs := by
  unfold trD; split
  · intro k hk
    have h2 := (trim_light (low := low) h).2 k hk
    obtain ⟨a1, a2, a3⟩ := h2
    exact ⟨Nat.le_trans a1 (by omega), Nat.le_trans a2 (by omega), Nat.le_trans a3 (by omega)⟩
  · intro k hk; simp at hk
theorem trD_check {D : DagD} {low : Int} (h : trE D low = 0) : chkE (trD D low) = 0 := by
  have e := h
  unfold trE at h
  split at h
  · rename_i h1
    unfold trD chkE
    rw [if_pos e, mayS_iff.2 (dag_trim (mayS_iff.1 h1.1) h1.2.1 h1.2.2)]
    rfl
  · omega
set_option maxRecDepth 100000 in
set_option maxHeartbeats 16000000 in
theorem law_DagTrims (P : AskP) (D : AskD) (w : World) (h : AskR w P D) :
    Calls Try.prog 11 #[askV P D] w fun e w' => e = .returned (.bool true) ∧ Below w.heap.size w w' := by
  obtain ⟨⟨dA, dn, dc⟩, ⟨cA, cn, cc⟩, ⟨iA, im, ic⟩, ⟨pA, pn, pc⟩⟩ := P
  have H := Lib.hid h
  have HD : Hid (CertsR w dA dn D.D.certs) := Lib.hid h.d
  have HC : Hid (CertsR w cA cn D.C) := Lib.hid h.c
  have HI : Hid (IntsR w iA im D.I) := Lib.hid h.i
  have HP : Hid (FloatsR w pA pn D.P) := Lib.hid h.p
  have hdc : dn ≤ dc := h.dc
  have hdm : dc ≤ 9223372036854775807 := h.dm
  clear h
  show Calls Try.prog 11 #[.agg #[.int .i64 D.D.nodes, .int .i64 D.D.low, .slice dA dn dc, .slice cA cn cc, .slice iA im ic, .slice pA pn pc]] w _
  go_enter Try.func11, Try.ntmps11
  go_wp2_with fail
  refine (law14_heavy ⟨⟨dA, dn, dc⟩, ⟨cA, cn, cc⟩, ⟨iA, im, ic⟩, ⟨pA, pn, pc⟩⟩ D _ (H.out.up (by (repeat (first | (with_reducible exact Below.refl _ _) | (with_reducible assumption) | (with_reducible apply bel_alloc) | (with_reducible apply bel_drew) | (with_reducible apply bel_drewN) | (with_reducible refine bel_trans ?_ (by with_reducible assumption)) | (with_reducible refine bel_trans ?_ (HF.out _)) | (with_reducible refine bel_set ?_ (by simp) _) | (with_reducible refine bel_set ?_ (by simp; omega) _) | (with_reducible refine bel_set ?_ (by omega) _)))))).mono ?_
  rintro e w1 ⟨⟨x, rfl, hx⟩, hb1⟩
  cases x
  case true =>
    clear hx
    go_wp2_with fail
    go_ret
    exact ⟨rfl, by (repeat (first | (with_reducible exact Below.refl _ _) | (with_reducible assumption) | (with_reducible apply bel_alloc) | (with_reducible apply bel_drew) | (with_reducible apply bel_drewN) | (with_reducible refine bel_trans ?_ (by with_reducible assumption)) | (with_reducible refine bel_trans ?_ (HF.out _)) | (with_reducible refine bel_set ?_ (by simp) _) | (with_reducible refine bel_set ?_ (by simp; omega) _) | (with_reducible refine bel_set ?_ (by omega) _)))⟩
  case false =>
  have hLt := hx rfl
  have hLd : Light D.D.certs := hLt.d
  have hd80 : dn ≤ 80 := by rw [← HD.out.1]; exact hLd.1
  have hc40 : cn ≤ 40 := hLt.cn
  have hi40 : im ≤ 40 := hLt.i
  have hp40 : pn ≤ 40 := hLt.p
  have hlc : ∀ k, k < cn → LightC (cth D.C k) := hLt.c
  have HLD := Lib.hid hLd
  have HLC := Lib.hid hlc
  have hB1 : BoxR w1 w.heap.size [.int .i64 D.D.nodes, .int .i64 D.D.low, .slice dA dn dc, .slice cA cn cc, .slice iA im ic, .slice pA pn pc] := (BoxR.new w [.int .i64 D.D.nodes, .int .i64 D.D.low, .slice dA dn dc, .slice cA cn cc, .slice iA im ic, .slice pA pn pc] 58).up hb1
  have hbw1 : Below w.heap.size w w1 := by (repeat (first | (with_reducible exact Below.refl _ _) | (with_reducible assumption) | (with_reducible apply bel_alloc) | (with_reducible apply bel_drew) | (with_reducible apply bel_drewN) | (with_reducible refine bel_trans ?_ (by with_reducible assumption)) | (with_reducible refine bel_trans ?_ (HF.out _)) | (with_reducible refine bel_set ?_ (by simp) _) | (with_reducible refine bel_set ?_ (by simp; omega) _) | (with_reducible refine bel_set ?_ (by omega) _)))
  clear hx hLt hLd hlc hb1
  have HB1 := Lib.hid hB1
  have hg1 := hB1.1
  have b_0 := (hB1).2 0 _ rfl; have b_1 := (hB1).2 1 _ rfl; have b_2 := (hB1).2 2 _ rfl; have b_3 := (hB1).2 3 _ rfl; have b_4 := (hB1).2 4 _ rfl; have b_5 := (hB1).2 5 _ rfl
  clear hB1
  go_wp2_with fail
  go_loopw [3] (fun si wr => ∃ i : Nat, i ≤ im ∧ si = .int .i64 i ∧ BoxR wr w.heap.size [.int .i64 D.D.nodes, .int .i64 D.D.low, .slice dA dn dc, .slice cA cn cc, .slice iA im ic, .slice pA pn pc] ∧ Below w.heap.size w wr) (fun si _ => im - (intOf si).toNat)
  case atStart => exact ⟨0, Nat.zero_le _, rfl, HB1.out, hbw1⟩
  case round =>
    obtain ⟨i, hi, rfl, hB, hbw⟩ := hrel
    (obtain ⟨wk, hwk⟩ : ∃ x, x = wr := ⟨_, rfl⟩); subst hwk
    have hgHB := hB.1
    have HB := Lib.hid hB
    clear hB
    by_cases hlt : i < im
    · obtain ⟨ib, ioff, rfl, hib, hic⟩ := (HI.out.up hbw).2.2 (by omega)
      obtain ⟨x, hx⟩ : ∃ x, x = nth D.I i := ⟨_, rfl⟩
      have hq0 := hic i hlt
      rw [← hx] at hq0
      have hcells : ∀ X, Below wk.heap.size wk X → X.cell? ⟨w.heap.size, 0, none⟩ = some (.int .i64 D.D.nodes) ∧ X.cell? ⟨w.heap.size, 1, none⟩ = some (.int .i64 D.D.low) ∧ X.cell? ⟨w.heap.size, 2, none⟩ = some (.slice dA dn dc) ∧ X.cell? ⟨w.heap.size, 3, none⟩ = some (.slice cA cn cc) ∧ X.cell? ⟨w.heap.size, 4, none⟩ = some (.slice (some ⟨ib, ioff, none⟩) im ic) ∧ X.cell? ⟨w.heap.size, 5, none⟩ = some (.slice pA pn pc) ∧ X.cell? ⟨ib, ioff + i, none⟩ = some (.int .i64 x) := fun X hX =>
        ⟨(HB.out.up hX).2 0 _ rfl, (HB.out.up hX).2 1 _ rfl, (HB.out.up hX).2 2 _ rfl, (HB.out.up hX).2 3 _ rfl, (HB.out.up hX).2 4 _ rfl, (HB.out.up hX).2 5 _ rfl, (hX.cell (p := ⟨ib, ioff + i, none⟩) hib).trans hq0⟩
      have HC12 := Lib.hid hcells
      obtain ⟨y, hy⟩ : ∃ y, trE D.D x = y := ⟨_, rfl⟩
      obtain ⟨R, hR⟩ : ∃ R, trD D.D x = R := ⟨_, rfl⟩
      have HY := Lib.hid hy
      have HR := Lib.hid hR
      clear hic hq0 hcells hx hy hR
      obtain ⟨b_0, b_1, b_2, b_3, b_4, b_5, q0⟩ := HC12.out wk (by (repeat (first | (with_reducible exact Below.refl _ _) | (with_reducible assumption) | (with_reducible apply bel_alloc) | (with_reducible apply bel_drew) | (with_reducible apply bel_drewN) | (with_reducible refine bel_trans ?_ (by with_reducible assumption)) | (with_reducible refine bel_trans ?_ (HF.out _)) | ((with_reducible refine bel_set3 ?_ ?_); rotate_left; omega))))
      go_upto_region 7 with fail
      have hX : Blk (wk.alloc (.cells #[.int .i64 0, .int .i64 0, .slice none 0 0] 24)) wk.heap.size 24 [.int .i64 0, .int .i64 0, .slice none 0 0] := Blk.new wk 24 [.int .i64 0, .int .i64 0, .slice none 0 0]
      have hbX : Below wk.heap.size wk (wk.alloc (.cells #[.int .i64 0, .int .i64 0, .slice none 0 0] 24)) := by (repeat (first | (with_reducible exact Below.refl _ _) | (with_reducible assumption) | (with_reducible apply bel_alloc) | (with_reducible apply bel_drew) | (with_reducible apply bel_drewN) | (with_reducible refine bel_trans ?_ (by with_reducible assumption)) | (with_reducible refine bel_trans ?_ (HF.out _)) | (with_reducible refine bel_set ?_ (by simp) _) | (with_reducible refine bel_set ?_ (by simp; omega) _) | (with_reducible refine bel_set ?_ (by omega) _)))
      generalize (wk.alloc (.cells #[.int .i64 0, .int .i64 0, .slice none 0 0] 24)) = X at *
      have hgX : w.heap.size < X.heap.size := Nat.lt_of_lt_of_le hgHB hbX.size
      have hiX : ib < X.heap.size := Nat.lt_of_lt_of_le hib hbX.size
      have hxl := hX.lt
      obtain ⟨b, hb⟩ : ∃ b, decide (y = 0) = b := ⟨_, rfl⟩
      have HX := Lib.hid hX
      clear hX
      clear b_0 b_1 b_2 b_3 b_4 b_5 q0
      obtain ⟨b_0, b_1, b_2, b_3, b_4, b_5, q0⟩ := HC12.out X (by (repeat (first | (with_reducible exact Below.refl _ _) | (with_reducible assumption) | (with_reducible apply bel_alloc) | (with_reducible apply bel_drew) | (with_reducible apply bel_drewN) | (with_reducible refine bel_trans ?_ (by with_reducible assumption)) | (with_reducible refine bel_trans ?_ (HF.out _)) | ((with_reducible refine bel_set3 ?_ ?_); rotate_left; omega))))
      go_cut [39] from 18 to 39 (fun s39 wx => s39 = .bool b ∧ Below X.heap.size X wx)
      case first =>
        cases hm : mayS D.D
        · have hbf : b = false := by
            rw [← hb, decide_eq_false_iff_not, ← HY.out]; unfold trE; rw [if_neg (by rw [hm]; simp)]; omega
          have HM : Hid (refMayS D.D = false) := Lib.hid ((may_eq D.D).trans hm)
          subst hbf
          clear hb hm
          refine wp_region_fam (by kernel_rfl) (by kernel_rfl) (fun ι F hne hF hcl => ?_)
          have hcF0 := fun n o => (bcell (hF n)).1 (w.heap.size) o (by first | (simp; done) | (simp; omega) | omega)
          have hcF1 := fun n o => (bcell (hF n)).1 (ib) o (by first | (simp; done) | (simp; omega) | omega)
          have HF := Lib.hid hF; clear hF
          have HC := Lib.hid hcl; clear hcl
          repeat (any_goals (first
           | go_big_quiet_step (first | (go_at_call 16; exact Calls.fam HC.out (ref14_MayAt dA dn dc D.D _ _ (HD.out.up (bel_trans hbw (bel_trans hbX (HF.out _)))) HM.out)))
           | (refine wpQuiet_guard _ _ _ rfl rfl ?_; (fail_if_success (intro b' hb; have h2 := hb.symm; have : b' = true := h2.trans (by with_reducible rfl))); (fail_if_success (intro b' hb; have h2 := hb.symm; have : b' = false := h2.trans (by with_reducible rfl))); intro b' hb; simp only [hb]; cases b' <;> (try simp only [Bool.not_eq_true', Bool.not_eq_false', decide_eq_true_eq, decide_eq_false_iff_not, Int.not_lt, Int.not_le, Bool.and_eq_true, Bool.or_eq_true, Bool.or_eq_false_iff, beq_iff_eq, beq_eq_false_iff_ne, Int.natCast_pos] at hb))))
          all_goals (refine wpQuiet_nil ?_; intro nq)
          all_goals (try (exfalso; omega))
          have hFwf := HF.out nq
          clear HF HC hne
          generalize F nq = wf at *
          go_wp2_with fail
          go_meet
          exact ⟨rfl, hFwf⟩
        · have HM : Hid (refMayS D.D = true) := Lib.hid ((may_eq D.D).trans hm)
          by_cases h1 : D.D.low ≤ x
          · by_cases h2 : x ≤ 1099511627776
            · have hbf : b = true := by
                rw [← hb, decide_eq_true_eq, ← HY.out]; unfold trE; rw [if_pos ⟨hm, h1, h2⟩]
              have hd1 : decide (D.D.low ≤ x) = true := by simpa using h1
              have hd2 : decide (x ≤ 1099511627776) = true := by simpa using h2
              subst hbf
              clear hb hm h1 h2
              refine wp_region_fam (by kernel_rfl) (by kernel_rfl) (fun ι F hne hF hcl => ?_)
              have hcF0 := fun n o => (bcell (hF n)).1 (w.heap.size) o (by first | (simp; done) | (simp; omega) | omega)
              have hcF1 := fun n o => (bcell (hF n)).1 (ib) o (by first | (simp; done) | (simp; omega) | omega)
              have HF := Lib.hid hF; clear hF
              have HC := Lib.hid hcl; clear hcl
              repeat (any_goals (first
               | go_big_quiet_step (first | (go_at_call 16; exact Calls.fam HC.out (ref14_MayAt dA dn dc D.D _ _ (HD.out.up (bel_trans hbw (bel_trans hbX (HF.out _)))) HM.out)))
               | (refine wpQuiet_guard _ _ _ rfl rfl ?_; (fail_if_success (intro b' hb; have h2 := hb.symm; have : b' = true := h2.trans (by with_reducible rfl))); (fail_if_success (intro b' hb; have h2 := hb.symm; have : b' = false := h2.trans (by with_reducible rfl))); intro b' hb; simp only [hb]; cases b' <;> (try simp only [Bool.not_eq_true', Bool.not_eq_false', decide_eq_true_eq, decide_eq_false_iff_not, Int.not_lt, Int.not_le, Bool.and_eq_true, Bool.or_eq_true, Bool.or_eq_false_iff, beq_iff_eq, beq_eq_false_iff_ne, Int.natCast_pos] at hb))))
              all_goals (refine wpQuiet_nil ?_; intro nq)
              all_goals (try (exfalso; omega))
              have hFwf := HF.out nq
              clear HF HC hne
              generalize F nq = wf at *
              go_wp2_with fail
              go_meet
              exact ⟨rfl, hFwf⟩
            · have hbf : b = false := by
                rw [← hb, decide_eq_false_iff_not, ← HY.out]; unfold trE; rw [if_neg (fun h => h2 h.2.2)]; omega
              have hd1 : decide (D.D.low ≤ x) = true := by simpa using h1
              have hd2 : decide (x ≤ 1099511627776) = false := by simpa using h2
              subst hbf
              clear hb hm h1 h2
              refine wp_region_fam (by kernel_rfl) (by kernel_rfl) (fun ι F hne hF hcl => ?_)
              have hcF0 := fun n o => (bcell (hF n)).1 (w.heap.size) o (by first | (simp; done) | (simp; omega) | omega)
              have hcF1 := fun n o => (bcell (hF n)).1 (ib) o (by first | (simp; done) | (simp; omega) | omega)
              have HF := Lib.hid hF; clear hF
              have HC := Lib.hid hcl; clear hcl
              repeat (any_goals (first
               | go_big_quiet_step (first | (go_at_call 16; exact Calls.fam HC.out (ref14_MayAt dA dn dc D.D _ _ (HD.out.up (bel_trans hbw (bel_trans hbX (HF.out _)))) HM.out)))
               | (refine wpQuiet_guard _ _ _ rfl rfl ?_; (fail_if_success (intro b' hb; have h2 := hb.symm; have : b' = true := h2.trans (by with_reducible rfl))); (fail_if_success (intro b' hb; have h2 := hb.symm; have : b' = false := h2.trans (by with_reducible rfl))); intro b' hb; simp only [hb]; cases b' <;> (try simp only [Bool.not_eq_true', Bool.not_eq_false', decide_eq_true_eq, decide_eq_false_iff_not, Int.not_lt, Int.not_le, Bool.and_eq_true, Bool.or_eq_true, Bool.or_eq_false_iff, beq_iff_eq, beq_eq_false_iff_ne, Int.natCast_pos] at hb))))
              all_goals (refine wpQuiet_nil ?_; intro nq)
              all_goals (try (exfalso; omega))
              have hFwf := HF.out nq
              clear HF HC hne
              generalize F nq = wf at *
              go_wp2_with fail
              go_meet
              exact ⟨rfl, hFwf⟩
          · have hbf : b = false := by
              rw [← hb, decide_eq_false_iff_not, ← HY.out]; unfold trE; rw [if_neg (fun h => h1 h.2.1)]; omega
            have hd1 : decide (D.D.low ≤ x) = false := by simpa using h1
            subst hbf
            clear hb hm h1
            refine wp_region_fam (by kernel_rfl) (by kernel_rfl) (fun ι F hne hF hcl => ?_)
            have hcF0 := fun n o => (bcell (hF n)).1 (w.heap.size) o (by first | (simp; done) | (simp; omega) | omega)
            have hcF1 := fun n o => (bcell (hF n)).1 (ib) o (by first | (simp; done) | (simp; omega) | omega)
            have HF := Lib.hid hF; clear hF
            have HC := Lib.hid hcl; clear hcl
            repeat (any_goals (first
             | go_big_quiet_step (first | (go_at_call 16; exact Calls.fam HC.out (ref14_MayAt dA dn dc D.D _ _ (HD.out.up (bel_trans hbw (bel_trans hbX (HF.out _)))) HM.out)))
             | (refine wpQuiet_guard _ _ _ rfl rfl ?_; (fail_if_success (intro b' hb; have h2 := hb.symm; have : b' = true := h2.trans (by with_reducible rfl))); (fail_if_success (intro b' hb; have h2 := hb.symm; have : b' = false := h2.trans (by with_reducible rfl))); intro b' hb; simp only [hb]; cases b' <;> (try simp only [Bool.not_eq_true', Bool.not_eq_false', decide_eq_true_eq, decide_eq_false_iff_not, Int.not_lt, Int.not_le, Bool.and_eq_true, Bool.or_eq_true, Bool.or_eq_false_iff, beq_iff_eq, beq_eq_false_iff_ne, Int.natCast_pos] at hb))))
            all_goals (refine wpQuiet_nil ?_; intro nq)
            all_goals (try (exfalso; omega))
            have hFwf := HF.out nq
            clear HF HC hne
            generalize F nq = wf at *
            go_wp2_with fail
            go_meet
            exact ⟨rfl, hFwf⟩
      case rest =>
      obtain ⟨rfl, hbc⟩ := hcut
      have hbkc : Below wk.heap.size wk wc := bel_trans hbX hbc
      have hXc := HX.out.up hbc
      have hgc : w.heap.size < wc.heap.size := Nat.lt_of_lt_of_le hgX hbc.size
      have hic : ib < wc.heap.size := Nat.lt_of_lt_of_le hiX hbc.size
      clear b_0 b_1 b_2 b_3 b_4 b_5 q0
      obtain ⟨b_0, b_1, b_2, b_3, b_4, b_5, q0⟩ := HC12.out wc (by (repeat (first | (with_reducible exact Below.refl _ _) | (with_reducible assumption) | (with_reducible apply bel_alloc) | (with_reducible apply bel_drew) | (with_reducible apply bel_drewN) | (with_reducible refine bel_trans ?_ (by with_reducible assumption)) | (with_reducible refine bel_trans ?_ (HF.out _)) | ((with_reducible refine bel_set3 ?_ ?_); rotate_left; omega))))
      go_upto_if 39 with fail
      go_cut [4] from 40 to 47 (fun s4 wx => ∃ (A5 : Option Addr) (n5 c5 : Nat), s4 = .int .i64 y ∧ Blk wx wk.heap.size 24 [.int .i64 R.nodes, .int .i64 R.low, .slice A5 n5 c5] ∧ CertsR wx A5 n5 R.certs ∧ Below wk.heap.size wk wx)
      case first =>
        cases b
        · have hRz : R = ⟨0, 0, []⟩ ∧ y = 1 := by
            have hy1 : ¬ y = 0 := by simpa using hb
            have hy2 : y = 1 := by rw [← HY.out] at hy1 ⊢; unfold trE at hy1 ⊢; split at hy1 <;> simp_all
            exact ⟨by rw [← HR.out]; unfold trD; rw [if_neg (by rw [HY.out]; exact hy1)], hy2⟩
          obtain ⟨hR1, hR2⟩ := hRz
          subst hR1; subst hR2
          clear hb
          go_wp2_with fail
          go_meet
          exact ⟨none, 0, 0, rfl, hXc, CertsR.none, hbkc⟩
        · have hy0 : y = 0 := by simpa using hb
          have hRz : R = ⟨D.D.nodes, x, trimL D.D.certs x⟩ := by rw [← HR.out]; unfold trD; rw [if_pos (by rw [HY.out]; exact hy0)]
          subst hy0; subst hRz
          clear hb
          go_wp2_with fail
          have hzl : (trimL D.D.certs x).length ≤ 80 := (trim_light (low := x) HLD.out).1
          have hXcl := hXc.lt
          go_region_with (go_at_call 54; refine (ref14_Trim dA dn dc D.D.certs _ _ x _ (HD.out.up (bel_trans hbw (by (repeat (first | (with_reducible exact Below.refl _ _) | (with_reducible assumption) | (with_reducible apply bel_alloc) | (with_reducible apply bel_drew) | (with_reducible apply bel_drewN) | (with_reducible refine bel_trans ?_ (by with_reducible assumption)) | (with_reducible refine bel_trans ?_ (HF.out _)) | (with_reducible refine bel_set ?_ (by simp) _) | (with_reducible refine bel_set ?_ (by simp; omega) _) | (with_reducible refine bel_set ?_ (by omega) _)))))) HLD.out).mono ?_; rintro e w6 ⟨v6, ps6, rfl, hown6, hb6⟩; obtain ⟨A6, m6, c6, rfl, hm6⟩ := hown6.named2 (by omega); have HM6 := Lib.hid hm6; clear hm6; have hb6c : Below wc.heap.size wc w6 := (by (repeat (first | (with_reducible exact Below.refl _ _) | (with_reducible assumption) | (with_reducible apply bel_alloc) | (with_reducible apply bel_drew) | (with_reducible apply bel_drewN) | (with_reducible refine bel_trans ?_ (by with_reducible assumption)) | (with_reducible refine bel_trans ?_ (HF.out _)) | (with_reducible refine bel_set ?_ (by simp) _) | (with_reducible refine bel_set ?_ (by simp; omega) _) | (with_reducible refine bel_set ?_ (by omega) _)))); have hX6 := hXc.up hb6c; have z_0 := (hX6.box).2 0 _ rfl; have z_1 := (hX6.box).2 1 _ rfl; have z_2 := (hX6.box).2 2 _ rfl; have hf6 := hX6.frozen; have hl6 := hX6.lt; have ho6 := hown6.mono (B' := wk.heap.size + 1) (by first | omega | (simp; done) | (simp; omega)))
          all_goals
            go_wp2_with fail
            go_meet
            have hb6k : Below wk.heap.size wk w6 := bel_trans hbkc hb6c
            exact ⟨A6, m6, c6, rfl, ((hX6.set_ 0 (.int .i64 D.D.nodes)).set_ 1 (.int .i64 x)).set_ 2 (.slice A6 m6 c6), OwnC.cs (((ho6.setLow (by omega)).setLow (by omega)).setLow (by omega)) (by omega), by (repeat (first | (with_reducible exact Below.refl _ _) | (with_reducible assumption) | (with_reducible apply bel_alloc) | (with_reducible apply bel_drew) | (with_reducible apply bel_drewN) | (with_reducible refine bel_trans ?_ (by with_reducible assumption)) | (with_reducible refine bel_trans ?_ (HF.out _)) | ((with_reducible refine bel_set3 ?_ ?_); rotate_left; omega)))⟩
      case rest =>
      obtain ⟨wd, hwd⟩ : ∃ x, x = wc := ⟨_, rfl⟩
      subst hwd
      obtain ⟨A5, n5, c5, rfl, hX5, hC5, hb5⟩ := hcut
      have hrl : R.certs.length ≤ 80 := by rw [← HR.out]; exact Nat.le_trans (trD_len _ _) HLD.out.1
      have hrs : Short R.certs := by rw [← HR.out]; exact trD_short HLD.out
      have HRS := Lib.hid hrs
      have HC5 := Lib.hid hC5
      have HX5 := Lib.hid hX5
      have hg5 : w.heap.size < wd.heap.size := Nat.lt_of_lt_of_le hgHB hb5.size
      have hi5 : ib < wd.heap.size := Nat.lt_of_lt_of_le hib hb5.size
      clear hrs hC5 hX5
      clear b_0 b_1 b_2 b_3 b_4 b_5 q0
      obtain ⟨b_0, b_1, b_2, b_3, b_4, b_5, q0⟩ := HC12.out wd (by (repeat (first | (with_reducible exact Below.refl _ _) | (with_reducible assumption) | (with_reducible apply bel_alloc) | (with_reducible apply bel_drew) | (with_reducible apply bel_drewN) | (with_reducible refine bel_trans ?_ (by with_reducible assumption)) | (with_reducible refine bel_trans ?_ (HF.out _)) | ((with_reducible refine bel_set3 ?_ ?_); rotate_left; omega))))
      go_upto_region 9 with fail
      go_cut [6, 7] from 48 to 58 (fun s6 s7 wx => ∃ (g : Nat) (A6 : Option Addr) (n6 c6 : Nat), s6 = .pointer (some ⟨g, 0, none⟩) ∧ s7 = .int .i64 y ∧ Blk wx g 24 [.int .i64 R.nodes, .int .i64 R.low, .slice A6 n6 c6] ∧ CertsR wx A6 n6 R.certs ∧ Below wd.heap.size wd wx)
      case first =>
        go_region_with (go_at_call 55; refine (dag_Trim dA dn dc D.D x y R _ (HD.out.up (bel_trans hbw (by (repeat (first | (with_reducible exact Below.refl _ _) | (with_reducible assumption) | (with_reducible apply bel_alloc) | (with_reducible apply bel_drew) | (with_reducible apply bel_drewN) | (with_reducible refine bel_trans ?_ (by with_reducible assumption)) | (with_reducible refine bel_trans ?_ (HF.out _)) | (with_reducible refine bel_set ?_ (by simp) _) | (with_reducible refine bel_set ?_ (by simp; omega) _) | (with_reducible refine bel_set ?_ (by omega) _)))))) hdc hdm HY.out HR.out).mono ?_; rintro e w7 ⟨v7, qs7, rfl, hown7, hb7⟩; obtain ⟨A7, c7, rfl, _⟩ := own_row hown7.1 (by omega); (try have hcA := fun o => (bcell hb7).1 wd.heap.size o (by first | (simp; done) | (simp; omega) | omega)); (try have hfA := fun o => (bcell hb7).2 wd.heap.size o (by first | (simp; done) | (simp; omega) | omega)); have hzA := hb7.size; (try simp at hzA))
        all_goals
          go_wp2_with fail
          go_meet
          first
            | exact ⟨_, A7, _, c7, rfl, rfl, Blk.new w7 24 [.int .i64 R.nodes, .int .i64 R.low, .slice A7 R.certs.length c7], OwnD.cs (hown7.up (by (repeat (first | (with_reducible exact Below.refl _ _) | (with_reducible assumption) | (with_reducible apply bel_alloc) | (with_reducible apply bel_drew) | (with_reducible apply bel_drewN) | (with_reducible refine bel_trans ?_ (by with_reducible assumption)) | (with_reducible refine bel_trans ?_ (HF.out _)) | (with_reducible refine bel_set ?_ (by simp) _) | (with_reducible refine bel_set ?_ (by simp; omega) _) | (with_reducible refine bel_set ?_ (by omega) _))))) HRS.out (by omega), by (repeat (first | (with_reducible exact Below.refl _ _) | (with_reducible assumption) | (with_reducible apply bel_alloc) | (with_reducible apply bel_drew) | (with_reducible apply bel_drewN) | (with_reducible refine bel_trans ?_ (by with_reducible assumption)) | (with_reducible refine bel_trans ?_ (HF.out _)) | ((with_reducible refine bel_set3 ?_ ?_); rotate_left; omega)))⟩
            | exact ⟨_, A7, _, c7, rfl, rfl, (dag_box (Blk.up (Blk.new wd.drew 24 [.int .i64 0, .int .i64 0, .slice none 0 0]) hb7) hown7 _ _).1, OwnD.cs (dag_box (Blk.up (Blk.new wd.drew 24 [.int .i64 0, .int .i64 0, .slice none 0 0]) hb7) hown7 _ _).2 HRS.out (by omega), by (repeat (first | (with_reducible exact Below.refl _ _) | (with_reducible assumption) | (with_reducible apply bel_alloc) | (with_reducible apply bel_drew) | (with_reducible apply bel_drewN) | (with_reducible refine bel_trans ?_ (by with_reducible assumption)) | (with_reducible refine bel_trans ?_ (HF.out _)) | ((with_reducible refine bel_set3 ?_ ?_); rotate_left; omega)))⟩
      case rest =>
      obtain ⟨g, A6, n6, c6, rfl, rfl, hX6, hC6, hb6⟩ := hcut
      have hb6k : Below wk.heap.size wk wc := bel_trans hb5 hb6
      have hC5 := HC5.out.up hb6
      have hX5 := HX5.out.up hb6
      have hnn : n5 = n6 := by rw [← hC5.1, ← hC6.1]
      have HC6 := Lib.hid hC6
      have HC5' := Lib.hid hC5
      have HNN := Lib.hid hnn
      have hg6 : w.heap.size < wc.heap.size := Nat.lt_of_lt_of_le hg5 hb6.size
      have hi6 : ib < wc.heap.size := Nat.lt_of_lt_of_le hi5 hb6.size
      have hx5l := hX5.lt
      have hx6l := hX6.lt
      have HX6 := Lib.hid hX6
      clear b_0 b_1 b_2 b_3 b_4 b_5 q0
      obtain ⟨b_0, b_1, b_2, b_3, b_4, b_5, q0⟩ := HC12.out wc (by (repeat (first | (with_reducible exact Below.refl _ _) | (with_reducible assumption) | (with_reducible apply bel_alloc) | (with_reducible apply bel_drew) | (with_reducible apply bel_drewN) | (with_reducible refine bel_trans ?_ (by with_reducible assumption)) | (with_reducible refine bel_trans ?_ (HF.out _)) | ((with_reducible refine bel_set3 ?_ ?_); rotate_left; omega))))
      have z_0 := (hX5.box).2 0 _ rfl; have z_1 := (hX5.box).2 1 _ rfl; have z_2 := (hX5.box).2 2 _ rfl
      have y_0 := (hX6.box).2 0 _ rfl; have y_1 := (hX6.box).2 1 _ rfl; have y_2 := (hX6.box).2 2 _ rfl
      clear hC5 hC6 hX5 hX6 hnn hb
      go_wp2_with (go_at_call 44; refine (law14_num _ _).mono ?_; rintro e w' ⟨rfl, rfl⟩)
      refine (ref0_EqDag' A6 n6 c6 A5 n5 c5 R _ _ _ rfl rfl HNN.out HC6.out HC5'.out).mono ?_
      rintro e w8 ⟨rfl, hb8⟩
      have hb8k := bel_trans hb6k hb8
      have hY6 := HX6.out.up hb8
      have hy6l := hY6.lt
      clear y_0 y_1 y_2 z_0 z_1 z_2
      have y_0 := (hY6.box).2 0 _ rfl; have y_1 := (hY6.box).2 1 _ rfl; have y_2 := (hY6.box).2 2 _ rfl
      by_cases hy0 : y = 0
      · have hck : chkE R = 0 := by rw [← HR.out]; exact trD_check (by rw [HY.out]; exact hy0)
        have HCK := Lib.hid hck
        subst hy0
        clear hck hY6
        go_wp2_with fail
        refine (dag_Check A6 n6 c6 R 0 _ (HC6.out.up hb8) HCK.out).mono ?_
        rintro e w9 ⟨rfl, hb9⟩
        go_wp2_with (go_at_call 44; refine (law14_num _ _).mono ?_; rintro e w' ⟨rfl, rfl⟩)
        (first | (go_round; (case rel => exact ⟨i + 1, by omega, by go_num, HB.out.up (bel_trans hb8k hb9), bel_trans hbw (bel_trans hb8k hb9)⟩); (case measure => (simp [intOf] <;> omega))) | (go_roundw; (case rel => exact ⟨i + 1, by omega, by go_num, HB.out.up (bel_trans hb8k hb9), bel_trans hbw (bel_trans hb8k hb9)⟩); (case measure => (simp [intOf] <;> omega))) | (refine ⟨?_, by simp [intOf] <;> omega⟩; (repeat apply Exists.intro); refine ⟨?rel, ?fr⟩; (case fr => ((repeat' apply And.intro) <;> rfl)); (case rel => exact ⟨i + 1, by omega, by go_num, HB.out.up (bel_trans hb8k hb9), bel_trans hbw (bel_trans hb8k hb9)⟩)))
      · have hyb : (y == 0) = false := by simpa using hy0
        clear hy0 hY6
        go_wp2_with fail
        (first | (go_round; (case rel => exact ⟨i + 1, by omega, by go_num, HB.out.up hb8k, bel_trans hbw hb8k⟩); (case measure => (simp [intOf] <;> omega))) | (go_roundw; (case rel => exact ⟨i + 1, by omega, by go_num, HB.out.up hb8k, bel_trans hbw hb8k⟩); (case measure => (simp [intOf] <;> omega))) | (refine ⟨?_, by simp [intOf] <;> omega⟩; (repeat apply Exists.intro); refine ⟨?rel, ?fr⟩; (case fr => ((repeat' apply And.intro) <;> rfl)); (case rel => exact ⟨i + 1, by omega, by go_num, HB.out.up hb8k, bel_trans hbw hb8k⟩)))
    · have b_0 := (HB.out).2 0 _ rfl; have b_1 := (HB.out).2 1 _ rfl; have b_2 := (HB.out).2 2 _ rfl; have b_3 := (HB.out).2 3 _ rfl; have b_4 := (HB.out).2 4 _ rfl; have b_5 := (HB.out).2 5 _ rfl
      go_wp2_with fail
      refine (law14_wakes _).mono ?_
      rintro e w9 ⟨rfl, hb9⟩
      go_wp2_with fail
      go_ret
      exact ⟨rfl, bel_trans hbw hb9⟩
end Go.Proofs.Ytfkbilbgndekkaa
