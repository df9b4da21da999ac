/- The law DagChecks. -/
import Derived.Test.YtfkbilbgndekkaaKg
namespace Go.Proofs.Ytfkbilbgndekkaa
open Go.RowKit
set_option linter.unusedSimpArgs false
set_option linter.unusedVariables false

theorem ref0_EqDag' (A : Option Addr) (n c : Nat) (B : Option Addr) (m d : Nat) (D : DagD) (x y : Int) (w : World) (hx : x = D.nodes) (hy : y = D.low) (hm : m = n) (hl : CertsR w A n D.certs) (hk : CertsR w B m D.certs) :
    Calls Try.prog 23 #[.agg #[.int .i64 D.nodes, .int .i64 D.low, .slice A n c], .agg #[.int .i64 x, .int .i64 y, .slice B m d]] w fun e w' => e = .returned (.bool true) ∧ Below w.heap.size w w' := by
  subst hx; subst hy; subst hm
  exact ref0_EqDag A m c B d D w hl hk
set_option maxRecDepth 100000 in
set_option maxHeartbeats 16000000 in
theorem law_DagChecks (P : AskP) (D : AskD) (w : World) (h : AskR w P D) :
    Calls Try.prog 7 #[askV P D] w fun e w' => e = .returned (.bool true) ∧ Below w.heap.size w w' := by
  obtain ⟨⟨dA, dn, dc⟩, ⟨cA, cn, cc⟩, ⟨iA, im, ic⟩, ⟨pA, pn, pc⟩⟩ := P
  have H := Lib.hid h
  have HD : Hid (CertsR w dA dn D.D.certs) := Lib.hid h.d
  have HC : Hid (CertsR w cA cn D.C) := Lib.hid h.c
  have HI : Hid (IntsR w iA im D.I) := Lib.hid h.i
  have HP : Hid (FloatsR w pA pn D.P) := Lib.hid h.p
  have hdc : dn ≤ dc := h.dc
  have hdm : dc ≤ 9223372036854775807 := h.dm
  clear h
  show Calls Try.prog 7 #[.agg #[.int .i64 D.D.nodes, .int .i64 D.D.low, .slice dA dn dc, .slice cA cn cc, .slice iA im ic, .slice pA pn pc]] w _
  go_enter Try.func7, Try.ntmps7
  go_wp2_with fail
  refine (law14_heavy ⟨⟨dA, dn, dc⟩, ⟨cA, cn, cc⟩, ⟨iA, im, ic⟩, ⟨pA, pn, pc⟩⟩ D _ (H.out.up (by (repeat (first | (with_reducible exact Below.refl _ _) | (with_reducible assumption) | (with_reducible apply bel_alloc) | (with_reducible apply bel_drew) | (with_reducible apply bel_drewN) | (with_reducible refine bel_trans ?_ (by with_reducible assumption)) | (with_reducible refine bel_trans ?_ (HF.out _)) | (with_reducible refine bel_set ?_ (by simp) _) | (with_reducible refine bel_set ?_ (by simp; omega) _) | (with_reducible refine bel_set ?_ (by omega) _)))))).mono ?_
  rintro e w1 ⟨⟨x, rfl, hx⟩, hb1⟩
  cases x
  case true =>
    clear hx
    go_wp2_with fail
    go_ret
    exact ⟨rfl, by (repeat (first | (with_reducible exact Below.refl _ _) | (with_reducible assumption) | (with_reducible apply bel_alloc) | (with_reducible apply bel_drew) | (with_reducible apply bel_drewN) | (with_reducible refine bel_trans ?_ (by with_reducible assumption)) | (with_reducible refine bel_trans ?_ (HF.out _)) | (with_reducible refine bel_set ?_ (by simp) _) | (with_reducible refine bel_set ?_ (by simp; omega) _) | (with_reducible refine bel_set ?_ (by omega) _)))⟩
  case false =>
  have hLt := hx rfl
  have hLd : Light D.D.certs := hLt.d
  have hd80 : dn ≤ 80 := by rw [← HD.out.1]; exact hLd.1
  have hc40 : cn ≤ 40 := hLt.cn
  have hi40 : im ≤ 40 := hLt.i
  have hp40 : pn ≤ 40 := hLt.p
  have hlc : ∀ k, k < cn → LightC (cth D.C k) := hLt.c
  have HLD := Lib.hid hLd
  have HLC := Lib.hid hlc
  have hB1 : BoxR w1 w.heap.size [.int .i64 D.D.nodes, .int .i64 D.D.low, .slice dA dn dc, .slice cA cn cc, .slice iA im ic, .slice pA pn pc] := (BoxR.new w [.int .i64 D.D.nodes, .int .i64 D.D.low, .slice dA dn dc, .slice cA cn cc, .slice iA im ic, .slice pA pn pc] 58).up hb1
  have hbw1 : Below w.heap.size w w1 := by (repeat (first | (with_reducible exact Below.refl _ _) | (with_reducible assumption) | (with_reducible apply bel_alloc) | (with_reducible apply bel_drew) | (with_reducible apply bel_drewN) | (with_reducible refine bel_trans ?_ (by with_reducible assumption)) | (with_reducible refine bel_trans ?_ (HF.out _)) | (with_reducible refine bel_set ?_ (by simp) _) | (with_reducible refine bel_set ?_ (by simp; omega) _) | (with_reducible refine bel_set ?_ (by omega) _)))
  clear hx hLt hLd hlc hb1
  have HB1 := Lib.hid hB1
  have hg1 := hB1.1
  have b_0 := (hB1).2 0 _ rfl; have b_1 := (hB1).2 1 _ rfl; have b_2 := (hB1).2 2 _ rfl; have b_3 := (hB1).2 3 _ rfl; have b_4 := (hB1).2 4 _ rfl; have b_5 := (hB1).2 5 _ rfl
  clear hB1
  go_wp2_with fail
  refine (ref0_CopyDag dA dn dc D.D _ (HD.out.up hbw1) HLD.out).mono ?_
  rintro e w2 ⟨A2, c2, rfl, hD2, hb2⟩
  obtain ⟨y, hy⟩ : ∃ y, chkE D.D = y := ⟨_, rfl⟩
  have HY := Lib.hid hy
  have HD2 := Lib.hid hD2
  have hB2 := HB1.out.up hb2
  have hbw2 := bel_trans hbw1 hb2
  have hg2 := hB2.1
  have HB2 := Lib.hid hB2
  clear hy hD2 b_0 b_1 b_2 b_3 b_4 b_5 hB2
  go_wp2_with fail
  have hX : BoxR (w2.alloc (.cells #[.int .i64 D.D.nodes, .int .i64 D.D.low, .slice A2 dn c2] 24)) w2.heap.size [.int .i64 D.D.nodes, .int .i64 D.D.low, .slice A2 dn c2] := BoxR.new w2 [.int .i64 D.D.nodes, .int .i64 D.D.low, .slice A2 dn c2] 24
  have hbX : Below w2.heap.size w2 (w2.alloc (.cells #[.int .i64 D.D.nodes, .int .i64 D.D.low, .slice A2 dn c2] 24)) := by (repeat (first | (with_reducible exact Below.refl _ _) | (with_reducible assumption) | (with_reducible apply bel_alloc) | (with_reducible apply bel_drew) | (with_reducible apply bel_drewN) | (with_reducible refine bel_trans ?_ (by with_reducible assumption)) | (with_reducible refine bel_trans ?_ (HF.out _)) | (with_reducible refine bel_set ?_ (by simp) _) | (with_reducible refine bel_set ?_ (by simp; omega) _) | (with_reducible refine bel_set ?_ (by omega) _)))
  generalize (w2.alloc (.cells #[.int .i64 D.D.nodes, .int .i64 D.D.low, .slice A2 dn c2] 24)) = X at *
  have HBX := Lib.hid (HB2.out.up hbX)
  have hbwX := bel_trans hbw2 hbX
  have hgX := HBX.out.1
  have hg3 := hX.1
  have b_0 := (HBX.out).2 0 _ rfl; have b_1 := (HBX.out).2 1 _ rfl; have b_2 := (HBX.out).2 2 _ rfl; have b_3 := (HBX.out).2 3 _ rfl; have b_4 := (HBX.out).2 4 _ rfl; have b_5 := (HBX.out).2 5 _ rfl
  have x_0 := (hX).2 0 _ rfl; have x_1 := (hX).2 1 _ rfl; have x_2 := (hX).2 2 _ rfl
  have HD2X := Lib.hid (HD2.out.up hbX)
  have HDX := Lib.hid (HD.out.up hbwX)
  clear hX
  refine wp_region_fam (by kernel_rfl) (by kernel_rfl) (fun ι F hne hF hcl => ?_)
  have hcF0 := fun n o => (bcell (hF n)).1 (w.heap.size) o (by first | (simp; done) | (simp; omega) | omega)
  have hcF1 := fun n o => (bcell (hF n)).1 (w2.heap.size) o (by first | (simp; done) | (simp; omega) | omega)
  have HF := Lib.hid hF; clear hF
  have HC := Lib.hid hcl; clear hcl
  repeat (any_goals (first
   | go_big_quiet_step (first | (go_at_call 44; exact Calls.fam_same (law14_num _ _)) | (go_at_call 48; exact Calls.fam HC.out (dag_Check A2 dn c2 D.D y _ (HD2X.out.up (HF.out _)) HY.out)) | (go_at_call 40; exact Calls.fam HC.out (law14_check dA dn dc D.D y _ (HDX.out.up (HF.out _)) HY.out)) | (go_at_call 23; exact Calls.fam HC.out (ref0_EqDag A2 dn c2 dA dc D.D _ (HD2X.out.up (HF.out _)) (HDX.out.up (HF.out _)))))
   | (refine wpQuiet_guard _ _ _ rfl rfl ?_; (fail_if_success (intro b' hb; have h2 := hb.symm; have : b' = true := h2.trans (by with_reducible rfl))); (fail_if_success (intro b' hb; have h2 := hb.symm; have : b' = false := h2.trans (by with_reducible rfl))); intro b' hb; simp only [hb]; cases b' <;> (try simp only [Bool.not_eq_true', Bool.not_eq_false', decide_eq_true_eq, decide_eq_false_iff_not, Int.not_lt, Int.not_le, Bool.and_eq_true, Bool.or_eq_true, Bool.or_eq_false_iff, beq_iff_eq, beq_eq_false_iff_ne, Int.natCast_pos] at hb))))
  all_goals (refine wpQuiet_nil ?_; intro nq)
  all_goals (try (exfalso; omega))
  have hFwf := HF.out nq
  clear HF HC hne
  generalize F nq = wf at *
  have hbwf := bel_trans hbwX hFwf
  have HBf := Lib.hid (HBX.out.up hFwf)
  clear b_0 b_1 b_2 b_3 b_4 b_5 x_0 x_1 x_2 hcF0 hcF1
  go_wp2_with fail
  go_loopw [4] (fun si wr => ∃ k : Nat, k ≤ im ∧ si = .int .i64 k ∧ BoxR wr w.heap.size [.int .i64 D.D.nodes, .int .i64 D.D.low, .slice dA dn dc, .slice cA cn cc, .slice iA im ic, .slice pA pn pc] ∧ Below w.heap.size w wr) (fun si _ => im - (intOf si).toNat)
  case atStart => exact ⟨0, Nat.zero_le _, rfl, HBf.out, hbwf⟩
  case round =>
    obtain ⟨k, hk, rfl, hB, hbw⟩ := hrel
    (obtain ⟨wk, hwk⟩ : ∃ x, x = wr := ⟨_, rfl⟩); subst hwk
    have hg4 := hB.1
    have HB := Lib.hid hB
    have b_0 := (hB).2 0 _ rfl; have b_1 := (hB).2 1 _ rfl; have b_2 := (hB).2 2 _ rfl; have b_3 := (hB).2 3 _ rfl; have b_4 := (hB).2 4 _ rfl; have b_5 := (hB).2 5 _ rfl
    clear hB
    by_cases hlt : k < im
    · obtain ⟨ib, ioff, rfl, hib, hic⟩ := (HI.out.up hbw).2.2 (by omega)
      have q0 := hic k hlt
      clear hic
      cases ho : isS (nth D.I k)
      · have HO := Lib.hid ho
        have hm : refMayS ⟨nth D.I k, 0, []⟩ = false := (may_eq _).trans ((may_empty _).trans ho)
        have HM := Lib.hid hm
        clear ho hm
        go_wp2_with fail
        refine (dag_New _ false _ HO.out).mono ?_
        rintro e w5 ⟨rfl, hb5⟩
        simp only [Bool.false_eq_true, if_false]
        have hb5' : Below wk.heap.size wk (w5.alloc (.cells #[.int .i64 (0), .int .i64 0, .slice none 0 0] 24)) := by (repeat (first | (with_reducible exact Below.refl _ _) | (with_reducible assumption) | (with_reducible apply bel_alloc) | (with_reducible apply bel_drew) | (with_reducible apply bel_drewN) | (with_reducible refine bel_trans ?_ (by with_reducible assumption)) | (with_reducible refine bel_trans ?_ (HF.out _)) | (with_reducible refine bel_set ?_ (by simp) _) | (with_reducible refine bel_set ?_ (by simp; omega) _) | (with_reducible refine bel_set ?_ (by omega) _)))
        have HB5 := Lib.hid (HB.out.up hb5')
        have q1 := (hb5'.cell (p := ⟨ib, ioff + k, none⟩) hib).trans q0
        have hg5 := HB5.out.1
        have hi5 : ib < (w5.alloc (.cells #[.int .i64 (0), .int .i64 0, .slice none 0 0] 24)).heap.size := Nat.lt_of_lt_of_le hib hb5'.size
        clear b_0 b_1 b_2 b_3 b_4 b_5 q0
        have b_0 := (HB5.out).2 0 _ rfl; have b_1 := (HB5.out).2 1 _ rfl; have b_2 := (HB5.out).2 2 _ rfl; have b_3 := (HB5.out).2 3 _ rfl; have b_4 := (HB5.out).2 4 _ rfl; have b_5 := (HB5.out).2 5 _ rfl
        go_wp2_with fail
        refine (ref14_May none 0 0 ⟨nth D.I k, 0, []⟩ _ CertsR.none).mono ?_
        rintro e w6 ⟨rfl, hb6⟩
        rw [HM.out]
        have hb6k : Below wk.heap.size wk w6 := bel_trans hb5' hb6
        have HB6 := Lib.hid (HB5.out.up hb6)
        have q2 := (hb6.cell (p := ⟨ib, ioff + k, none⟩) hi5).trans q1
        have hg6 := HB6.out.1
        have hi6 : ib < w6.heap.size := Nat.lt_of_lt_of_le hi5 hb6.size
        have hX := (BoxR.new w5 [.int .i64 (0), .int .i64 0, .slice none 0 0] 24).up hb6
        have hg7 := hX.1
        have x_0 := (hX).2 0 _ rfl; have x_1 := (hX).2 1 _ rfl; have x_2 := (hX).2 2 _ rfl
        clear b_0 b_1 b_2 b_3 b_4 b_5 q1 hX
        have b_0 := (HB6.out).2 0 _ rfl; have b_1 := (HB6.out).2 1 _ rfl; have b_2 := (HB6.out).2 2 _ rfl; have b_3 := (HB6.out).2 3 _ rfl; have b_4 := (HB6.out).2 4 _ rfl; have b_5 := (HB6.out).2 5 _ rfl
        go_wp2_with fail
        refine wp_region_fam (by kernel_rfl) (by kernel_rfl) (fun ι F hne hF hcl => ?_)
        have hcF0 := fun n o => (bcell (hF n)).1 (w.heap.size) o (by first | (simp; done) | (simp; omega) | omega)
        have hcF1 := fun n o => (bcell (hF n)).1 (w5.heap.size) o (by first | (simp; done) | (simp; omega) | omega)
        have hcF2 := fun n o => (bcell (hF n)).1 (ib) o (by first | (simp; done) | (simp; omega) | omega)
        have HF := Lib.hid hF; clear hF
        have HC := Lib.hid hcl; clear hcl
        repeat (any_goals (first
         | go_big_quiet_step (first | (go_at_call 44; exact Calls.fam_same (law14_num _ _)))
         | (refine wpQuiet_guard _ _ _ rfl rfl ?_; (fail_if_success (intro b' hb; have h2 := hb.symm; have : b' = true := h2.trans (by with_reducible rfl))); (fail_if_success (intro b' hb; have h2 := hb.symm; have : b' = false := h2.trans (by with_reducible rfl))); intro b' hb; simp only [hb]; cases b' <;> (try simp only [Bool.not_eq_true', Bool.not_eq_false', decide_eq_true_eq, decide_eq_false_iff_not, Int.not_lt, Int.not_le, Bool.and_eq_true, Bool.or_eq_true, Bool.or_eq_false_iff, beq_iff_eq, beq_eq_false_iff_ne, Int.natCast_pos] at hb))))
        all_goals (refine wpQuiet_nil ?_; intro nq)
        all_goals (try (exfalso; omega))
        have hFwg := HF.out nq
        clear HF HC hne
        generalize F nq = wg at *
        have hbg : Below wk.heap.size wk wg := bel_trans hb6k hFwg
        have hBg := HB6.out.up hFwg
        go_wp2_with fail
        (first | (go_round; (case rel => exact ⟨k + 1, by omega, by go_num, hBg, bel_trans hbw hbg⟩); (case measure => (simp [intOf] <;> omega))) | (go_roundw; (case rel => exact ⟨k + 1, by omega, by go_num, hBg, bel_trans hbw hbg⟩); (case measure => (simp [intOf] <;> omega))) | (refine ⟨?_, by simp [intOf] <;> omega⟩; (repeat apply Exists.intro); refine ⟨?rel, ?fr⟩; (case fr => ((repeat' apply And.intro) <;> rfl)); (case rel => exact ⟨k + 1, by omega, by go_num, hBg, bel_trans hbw hbg⟩)))
      · have HO := Lib.hid ho
        have hm : refMayS ⟨nth D.I k, 0, []⟩ = true := (may_eq _).trans ((may_empty _).trans ho)
        have HM := Lib.hid hm
        clear ho hm
        go_wp2_with fail
        refine (dag_New _ true _ HO.out).mono ?_
        rintro e w5 ⟨rfl, hb5⟩
        simp only [if_true]
        have hb5' : Below wk.heap.size wk (w5.alloc (.cells #[.int .i64 (nth D.I k), .int .i64 0, .slice none 0 0] 24)) := by (repeat (first | (with_reducible exact Below.refl _ _) | (with_reducible assumption) | (with_reducible apply bel_alloc) | (with_reducible apply bel_drew) | (with_reducible apply bel_drewN) | (with_reducible refine bel_trans ?_ (by with_reducible assumption)) | (with_reducible refine bel_trans ?_ (HF.out _)) | (with_reducible refine bel_set ?_ (by simp) _) | (with_reducible refine bel_set ?_ (by simp; omega) _) | (with_reducible refine bel_set ?_ (by omega) _)))
        have HB5 := Lib.hid (HB.out.up hb5')
        have q1 := (hb5'.cell (p := ⟨ib, ioff + k, none⟩) hib).trans q0
        have hg5 := HB5.out.1
        have hi5 : ib < (w5.alloc (.cells #[.int .i64 (nth D.I k), .int .i64 0, .slice none 0 0] 24)).heap.size := Nat.lt_of_lt_of_le hib hb5'.size
        clear b_0 b_1 b_2 b_3 b_4 b_5 q0
        have b_0 := (HB5.out).2 0 _ rfl; have b_1 := (HB5.out).2 1 _ rfl; have b_2 := (HB5.out).2 2 _ rfl; have b_3 := (HB5.out).2 3 _ rfl; have b_4 := (HB5.out).2 4 _ rfl; have b_5 := (HB5.out).2 5 _ rfl
        go_wp2_with fail
        refine (ref14_May none 0 0 ⟨nth D.I k, 0, []⟩ _ CertsR.none).mono ?_
        rintro e w6 ⟨rfl, hb6⟩
        rw [HM.out]
        have hb6k : Below wk.heap.size wk w6 := bel_trans hb5' hb6
        have HB6 := Lib.hid (HB5.out.up hb6)
        have q2 := (hb6.cell (p := ⟨ib, ioff + k, none⟩) hi5).trans q1
        have hg6 := HB6.out.1
        have hi6 : ib < w6.heap.size := Nat.lt_of_lt_of_le hi5 hb6.size
        have hX := (BoxR.new w5 [.int .i64 (nth D.I k), .int .i64 0, .slice none 0 0] 24).up hb6
        have hg7 := hX.1
        have x_0 := (hX).2 0 _ rfl; have x_1 := (hX).2 1 _ rfl; have x_2 := (hX).2 2 _ rfl
        clear b_0 b_1 b_2 b_3 b_4 b_5 q1 hX
        have b_0 := (HB6.out).2 0 _ rfl; have b_1 := (HB6.out).2 1 _ rfl; have b_2 := (HB6.out).2 2 _ rfl; have b_3 := (HB6.out).2 3 _ rfl; have b_4 := (HB6.out).2 4 _ rfl; have b_5 := (HB6.out).2 5 _ rfl
        go_wp2_with fail
        refine wp_region_fam (by kernel_rfl) (by kernel_rfl) (fun ι F hne hF hcl => ?_)
        have hcF0 := fun n o => (bcell (hF n)).1 (w.heap.size) o (by first | (simp; done) | (simp; omega) | omega)
        have hcF1 := fun n o => (bcell (hF n)).1 (w5.heap.size) o (by first | (simp; done) | (simp; omega) | omega)
        have hcF2 := fun n o => (bcell (hF n)).1 (ib) o (by first | (simp; done) | (simp; omega) | omega)
        have HF := Lib.hid hF; clear hF
        have HC := Lib.hid hcl; clear hcl
        repeat (any_goals (first
         | go_big_quiet_step (first | (go_at_call 44; exact Calls.fam_same (law14_num _ _)) | (go_at_call 23; exact Calls.fam HC.out (ref0_EqDag' none 0 0 none 0 0 ⟨nth D.I k, 0, []⟩ _ _ _ rfl rfl rfl CertsR.none CertsR.none)))
         | (refine wpQuiet_guard _ _ _ rfl rfl ?_; (fail_if_success (intro b' hb; have h2 := hb.symm; have : b' = true := h2.trans (by with_reducible rfl))); (fail_if_success (intro b' hb; have h2 := hb.symm; have : b' = false := h2.trans (by with_reducible rfl))); intro b' hb; simp only [hb]; cases b' <;> (try simp only [Bool.not_eq_true', Bool.not_eq_false', decide_eq_true_eq, decide_eq_false_iff_not, Int.not_lt, Int.not_le, Bool.and_eq_true, Bool.or_eq_true, Bool.or_eq_false_iff, beq_iff_eq, beq_eq_false_iff_ne, Int.natCast_pos] at hb))))
        all_goals (refine wpQuiet_nil ?_; intro nq)
        all_goals (try (exfalso; omega))
        have hFwg := HF.out nq
        clear HF HC hne
        generalize F nq = wg at *
        have hbg : Below wk.heap.size wk wg := bel_trans hb6k hFwg
        have hBg := HB6.out.up hFwg
        go_wp2_with fail
        (first | (go_round; (case rel => exact ⟨k + 1, by omega, by go_num, hBg, bel_trans hbw hbg⟩); (case measure => (simp [intOf] <;> omega))) | (go_roundw; (case rel => exact ⟨k + 1, by omega, by go_num, hBg, bel_trans hbw hbg⟩); (case measure => (simp [intOf] <;> omega))) | (refine ⟨?_, by simp [intOf] <;> omega⟩; (repeat apply Exists.intro); refine ⟨?rel, ?fr⟩; (case fr => ((repeat' apply And.intro) <;> rfl)); (case rel => exact ⟨k + 1, by omega, by go_num, hBg, bel_trans hbw hbg⟩)))
    · go_wp2_with fail
      refine (law14_wakes _).mono ?_
      rintro e w9 ⟨rfl, hb9⟩
      go_wp2_with fail
      go_ret
      exact ⟨rfl, bel_trans hbw hb9⟩
end Go.Proofs.Ytfkbilbgndekkaa
