/- The law TableGets. -/
import Derived.Test.YtffoglofijffpaaNt
namespace Go.Proofs.Ytffoglofijffpaa
open Go.RowKit
set_option linter.unusedSimpArgs false
set_option linter.unusedVariables false

set_option maxRecDepth 100000 in
set_option maxHeartbeats 4000000 in
theorem law_TableGets (P : AskP) (D : AskD) (w : World) (h : AskR w P D) :
    Calls Try.prog 3 #[P.val] w fun e w' => e = .returned (.bool true) ∧ Below w.heap.size w w' := by
  obtain ⟨⟨pA, pn, pc⟩, ⟨qA, qn, qc⟩, ⟨xA, xn, xc⟩, ⟨bA, bn, bc⟩, ⟨kA, kn, kc⟩⟩ := P
  have H := Lib.hid h
  have HP : Hid (PairsR w pA pn D.p) := Lib.hid h.p
  have HQ : Hid (AcctsR w qA qn D.q) := Lib.hid h.q
  have HK : Hid (StrsR w kA kn D.k) := Lib.hid h.k
  clear h
  show Calls Try.prog 3 #[.agg #[.slice pA pn pc, .slice qA qn qc, .slice xA xn xc, .slice bA bn bc, .slice kA kn kc]] w _
  go_enter Try.func3, Try.ntmps3
  go_wp2_with fail
  refine (law22_heavy ⟨⟨pA, pn, pc⟩, ⟨qA, qn, qc⟩, ⟨xA, xn, xc⟩, ⟨bA, bn, bc⟩, ⟨kA, kn, kc⟩⟩ D _ (H.out.up (by (repeat (first | (with_reducible exact Below.refl _ _) | (with_reducible assumption) | (with_reducible apply bel_alloc) | (with_reducible apply bel_drew) | (with_reducible apply bel_drewN) | (with_reducible refine bel_trans ?_ (by with_reducible assumption)) | (with_reducible refine bel_trans ?_ (HF.out _)) | (with_reducible refine bel_set ?_ (by simp) _) | (with_reducible refine bel_set ?_ (by simp; omega) _) | (with_reducible refine bel_set ?_ (by omega) _)))))).mono ?_
  rintro e w1 ⟨x, rfl, hx, hb1⟩
  cases x
  case true =>
    clear hx
    go_wp2_with fail
    go_ret
    exact ⟨rfl, by (repeat (first | (with_reducible exact Below.refl _ _) | (with_reducible assumption) | (with_reducible apply bel_alloc) | (with_reducible apply bel_drew) | (with_reducible apply bel_drewN) | (with_reducible refine bel_trans ?_ (by with_reducible assumption)) | (with_reducible refine bel_trans ?_ (HF.out _)) | (with_reducible refine bel_set ?_ (by simp) _) | (with_reducible refine bel_set ?_ (by simp; omega) _) | (with_reducible refine bel_set ?_ (by omega) _)))⟩
  case false =>
    have hL := hx rfl
    have hk100 : kn ≤ 100 := hL.k
    clear hx hL
    have hB1 : BoxR w1 w.heap.size [.slice pA pn pc, .slice qA qn qc, .slice xA xn xc, .slice bA bn bc, .slice kA kn kc] := (BoxR.new w [.slice pA pn pc, .slice qA qn qc, .slice xA xn xc, .slice bA bn bc, .slice kA kn kc] 30).up hb1
    have hbw1 : Below w.heap.size w w1 := by (repeat (first | (with_reducible exact Below.refl _ _) | (with_reducible assumption) | (with_reducible apply bel_alloc) | (with_reducible apply bel_drew) | (with_reducible apply bel_drewN) | (with_reducible refine bel_trans ?_ (by with_reducible assumption)) | (with_reducible refine bel_trans ?_ (HF.out _)) | (with_reducible refine bel_set ?_ (by simp) _) | (with_reducible refine bel_set ?_ (by simp; omega) _) | (with_reducible refine bel_set ?_ (by omega) _)))
    clear hb1
    go_wp2_with fail
    go_loopw [3] (fun ix wr => ∃ i : Nat, i ≤ kn ∧ ix = .int .i64 i ∧ Below w1.heap.size w1 wr) (fun ix _ => kn - (intOf ix).toNat)
    case atStart => exact ⟨0, Nat.zero_le _, rfl, Below.refl _ _⟩
    case round =>
      obtain ⟨i, hi, rfl, hbx⟩ := hrel
      (obtain ⟨wi, hwi⟩ : ∃ x, x = wr := ⟨_, rfl⟩); subst hwi
      have hBi := hB1.up hbx
      have hbwi : Below w.heap.size w wi := bel_trans hbw1 hbx
      have b_0 := (hBi).2 0 _ rfl; have b_1 := (hBi).2 1 _ rfl; have b_2 := (hBi).2 2 _ rfl; have b_3 := (hBi).2 3 _ rfl; have b_4 := (hBi).2 4 _ rfl
      have hg0 := hBi.1
      by_cases hlt : i < kn ∧ i < 30
      · obtain ⟨hlt1, hlt2⟩ := hlt
        obtain ⟨kb, koff, rfl, hkb, hkc⟩ := (HK.out.up hbwi).at (by omega)
        have hk0 := hkc i hlt1
        obtain ⟨key, hkey⟩ : ∃ key, key = sth D.k i := ⟨_, rfl⟩
        rw [← hkey] at hk0
        clear hkc hkey
        cases hm : mayT D.p D.q
        case' false =>
          have hv : tgB D.p D.q key = ⟨#[]⟩ ∧ tgE D.p D.q key = 1 := by simp [tgB, tgE, hm]
          have HV := Lib.hid hv
          have HC : Hid ((if mayT D.p D.q = true then 0 else 1) = (1 : Int)) := Lib.hid (by rw [hm]; rfl)
          clear hv hm
          go_wp2_with fail
          refine (law22_check pA pn pc D.p qA qn qc D.q 1 _ (HP.out.up hbwi) (HQ.out.up hbwi) HC.out).mono ?_
          rintro e w3 ⟨rfl, hb3⟩
          have hB3 := hBi.up hb3
          have hk3 := (hb3.cell (p := ⟨kb, koff + i, none⟩) hkb).trans hk0
          have hkb3 : kb < w3.heap.size := Nat.lt_of_lt_of_le hkb hb3.size
          have hg3 := hB3.1
          have hbw3 := bel_trans hbwi hb3
          have HP3 := Lib.hid (HP.out.up hbw3)
          have HQ3 := Lib.hid (HQ.out.up hbw3)
          clear b_0 b_1 b_2 b_3 b_4 hk0
          have b_0 := (hB3).2 0 _ rfl; have b_1 := (hB3).2 1 _ rfl; have b_2 := (hB3).2 2 _ rfl; have b_3 := (hB3).2 3 _ rfl; have b_4 := (hB3).2 4 _ rfl
          go_wp2_with fail
          refine wp_region_fam (by kernel_rfl) (by kernel_rfl) (fun ι F hne hF hcl => ?_)
          have hcF0 := fun n o => (bcell (hF n)).1 (w.heap.size) o (by first | (simp; done) | (simp; omega) | omega)
          have hcF1 := fun n o => (bcell (hF n)).1 (kb) o (by first | (simp; done) | (simp; omega) | omega)
          have HF := Lib.hid hF; clear hF
          have HC := Lib.hid hcl; clear hcl
          repeat (any_goals (first
           | go_big_quiet_step (first | (go_at_call 17; exact Calls.fam HC.out (table_Get pA pn pc D.p qA qn qc D.q key _ _ _ (HP3.out.up (HF.out _)) (HQ3.out.up (HF.out _)) HV.out.1 HV.out.2)))
           | (refine wpQuiet_guard _ _ _ rfl rfl ?_; (fail_if_success (intro b' hb; have h2 := hb.symm; have : b' = true := h2.trans (by with_reducible rfl))); (fail_if_success (intro b' hb; have h2 := hb.symm; have : b' = false := h2.trans (by with_reducible rfl))); intro b' hb; simp only [hb]; cases b' <;> (try simp only [Bool.not_eq_true', Bool.not_eq_false', decide_eq_true_eq, decide_eq_false_iff_not, Int.not_lt, Int.not_le, Bool.and_eq_true, Bool.or_eq_true, Bool.or_eq_false_iff, beq_iff_eq, beq_eq_false_iff_ne, Int.natCast_pos] at hb))))
          all_goals (refine wpQuiet_nil ?_; intro nq)
          have hFwf := HF.out nq
          clear HF HC hne
          generalize F nq = wf at *
          clear hcF0 hcF1 b_0 b_1 b_2 b_3 b_4 hk3
          go_wp2_with (go_at_call 18; refine (law22_num _ _).mono ?_; rintro e w' ⟨rfl, rfl⟩)
          (first | (go_round; (case rel => exact ⟨i + 1, by omega, by go_num, bel_trans hbx (bel_trans hb3 hFwf)⟩); (case measure => (simp [intOf] <;> omega))) | (go_roundw; (case rel => exact ⟨i + 1, by omega, by go_num, bel_trans hbx (bel_trans hb3 hFwf)⟩); (case measure => (simp [intOf] <;> omega))) | (refine ⟨?_, by simp [intOf] <;> omega⟩; (repeat apply Exists.intro); refine ⟨?rel, ?fr⟩; (case fr => ((repeat' apply And.intro) <;> rfl)); (case rel => exact ⟨i + 1, by omega, by go_num, bel_trans hbx (bel_trans hb3 hFwf)⟩)))
        case' true =>
          have HC : Hid ((if mayT D.p D.q = true then 0 else 1) = (0 : Int)) := Lib.hid (by rw [hm]; rfl)
          obtain ⟨u, hu⟩ : ∃ u, getB D.p key = u := ⟨_, rfl⟩
          have HU := Lib.hid hu
          cases hh : khasP D.p key
          case' false =>
            have hv : tgB D.p D.q key = u ∧ tgE D.p D.q key = 3 := by unfold tgB tgE; rw [if_pos hm, if_pos hm, if_neg (by rw [hh]; simp)]; exact ⟨hu, rfl⟩
          case' true =>
            have hv : tgB D.p D.q key = u ∧ tgE D.p D.q key = 0 := by unfold tgB tgE; rw [if_pos hm, if_pos hm, if_pos hh]; exact ⟨hu, rfl⟩
          all_goals
            have HV := Lib.hid hv
            have HH := Lib.hid hh
            clear hv hm hu hh
            go_wp2_with fail
            refine (law22_check pA pn pc D.p qA qn qc D.q 0 _ (HP.out.up hbwi) (HQ.out.up hbwi) HC.out).mono ?_
            rintro e w3 ⟨rfl, hb3⟩
            have hB3 := hBi.up hb3
            have hk3 := (hb3.cell (p := ⟨kb, koff + i, none⟩) hkb).trans hk0
            have hkb3 : kb < w3.heap.size := Nat.lt_of_lt_of_le hkb hb3.size
            have hg3 := hB3.1
            have hbw3 := bel_trans hbwi hb3
            have HP3 := Lib.hid (HP.out.up hbw3)
            have HQ3 := Lib.hid (HQ.out.up hbw3)
            clear b_0 b_1 b_2 b_3 b_4 hk0
            have b_0 := (hB3).2 0 _ rfl; have b_1 := (hB3).2 1 _ rfl; have b_2 := (hB3).2 2 _ rfl; have b_3 := (hB3).2 3 _ rfl; have b_4 := (hB3).2 4 _ rfl
            go_wp2_with fail
            refine wp_region_fam (by kernel_rfl) (by kernel_rfl) (fun ι F hne hF hcl => ?_)
            have hcF0 := fun n o => (bcell (hF n)).1 (w.heap.size) o (by first | (simp; done) | (simp; omega) | omega)
            have hcF1 := fun n o => (bcell (hF n)).1 (kb) o (by first | (simp; done) | (simp; omega) | omega)
            have HF := Lib.hid hF; clear hF
            have HC := Lib.hid hcl; clear hcl
            repeat (any_goals (first
             | go_big_quiet_step (first | (go_at_call 16; exact Calls.fam HC.out (ref22_Get pA pn pc D.p qA qn qc key _ _ _ (HP3.out.up (HF.out _)) HU.out HH.out)))
             | (refine wpQuiet_guard _ _ _ rfl rfl ?_; (fail_if_success (intro b' hb; have h2 := hb.symm; have : b' = true := h2.trans (by with_reducible rfl))); (fail_if_success (intro b' hb; have h2 := hb.symm; have : b' = false := h2.trans (by with_reducible rfl))); intro b' hb; simp only [hb]; cases b' <;> (try simp only [Bool.not_eq_true', Bool.not_eq_false', decide_eq_true_eq, decide_eq_false_iff_not, Int.not_lt, Int.not_le, Bool.and_eq_true, Bool.or_eq_true, Bool.or_eq_false_iff, beq_iff_eq, beq_eq_false_iff_ne, Int.natCast_pos] at hb))))
            all_goals (refine wpQuiet_nil ?_; intro nq)
            have hFwf := HF.out nq
            clear HF HC hne
            generalize F nq = wf at *
            have hB4 := hB3.up hFwf
            have hk4 := (hFwf.cell (p := ⟨kb, koff + i, none⟩) hkb3).trans hk3
            have hkb4 : kb < wf.heap.size := Nat.lt_of_lt_of_le hkb3 hFwf.size
            have hg4 := hB4.1
            have hbw4 := bel_trans hbw3 hFwf
            have HP4 := Lib.hid (HP.out.up hbw4)
            have HQ4 := Lib.hid (HQ.out.up hbw4)
            clear hcF0 hcF1 b_0 b_1 b_2 b_3 b_4 hk3
            have b_0 := (hB4).2 0 _ rfl; have b_1 := (hB4).2 1 _ rfl; have b_2 := (hB4).2 2 _ rfl; have b_3 := (hB4).2 3 _ rfl; have b_4 := (hB4).2 4 _ rfl
            go_wp2_with fail
            refine wp_region_fam (by kernel_rfl) (by kernel_rfl) (fun ι F hne hF hcl => ?_)
            have hcF0 := fun n o => (bcell (hF n)).1 (w.heap.size) o (by first | (simp; done) | (simp; omega) | omega)
            have hcF1 := fun n o => (bcell (hF n)).1 (kb) o (by first | (simp; done) | (simp; omega) | omega)
            have HF := Lib.hid hF; clear hF
            have HC := Lib.hid hcl; clear hcl
            repeat (any_goals (first
             | go_big_quiet_step (first | (go_at_call 17; exact Calls.fam HC.out (table_Get pA pn pc D.p qA qn qc D.q key _ _ _ (HP4.out.up (HF.out _)) (HQ4.out.up (HF.out _)) HV.out.1 HV.out.2)))
             | (refine wpQuiet_guard _ _ _ rfl rfl ?_; (fail_if_success (intro b' hb; have h2 := hb.symm; have : b' = true := h2.trans (by with_reducible rfl))); (fail_if_success (intro b' hb; have h2 := hb.symm; have : b' = false := h2.trans (by with_reducible rfl))); intro b' hb; simp only [hb]; cases b' <;> (try simp only [Bool.not_eq_true', Bool.not_eq_false', decide_eq_true_eq, decide_eq_false_iff_not, Int.not_lt, Int.not_le, Bool.and_eq_true, Bool.or_eq_true, Bool.or_eq_false_iff, beq_iff_eq, beq_eq_false_iff_ne, Int.natCast_pos] at hb))))
            all_goals (refine wpQuiet_nil ?_; intro nq)
            have hFwh := HF.out nq
            clear HF HC hne
            generalize F nq = wh at *
            clear hcF0 hcF1 b_0 b_1 b_2 b_3 b_4 hk4
            go_wp2_with (go_at_call 18; refine (law22_num _ _).mono ?_; rintro e w' ⟨rfl, rfl⟩)
            (first | (go_round; (case rel => exact ⟨i + 1, by omega, by go_num, bel_trans hbx (bel_trans hb3 (bel_trans hFwf hFwh))⟩); (case measure => (simp [intOf] <;> omega))) | (go_roundw; (case rel => exact ⟨i + 1, by omega, by go_num, bel_trans hbx (bel_trans hb3 (bel_trans hFwf hFwh))⟩); (case measure => (simp [intOf] <;> omega))) | (refine ⟨?_, by simp [intOf] <;> omega⟩; (repeat apply Exists.intro); refine ⟨?rel, ?fr⟩; (case fr => ((repeat' apply And.intro) <;> rfl)); (case rel => exact ⟨i + 1, by omega, by go_num, bel_trans hbx (bel_trans hb3 (bel_trans hFwf hFwh))⟩)))
      · clear b_0 b_1 b_2 b_3
        by_cases h1 : i < kn
        · have h2 : ¬ i < 30 := fun h => hlt ⟨h1, h⟩
          clear hlt
          go_wp2_with (go_at_call 19; refine (law22_wakes _).mono ?_; rintro e w9 ⟨rfl, hb9⟩)
          go_ret
          exact ⟨rfl, bel_trans hbwi hb9⟩
        · clear hlt
          go_wp2_with (go_at_call 19; refine (law22_wakes _).mono ?_; rintro e w9 ⟨rfl, hb9⟩)
          go_ret
          exact ⟨rfl, bel_trans hbwi hb9⟩
end Go.Proofs.Ytffoglofijffpaa
