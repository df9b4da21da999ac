/- Held batches: which may be, at the program, at the reference; where one stands. -/
import Derived.Test.YtbakkpabiknlmaaSzEh
namespace Go.Proofs.Ytbakkpabiknlmaa
open Go.RowKit
set_option linter.unusedSimpArgs false
set_option linter.unusedVariables false

def HeldOk (l : List HeldD) (k : Nat) : Prop := digS (hth l k).di = true ∧ bmT (hth l k).b = true ∧ (0 < k → (hth l (k - 1)).di < (hth l k).di)
def MayHs (l : List HeldD) : Prop := ∀ k, k < l.length → HeldOk l k
noncomputable def hdB (l : List HeldD) : Bool := dec (MayHs l)
theorem hdB_iff {l : List HeldD} : hdB l = true ↔ MayHs l := dec_iff
theorem refd_Digest (d : Int) (y : Bool) (w : World) (hy : digS d = y) : Calls Try.prog 25 #[.int .i64 d] w fun e w' => e = .returned (.bool y) ∧ w = w' :=
  (ref0_Digest d w).mono fun e w' ⟨h1, h2⟩ => ⟨by rw [h1, hy], h2⟩
set_option maxRecDepth 100000 in
set_option maxHeartbeats 4000000 in
theorem worker_MayHeld (A : Option Addr) (n c : Nat) (l : List HeldD) (y : Bool) (w : World) (hl : HeldsR w A n l) (hy : hdB l = y) : Calls Try.prog 34 #[.slice A n c] w fun e w' => e = .returned (.bool y) ∧ Below w.heap.size w w' := by
  have HY := Lib.hid hy
  have HL := Lib.hid hl
  have HN := Lib.hid hl.1
  have hnn : n ≤ 9223372036854775807 := hl.2.1
  clear hy hl
  go_enter Try.func34, Try.ntmps34
  go_wp2_with fail
  go_loopw [7] (fun ix wr => ∃ k : Nat, k ≤ n ∧ ix = .int .i64 k ∧ Hid (∀ j, j < k → HeldOk l j) ∧ Below w.heap.size w wr) (fun ix _ => n - (intOf ix).toNat)
  case atStart => exact ⟨0, Nat.zero_le _, rfl, Lib.hid (fun j hj => absurd hj (by omega)), Below.refl _ _⟩
  case round =>
    obtain ⟨k, hk, rfl, HG, hbw⟩ := hrel
    (obtain ⟨wk, hwk⟩ : ∃ x, x = wr := ⟨_, rfl⟩); subst hwk
    by_cases hlt : k < n
    · obtain ⟨b, off, rfl, hb, hc⟩ := (HL.out.up hbw).2.2 (by omega)
      obtain ⟨B, m, d, ⟨c0, c1, c2, c3⟩, htx⟩ := hc k hlt
      have hbad : ¬ HeldOk l k → hdB l = false := fun h => by
        cases hm : hdB l
        · rfl
        · exact absurd (hdB_iff.1 hm k (by rw [HN.out]; exact hlt)) h
      have HB := Lib.hid hbad
      obtain ⟨p, hp⟩ : ∃ p, p = hth l k := ⟨_, rfl⟩
      rw [← hp] at c0 c1 c2 htx
      have HP := Lib.hid hp
      obtain ⟨o, ho⟩ : ∃ o, o = (hth l (k - 1)).di := ⟨_, rfl⟩
      have hd : 0 < k → wk.cell? ⟨b, off + (k - 1) * 4, none⟩ = some (.int .i64 o) := fun h => by rw [ho]; obtain ⟨_, _, _, ⟨q, _⟩, _⟩ := hc (k - 1) (by omega); exact q
      have HO := Lib.hid ho
      have HD := Lib.hid hd
      clear hc hd ho hp hbad
      have hA : BoxR (wk.alloc (.cells #[.int .i64 p.di, .int .i64 p.b.au, .int .i64 p.b.n, .slice B m d] 44)) wk.heap.size [.int .i64 p.di, .int .i64 p.b.au, .int .i64 p.b.n, .slice B m d] := BoxR.new wk [.int .i64 p.di, .int .i64 p.b.au, .int .i64 p.b.n, .slice B m d] 44
      have hba : Below wk.heap.size wk (wk.alloc (.cells #[.int .i64 p.di, .int .i64 p.b.au, .int .i64 p.b.n, .slice B m d] 44)) := by (repeat (first | (with_reducible exact Below.refl _ _) | (with_reducible assumption) | (with_reducible apply bel_alloc) | (with_reducible apply bel_drew) | (with_reducible apply bel_drewN) | (with_reducible refine bel_trans ?_ (by with_reducible assumption)) | (with_reducible refine bel_trans ?_ (HF.out _)) | (with_reducible refine bel_set ?_ (by simp) _) | (with_reducible refine bel_set ?_ (by simp; omega) _) | (with_reducible refine bel_set ?_ (by omega) _)))
      have a_0 := (hA).2 0 _ rfl; have a_1 := (hA).2 1 _ rfl; have a_2 := (hA).2 2 _ rfl; have a_3 := (hA).2 3 _ rfl
      have HTX := Lib.hid (htx.up hba)
      clear htx
      cases h1 : digS p.di
      · have H1 := Lib.hid h1
        clear h1
        go_wp2_with fail
        refine wp_region_fam (by kernel_rfl) (by kernel_rfl) (fun ι F hne hF hcl => ?_)
        have hcF0 := fun n o => (bcell (hF n)).1 (wk.heap.size) o (by first | (simp; done) | (simp; omega) | omega)
        have hcF1 := fun n o => (bcell (hF n)).1 (b) o (by first | (simp; done) | (simp; omega) | omega)
        have HF := Lib.hid hF; clear hF
        have HC := Lib.hid hcl; clear hcl
        repeat (any_goals (first
         | go_big_quiet_step (first | (go_at_call 31; exact Calls.fam_same (comm_Digest p.di false _ H1.out)))
         | (refine wpQuiet_guard _ _ _ rfl rfl ?_; (fail_if_success (intro b' hb; have h2 := hb.symm; have : b' = true := h2.trans (by with_reducible rfl))); (fail_if_success (intro b' hb; have h2 := hb.symm; have : b' = false := h2.trans (by with_reducible rfl))); intro b' hb; simp only [hb]; cases b' <;> (try simp only [Bool.not_eq_true', Bool.not_eq_false', decide_eq_true_eq, decide_eq_false_iff_not, Int.not_lt, Int.not_le, Bool.and_eq_true, Bool.or_eq_true, Bool.or_eq_false_iff, beq_iff_eq, beq_eq_false_iff_ne, Int.natCast_pos] at hb))))
        all_goals (refine wpQuiet_nil ?_; intro nq)
        all_goals (try (exfalso; omega))
        have hFwf := HF.out nq
        clear HF HC hne
        generalize F nq = wf at *
        have hbf : Below w.heap.size w wf := bel_trans hbw (bel_trans hba hFwf)
        go_wp2_with fail
        go_ret
        exact ⟨ret_bool (by rw [← HY.out, HB.out (fun g => (by have := g.1; rw [← HP.out, H1.out] at this; cases this))]), hbf⟩
      have H1 := Lib.hid h1
      clear h1
      cases h3 : bmT p.b
      case' false =>
        have H3 := Lib.hid h3
        clear h3
        rcases Nat.eq_zero_or_pos k with hk0 | hk0
        · subst hk0
          rw [Nat.zero_mul, Nat.add_zero] at c0 c1 c2 c3
          go_wp2_with fail
          refine wp_region_fam (by kernel_rfl) (by kernel_rfl) (fun ι F hne hF hcl => ?_)
          have hcF0 := fun n o => (bcell (hF n)).1 (wk.heap.size) o (by first | (simp; done) | (simp; omega) | omega)
          have hcF1 := fun n o => (bcell (hF n)).1 (b) o (by first | (simp; done) | (simp; omega) | omega)
          have HF := Lib.hid hF; clear hF
          have HC := Lib.hid hcl; clear hcl
          repeat (any_goals (first
           | go_big_quiet_step (first | (go_at_call 31; exact Calls.fam_same (comm_Digest p.di true _ H1.out)) | (go_at_call 39; exact Calls.fam HC.out (batch_May p.b B m d false _ (HTX.out.up (HF.out _)) H3.out)))
           | (refine wpQuiet_guard _ _ _ rfl rfl ?_; (fail_if_success (intro b' hb; have h2 := hb.symm; have : b' = true := h2.trans (by with_reducible rfl))); (fail_if_success (intro b' hb; have h2 := hb.symm; have : b' = false := h2.trans (by with_reducible rfl))); intro b' hb; simp only [hb]; cases b' <;> (try simp only [Bool.not_eq_true', Bool.not_eq_false', decide_eq_true_eq, decide_eq_false_iff_not, Int.not_lt, Int.not_le, Bool.and_eq_true, Bool.or_eq_true, Bool.or_eq_false_iff, beq_iff_eq, beq_eq_false_iff_ne, Int.natCast_pos] at hb))))
          all_goals (refine wpQuiet_nil ?_; intro nq)
          all_goals (try (exfalso; omega))
          have hFwf := HF.out nq
          clear HF HC hne
          generalize F nq = wf at *
          have hbf : Below w.heap.size w wf := bel_trans hbw (bel_trans hba hFwf)
          go_wp2_with fail
          go_ret
          exact ⟨ret_bool (by rw [← HY.out, HB.out (fun g => (by have := g.2.1; rw [← HP.out, H3.out] at this; cases this))]), hbf⟩
        · have d0 := HD.out hk0
          have hk1 : (0 : Int) < (k : Int) := by omega
          by_cases h2 : o < p.di
          case' neg => have h2b : decide (p.di ≤ o) = true := by simp; omega
          case' pos => have h2b : decide (p.di ≤ o) = false := by simp; omega
          all_goals
            clear h2
            go_wp2_with fail
            refine wp_region_fam (by kernel_rfl) (by kernel_rfl) (fun ι F hne hF hcl => ?_)
            have hcF0 := fun n o => (bcell (hF n)).1 (wk.heap.size) o (by first | (simp; done) | (simp; omega) | omega)
            have hcF1 := fun n o => (bcell (hF n)).1 (b) o (by first | (simp; done) | (simp; omega) | omega)
            have HF := Lib.hid hF; clear hF
            have HC := Lib.hid hcl; clear hcl
            repeat (any_goals (first
             | go_big_quiet_step (first | (go_at_call 31; exact Calls.fam_same (comm_Digest p.di true _ H1.out)) | (go_at_call 39; exact Calls.fam HC.out (batch_May p.b B m d false _ (HTX.out.up (HF.out _)) H3.out)))
             | (refine wpQuiet_guard _ _ _ rfl rfl ?_; (fail_if_success (intro b' hb; have h2 := hb.symm; have : b' = true := h2.trans (by with_reducible rfl))); (fail_if_success (intro b' hb; have h2 := hb.symm; have : b' = false := h2.trans (by with_reducible rfl))); intro b' hb; simp only [hb]; cases b' <;> (try simp only [Bool.not_eq_true', Bool.not_eq_false', decide_eq_true_eq, decide_eq_false_iff_not, Int.not_lt, Int.not_le, Bool.and_eq_true, Bool.or_eq_true, Bool.or_eq_false_iff, beq_iff_eq, beq_eq_false_iff_ne, Int.natCast_pos] at hb))))
            all_goals (refine wpQuiet_nil ?_; intro nq)
            all_goals (try (exfalso; omega))
            have hFwf := HF.out nq
            clear HF HC hne
            generalize F nq = wf at *
            have hbf : Below w.heap.size w wf := bel_trans hbw (bel_trans hba hFwf)
            go_wp2_with fail
            go_ret
            exact ⟨ret_bool (by rw [← HY.out, HB.out (fun g => (by have := g.2.1; rw [← HP.out, H3.out] at this; cases this))]), hbf⟩
      case' true =>
        have H3 := Lib.hid h3
        clear h3
        rcases Nat.eq_zero_or_pos k with hk0 | hk0
        · subst hk0
          rw [Nat.zero_mul, Nat.add_zero] at c0 c1 c2 c3
          go_wp2_with fail
          refine wp_region_fam (by kernel_rfl) (by kernel_rfl) (fun ι F hne hF hcl => ?_)
          have hcF0 := fun n o => (bcell (hF n)).1 (wk.heap.size) o (by first | (simp; done) | (simp; omega) | omega)
          have hcF1 := fun n o => (bcell (hF n)).1 (b) o (by first | (simp; done) | (simp; omega) | omega)
          have HF := Lib.hid hF; clear hF
          have HC := Lib.hid hcl; clear hcl
          repeat (any_goals (first
           | go_big_quiet_step (first | (go_at_call 31; exact Calls.fam_same (comm_Digest p.di true _ H1.out)) | (go_at_call 39; exact Calls.fam HC.out (batch_May p.b B m d true _ (HTX.out.up (HF.out _)) H3.out)))
           | (refine wpQuiet_guard _ _ _ rfl rfl ?_; (fail_if_success (intro b' hb; have h2 := hb.symm; have : b' = true := h2.trans (by with_reducible rfl))); (fail_if_success (intro b' hb; have h2 := hb.symm; have : b' = false := h2.trans (by with_reducible rfl))); intro b' hb; simp only [hb]; cases b' <;> (try simp only [Bool.not_eq_true', Bool.not_eq_false', decide_eq_true_eq, decide_eq_false_iff_not, Int.not_lt, Int.not_le, Bool.and_eq_true, Bool.or_eq_true, Bool.or_eq_false_iff, beq_iff_eq, beq_eq_false_iff_ne, Int.natCast_pos] at hb))))
          all_goals (refine wpQuiet_nil ?_; intro nq)
          all_goals (try (exfalso; omega))
          have hFwf := HF.out nq
          clear HF HC hne
          generalize F nq = wf at *
          have hbf : Below w.heap.size w wf := bel_trans hbw (bel_trans hba hFwf)
          go_wp2_with fail
          (first | (go_round; (case rel => exact ⟨1, by omega, rfl, Lib.hid (fun j hj => by ((obtain rfl : j = 0 := by omega); exact ⟨by rw [← HP.out]; exact H1.out, by rw [← HP.out]; exact H3.out, fun h => absurd h (by omega)⟩)), hbf⟩); (case measure => (simp [intOf] <;> omega))) | (go_roundw; (case rel => exact ⟨1, by omega, rfl, Lib.hid (fun j hj => by ((obtain rfl : j = 0 := by omega); exact ⟨by rw [← HP.out]; exact H1.out, by rw [← HP.out]; exact H3.out, fun h => absurd h (by omega)⟩)), hbf⟩); (case measure => (simp [intOf] <;> omega))) | (refine ⟨?_, by simp [intOf] <;> omega⟩; (repeat apply Exists.intro); refine ⟨?rel, ?fr⟩; (case fr => ((repeat' apply And.intro) <;> rfl)); (case rel => exact ⟨1, by omega, rfl, Lib.hid (fun j hj => by ((obtain rfl : j = 0 := by omega); exact ⟨by rw [← HP.out]; exact H1.out, by rw [← HP.out]; exact H3.out, fun h => absurd h (by omega)⟩)), hbf⟩)))
        · have d0 := HD.out hk0
          have hk1 : (0 : Int) < (k : Int) := by omega
          by_cases h2 : o < p.di
          · have h2b : decide (p.di ≤ o) = false := by simp; omega
            have H2 := Lib.hid h2
            clear h2
            go_wp2_with fail
            refine wp_region_fam (by kernel_rfl) (by kernel_rfl) (fun ι F hne hF hcl => ?_)
            have hcF0 := fun n o => (bcell (hF n)).1 (wk.heap.size) o (by first | (simp; done) | (simp; omega) | omega)
            have hcF1 := fun n o => (bcell (hF n)).1 (b) o (by first | (simp; done) | (simp; omega) | omega)
            have HF := Lib.hid hF; clear hF
            have HC := Lib.hid hcl; clear hcl
            repeat (any_goals (first
             | go_big_quiet_step (first | (go_at_call 31; exact Calls.fam_same (comm_Digest p.di true _ H1.out)) | (go_at_call 39; exact Calls.fam HC.out (batch_May p.b B m d true _ (HTX.out.up (HF.out _)) H3.out)))
             | (refine wpQuiet_guard _ _ _ rfl rfl ?_; (fail_if_success (intro b' hb; have h2 := hb.symm; have : b' = true := h2.trans (by with_reducible rfl))); (fail_if_success (intro b' hb; have h2 := hb.symm; have : b' = false := h2.trans (by with_reducible rfl))); intro b' hb; simp only [hb]; cases b' <;> (try simp only [Bool.not_eq_true', Bool.not_eq_false', decide_eq_true_eq, decide_eq_false_iff_not, Int.not_lt, Int.not_le, Bool.and_eq_true, Bool.or_eq_true, Bool.or_eq_false_iff, beq_iff_eq, beq_eq_false_iff_ne, Int.natCast_pos] at hb))))
            all_goals (refine wpQuiet_nil ?_; intro nq)
            all_goals (try (exfalso; omega))
            have hFwf := HF.out nq
            clear HF HC hne
            generalize F nq = wf at *
            have hbf : Below w.heap.size w wf := bel_trans hbw (bel_trans hba hFwf)
            go_wp2_with fail
            (first | (go_round; (case rel => exact ⟨k + 1, by omega, by go_num, Lib.hid (fun j hj => by (rcases Nat.lt_or_ge j k with h | h; exact HG.out j h; (obtain rfl : j = k := by omega); exact ⟨by rw [← HP.out]; exact H1.out, by rw [← HP.out]; exact H3.out, fun _ => by rw [← HP.out, ← HO.out]; exact H2.out⟩)), hbf⟩); (case measure => (simp [intOf] <;> omega))) | (go_roundw; (case rel => exact ⟨k + 1, by omega, by go_num, Lib.hid (fun j hj => by (rcases Nat.lt_or_ge j k with h | h; exact HG.out j h; (obtain rfl : j = k := by omega); exact ⟨by rw [← HP.out]; exact H1.out, by rw [← HP.out]; exact H3.out, fun _ => by rw [← HP.out, ← HO.out]; exact H2.out⟩)), hbf⟩); (case measure => (simp [intOf] <;> omega))) | (refine ⟨?_, by simp [intOf] <;> omega⟩; (repeat apply Exists.intro); refine ⟨?rel, ?fr⟩; (case fr => ((repeat' apply And.intro) <;> rfl)); (case rel => exact ⟨k + 1, by omega, by go_num, Lib.hid (fun j hj => by (rcases Nat.lt_or_ge j k with h | h; exact HG.out j h; (obtain rfl : j = k := by omega); exact ⟨by rw [← HP.out]; exact H1.out, by rw [← HP.out]; exact H3.out, fun _ => by rw [← HP.out, ← HO.out]; exact H2.out⟩)), hbf⟩)))
          · have h2b : decide (p.di ≤ o) = true := by simp; omega
            have H2 := Lib.hid h2
            clear h2
            go_wp2_with fail
            refine wp_region_fam (by kernel_rfl) (by kernel_rfl) (fun ι F hne hF hcl => ?_)
            have hcF0 := fun n o => (bcell (hF n)).1 (wk.heap.size) o (by first | (simp; done) | (simp; omega) | omega)
            have hcF1 := fun n o => (bcell (hF n)).1 (b) o (by first | (simp; done) | (simp; omega) | omega)
            have HF := Lib.hid hF; clear hF
            have HC := Lib.hid hcl; clear hcl
            repeat (any_goals (first
             | go_big_quiet_step (first | (go_at_call 31; exact Calls.fam_same (comm_Digest p.di true _ H1.out)) | (go_at_call 39; exact Calls.fam HC.out (batch_May p.b B m d true _ (HTX.out.up (HF.out _)) H3.out)))
             | (refine wpQuiet_guard _ _ _ rfl rfl ?_; (fail_if_success (intro b' hb; have h2 := hb.symm; have : b' = true := h2.trans (by with_reducible rfl))); (fail_if_success (intro b' hb; have h2 := hb.symm; have : b' = false := h2.trans (by with_reducible rfl))); intro b' hb; simp only [hb]; cases b' <;> (try simp only [Bool.not_eq_true', Bool.not_eq_false', decide_eq_true_eq, decide_eq_false_iff_not, Int.not_lt, Int.not_le, Bool.and_eq_true, Bool.or_eq_true, Bool.or_eq_false_iff, beq_iff_eq, beq_eq_false_iff_ne, Int.natCast_pos] at hb))))
            all_goals (refine wpQuiet_nil ?_; intro nq)
            all_goals (try (exfalso; omega))
            have hFwf := HF.out nq
            clear HF HC hne
            generalize F nq = wf at *
            have hbf : Below w.heap.size w wf := bel_trans hbw (bel_trans hba hFwf)
            go_wp2_with fail
            go_ret
            exact ⟨ret_bool (by rw [← HY.out, HB.out (fun g => (by have := g.2.2 hk0; rw [← HP.out, ← HO.out] at this; have h9 := H2.out; omega))]), hbf⟩
    · obtain rfl : k = n := by omega
      have hyes : y = true := by rw [← HY.out]; exact hdB_iff.2 (fun j hj => HG.out j (by rw [HN.out] at hj; exact hj))
      subst hyes
      go_wp2_with fail
      go_ret
      exact ⟨rfl, hbw⟩
set_option maxRecDepth 100000 in
set_option maxHeartbeats 4000000 in
theorem ref13_Held (A : Option Addr) (n c : Nat) (l : List HeldD) (y : Bool) (w : World) (hl : HeldsR w A n l) (hy : hdB l = y) : Calls Try.prog 8 #[.slice A n c] w fun e w' => e = .returned (.bool y) ∧ Below w.heap.size w w' := by
  have HY := Lib.hid hy
  have HL := Lib.hid hl
  have HN := Lib.hid hl.1
  have hnn : n ≤ 9223372036854775807 := hl.2.1
  clear hy hl
  go_enter Try.func8, Try.ntmps8
  go_wp2_with fail
  go_loopw [3] (fun ix wr => ∃ k : Nat, k ≤ n ∧ ix = .int .i64 k ∧ Hid (∀ j, j < k → HeldOk l j) ∧ Below w.heap.size w wr) (fun ix _ => n - (intOf ix).toNat)
  case atStart => exact ⟨0, Nat.zero_le _, rfl, Lib.hid (fun j hj => absurd hj (by omega)), Below.refl _ _⟩
  case round =>
    obtain ⟨k, hk, rfl, HG, hbw⟩ := hrel
    (obtain ⟨wk, hwk⟩ : ∃ x, x = wr := ⟨_, rfl⟩); subst hwk
    by_cases hlt : k < n
    · obtain ⟨b, off, rfl, hb, hc⟩ := (HL.out.up hbw).2.2 (by omega)
      obtain ⟨B, m, d, ⟨c0, c1, c2, c3⟩, htx⟩ := hc k hlt
      have hbad : ¬ HeldOk l k → hdB l = false := fun h => by
        cases hm : hdB l
        · rfl
        · exact absurd (hdB_iff.1 hm k (by rw [HN.out]; exact hlt)) h
      have HB := Lib.hid hbad
      obtain ⟨p, hp⟩ : ∃ p, p = hth l k := ⟨_, rfl⟩
      rw [← hp] at c0 c1 c2 htx
      have HP := Lib.hid hp
      obtain ⟨o, ho⟩ : ∃ o, o = (hth l (k - 1)).di := ⟨_, rfl⟩
      have hd : 0 < k → wk.cell? ⟨b, off + (k - 1) * 4, none⟩ = some (.int .i64 o) := fun h => by rw [ho]; obtain ⟨_, _, _, ⟨q, _⟩, _⟩ := hc (k - 1) (by omega); exact q
      have HO := Lib.hid ho
      have HD := Lib.hid hd
      clear hc hd ho hp hbad
      have HTX := Lib.hid htx
      clear htx
      cases h1 : digS p.di
      · have H1 := Lib.hid h1
        clear h1
        go_wp2_with fail
        refine wp_region_fam (by kernel_rfl) (by kernel_rfl) (fun ι F hne hF hcl => ?_)
        have hcF0 := fun n o => (bcell (hF n)).1 (b) o (by first | (simp; done) | (simp; omega) | omega)
        have HF := Lib.hid hF; clear hF
        have HC := Lib.hid hcl; clear hcl
        repeat (any_goals (first
         | go_big_quiet_step (first | (go_at_call 25; exact Calls.fam_same (refd_Digest p.di false _ H1.out)))
         | (refine wpQuiet_guard _ _ _ rfl rfl ?_; (fail_if_success (intro b' hb; have h2 := hb.symm; have : b' = true := h2.trans (by with_reducible rfl))); (fail_if_success (intro b' hb; have h2 := hb.symm; have : b' = false := h2.trans (by with_reducible rfl))); intro b' hb; simp only [hb]; cases b' <;> (try simp only [Bool.not_eq_true', Bool.not_eq_false', decide_eq_true_eq, decide_eq_false_iff_not, Int.not_lt, Int.not_le, Bool.and_eq_true, Bool.or_eq_true, Bool.or_eq_false_iff, beq_iff_eq, beq_eq_false_iff_ne, Int.natCast_pos] at hb))))
        all_goals (refine wpQuiet_nil ?_; intro nq)
        all_goals (try (exfalso; omega))
        have hFwf := HF.out nq
        clear HF HC hne
        generalize F nq = wf at *
        have hbf : Below w.heap.size w wf := bel_trans hbw hFwf
        go_wp2_with fail
        go_ret
        exact ⟨ret_bool (by rw [← HY.out, HB.out (fun g => (by have := g.1; rw [← HP.out, H1.out] at this; cases this))]), hbf⟩
      have H1 := Lib.hid h1
      clear h1
      cases h3 : bmT p.b
      case' false =>
        have H3 := Lib.hid h3
        clear h3
        rcases Nat.eq_zero_or_pos k with hk0 | hk0
        · subst hk0
          rw [Nat.zero_mul, Nat.add_zero] at c0 c1 c2 c3
          go_wp2_with fail
          refine wp_region_fam (by kernel_rfl) (by kernel_rfl) (fun ι F hne hF hcl => ?_)
          have hcF0 := fun n o => (bcell (hF n)).1 (b) o (by first | (simp; done) | (simp; omega) | omega)
          have HF := Lib.hid hF; clear hF
          have HC := Lib.hid hcl; clear hcl
          repeat (any_goals (first
           | go_big_quiet_step (first | (go_at_call 25; exact Calls.fam_same (refd_Digest p.di true _ H1.out)) | (go_at_call 26; exact Calls.fam HC.out (ref4_Batch p.b B m d false _ (HTX.out.up (HF.out _)) H3.out)))
           | (refine wpQuiet_guard _ _ _ rfl rfl ?_; (fail_if_success (intro b' hb; have h2 := hb.symm; have : b' = true := h2.trans (by with_reducible rfl))); (fail_if_success (intro b' hb; have h2 := hb.symm; have : b' = false := h2.trans (by with_reducible rfl))); intro b' hb; simp only [hb]; cases b' <;> (try simp only [Bool.not_eq_true', Bool.not_eq_false', decide_eq_true_eq, decide_eq_false_iff_not, Int.not_lt, Int.not_le, Bool.and_eq_true, Bool.or_eq_true, Bool.or_eq_false_iff, beq_iff_eq, beq_eq_false_iff_ne, Int.natCast_pos] at hb))))
          all_goals (refine wpQuiet_nil ?_; intro nq)
          all_goals (try (exfalso; omega))
          have hFwf := HF.out nq
          clear HF HC hne
          generalize F nq = wf at *
          have hbf : Below w.heap.size w wf := bel_trans hbw hFwf
          go_wp2_with fail
          go_ret
          exact ⟨ret_bool (by rw [← HY.out, HB.out (fun g => (by have := g.2.1; rw [← HP.out, H3.out] at this; cases this))]), hbf⟩
        · have d0 := HD.out hk0
          have hk1 : (0 : Int) < (k : Int) := by omega
          by_cases h2 : o < p.di
          case' neg => have h2b : decide (p.di ≤ o) = true := by simp; omega
          case' pos => have h2b : decide (p.di ≤ o) = false := by simp; omega
          all_goals
            clear h2
            go_wp2_with fail
            refine wp_region_fam (by kernel_rfl) (by kernel_rfl) (fun ι F hne hF hcl => ?_)
            have hcF0 := fun n o => (bcell (hF n)).1 (b) o (by first | (simp; done) | (simp; omega) | omega)
            have HF := Lib.hid hF; clear hF
            have HC := Lib.hid hcl; clear hcl
            repeat (any_goals (first
             | go_big_quiet_step (first | (go_at_call 25; exact Calls.fam_same (refd_Digest p.di true _ H1.out)) | (go_at_call 26; exact Calls.fam HC.out (ref4_Batch p.b B m d false _ (HTX.out.up (HF.out _)) H3.out)))
             | (refine wpQuiet_guard _ _ _ rfl rfl ?_; (fail_if_success (intro b' hb; have h2 := hb.symm; have : b' = true := h2.trans (by with_reducible rfl))); (fail_if_success (intro b' hb; have h2 := hb.symm; have : b' = false := h2.trans (by with_reducible rfl))); intro b' hb; simp only [hb]; cases b' <;> (try simp only [Bool.not_eq_true', Bool.not_eq_false', decide_eq_true_eq, decide_eq_false_iff_not, Int.not_lt, Int.not_le, Bool.and_eq_true, Bool.or_eq_true, Bool.or_eq_false_iff, beq_iff_eq, beq_eq_false_iff_ne, Int.natCast_pos] at hb))))
            all_goals (refine wpQuiet_nil ?_; intro nq)
            all_goals (try (exfalso; omega))
            have hFwf := HF.out nq
            clear HF HC hne
            generalize F nq = wf at *
            have hbf : Below w.heap.size w wf := bel_trans hbw hFwf
            go_wp2_with fail
            go_ret
            exact ⟨ret_bool (by rw [← HY.out, HB.out (fun g => (by have := g.2.1; rw [← HP.out, H3.out] at this; cases this))]), hbf⟩
      case' true =>
        have H3 := Lib.hid h3
        clear h3
        rcases Nat.eq_zero_or_pos k with hk0 | hk0
        · subst hk0
          rw [Nat.zero_mul, Nat.add_zero] at c0 c1 c2 c3
          go_wp2_with fail
          refine wp_region_fam (by kernel_rfl) (by kernel_rfl) (fun ι F hne hF hcl => ?_)
          have hcF0 := fun n o => (bcell (hF n)).1 (b) o (by first | (simp; done) | (simp; omega) | omega)
          have HF := Lib.hid hF; clear hF
          have HC := Lib.hid hcl; clear hcl
          repeat (any_goals (first
           | go_big_quiet_step (first | (go_at_call 25; exact Calls.fam_same (refd_Digest p.di true _ H1.out)) | (go_at_call 26; exact Calls.fam HC.out (ref4_Batch p.b B m d true _ (HTX.out.up (HF.out _)) H3.out)))
           | (refine wpQuiet_guard _ _ _ rfl rfl ?_; (fail_if_success (intro b' hb; have h2 := hb.symm; have : b' = true := h2.trans (by with_reducible rfl))); (fail_if_success (intro b' hb; have h2 := hb.symm; have : b' = false := h2.trans (by with_reducible rfl))); intro b' hb; simp only [hb]; cases b' <;> (try simp only [Bool.not_eq_true', Bool.not_eq_false', decide_eq_true_eq, decide_eq_false_iff_not, Int.not_lt, Int.not_le, Bool.and_eq_true, Bool.or_eq_true, Bool.or_eq_false_iff, beq_iff_eq, beq_eq_false_iff_ne, Int.natCast_pos] at hb))))
          all_goals (refine wpQuiet_nil ?_; intro nq)
          all_goals (try (exfalso; omega))
          have hFwf := HF.out nq
          clear HF HC hne
          generalize F nq = wf at *
          have hbf : Below w.heap.size w wf := bel_trans hbw hFwf
          go_wp2_with fail
          (first | (go_round; (case rel => exact ⟨1, by omega, rfl, Lib.hid (fun j hj => by ((obtain rfl : j = 0 := by omega); exact ⟨by rw [← HP.out]; exact H1.out, by rw [← HP.out]; exact H3.out, fun h => absurd h (by omega)⟩)), hbf⟩); (case measure => (simp [intOf] <;> omega))) | (go_roundw; (case rel => exact ⟨1, by omega, rfl, Lib.hid (fun j hj => by ((obtain rfl : j = 0 := by omega); exact ⟨by rw [← HP.out]; exact H1.out, by rw [← HP.out]; exact H3.out, fun h => absurd h (by omega)⟩)), hbf⟩); (case measure => (simp [intOf] <;> omega))) | (refine ⟨?_, by simp [intOf] <;> omega⟩; (repeat apply Exists.intro); refine ⟨?rel, ?fr⟩; (case fr => ((repeat' apply And.intro) <;> rfl)); (case rel => exact ⟨1, by omega, rfl, Lib.hid (fun j hj => by ((obtain rfl : j = 0 := by omega); exact ⟨by rw [← HP.out]; exact H1.out, by rw [← HP.out]; exact H3.out, fun h => absurd h (by omega)⟩)), hbf⟩)))
        · have d0 := HD.out hk0
          have hk1 : (0 : Int) < (k : Int) := by omega
          by_cases h2 : o < p.di
          · have h2b : decide (p.di ≤ o) = false := by simp; omega
            have H2 := Lib.hid h2
            clear h2
            go_wp2_with fail
            refine wp_region_fam (by kernel_rfl) (by kernel_rfl) (fun ι F hne hF hcl => ?_)
            have hcF0 := fun n o => (bcell (hF n)).1 (b) o (by first | (simp; done) | (simp; omega) | omega)
            have HF := Lib.hid hF; clear hF
            have HC := Lib.hid hcl; clear hcl
            repeat (any_goals (first
             | go_big_quiet_step (first | (go_at_call 25; exact Calls.fam_same (refd_Digest p.di true _ H1.out)) | (go_at_call 26; exact Calls.fam HC.out (ref4_Batch p.b B m d true _ (HTX.out.up (HF.out _)) H3.out)))
             | (refine wpQuiet_guard _ _ _ rfl rfl ?_; (fail_if_success (intro b' hb; have h2 := hb.symm; have : b' = true := h2.trans (by with_reducible rfl))); (fail_if_success (intro b' hb; have h2 := hb.symm; have : b' = false := h2.trans (by with_reducible rfl))); intro b' hb; simp only [hb]; cases b' <;> (try simp only [Bool.not_eq_true', Bool.not_eq_false', decide_eq_true_eq, decide_eq_false_iff_not, Int.not_lt, Int.not_le, Bool.and_eq_true, Bool.or_eq_true, Bool.or_eq_false_iff, beq_iff_eq, beq_eq_false_iff_ne, Int.natCast_pos] at hb))))
            all_goals (refine wpQuiet_nil ?_; intro nq)
            all_goals (try (exfalso; omega))
            have hFwf := HF.out nq
            clear HF HC hne
            generalize F nq = wf at *
            have hbf : Below w.heap.size w wf := bel_trans hbw hFwf
            go_wp2_with fail
            (first | (go_round; (case rel => exact ⟨k + 1, by omega, by go_num, Lib.hid (fun j hj => by (rcases Nat.lt_or_ge j k with h | h; exact HG.out j h; (obtain rfl : j = k := by omega); exact ⟨by rw [← HP.out]; exact H1.out, by rw [← HP.out]; exact H3.out, fun _ => by rw [← HP.out, ← HO.out]; exact H2.out⟩)), hbf⟩); (case measure => (simp [intOf] <;> omega))) | (go_roundw; (case rel => exact ⟨k + 1, by omega, by go_num, Lib.hid (fun j hj => by (rcases Nat.lt_or_ge j k with h | h; exact HG.out j h; (obtain rfl : j = k := by omega); exact ⟨by rw [← HP.out]; exact H1.out, by rw [← HP.out]; exact H3.out, fun _ => by rw [← HP.out, ← HO.out]; exact H2.out⟩)), hbf⟩); (case measure => (simp [intOf] <;> omega))) | (refine ⟨?_, by simp [intOf] <;> omega⟩; (repeat apply Exists.intro); refine ⟨?rel, ?fr⟩; (case fr => ((repeat' apply And.intro) <;> rfl)); (case rel => exact ⟨k + 1, by omega, by go_num, Lib.hid (fun j hj => by (rcases Nat.lt_or_ge j k with h | h; exact HG.out j h; (obtain rfl : j = k := by omega); exact ⟨by rw [← HP.out]; exact H1.out, by rw [← HP.out]; exact H3.out, fun _ => by rw [← HP.out, ← HO.out]; exact H2.out⟩)), hbf⟩)))
          · have h2b : decide (p.di ≤ o) = true := by simp; omega
            have H2 := Lib.hid h2
            clear h2
            go_wp2_with fail
            refine wp_region_fam (by kernel_rfl) (by kernel_rfl) (fun ι F hne hF hcl => ?_)
            have hcF0 := fun n o => (bcell (hF n)).1 (b) o (by first | (simp; done) | (simp; omega) | omega)
            have HF := Lib.hid hF; clear hF
            have HC := Lib.hid hcl; clear hcl
            repeat (any_goals (first
             | go_big_quiet_step (first | (go_at_call 25; exact Calls.fam_same (refd_Digest p.di true _ H1.out)) | (go_at_call 26; exact Calls.fam HC.out (ref4_Batch p.b B m d true _ (HTX.out.up (HF.out _)) H3.out)))
             | (refine wpQuiet_guard _ _ _ rfl rfl ?_; (fail_if_success (intro b' hb; have h2 := hb.symm; have : b' = true := h2.trans (by with_reducible rfl))); (fail_if_success (intro b' hb; have h2 := hb.symm; have : b' = false := h2.trans (by with_reducible rfl))); intro b' hb; simp only [hb]; cases b' <;> (try simp only [Bool.not_eq_true', Bool.not_eq_false', decide_eq_true_eq, decide_eq_false_iff_not, Int.not_lt, Int.not_le, Bool.and_eq_true, Bool.or_eq_true, Bool.or_eq_false_iff, beq_iff_eq, beq_eq_false_iff_ne, Int.natCast_pos] at hb))))
            all_goals (refine wpQuiet_nil ?_; intro nq)
            all_goals (try (exfalso; omega))
            have hFwf := HF.out nq
            clear HF HC hne
            generalize F nq = wf at *
            have hbf : Below w.heap.size w wf := bel_trans hbw hFwf
            go_wp2_with fail
            go_ret
            exact ⟨ret_bool (by rw [← HY.out, HB.out (fun g => (by have := g.2.2 hk0; rw [← HP.out, ← HO.out] at this; have h9 := H2.out; omega))]), hbf⟩
    · obtain rfl : k = n := by omega
      have hyes : y = true := by rw [← HY.out]; exact hdB_iff.2 (fun j hj => HG.out j (by rw [HN.out] at hj; exact hj))
      subst hyes
      go_wp2_with fail
      go_ret
      exact ⟨rfl, hbw⟩
def kposH (l : List HeldD) (key : Int) : Nat := cnt (fun x => ltI x.di key) l
noncomputable def khasH (l : List HeldD) (key : Int) : Bool := dec (kposH l key < l.length ∧ (hth l (kposH l key)).di = key)
def SortedH (l : List HeldD) : Prop := ∀ i j, i < j → j < l.length → ltI (hth l i).di (hth l j).di = true
set_option maxRecDepth 100000 in
set_option maxHeartbeats 1000000 in
theorem clos_H (a : HeldD) (Bq : Option Addr) (mq dq : Nat) (key : Int) (w : World) : Calls Try.prog 67 #[.agg #[.int .i64 a.di, .int .i64 a.b.au, .int .i64 a.b.n, .slice Bq mq dq], .int .i64 key] w fun e w' => e = .returned (.int .i64 (cmp3 a.di key)) ∧ Below w.heap.size w w' := by
  go_enter Try.func67, Try.ntmps67
  go_wp2_with (go_at_call 68; refine (cmp_Compare_int _ _ _).mono ?_; rintro e w' ⟨rfl, rfl⟩)
  go_ret
  exact ⟨rfl, by (repeat (first | (with_reducible exact Below.refl _ _) | (with_reducible assumption) | (with_reducible apply bel_alloc) | (with_reducible apply bel_drew) | (with_reducible apply bel_drewN) | (with_reducible refine bel_trans ?_ (by with_reducible assumption)) | (with_reducible refine bel_trans ?_ (HF.out _)) | (with_reducible refine bel_set ?_ (by simp) _) | (with_reducible refine bel_set ?_ (by simp; omega) _) | (with_reducible refine bel_set ?_ (by omega) _)))⟩
def CutH (l : List HeldD) (n : Nat) (key : Int) (lo hi : Nat) : Prop := (∀ t, t < lo → ltI (hth l t).di key = true) ∧ ∀ t, hi ≤ t → t < n → ltI (hth l t).di key = false
theorem CutH.pos {l : List HeldD} {n : Nat} {key : Int} {lo : Nat} (h : CutH l n key lo lo) (hn : l.length = n) (hlo : lo ≤ n) : kposH l key = lo :=
  cnt_eq _ l lo (by omega) (fun t ht => by rw [List.getD_eq_getElem?_getD] at *; have := h.1 t ht; exact this) (fun ht => h.2 lo (Nat.le_refl _) (by omega))
set_option maxRecDepth 100000 in
set_option maxHeartbeats 2000000 in
theorem bsf_H (A : Option Addr) (n c : Nat) (l : List HeldD) (key : Int) (lo' : Nat) (y : Bool) (w : World) (hl : HeldsR w A n l) (hP : SortedH l) (hn : n ≤ 1000000000) (hlo' : kposH l key = lo') (hy : khasH l key = y) :
    Calls Try.prog 66 #[.slice A n c, .int .i64 key, .func (.func 67) #[] #[]] w fun e w' => e = .returned (.tuple #[.int .i64 lo', .bool y]) ∧ Below w.heap.size w w' := by
  have HL := Lib.hid hl
  have HN := Lib.hid hl.1
  have HP := Lib.hid hP
  have HLO := Lib.hid hlo'
  have HY := Lib.hid hy
  clear hl hP hlo' hy
  go_enter Try.func66, Try.ntmps66
  go_wp2_with fail
  go_loopw [9, 10] (fun s7 s8 wr => ∃ lo hi : Nat, s7 = .int .i64 lo ∧ s8 = .int .i64 hi ∧ lo ≤ hi ∧ hi ≤ n ∧ Hid (CutH l n key lo hi) ∧ Below w.heap.size w wr) (fun s7 s8 _ => (intOf s8).toNat - (intOf s7).toNat)
  case atStart => exact ⟨0, n, rfl, rfl, Nat.zero_le _, Nat.le_refl _, ⟨fun t ht => absurd ht (Nat.not_lt_zero _), fun t h1 h2 => by omega⟩, Below.refl _ _⟩
  case round =>
    obtain ⟨lo, hi, rfl, rfl, hlh, hin, I, hbw⟩ := hrel
    (obtain ⟨wx, hwx⟩ : ∃ x, x = wr := ⟨_, rfl⟩); subst hwx
    by_cases hlt : lo < hi
    · obtain ⟨b, off, rfl, hb, hc⟩ := (HL.out.up hbw).2.2 (by omega)
      obtain ⟨m, hm⟩ : ∃ m, m = (lo + hi) / 2 := ⟨_, rfl⟩
      have hmn : m < n := by omega
      obtain ⟨Bq, mq, dq, ⟨c0, c1, c2, c3⟩, -⟩ := hc m hmn
      have hd2 : ((lo : Int) + (hi : Int)) / 2 = (m : Int) := by rw [hm]; omega
      have hm2 : m < hi := by omega
      have hm1 : lo ≤ m := by omega
      have HM2 := Lib.hid hm
      clear hc hm
      cases hbf : ltI (hth l m).di key
      · have hd : decide (cmp3 (hth l m).di key < 0) = false := by rw [decide_eq_false_iff_not, cmpI_lt, hbf]; simp
        have HB := Lib.hid hbf
        clear hbf
        go_wp2_with (go_at_call 67; refine (clos_H (hth l m) Bq mq dq key _).mono ?_; rintro e w1 ⟨rfl, hb1⟩)
        (first | (go_round; (case rel => (refine ⟨lo, m, rfl, by go_num, by omega, by omega, Lib.hid ⟨I.out.1, fun t h1 h2 => ?_⟩, bel_trans hbw hb1⟩; rcases Nat.lt_or_ge m t with h5 | h5; exact ltI_no (HP.out m t h5 (by rw [HN.out]; exact h2)) HB.out; (obtain rfl : t = m := by omega); exact HB.out)); (case measure => (simp [intOf] <;> omega))) | (go_roundw; (case rel => (refine ⟨lo, m, rfl, by go_num, by omega, by omega, Lib.hid ⟨I.out.1, fun t h1 h2 => ?_⟩, bel_trans hbw hb1⟩; rcases Nat.lt_or_ge m t with h5 | h5; exact ltI_no (HP.out m t h5 (by rw [HN.out]; exact h2)) HB.out; (obtain rfl : t = m := by omega); exact HB.out)); (case measure => (simp [intOf] <;> omega))) | (refine ⟨?_, by simp [intOf] <;> omega⟩; (repeat apply Exists.intro); refine ⟨?rel, ?fr⟩; (case fr => ((repeat' apply And.intro) <;> rfl)); (case rel => (refine ⟨lo, m, rfl, by go_num, by omega, by omega, Lib.hid ⟨I.out.1, fun t h1 h2 => ?_⟩, bel_trans hbw hb1⟩; rcases Nat.lt_or_ge m t with h5 | h5; exact ltI_no (HP.out m t h5 (by rw [HN.out]; exact h2)) HB.out; (obtain rfl : t = m := by omega); exact HB.out))))
      · have hd : decide (cmp3 (hth l m).di key < 0) = true := by rw [decide_eq_true_eq, cmpI_lt, hbf]
        have HB := Lib.hid hbf
        clear hbf
        go_wp2_with (go_at_call 67; refine (clos_H (hth l m) Bq mq dq key _).mono ?_; rintro e w1 ⟨rfl, hb1⟩)
        (first | (go_round; (case rel => (refine ⟨m + 1, hi, by go_num, rfl, by omega, by omega, Lib.hid ⟨fun t h1 => ?_, I.out.2⟩, bel_trans hbw hb1⟩; rcases Nat.lt_or_ge t m with h5 | h5; exact ltI_trans (HP.out t m h5 (by rw [HN.out]; exact hmn)) HB.out; (obtain rfl : t = m := by omega); exact HB.out)); (case measure => (simp [intOf] <;> omega))) | (go_roundw; (case rel => (refine ⟨m + 1, hi, by go_num, rfl, by omega, by omega, Lib.hid ⟨fun t h1 => ?_, I.out.2⟩, bel_trans hbw hb1⟩; rcases Nat.lt_or_ge t m with h5 | h5; exact ltI_trans (HP.out t m h5 (by rw [HN.out]; exact hmn)) HB.out; (obtain rfl : t = m := by omega); exact HB.out)); (case measure => (simp [intOf] <;> omega))) | (refine ⟨?_, by simp [intOf] <;> omega⟩; (repeat apply Exists.intro); refine ⟨?rel, ?fr⟩; (case fr => ((repeat' apply And.intro) <;> rfl)); (case rel => (refine ⟨m + 1, hi, by go_num, rfl, by omega, by omega, Lib.hid ⟨fun t h1 => ?_, I.out.2⟩, bel_trans hbw hb1⟩; rcases Nat.lt_or_ge t m with h5 | h5; exact ltI_trans (HP.out t m h5 (by rw [HN.out]; exact hmn)) HB.out; (obtain rfl : t = m := by omega); exact HB.out))))
    · obtain rfl : hi = lo := by omega
      have hpos := I.out.pos HN.out hin
      rw [HLO.out] at hpos
      subst hpos
      by_cases hln : lo' < n
      · obtain ⟨b, off, rfl, hb, hc⟩ := (HL.out.up hbw).2.2 (by omega)
        obtain ⟨Bq, mq, dq, ⟨c0, c1, c2, c3⟩, -⟩ := hc lo' hln
        clear hc
        have hyv : y = (cmp3 (hth l lo').di key == 0) := by
          rw [← HY.out, Bool.eq_iff_iff]; unfold khasH; rw [HLO.out, dec_iff, beq_iff_eq, cmpI_eq, HN.out]
          exact ⟨fun h => h.2, fun h => ⟨hln, h⟩⟩
        have HYV := Lib.hid hyv
        clear hyv
        go_wp2_with (go_at_call 67; refine (clos_H (hth l lo') Bq mq dq key _).mono ?_; rintro e w1 ⟨rfl, hb1⟩)
        go_ret2
        exact ⟨by rw [HYV.out]; rfl, bel_trans hbw hb1⟩
      · have hh : y = false := by
          rw [← HY.out]
          cases h : khasH l key
          · rfl
          · have := (dec_iff.1 h).1; rw [HN.out, HLO.out] at this; exact absurd this hln
        subst hh
        go_wp2_with fail
        go_ret2
        exact ⟨rfl, hbw⟩
theorem MayHs.sorted {l : List HeldD} (h : MayHs l) : SortedH l := by
  have step : ∀ j, j + 1 < l.length → (hth l j).di < (hth l (j + 1)).di := fun j hj => by
    have := (h (j + 1) hj).2.2 (by omega)
    simpa using this
  have main : ∀ d i, i + d + 1 < l.length → (hth l i).di < (hth l (i + d + 1)).di := fun d => by
    induction d with
    | zero => intro i hi; exact step i hi
    | succ d ih => intro i hi; have := ih i (by omega); have := step (i + d + 1) (by omega); rw [show i + (d + 1) + 1 = i + d + 1 + 1 by omega]; omega
  intro i j hij hj
  have := main (j - i - 1) i (by omega)
  rw [show i + (j - i - 1) + 1 = j by omega] at this
  simpa [ltI] using this
theorem worker_At (A : Option Addr) (n c : Nat) (l : List HeldD) (key : Int) (lo : Nat) (y : Bool) (w : World) (hl : HeldsR w A n l) (hP : SortedH l) (hn : n ≤ 1000000000) (hlo : kposH l key = lo) (hy : khasH l key = y) :
    Calls Try.prog 54 #[.slice A n c, .int .i64 key] w fun e w' => e = .returned (.tuple #[.int .i64 lo, .bool y]) ∧ Below w.heap.size w w' := by
  have HL := Lib.hid hl
  have HP := Lib.hid hP
  clear hl hP
  go_enter Try.func54, Try.ntmps54
  go_wp2_with fail
  refine (bsf_H A n c l key lo y _ (HL.out.up (by (repeat (first | (with_reducible exact Below.refl _ _) | (with_reducible assumption) | (with_reducible apply bel_alloc) | (with_reducible apply bel_drew) | (with_reducible apply bel_drewN) | (with_reducible refine bel_trans ?_ (by with_reducible assumption)) | (with_reducible refine bel_trans ?_ (HF.out _)) | (with_reducible refine bel_set ?_ (by simp) _) | (with_reducible refine bel_set ?_ (by simp; omega) _) | (with_reducible refine bel_set ?_ (by omega) _))))) HP.out hn hlo hy).mono ?_
  rintro e w1 ⟨rfl, hb1⟩
  go_wp2_with fail
  go_ret2
  exact ⟨rfl, by (repeat (first | (with_reducible exact Below.refl _ _) | (with_reducible assumption) | (with_reducible apply bel_alloc) | (with_reducible apply bel_drew) | (with_reducible apply bel_drewN) | (with_reducible refine bel_trans ?_ (by with_reducible assumption)) | (with_reducible refine bel_trans ?_ (HF.out _)) | (with_reducible refine bel_set ?_ (by simp) _) | (with_reducible refine bel_set ?_ (by simp; omega) _) | (with_reducible refine bel_set ?_ (by omega) _)))⟩
theorem khasH_lt {l : List HeldD} {key : Int} {lo : Nat} (hlo : kposH l key = lo) (h : khasH l key = true) : lo < l.length ∧ (hth l lo).di = key := by
  subst hlo; exact dec_iff.1 h
theorem khasH_iff {l : List HeldD} (hs : SortedH l) {key : Int} : khasH l key = true ↔ ∃ j, j < l.length ∧ (hth l j).di = key := by
  constructor
  · intro h; exact ⟨_, (dec_iff.1 h)⟩
  · rintro ⟨j, hj, e⟩
    refine dec_iff.2 ?_
    have hpos : kposH l key = j := cnt_eq _ l j (by omega) (fun t ht => by have := hs t j ht hj; rw [e] at this; exact this) (fun _ => by show ltI (hth l j).di key = false; rw [e]; simp [ltI])
    rw [hpos]; exact ⟨hj, e⟩
end Go.Proofs.Ytbakkpabiknlmaa
