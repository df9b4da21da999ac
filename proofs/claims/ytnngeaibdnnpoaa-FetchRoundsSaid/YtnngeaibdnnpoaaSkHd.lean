/- Fetch: whether wants may be, a new one. -/
import Derived.Test.YtnngeaibdnnpoaaSkHc
namespace Go.Proofs.Ytnngeaibdnnpoaa
open Go.RowKit
set_option linter.unusedSimpArgs false
set_option linter.unusedVariables false

set_option maxRecDepth 100000 in
set_option maxHeartbeats 4000000 in
theorem fetch_May (id nodes : Int) (l : List FRowD) (A : Option Addr) (n c : Nat) (y : Bool) (w : World) (hl : RowsR w A n l) (hy : mayF ⟨id, nodes, l⟩ = y) : Calls Try.prog 25 #[.agg #[.int .i64 id, .int .i64 nodes, .slice A n c]] w fun e w' => e = .returned (.bool y) ∧ Below w.heap.size w w' := by
  obtain ⟨ys, hs⟩ : ∃ z, isS nodes = z := ⟨_, rfl⟩
  have hY : y = true ↔ (ys = true ∧ 1 ≤ id ∧ id ≤ nodes ∧ n ≤ 64 ∧ GoodQ l n) := by rw [← hy, mayF_iff]; unfold MayF; rw [hs, hl.1]
  have HY := Lib.hid hY
  have HS := Lib.hid hs
  have HL := Lib.hid hl
  have hnn : n ≤ 9223372036854775807 := hl.2.2.1
  clear hl hy hY hs
  go_enter Try.func25, Try.ntmps25
  cases ys
  case false =>
    go_wp2_with (go_at_call 57; refine (comm_Is _ _ _ HS.out).mono ?_; rintro e w' ⟨rfl, rfl⟩)
    go_ret
    exact ⟨ret_bool (no_y HY.out (by rintro ⟨g1, g2, g3, g4, g5⟩; cases g1)), by (repeat (first | (with_reducible exact Below.refl _ _) | (with_reducible assumption) | (with_reducible apply bel_alloc) | (with_reducible apply bel_drew) | (with_reducible apply bel_drewN) | (with_reducible refine bel_trans ?_ (by with_reducible assumption)) | (with_reducible refine bel_trans ?_ (HF.out _)) | (with_reducible refine bel_set ?_ (by simp) _) | (with_reducible refine bel_set ?_ (by simp; omega) _) | (with_reducible refine bel_set ?_ (by omega) _)))⟩
  case true =>
  by_cases q1 : 1 ≤ id
  case neg =>
    have b1 : decide (id < 1) = true := by simp; omega
    go_wp2_with (go_at_call 57; refine (comm_Is _ _ _ HS.out).mono ?_; rintro e w' ⟨rfl, rfl⟩)
    go_ret
    exact ⟨ret_bool (no_y HY.out (by rintro ⟨g1, g2, g3, g4, g5⟩; omega)), by (repeat (first | (with_reducible exact Below.refl _ _) | (with_reducible assumption) | (with_reducible apply bel_alloc) | (with_reducible apply bel_drew) | (with_reducible apply bel_drewN) | (with_reducible refine bel_trans ?_ (by with_reducible assumption)) | (with_reducible refine bel_trans ?_ (HF.out _)) | (with_reducible refine bel_set ?_ (by simp) _) | (with_reducible refine bel_set ?_ (by simp; omega) _) | (with_reducible refine bel_set ?_ (by omega) _)))⟩
  case pos =>
  have b1 : decide (id < 1) = false := by simp; omega
  by_cases q2 : id ≤ nodes
  case neg =>
    have b2 : decide (nodes < id) = true := by simp; omega
    go_wp2_with (go_at_call 57; refine (comm_Is _ _ _ HS.out).mono ?_; rintro e w' ⟨rfl, rfl⟩)
    go_ret
    exact ⟨ret_bool (no_y HY.out (by rintro ⟨g1, g2, g3, g4, g5⟩; omega)), by (repeat (first | (with_reducible exact Below.refl _ _) | (with_reducible assumption) | (with_reducible apply bel_alloc) | (with_reducible apply bel_drew) | (with_reducible apply bel_drewN) | (with_reducible refine bel_trans ?_ (by with_reducible assumption)) | (with_reducible refine bel_trans ?_ (HF.out _)) | (with_reducible refine bel_set ?_ (by simp) _) | (with_reducible refine bel_set ?_ (by simp; omega) _) | (with_reducible refine bel_set ?_ (by omega) _)))⟩
  case pos =>
  have b2 : decide (nodes < id) = false := by simp; omega
  by_cases q3 : n ≤ 64
  case neg =>
    have b3 : decide ((64 : Int) < (n : Int)) = true := by simp; omega
    go_wp2_with (go_at_call 57; refine (comm_Is _ _ _ HS.out).mono ?_; rintro e w' ⟨rfl, rfl⟩)
    go_ret
    exact ⟨ret_bool (no_y HY.out (by rintro ⟨g1, g2, g3, g4, g5⟩; omega)), by (repeat (first | (with_reducible exact Below.refl _ _) | (with_reducible assumption) | (with_reducible apply bel_alloc) | (with_reducible apply bel_drew) | (with_reducible apply bel_drewN) | (with_reducible refine bel_trans ?_ (by with_reducible assumption)) | (with_reducible refine bel_trans ?_ (HF.out _)) | (with_reducible refine bel_set ?_ (by simp) _) | (with_reducible refine bel_set ?_ (by simp; omega) _) | (with_reducible refine bel_set ?_ (by omega) _)))⟩
  case pos =>
  have b3 : decide ((64 : Int) < (n : Int)) = false := by simp; omega
  go_wp2_with (go_at_call 57; refine (comm_Is _ _ _ HS.out).mono ?_; rintro e w' ⟨rfl, rfl⟩)
  clear b1 b2 b3
  have hB0 : Hid (BoxR (w.alloc (.cells #[.int .i64 id, .int .i64 nodes, .slice A n c] 24)) w.heap.size [.int .i64 id, .int .i64 nodes, .slice A n c]) := Lib.hid (BoxR.new w [.int .i64 id, .int .i64 nodes, .slice A n c] 24)
  go_loopw [30] (fun ix wr => ∃ k : Nat, k ≤ n ∧ ix = .int .i64 k ∧ Hid (GoodQ l k) ∧ Hid (BoxR wr w.heap.size [.int .i64 id, .int .i64 nodes, .slice A n c]) ∧ Below w.heap.size w wr) (fun ix _ => n - (intOf ix).toNat)
  case atStart => exact ⟨0, Nat.zero_le _, rfl, Lib.hid (fun j hj => absurd hj (by omega)), hB0, by (repeat (first | (with_reducible exact Below.refl _ _) | (with_reducible assumption) | (with_reducible apply bel_alloc) | (with_reducible apply bel_drew) | (with_reducible apply bel_drewN) | (with_reducible refine bel_trans ?_ (by with_reducible assumption)) | (with_reducible refine bel_trans ?_ (HF.out _)) | (with_reducible refine bel_set ?_ (by simp) _) | (with_reducible refine bel_set ?_ (by simp; omega) _) | (with_reducible refine bel_set ?_ (by omega) _)))⟩
  case round =>
    clear hB0
    obtain ⟨k, hk, rfl, HG, HBX, hbw⟩ := hrel
    (obtain ⟨wk, hwk⟩ : ∃ x, x = wr := ⟨_, rfl⟩); subst hwk
    have xl := HBX.out.1
    have x_0 := (HBX.out).2 0 _ rfl; have x_1 := (HBX.out).2 1 _ rfl; have x_2 := (HBX.out).2 2 _ rfl
    by_cases hlt : k < n
    · skip
      obtain ⟨b, off, rfl, hb, hc⟩ := (HL.out.up hbw).at (by omega)
      obtain ⟨c0, c1, c2, c3⟩ := hc k hlt
      have hbad : rowS (qth l k) = false ∨ (0 < k ∧ befQ (qth l (k - 1)) (qth l k) = false) → false = y := fun h => no_y HY.out (by
        rintro ⟨g1, g2, g3, g4, g5⟩
        have := g5 k hlt
        rcases h with h | ⟨h, h2⟩
        · rw [this.1] at h; cases h
        · rw [this.2 h] at h2; cases h2)
      have HB := Lib.hid hbad
      clear hbad
      obtain ⟨bk, hbk⟩ : ∃ z, (qth l k).ki = z := ⟨_, rfl⟩
      obtain ⟨bd, hbd⟩ : ∃ z, (qth l k).di = z := ⟨_, rfl⟩
      obtain ⟨bg, hbg⟩ : ∃ z, (qth l k).ag = z := ⟨_, rfl⟩
      obtain ⟨bt, hbt⟩ : ∃ z, (qth l k).tr = z := ⟨_, rfl⟩
      have HQK : Hid (qth l k = ⟨bk, bd, bg, bt⟩) := Lib.hid (by rw [← hbk, ← hbd, ← hbg, ← hbt])
      rw [hbk] at c0
      rw [hbd] at c1
      rw [hbg] at c2
      rw [hbt] at c3
      clear hbk hbd hbg hbt
      obtain ⟨yv, hv⟩ : ∃ z, rowS ⟨bk, bd, bg, bt⟩ = z := ⟨_, rfl⟩
      have HV := Lib.hid hv
      clear hv
      cases yv
      · clear hc
        go_wp2_with fail
        refine wp_region_fam (by kernel_rfl) (by kernel_rfl) (fun ι F hne hF hcl => ?_)
        have hcF0 := fun n o => (bcell (hF n)).1 (b) o (by first | (simp; done) | (simp; omega) | omega)
        have hcF1 := fun n o => (bcell (hF n)).1 (w.heap.size) o (by first | (simp; done) | (simp; omega) | omega)
        have hcF2 := fun n o => (bcell (hF n)).1 (wk.heap.size) o (by first | (simp; done) | (simp; omega) | omega)
        have HF := Lib.hid hF; clear hF
        have HC := Lib.hid hcl; clear hcl
        repeat (any_goals (first
         | go_big_quiet_step (first | (go_at_call 58; exact Calls.fam HC.out (fetch_row _ _ _ _ false _ HV.out)))
         | (refine wpQuiet_guard _ _ _ rfl rfl ?_; (fail_if_success (intro b' hb; have h2 := hb.symm; have : b' = true := h2.trans (by with_reducible rfl))); (fail_if_success (intro b' hb; have h2 := hb.symm; have : b' = false := h2.trans (by with_reducible rfl))); intro b' hb; simp only [hb]; cases b' <;> (try simp only [Bool.not_eq_true', Bool.not_eq_false', decide_eq_true_eq, decide_eq_false_iff_not, Int.not_lt, Int.not_le, Bool.and_eq_true, Bool.or_eq_true, Bool.or_eq_false_iff, beq_iff_eq, beq_eq_false_iff_ne, Int.natCast_pos] at hb))))
        all_goals (refine wpQuiet_nil ?_; intro nq)
        all_goals (try (exfalso; omega))
        have hFwf := HF.out nq
        clear HF HC hne
        generalize F nq = wf at *
        have hFwk : Below wk.heap.size wk wf := by (repeat (first | (with_reducible exact Below.refl _ _) | (with_reducible assumption) | (with_reducible apply bel_alloc) | (with_reducible apply bel_drew) | (with_reducible apply bel_drewN) | (with_reducible refine bel_trans ?_ (by with_reducible assumption)) | (with_reducible refine bel_trans ?_ (HF.out _)) | (with_reducible refine bel_set ?_ (by simp) _) | (with_reducible refine bel_set ?_ (by simp; omega) _) | (with_reducible refine bel_set ?_ (by omega) _)))
        go_wp2_with fail
        go_ret
        exact ⟨ret_bool (HB.out (.inl (by rw [HQK.out]; exact HV.out))), bel_trans hbw hFwk⟩
      · rcases Nat.eq_zero_or_pos k with hk0 | hk0
        · subst hk0
          clear hc
          rw [Nat.zero_mul, Nat.add_zero] at c0 c1 c2 c3
          go_wp2_with fail
          refine wp_region_fam (by kernel_rfl) (by kernel_rfl) (fun ι F hne hF hcl => ?_)
          have hcF0 := fun n o => (bcell (hF n)).1 (b) o (by first | (simp; done) | (simp; omega) | omega)
          have hcF1 := fun n o => (bcell (hF n)).1 (w.heap.size) o (by first | (simp; done) | (simp; omega) | omega)
          have hcF2 := fun n o => (bcell (hF n)).1 (wk.heap.size) o (by first | (simp; done) | (simp; omega) | omega)
          have HF := Lib.hid hF; clear hF
          have HC := Lib.hid hcl; clear hcl
          repeat (any_goals (first
           | go_big_quiet_step (first | (go_at_call 58; exact Calls.fam HC.out (fetch_row _ _ _ _ true _ HV.out)))
           | (refine wpQuiet_guard _ _ _ rfl rfl ?_; (fail_if_success (intro b' hb; have h2 := hb.symm; have : b' = true := h2.trans (by with_reducible rfl))); (fail_if_success (intro b' hb; have h2 := hb.symm; have : b' = false := h2.trans (by with_reducible rfl))); intro b' hb; simp only [hb]; cases b' <;> (try simp only [Bool.not_eq_true', Bool.not_eq_false', decide_eq_true_eq, decide_eq_false_iff_not, Int.not_lt, Int.not_le, Bool.and_eq_true, Bool.or_eq_true, Bool.or_eq_false_iff, beq_iff_eq, beq_eq_false_iff_ne, Int.natCast_pos] at hb))))
          all_goals (refine wpQuiet_nil ?_; intro nq)
          all_goals (try (exfalso; omega))
          have hFwf := HF.out nq
          clear HF HC hne
          generalize F nq = wf at *
          have hFwk : Below wk.heap.size wk wf := by (repeat (first | (with_reducible exact Below.refl _ _) | (with_reducible assumption) | (with_reducible apply bel_alloc) | (with_reducible apply bel_drew) | (with_reducible apply bel_drewN) | (with_reducible refine bel_trans ?_ (by with_reducible assumption)) | (with_reducible refine bel_trans ?_ (HF.out _)) | (with_reducible refine bel_set ?_ (by simp) _) | (with_reducible refine bel_set ?_ (by simp; omega) _) | (with_reducible refine bel_set ?_ (by omega) _)))
          go_wp2_with fail
          skip
          (first | (go_round; (case rel => exact ⟨1, by omega, rfl, Lib.hid (HG.out.succ (by rw [HQK.out]; exact HV.out) (fun h => absurd h (by omega))), Lib.hid (HBX.out.up hFwk), bel_trans hbw hFwk⟩); (case measure => (simp [intOf] <;> omega))) | (go_roundw; (case rel => exact ⟨1, by omega, rfl, Lib.hid (HG.out.succ (by rw [HQK.out]; exact HV.out) (fun h => absurd h (by omega))), Lib.hid (HBX.out.up hFwk), bel_trans hbw hFwk⟩); (case measure => (simp [intOf] <;> omega))) | (refine ⟨?_, by simp [intOf] <;> omega⟩; (repeat apply Exists.intro); refine ⟨?rel, ?fr⟩; (case fr => ((repeat' apply And.intro) <;> rfl)); (case rel => exact ⟨1, by omega, rfl, Lib.hid (HG.out.succ (by rw [HQK.out]; exact HV.out) (fun h => absurd h (by omega))), Lib.hid (HBX.out.up hFwk), bel_trans hbw hFwk⟩)))
        · obtain ⟨d0, d1, d2, d3⟩ := hc (k - 1) (by omega)
          clear hc
          have hk1 : (0 : Int) < (k : Int) := by omega
          obtain ⟨z, hz⟩ : ∃ z, cmpP (qth l (k - 1)).ki (qth l (k - 1)).di bk bd = z := ⟨_, rfl⟩
          have HZ := Lib.hid hz
          clear hz
          by_cases hz0 : z < 0
          · have hzd : decide (0 ≤ z) = false := by simp; omega
            go_wp2_with fail
            refine wp_region_fam (by kernel_rfl) (by kernel_rfl) (fun ι F hne hF hcl => ?_)
            have hcF0 := fun n o => (bcell (hF n)).1 (b) o (by first | (simp; done) | (simp; omega) | omega)
            have hcF1 := fun n o => (bcell (hF n)).1 (w.heap.size) o (by first | (simp; done) | (simp; omega) | omega)
            have hcF2 := fun n o => (bcell (hF n)).1 (wk.heap.size) o (by first | (simp; done) | (simp; omega) | omega)
            have HF := Lib.hid hF; clear hF
            have HC := Lib.hid hcl; clear hcl
            repeat (any_goals (first
             | go_big_quiet_step (first | (go_at_call 58; exact Calls.fam HC.out (fetch_row _ _ _ _ true _ HV.out)) | (go_at_call 42; exact Calls.fam HC.out (fetch_less (qth l (k - 1)) ⟨bk, bd, bg, bt⟩ z _ HZ.out)))
             | (refine wpQuiet_guard _ _ _ rfl rfl ?_; (fail_if_success (intro b' hb; have h2 := hb.symm; have : b' = true := h2.trans (by with_reducible rfl))); (fail_if_success (intro b' hb; have h2 := hb.symm; have : b' = false := h2.trans (by with_reducible rfl))); intro b' hb; simp only [hb]; cases b' <;> (try simp only [Bool.not_eq_true', Bool.not_eq_false', decide_eq_true_eq, decide_eq_false_iff_not, Int.not_lt, Int.not_le, Bool.and_eq_true, Bool.or_eq_true, Bool.or_eq_false_iff, beq_iff_eq, beq_eq_false_iff_ne, Int.natCast_pos] at hb))))
            all_goals (refine wpQuiet_nil ?_; intro nq)
            all_goals (try (exfalso; omega))
            have hFwf := HF.out nq
            clear HF HC hne
            generalize F nq = wf at *
            have hFwk : Below wk.heap.size wk wf := by (repeat (first | (with_reducible exact Below.refl _ _) | (with_reducible assumption) | (with_reducible apply bel_alloc) | (with_reducible apply bel_drew) | (with_reducible apply bel_drewN) | (with_reducible refine bel_trans ?_ (by with_reducible assumption)) | (with_reducible refine bel_trans ?_ (HF.out _)) | (with_reducible refine bel_set ?_ (by simp) _) | (with_reducible refine bel_set ?_ (by simp; omega) _) | (with_reducible refine bel_set ?_ (by omega) _)))
            go_wp2_with fail
            skip
            (first | (go_round; (case rel => exact ⟨k + 1, by omega, by go_num, Lib.hid (HG.out.succ (by rw [HQK.out]; exact HV.out) (fun _ => by unfold befQ; rw [HQK.out, ← cmpP_lt]; rw [HZ.out]; exact hz0)), Lib.hid (HBX.out.up hFwk), bel_trans hbw hFwk⟩); (case measure => (simp [intOf] <;> omega))) | (go_roundw; (case rel => exact ⟨k + 1, by omega, by go_num, Lib.hid (HG.out.succ (by rw [HQK.out]; exact HV.out) (fun _ => by unfold befQ; rw [HQK.out, ← cmpP_lt]; rw [HZ.out]; exact hz0)), Lib.hid (HBX.out.up hFwk), bel_trans hbw hFwk⟩); (case measure => (simp [intOf] <;> omega))) | (refine ⟨?_, by simp [intOf] <;> omega⟩; (repeat apply Exists.intro); refine ⟨?rel, ?fr⟩; (case fr => ((repeat' apply And.intro) <;> rfl)); (case rel => exact ⟨k + 1, by omega, by go_num, Lib.hid (HG.out.succ (by rw [HQK.out]; exact HV.out) (fun _ => by unfold befQ; rw [HQK.out, ← cmpP_lt]; rw [HZ.out]; exact hz0)), Lib.hid (HBX.out.up hFwk), bel_trans hbw hFwk⟩)))
          · have hzd : decide (0 ≤ z) = true := by simp; omega
            go_wp2_with fail
            refine wp_region_fam (by kernel_rfl) (by kernel_rfl) (fun ι F hne hF hcl => ?_)
            have hcF0 := fun n o => (bcell (hF n)).1 (b) o (by first | (simp; done) | (simp; omega) | omega)
            have hcF1 := fun n o => (bcell (hF n)).1 (w.heap.size) o (by first | (simp; done) | (simp; omega) | omega)
            have hcF2 := fun n o => (bcell (hF n)).1 (wk.heap.size) o (by first | (simp; done) | (simp; omega) | omega)
            have HF := Lib.hid hF; clear hF
            have HC := Lib.hid hcl; clear hcl
            repeat (any_goals (first
             | go_big_quiet_step (first | (go_at_call 58; exact Calls.fam HC.out (fetch_row _ _ _ _ true _ HV.out)) | (go_at_call 42; exact Calls.fam HC.out (fetch_less (qth l (k - 1)) ⟨bk, bd, bg, bt⟩ z _ HZ.out)))
             | (refine wpQuiet_guard _ _ _ rfl rfl ?_; (fail_if_success (intro b' hb; have h2 := hb.symm; have : b' = true := h2.trans (by with_reducible rfl))); (fail_if_success (intro b' hb; have h2 := hb.symm; have : b' = false := h2.trans (by with_reducible rfl))); intro b' hb; simp only [hb]; cases b' <;> (try simp only [Bool.not_eq_true', Bool.not_eq_false', decide_eq_true_eq, decide_eq_false_iff_not, Int.not_lt, Int.not_le, Bool.and_eq_true, Bool.or_eq_true, Bool.or_eq_false_iff, beq_iff_eq, beq_eq_false_iff_ne, Int.natCast_pos] at hb))))
            all_goals (refine wpQuiet_nil ?_; intro nq)
            all_goals (try (exfalso; omega))
            have hFwf := HF.out nq
            clear HF HC hne
            generalize F nq = wf at *
            have hFwk : Below wk.heap.size wk wf := by (repeat (first | (with_reducible exact Below.refl _ _) | (with_reducible assumption) | (with_reducible apply bel_alloc) | (with_reducible apply bel_drew) | (with_reducible apply bel_drewN) | (with_reducible refine bel_trans ?_ (by with_reducible assumption)) | (with_reducible refine bel_trans ?_ (HF.out _)) | (with_reducible refine bel_set ?_ (by simp) _) | (with_reducible refine bel_set ?_ (by simp; omega) _) | (with_reducible refine bel_set ?_ (by omega) _)))
            go_wp2_with fail
            go_ret
            exact ⟨ret_bool (HB.out (.inr ⟨hk0, by (cases e : befQ (qth l (k - 1)) (qth l k); rfl; exfalso; (have e9 : z < 0 := by (rw [← HZ.out, cmpP_lt]; unfold befQ at e; rw [HQK.out] at e; exact e)); omega)⟩)), bel_trans hbw hFwk⟩
    · skip
      obtain rfl : k = n := by omega
      go_wp2_with fail
      go_ret
      exact ⟨ret_bool (HY.out.2 ⟨by trivial, q1, q2, q3, HG.out⟩).symm, hbw⟩
set_option maxRecDepth 100000 in
set_option maxHeartbeats 4000000 in
theorem ref21_May (id nodes : Int) (l : List FRowD) (A : Option Addr) (n c : Nat) (y : Bool) (w : World) (hl : RowsR w A n l) (hy : mayF ⟨id, nodes, l⟩ = y) : Calls Try.prog 22 #[.agg #[.int .i64 id, .int .i64 nodes, .slice A n c]] w fun e w' => e = .returned (.bool y) ∧ Below w.heap.size w w' := by
  obtain ⟨ys, hs⟩ : ∃ z, isS nodes = z := ⟨_, rfl⟩
  have hY : y = true ↔ (ys = true ∧ 1 ≤ id ∧ id ≤ nodes ∧ n ≤ 64 ∧ GoodQ l n) := by rw [← hy, mayF_iff]; unfold MayF; rw [hs, hl.1]
  have HY := Lib.hid hY
  have HS := Lib.hid hs
  have HL := Lib.hid hl
  have hnn : n ≤ 9223372036854775807 := hl.2.2.1
  clear hl hy hY hs
  go_enter Try.func22, Try.ntmps22
  cases ys
  case false =>
    go_wp2_with (go_at_call 33; refine (refm_May _ _ _ HS.out).mono ?_; rintro e w' ⟨rfl, rfl⟩)
    go_ret
    exact ⟨ret_bool (no_y HY.out (by rintro ⟨g1, g2, g3, g4, g5⟩; cases g1)), by (repeat (first | (with_reducible exact Below.refl _ _) | (with_reducible assumption) | (with_reducible apply bel_alloc) | (with_reducible apply bel_drew) | (with_reducible apply bel_drewN) | (with_reducible refine bel_trans ?_ (by with_reducible assumption)) | (with_reducible refine bel_trans ?_ (HF.out _)) | (with_reducible refine bel_set ?_ (by simp) _) | (with_reducible refine bel_set ?_ (by simp; omega) _) | (with_reducible refine bel_set ?_ (by omega) _)))⟩
  case true =>
  by_cases q1 : 1 ≤ id
  case neg =>
    have b1 : decide (id < 1) = true := by simp; omega
    go_wp2_with (go_at_call 33; refine (refm_May _ _ _ HS.out).mono ?_; rintro e w' ⟨rfl, rfl⟩)
    go_ret
    exact ⟨ret_bool (no_y HY.out (by rintro ⟨g1, g2, g3, g4, g5⟩; omega)), by (repeat (first | (with_reducible exact Below.refl _ _) | (with_reducible assumption) | (with_reducible apply bel_alloc) | (with_reducible apply bel_drew) | (with_reducible apply bel_drewN) | (with_reducible refine bel_trans ?_ (by with_reducible assumption)) | (with_reducible refine bel_trans ?_ (HF.out _)) | (with_reducible refine bel_set ?_ (by simp) _) | (with_reducible refine bel_set ?_ (by simp; omega) _) | (with_reducible refine bel_set ?_ (by omega) _)))⟩
  case pos =>
  have b1 : decide (id < 1) = false := by simp; omega
  by_cases q2 : id ≤ nodes
  case neg =>
    have b2 : decide (nodes < id) = true := by simp; omega
    go_wp2_with (go_at_call 33; refine (refm_May _ _ _ HS.out).mono ?_; rintro e w' ⟨rfl, rfl⟩)
    go_ret
    exact ⟨ret_bool (no_y HY.out (by rintro ⟨g1, g2, g3, g4, g5⟩; omega)), by (repeat (first | (with_reducible exact Below.refl _ _) | (with_reducible assumption) | (with_reducible apply bel_alloc) | (with_reducible apply bel_drew) | (with_reducible apply bel_drewN) | (with_reducible refine bel_trans ?_ (by with_reducible assumption)) | (with_reducible refine bel_trans ?_ (HF.out _)) | (with_reducible refine bel_set ?_ (by simp) _) | (with_reducible refine bel_set ?_ (by simp; omega) _) | (with_reducible refine bel_set ?_ (by omega) _)))⟩
  case pos =>
  have b2 : decide (nodes < id) = false := by simp; omega
  by_cases q3 : n ≤ 64
  case neg =>
    have b3 : decide ((64 : Int) < (n : Int)) = true := by simp; omega
    go_wp2_with (go_at_call 33; refine (refm_May _ _ _ HS.out).mono ?_; rintro e w' ⟨rfl, rfl⟩)
    go_ret
    exact ⟨ret_bool (no_y HY.out (by rintro ⟨g1, g2, g3, g4, g5⟩; omega)), by (repeat (first | (with_reducible exact Below.refl _ _) | (with_reducible assumption) | (with_reducible apply bel_alloc) | (with_reducible apply bel_drew) | (with_reducible apply bel_drewN) | (with_reducible refine bel_trans ?_ (by with_reducible assumption)) | (with_reducible refine bel_trans ?_ (HF.out _)) | (with_reducible refine bel_set ?_ (by simp) _) | (with_reducible refine bel_set ?_ (by simp; omega) _) | (with_reducible refine bel_set ?_ (by omega) _)))⟩
  case pos =>
  have b3 : decide ((64 : Int) < (n : Int)) = false := by simp; omega
  go_wp2_with (go_at_call 33; refine (refm_May _ _ _ HS.out).mono ?_; rintro e w' ⟨rfl, rfl⟩)
  clear b1 b2 b3
  have hB0 : Hid (BoxR (w.alloc (.cells #[.int .i64 id, .int .i64 nodes, .slice A n c] 24)) w.heap.size [.int .i64 id, .int .i64 nodes, .slice A n c]) := Lib.hid (BoxR.new w [.int .i64 id, .int .i64 nodes, .slice A n c] 24)
  go_loopw [3] (fun ix wr => ∃ k : Nat, k ≤ n ∧ ix = .int .i64 k ∧ Hid (GoodQ l k) ∧ Hid (BoxR wr w.heap.size [.int .i64 id, .int .i64 nodes, .slice A n c]) ∧ Below w.heap.size w wr) (fun ix _ => n - (intOf ix).toNat)
  case atStart => exact ⟨0, Nat.zero_le _, rfl, Lib.hid (fun j hj => absurd hj (by omega)), hB0, by (repeat (first | (with_reducible exact Below.refl _ _) | (with_reducible assumption) | (with_reducible apply bel_alloc) | (with_reducible apply bel_drew) | (with_reducible apply bel_drewN) | (with_reducible refine bel_trans ?_ (by with_reducible assumption)) | (with_reducible refine bel_trans ?_ (HF.out _)) | (with_reducible refine bel_set ?_ (by simp) _) | (with_reducible refine bel_set ?_ (by simp; omega) _) | (with_reducible refine bel_set ?_ (by omega) _)))⟩
  case round =>
    clear hB0
    obtain ⟨k, hk, rfl, HG, HBX, hbw⟩ := hrel
    (obtain ⟨wk, hwk⟩ : ∃ x, x = wr := ⟨_, rfl⟩); subst hwk
    have xl := HBX.out.1
    have x_0 := (HBX.out).2 0 _ rfl; have x_1 := (HBX.out).2 1 _ rfl; have x_2 := (HBX.out).2 2 _ rfl
    by_cases hlt : k < n
    · skip
      obtain ⟨b, off, rfl, hb, hc⟩ := (HL.out.up hbw).at (by omega)
      obtain ⟨c0, c1, c2, c3⟩ := hc k hlt
      have hbad : rowS (qth l k) = false ∨ (0 < k ∧ befQ (qth l (k - 1)) (qth l k) = false) → false = y := fun h => no_y HY.out (by
        rintro ⟨g1, g2, g3, g4, g5⟩
        have := g5 k hlt
        rcases h with h | ⟨h, h2⟩
        · rw [this.1] at h; cases h
        · rw [this.2 h] at h2; cases h2)
      have HB := Lib.hid hbad
      clear hbad
      obtain ⟨bk, hbk⟩ : ∃ z, (qth l k).ki = z := ⟨_, rfl⟩
      obtain ⟨bd, hbd⟩ : ∃ z, (qth l k).di = z := ⟨_, rfl⟩
      obtain ⟨bg, hbg⟩ : ∃ z, (qth l k).ag = z := ⟨_, rfl⟩
      obtain ⟨bt, hbt⟩ : ∃ z, (qth l k).tr = z := ⟨_, rfl⟩
      have HQK : Hid (qth l k = ⟨bk, bd, bg, bt⟩) := Lib.hid (by rw [← hbk, ← hbd, ← hbg, ← hbt])
      rw [hbk] at c0
      rw [hbd] at c1
      rw [hbg] at c2
      rw [hbt] at c3
      clear hbk hbd hbg hbt
      obtain ⟨y1, h1⟩ : ∃ z, kdS bk = z := ⟨_, rfl⟩
      have H1 := Lib.hid h1
      clear h1
      obtain ⟨y2, h2⟩ : ∃ z, digS bd = z := ⟨_, rfl⟩
      have H2 := Lib.hid h2
      clear h2
      obtain ⟨y3, h3⟩ : ∃ z, numB bg 0 = z := ⟨_, rfl⟩
      have H3 := Lib.hid h3
      clear h3
      obtain ⟨y4, h4⟩ : ∃ z, numB bt 0 = z := ⟨_, rfl⟩
      have H4 := Lib.hid h4
      clear h4
      cases y1
      case false =>
        clear hc
        go_wp2_with (first | (go_at_call 46; refine (ref21_kind _ _ _ H1.out).mono ?_; rintro e w' ⟨rfl, rfl⟩) | (go_at_call 34; refine (refD _ _ _ H2.out).mono ?_; rintro e w' ⟨rfl, rfl⟩) | (go_at_call 47; refine (ref0_Num bg _ _ H3.out).mono ?_; rintro e w' ⟨rfl, rfl⟩) | (go_at_call 47; refine (ref0_Num bt _ _ H4.out).mono ?_; rintro e w' ⟨rfl, rfl⟩))
        go_ret
        exact ⟨ret_bool (HB.out (.inl (by rw [HQK.out]; (cases e : rowS ⟨bk, bd, bg, bt⟩; rfl; exfalso; have e := rowS_iff.1 e; first | (have h9 := e.1; rw [H1.out] at h9; cases h9; done) | (have h9 := e.2.1; rw [H2.out] at h9; cases h9; done) | (have h9 := e.2.2.1; rw [H3.out] at h9; cases h9; done) | (have h9 := e.2.2.2; rw [H4.out] at h9; cases h9; done))))), by (repeat (first | (with_reducible exact Below.refl _ _) | (with_reducible assumption) | (with_reducible apply bel_alloc) | (with_reducible apply bel_drew) | (with_reducible apply bel_drewN) | (with_reducible refine bel_trans ?_ (by with_reducible assumption)) | (with_reducible refine bel_trans ?_ (HF.out _)) | (with_reducible refine bel_set ?_ (by simp) _) | (with_reducible refine bel_set ?_ (by simp; omega) _) | (with_reducible refine bel_set ?_ (by omega) _)))⟩
      case true =>
      cases y2
      case false =>
        clear hc
        go_wp2_with (first | (go_at_call 46; refine (ref21_kind _ _ _ H1.out).mono ?_; rintro e w' ⟨rfl, rfl⟩) | (go_at_call 34; refine (refD _ _ _ H2.out).mono ?_; rintro e w' ⟨rfl, rfl⟩) | (go_at_call 47; refine (ref0_Num bg _ _ H3.out).mono ?_; rintro e w' ⟨rfl, rfl⟩) | (go_at_call 47; refine (ref0_Num bt _ _ H4.out).mono ?_; rintro e w' ⟨rfl, rfl⟩))
        go_ret
        exact ⟨ret_bool (HB.out (.inl (by rw [HQK.out]; (cases e : rowS ⟨bk, bd, bg, bt⟩; rfl; exfalso; have e := rowS_iff.1 e; first | (have h9 := e.1; rw [H1.out] at h9; cases h9; done) | (have h9 := e.2.1; rw [H2.out] at h9; cases h9; done) | (have h9 := e.2.2.1; rw [H3.out] at h9; cases h9; done) | (have h9 := e.2.2.2; rw [H4.out] at h9; cases h9; done))))), by (repeat (first | (with_reducible exact Below.refl _ _) | (with_reducible assumption) | (with_reducible apply bel_alloc) | (with_reducible apply bel_drew) | (with_reducible apply bel_drewN) | (with_reducible refine bel_trans ?_ (by with_reducible assumption)) | (with_reducible refine bel_trans ?_ (HF.out _)) | (with_reducible refine bel_set ?_ (by simp) _) | (with_reducible refine bel_set ?_ (by simp; omega) _) | (with_reducible refine bel_set ?_ (by omega) _)))⟩
      case true =>
      cases y3
      case false =>
        clear hc
        go_wp2_with (first | (go_at_call 46; refine (ref21_kind _ _ _ H1.out).mono ?_; rintro e w' ⟨rfl, rfl⟩) | (go_at_call 34; refine (refD _ _ _ H2.out).mono ?_; rintro e w' ⟨rfl, rfl⟩) | (go_at_call 47; refine (ref0_Num bg _ _ H3.out).mono ?_; rintro e w' ⟨rfl, rfl⟩) | (go_at_call 47; refine (ref0_Num bt _ _ H4.out).mono ?_; rintro e w' ⟨rfl, rfl⟩))
        go_ret
        exact ⟨ret_bool (HB.out (.inl (by rw [HQK.out]; (cases e : rowS ⟨bk, bd, bg, bt⟩; rfl; exfalso; have e := rowS_iff.1 e; first | (have h9 := e.1; rw [H1.out] at h9; cases h9; done) | (have h9 := e.2.1; rw [H2.out] at h9; cases h9; done) | (have h9 := e.2.2.1; rw [H3.out] at h9; cases h9; done) | (have h9 := e.2.2.2; rw [H4.out] at h9; cases h9; done))))), by (repeat (first | (with_reducible exact Below.refl _ _) | (with_reducible assumption) | (with_reducible apply bel_alloc) | (with_reducible apply bel_drew) | (with_reducible apply bel_drewN) | (with_reducible refine bel_trans ?_ (by with_reducible assumption)) | (with_reducible refine bel_trans ?_ (HF.out _)) | (with_reducible refine bel_set ?_ (by simp) _) | (with_reducible refine bel_set ?_ (by simp; omega) _) | (with_reducible refine bel_set ?_ (by omega) _)))⟩
      case true =>
      cases y4
      case false =>
        clear hc
        go_wp2_with (first | (go_at_call 46; refine (ref21_kind _ _ _ H1.out).mono ?_; rintro e w' ⟨rfl, rfl⟩) | (go_at_call 34; refine (refD _ _ _ H2.out).mono ?_; rintro e w' ⟨rfl, rfl⟩) | (go_at_call 47; refine (ref0_Num bg _ _ H3.out).mono ?_; rintro e w' ⟨rfl, rfl⟩) | (go_at_call 47; refine (ref0_Num bt _ _ H4.out).mono ?_; rintro e w' ⟨rfl, rfl⟩))
        go_ret
        exact ⟨ret_bool (HB.out (.inl (by rw [HQK.out]; (cases e : rowS ⟨bk, bd, bg, bt⟩; rfl; exfalso; have e := rowS_iff.1 e; first | (have h9 := e.1; rw [H1.out] at h9; cases h9; done) | (have h9 := e.2.1; rw [H2.out] at h9; cases h9; done) | (have h9 := e.2.2.1; rw [H3.out] at h9; cases h9; done) | (have h9 := e.2.2.2; rw [H4.out] at h9; cases h9; done))))), by (repeat (first | (with_reducible exact Below.refl _ _) | (with_reducible assumption) | (with_reducible apply bel_alloc) | (with_reducible apply bel_drew) | (with_reducible apply bel_drewN) | (with_reducible refine bel_trans ?_ (by with_reducible assumption)) | (with_reducible refine bel_trans ?_ (HF.out _)) | (with_reducible refine bel_set ?_ (by simp) _) | (with_reducible refine bel_set ?_ (by simp; omega) _) | (with_reducible refine bel_set ?_ (by omega) _)))⟩
      case true =>
      have HV : Hid (rowS ⟨bk, bd, bg, bt⟩ = true) := Lib.hid (rowS_iff.2 ⟨H1.out, H2.out, H3.out, H4.out⟩)
      rcases Nat.eq_zero_or_pos k with hk0 | hk0
      · subst hk0
        clear hc
        rw [Nat.zero_mul, Nat.add_zero] at c0 c1 c2 c3
        go_wp2_with (first | (go_at_call 46; refine (ref21_kind _ _ _ H1.out).mono ?_; rintro e w' ⟨rfl, rfl⟩) | (go_at_call 34; refine (refD _ _ _ H2.out).mono ?_; rintro e w' ⟨rfl, rfl⟩) | (go_at_call 47; refine (ref0_Num bg _ _ H3.out).mono ?_; rintro e w' ⟨rfl, rfl⟩) | (go_at_call 47; refine (ref0_Num bt _ _ H4.out).mono ?_; rintro e w' ⟨rfl, rfl⟩))
        refine wp_region_fam (by kernel_rfl) (by kernel_rfl) (fun ι F hne hF hcl => ?_)
        have hcF0 := fun n o => (bcell (hF n)).1 (b) o (by first | (simp; done) | (simp; omega) | omega)
        have hcF1 := fun n o => (bcell (hF n)).1 (w.heap.size) o (by first | (simp; done) | (simp; omega) | omega)
        have hcF2 := fun n o => (bcell (hF n)).1 (wk.heap.size) o (by first | (simp; done) | (simp; omega) | omega)
        have HF := Lib.hid hF; clear hF
        have HC := Lib.hid hcl; clear hcl
        repeat (any_goals (first
         | go_big_quiet_step (first | fail)
         | (refine wpQuiet_guard _ _ _ rfl rfl ?_; (fail_if_success (intro b' hb; have h2 := hb.symm; have : b' = true := h2.trans (by with_reducible rfl))); (fail_if_success (intro b' hb; have h2 := hb.symm; have : b' = false := h2.trans (by with_reducible rfl))); intro b' hb; simp only [hb]; cases b' <;> (try simp only [Bool.not_eq_true', Bool.not_eq_false', decide_eq_true_eq, decide_eq_false_iff_not, Int.not_lt, Int.not_le, Bool.and_eq_true, Bool.or_eq_true, Bool.or_eq_false_iff, beq_iff_eq, beq_eq_false_iff_ne, Int.natCast_pos] at hb))))
        all_goals (refine wpQuiet_nil ?_; intro nq)
        all_goals (try (exfalso; omega))
        have hFwf := HF.out nq
        clear HF HC hne
        generalize F nq = wf at *
        have hFwk : Below wk.heap.size wk wf := by (repeat (first | (with_reducible exact Below.refl _ _) | (with_reducible assumption) | (with_reducible apply bel_alloc) | (with_reducible apply bel_drew) | (with_reducible apply bel_drewN) | (with_reducible refine bel_trans ?_ (by with_reducible assumption)) | (with_reducible refine bel_trans ?_ (HF.out _)) | (with_reducible refine bel_set ?_ (by simp) _) | (with_reducible refine bel_set ?_ (by simp; omega) _) | (with_reducible refine bel_set ?_ (by omega) _)))
        go_wp2_with fail
        skip
        (first | (go_round; (case rel => exact ⟨1, by omega, rfl, Lib.hid (HG.out.succ (by rw [HQK.out]; exact HV.out) (fun h => absurd h (by omega))), Lib.hid (HBX.out.up hFwk), bel_trans hbw hFwk⟩); (case measure => (simp [intOf] <;> omega))) | (go_roundw; (case rel => exact ⟨1, by omega, rfl, Lib.hid (HG.out.succ (by rw [HQK.out]; exact HV.out) (fun h => absurd h (by omega))), Lib.hid (HBX.out.up hFwk), bel_trans hbw hFwk⟩); (case measure => (simp [intOf] <;> omega))) | (refine ⟨?_, by simp [intOf] <;> omega⟩; (repeat apply Exists.intro); refine ⟨?rel, ?fr⟩; (case fr => ((repeat' apply And.intro) <;> rfl)); (case rel => exact ⟨1, by omega, rfl, Lib.hid (HG.out.succ (by rw [HQK.out]; exact HV.out) (fun h => absurd h (by omega))), Lib.hid (HBX.out.up hFwk), bel_trans hbw hFwk⟩)))
      · obtain ⟨d0, d1, d2, d3⟩ := hc (k - 1) (by omega)
        clear hc
        have hk1 : (0 : Int) < (k : Int) := by omega
        obtain ⟨ak, hak⟩ : ∃ z, (qth l (k - 1)).ki = z := ⟨_, rfl⟩
        obtain ⟨ad, had⟩ : ∃ z, (qth l (k - 1)).di = z := ⟨_, rfl⟩
        rw [hak] at d0
        rw [had] at d1
        have HA := Lib.hid (And.intro hak had)
        clear hak had d2 d3
        rcases Int.lt_trichotomy ak bk with ho | ho | ho
        · have e1 : decide (bk < ak) = false := by simp; omega
          have e2 : (ak == bk) = false := by simp; omega
          go_wp2_with (first | (go_at_call 46; refine (ref21_kind _ _ _ H1.out).mono ?_; rintro e w' ⟨rfl, rfl⟩) | (go_at_call 34; refine (refD _ _ _ H2.out).mono ?_; rintro e w' ⟨rfl, rfl⟩) | (go_at_call 47; refine (ref0_Num bg _ _ H3.out).mono ?_; rintro e w' ⟨rfl, rfl⟩) | (go_at_call 47; refine (ref0_Num bt _ _ H4.out).mono ?_; rintro e w' ⟨rfl, rfl⟩))
          refine wp_region_fam (by kernel_rfl) (by kernel_rfl) (fun ι F hne hF hcl => ?_)
          have hcF0 := fun n o => (bcell (hF n)).1 (b) o (by first | (simp; done) | (simp; omega) | omega)
          have hcF1 := fun n o => (bcell (hF n)).1 (w.heap.size) o (by first | (simp; done) | (simp; omega) | omega)
          have hcF2 := fun n o => (bcell (hF n)).1 (wk.heap.size) o (by first | (simp; done) | (simp; omega) | omega)
          have HF := Lib.hid hF; clear hF
          have HC := Lib.hid hcl; clear hcl
          repeat (any_goals (first
           | go_big_quiet_step (first | fail)
           | (refine wpQuiet_guard _ _ _ rfl rfl ?_; (fail_if_success (intro b' hb; have h2 := hb.symm; have : b' = true := h2.trans (by with_reducible rfl))); (fail_if_success (intro b' hb; have h2 := hb.symm; have : b' = false := h2.trans (by with_reducible rfl))); intro b' hb; simp only [hb]; cases b' <;> (try simp only [Bool.not_eq_true', Bool.not_eq_false', decide_eq_true_eq, decide_eq_false_iff_not, Int.not_lt, Int.not_le, Bool.and_eq_true, Bool.or_eq_true, Bool.or_eq_false_iff, beq_iff_eq, beq_eq_false_iff_ne, Int.natCast_pos] at hb))))
          all_goals (refine wpQuiet_nil ?_; intro nq)
          all_goals (try (exfalso; omega))
          have hFwf := HF.out nq
          clear HF HC hne
          generalize F nq = wf at *
          have hFwk : Below wk.heap.size wk wf := by (repeat (first | (with_reducible exact Below.refl _ _) | (with_reducible assumption) | (with_reducible apply bel_alloc) | (with_reducible apply bel_drew) | (with_reducible apply bel_drewN) | (with_reducible refine bel_trans ?_ (by with_reducible assumption)) | (with_reducible refine bel_trans ?_ (HF.out _)) | (with_reducible refine bel_set ?_ (by simp) _) | (with_reducible refine bel_set ?_ (by simp; omega) _) | (with_reducible refine bel_set ?_ (by omega) _)))
          go_wp2_with fail
          skip
          (first | (go_round; (case rel => exact ⟨k + 1, by omega, by go_num, Lib.hid (HG.out.succ (by rw [HQK.out]; exact HV.out) (fun _ => by unfold befQ; rw [HQK.out, HA.out.1, HA.out.2, befS_iff]; (try dsimp only); omega)), Lib.hid (HBX.out.up hFwk), bel_trans hbw hFwk⟩); (case measure => (simp [intOf] <;> omega))) | (go_roundw; (case rel => exact ⟨k + 1, by omega, by go_num, Lib.hid (HG.out.succ (by rw [HQK.out]; exact HV.out) (fun _ => by unfold befQ; rw [HQK.out, HA.out.1, HA.out.2, befS_iff]; (try dsimp only); omega)), Lib.hid (HBX.out.up hFwk), bel_trans hbw hFwk⟩); (case measure => (simp [intOf] <;> omega))) | (refine ⟨?_, by simp [intOf] <;> omega⟩; (repeat apply Exists.intro); refine ⟨?rel, ?fr⟩; (case fr => ((repeat' apply And.intro) <;> rfl)); (case rel => exact ⟨k + 1, by omega, by go_num, Lib.hid (HG.out.succ (by rw [HQK.out]; exact HV.out) (fun _ => by unfold befQ; rw [HQK.out, HA.out.1, HA.out.2, befS_iff]; (try dsimp only); omega)), Lib.hid (HBX.out.up hFwk), bel_trans hbw hFwk⟩)))
        · subst ho
          have e1 : decide (ak < ak) = false := by simp
          by_cases hd : ad < bd
          · have e2 : decide (bd ≤ ad) = false := by simp; omega
            go_wp2_with (first | (go_at_call 46; refine (ref21_kind _ _ _ H1.out).mono ?_; rintro e w' ⟨rfl, rfl⟩) | (go_at_call 34; refine (refD _ _ _ H2.out).mono ?_; rintro e w' ⟨rfl, rfl⟩) | (go_at_call 47; refine (ref0_Num bg _ _ H3.out).mono ?_; rintro e w' ⟨rfl, rfl⟩) | (go_at_call 47; refine (ref0_Num bt _ _ H4.out).mono ?_; rintro e w' ⟨rfl, rfl⟩))
            refine wp_region_fam (by kernel_rfl) (by kernel_rfl) (fun ι F hne hF hcl => ?_)
            have hcF0 := fun n o => (bcell (hF n)).1 (b) o (by first | (simp; done) | (simp; omega) | omega)
            have hcF1 := fun n o => (bcell (hF n)).1 (w.heap.size) o (by first | (simp; done) | (simp; omega) | omega)
            have hcF2 := fun n o => (bcell (hF n)).1 (wk.heap.size) o (by first | (simp; done) | (simp; omega) | omega)
            have HF := Lib.hid hF; clear hF
            have HC := Lib.hid hcl; clear hcl
            repeat (any_goals (first
             | go_big_quiet_step (first | fail)
             | (refine wpQuiet_guard _ _ _ rfl rfl ?_; (fail_if_success (intro b' hb; have h2 := hb.symm; have : b' = true := h2.trans (by with_reducible rfl))); (fail_if_success (intro b' hb; have h2 := hb.symm; have : b' = false := h2.trans (by with_reducible rfl))); intro b' hb; simp only [hb]; cases b' <;> (try simp only [Bool.not_eq_true', Bool.not_eq_false', decide_eq_true_eq, decide_eq_false_iff_not, Int.not_lt, Int.not_le, Bool.and_eq_true, Bool.or_eq_true, Bool.or_eq_false_iff, beq_iff_eq, beq_eq_false_iff_ne, Int.natCast_pos] at hb))))
            all_goals (refine wpQuiet_nil ?_; intro nq)
            all_goals (try (exfalso; omega))
            have hFwf := HF.out nq
            clear HF HC hne
            generalize F nq = wf at *
            have hFwk : Below wk.heap.size wk wf := by (repeat (first | (with_reducible exact Below.refl _ _) | (with_reducible assumption) | (with_reducible apply bel_alloc) | (with_reducible apply bel_drew) | (with_reducible apply bel_drewN) | (with_reducible refine bel_trans ?_ (by with_reducible assumption)) | (with_reducible refine bel_trans ?_ (HF.out _)) | (with_reducible refine bel_set ?_ (by simp) _) | (with_reducible refine bel_set ?_ (by simp; omega) _) | (with_reducible refine bel_set ?_ (by omega) _)))
            go_wp2_with fail
            skip
            (first | (go_round; (case rel => exact ⟨k + 1, by omega, by go_num, Lib.hid (HG.out.succ (by rw [HQK.out]; exact HV.out) (fun _ => by unfold befQ; rw [HQK.out, HA.out.1, HA.out.2, befS_iff]; (try dsimp only); omega)), Lib.hid (HBX.out.up hFwk), bel_trans hbw hFwk⟩); (case measure => (simp [intOf] <;> omega))) | (go_roundw; (case rel => exact ⟨k + 1, by omega, by go_num, Lib.hid (HG.out.succ (by rw [HQK.out]; exact HV.out) (fun _ => by unfold befQ; rw [HQK.out, HA.out.1, HA.out.2, befS_iff]; (try dsimp only); omega)), Lib.hid (HBX.out.up hFwk), bel_trans hbw hFwk⟩); (case measure => (simp [intOf] <;> omega))) | (refine ⟨?_, by simp [intOf] <;> omega⟩; (repeat apply Exists.intro); refine ⟨?rel, ?fr⟩; (case fr => ((repeat' apply And.intro) <;> rfl)); (case rel => exact ⟨k + 1, by omega, by go_num, Lib.hid (HG.out.succ (by rw [HQK.out]; exact HV.out) (fun _ => by unfold befQ; rw [HQK.out, HA.out.1, HA.out.2, befS_iff]; (try dsimp only); omega)), Lib.hid (HBX.out.up hFwk), bel_trans hbw hFwk⟩)))
          · have e2 : decide (bd ≤ ad) = true := by simp; omega
            go_wp2_with (first | (go_at_call 46; refine (ref21_kind _ _ _ H1.out).mono ?_; rintro e w' ⟨rfl, rfl⟩) | (go_at_call 34; refine (refD _ _ _ H2.out).mono ?_; rintro e w' ⟨rfl, rfl⟩) | (go_at_call 47; refine (ref0_Num bg _ _ H3.out).mono ?_; rintro e w' ⟨rfl, rfl⟩) | (go_at_call 47; refine (ref0_Num bt _ _ H4.out).mono ?_; rintro e w' ⟨rfl, rfl⟩))
            refine wp_region_fam (by kernel_rfl) (by kernel_rfl) (fun ι F hne hF hcl => ?_)
            have hcF0 := fun n o => (bcell (hF n)).1 (b) o (by first | (simp; done) | (simp; omega) | omega)
            have hcF1 := fun n o => (bcell (hF n)).1 (w.heap.size) o (by first | (simp; done) | (simp; omega) | omega)
            have hcF2 := fun n o => (bcell (hF n)).1 (wk.heap.size) o (by first | (simp; done) | (simp; omega) | omega)
            have HF := Lib.hid hF; clear hF
            have HC := Lib.hid hcl; clear hcl
            repeat (any_goals (first
             | go_big_quiet_step (first | fail)
             | (refine wpQuiet_guard _ _ _ rfl rfl ?_; (fail_if_success (intro b' hb; have h2 := hb.symm; have : b' = true := h2.trans (by with_reducible rfl))); (fail_if_success (intro b' hb; have h2 := hb.symm; have : b' = false := h2.trans (by with_reducible rfl))); intro b' hb; simp only [hb]; cases b' <;> (try simp only [Bool.not_eq_true', Bool.not_eq_false', decide_eq_true_eq, decide_eq_false_iff_not, Int.not_lt, Int.not_le, Bool.and_eq_true, Bool.or_eq_true, Bool.or_eq_false_iff, beq_iff_eq, beq_eq_false_iff_ne, Int.natCast_pos] at hb))))
            all_goals (refine wpQuiet_nil ?_; intro nq)
            all_goals (try (exfalso; omega))
            have hFwf := HF.out nq
            clear HF HC hne
            generalize F nq = wf at *
            have hFwk : Below wk.heap.size wk wf := by (repeat (first | (with_reducible exact Below.refl _ _) | (with_reducible assumption) | (with_reducible apply bel_alloc) | (with_reducible apply bel_drew) | (with_reducible apply bel_drewN) | (with_reducible refine bel_trans ?_ (by with_reducible assumption)) | (with_reducible refine bel_trans ?_ (HF.out _)) | (with_reducible refine bel_set ?_ (by simp) _) | (with_reducible refine bel_set ?_ (by simp; omega) _) | (with_reducible refine bel_set ?_ (by omega) _)))
            go_wp2_with fail
            go_ret
            exact ⟨ret_bool (HB.out (.inr ⟨hk0, by (unfold befQ; rw [HQK.out, HA.out.1, HA.out.2]; (cases e : befS ak ad ak bd <;> first | rfl | (exfalso; have e := befS_iff.1 e; omega)))⟩)), bel_trans hbw hFwk⟩
        · have e1 : decide (bk < ak) = true := by simp; omega
          go_wp2_with (first | (go_at_call 46; refine (ref21_kind _ _ _ H1.out).mono ?_; rintro e w' ⟨rfl, rfl⟩) | (go_at_call 34; refine (refD _ _ _ H2.out).mono ?_; rintro e w' ⟨rfl, rfl⟩) | (go_at_call 47; refine (ref0_Num bg _ _ H3.out).mono ?_; rintro e w' ⟨rfl, rfl⟩) | (go_at_call 47; refine (ref0_Num bt _ _ H4.out).mono ?_; rintro e w' ⟨rfl, rfl⟩))
          refine wp_region_fam (by kernel_rfl) (by kernel_rfl) (fun ι F hne hF hcl => ?_)
          have hcF0 := fun n o => (bcell (hF n)).1 (b) o (by first | (simp; done) | (simp; omega) | omega)
          have hcF1 := fun n o => (bcell (hF n)).1 (w.heap.size) o (by first | (simp; done) | (simp; omega) | omega)
          have hcF2 := fun n o => (bcell (hF n)).1 (wk.heap.size) o (by first | (simp; done) | (simp; omega) | omega)
          have HF := Lib.hid hF; clear hF
          have HC := Lib.hid hcl; clear hcl
          repeat (any_goals (first
           | go_big_quiet_step (first | fail)
           | (refine wpQuiet_guard _ _ _ rfl rfl ?_; (fail_if_success (intro b' hb; have h2 := hb.symm; have : b' = true := h2.trans (by with_reducible rfl))); (fail_if_success (intro b' hb; have h2 := hb.symm; have : b' = false := h2.trans (by with_reducible rfl))); intro b' hb; simp only [hb]; cases b' <;> (try simp only [Bool.not_eq_true', Bool.not_eq_false', decide_eq_true_eq, decide_eq_false_iff_not, Int.not_lt, Int.not_le, Bool.and_eq_true, Bool.or_eq_true, Bool.or_eq_false_iff, beq_iff_eq, beq_eq_false_iff_ne, Int.natCast_pos] at hb))))
          all_goals (refine wpQuiet_nil ?_; intro nq)
          all_goals (try (exfalso; omega))
          have hFwf := HF.out nq
          clear HF HC hne
          generalize F nq = wf at *
          have hFwk : Below wk.heap.size wk wf := by (repeat (first | (with_reducible exact Below.refl _ _) | (with_reducible assumption) | (with_reducible apply bel_alloc) | (with_reducible apply bel_drew) | (with_reducible apply bel_drewN) | (with_reducible refine bel_trans ?_ (by with_reducible assumption)) | (with_reducible refine bel_trans ?_ (HF.out _)) | (with_reducible refine bel_set ?_ (by simp) _) | (with_reducible refine bel_set ?_ (by simp; omega) _) | (with_reducible refine bel_set ?_ (by omega) _)))
          go_wp2_with fail
          go_ret
          exact ⟨ret_bool (HB.out (.inr ⟨hk0, by (unfold befQ; rw [HQK.out, HA.out.1, HA.out.2]; (cases e : befS ak ad bk bd <;> first | rfl | (exfalso; have e := befS_iff.1 e; omega)))⟩)), bel_trans hbw hFwk⟩
    · skip
      obtain rfl : k = n := by omega
      go_wp2_with fail
      go_ret
      exact ⟨ret_bool (HY.out.2 ⟨by trivial, q1, q2, q3, HG.out⟩).symm, hbw⟩
set_option maxRecDepth 100000 in
set_option maxHeartbeats 1000000 in
theorem fetch_Check (id nodes : Int) (l : List FRowD) (A : Option Addr) (n c : Nat) (y : Bool) (w : World) (hl : RowsR w A n l) (hy : mayF ⟨id, nodes, l⟩ = y) : Calls Try.prog 23 #[.agg #[.int .i64 id, .int .i64 nodes, .slice A n c]] w fun e w' => e = .returned (.int .i64 (if y then 0 else 1)) ∧ Below w.heap.size w w' := by
  have HL := Lib.hid hl
  have HY := Lib.hid hy
  clear hl hy
  go_enter Try.func23, Try.ntmps23
  cases y
  all_goals
    go_wp2_with (go_at_call 25; refine (fetch_May id nodes l A n c _ _ (HL.out.up (by (repeat (first | (with_reducible exact Below.refl _ _) | (with_reducible assumption) | (with_reducible apply bel_alloc) | (with_reducible apply bel_drew) | (with_reducible apply bel_drewN) | (with_reducible refine bel_trans ?_ (by with_reducible assumption)) | (with_reducible refine bel_trans ?_ (HF.out _)) | (with_reducible refine bel_set ?_ (by simp) _) | (with_reducible refine bel_set ?_ (by simp; omega) _) | (with_reducible refine bel_set ?_ (by omega) _))))) HY.out).mono ?_; rintro e w2 ⟨rfl, hb2⟩)
    go_ret
    exact ⟨rfl, by (repeat (first | (with_reducible exact Below.refl _ _) | (with_reducible assumption) | (with_reducible apply bel_alloc) | (with_reducible apply bel_drew) | (with_reducible apply bel_drewN) | (with_reducible refine bel_trans ?_ (by with_reducible assumption)) | (with_reducible refine bel_trans ?_ (HF.out _)) | (with_reducible refine bel_set ?_ (by simp) _) | (with_reducible refine bel_set ?_ (by simp; omega) _) | (with_reducible refine bel_set ?_ (by omega) _)))⟩
end Go.Proofs.Ytnngeaibdnnpoaa
