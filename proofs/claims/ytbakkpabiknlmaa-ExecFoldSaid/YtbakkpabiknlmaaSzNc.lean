/- Tables: what a table may be, at the program, at the reference. -/
import Derived.Test.YtbakkpabiknlmaaSzNb
namespace Go.Proofs.Ytbakkpabiknlmaa
open Go.RowKit
set_option linter.unusedSimpArgs false
set_option linter.unusedVariables false

def acctS (a : AcctD) : Bool := idS a.se && idS a.sq
def GoodA (l : List AcctD) (k : Nat) : Prop := ∀ j, j < k → acctS (ath l j) = true ∧ (0 < j → (ath l (j - 1)).se < (ath l j).se)
def MayA (l : List AcctD) : Prop := l.length ≤ 4096 ∧ GoodA l l.length
theorem GoodA.succ {l : List AcctD} {k : Nat} (h : GoodA l k) (h1 : acctS (ath l k) = true) (h2 : 0 < k → (ath l (k - 1)).se < (ath l k).se) : GoodA l (k + 1) := fun j hj => by
  rcases Nat.lt_or_ge j k with h3 | h3
  · exact h j h3
  · obtain rfl : j = k := by omega
    exact ⟨h1, h2⟩
def MayT (l : List PairD) (q : List AcctD) : Prop := MayP l ∧ MayA q
noncomputable def mayT (l : List PairD) (q : List AcctD) : Bool := dec (MayT l q)
theorem mayT_iff {l : List PairD} {q : List AcctD} : mayT l q = true ↔ MayT l q := dec_iff
theorem not_goodA {l : List AcctD} {k n : Nat} (hl : l.length = n) (hk : k < n) (h : acctS (ath l k) = false ∨ (0 < k ∧ ¬ (ath l (k - 1)).se < (ath l k).se)) : ¬ MayA l := fun hm => by
  have := hm.2 k (by rw [hl]; exact hk)
  rcases h with h | ⟨h, h2⟩
  · rw [this.1] at h; cases h
  · exact h2 (this.2 h)
set_option maxRecDepth 100000 in
set_option maxHeartbeats 4000000 in
theorem table_May (A : Option Addr) (n c : Nat) (l : List PairD) (B : Option Addr) (m d : Nat) (q : List AcctD) (y : Bool) (w : World) (hl : PairsR w A n l) (hq : AcctsR w B m q) (hy : mayT l q = y) : Calls Try.prog 38 #[.agg #[.slice A n c, .slice B m d]] w fun e w' => e = .returned (.bool y) ∧ Below w.heap.size w w' := by
  have HY := Lib.hid hy
  have HL := Lib.hid hl
  have HQ := Lib.hid hq
  have HN := Lib.hid hl.1
  have HM := Lib.hid hq.1
  have hnn : n ≤ 9223372036854775807 := hl.2.2.1
  have hmm : m ≤ 9223372036854775807 := hq.2.2.1
  clear hy hl hq
  go_enter Try.func38, Try.ntmps38
  go_wp2_with fail
  go_loopw [8] (fun ix wr => ∃ k : Nat, k ≤ m ∧ ix = .int .i64 k ∧ Hid (GoodA q k) ∧ Below w.heap.size w wr ∧ BoxR wr w.heap.size [.slice A n c, .slice B m d]) (fun ix _ => m - (intOf ix).toNat)
  case atStart => exact ⟨0, Nat.zero_le _, rfl, Lib.hid (fun j hj => absurd hj (by omega)), by (repeat (first | (with_reducible exact Below.refl _ _) | (with_reducible assumption) | (with_reducible apply bel_alloc) | (with_reducible apply bel_drew) | (with_reducible apply bel_drewN) | (with_reducible refine bel_trans ?_ (by with_reducible assumption)) | (with_reducible refine bel_trans ?_ (HF.out _)) | (with_reducible refine bel_set ?_ (by simp) _) | (with_reducible refine bel_set ?_ (by simp; omega) _) | (with_reducible refine bel_set ?_ (by omega) _))), BoxR.new w [.slice A n c, .slice B m d] 25⟩
  case round =>
    obtain ⟨k, hk, rfl, HG, hbw, hT⟩ := hrel
    (obtain ⟨wk, hwk⟩ : ∃ x, x = wr := ⟨_, rfl⟩); subst hwk
    have hg0 := hT.1
    have HT := Lib.hid hT
    have t_0 := (hT).2 0 _ rfl; have t_1 := (hT).2 1 _ rfl
    clear hT
    by_cases hlt : k < m
    · obtain ⟨b, off, rfl, hb, hc⟩ := (HQ.out.up hbw).at (by omega)
      obtain ⟨c0, c1⟩ := hc k hlt
      have HB := Lib.hid (fun h => (by cases hm : mayT l q with | false => rfl | true => exact absurd (mayT_iff.1 hm).2 (not_goodA HM.out hlt h) : mayT l q = false))
      obtain ⟨p, hp⟩ : ∃ p, p = ath q k := ⟨_, rfl⟩
      rw [← hp] at c0 c1
      have HP := Lib.hid hp
      obtain ⟨o, ho⟩ : ∃ o, o = (ath q (k - 1)).se := ⟨_, rfl⟩
      have hd : 0 < k → wk.cell? ⟨b, off + (k - 1) * 2, none⟩ = some (.int .i64 o) := fun h => by rw [ho]; exact (hc (k - 1) (by omega)).1
      have HO := Lib.hid ho
      have HD := Lib.hid hd
      clear hc hd ho hp
      have hA : BoxR (wk.alloc (.cells #[.int .i64 p.se, .int .i64 p.sq] 87)) wk.heap.size [.int .i64 p.se, .int .i64 p.sq] := BoxR.new wk [.int .i64 p.se, .int .i64 p.sq] 87
      have hba : Below wk.heap.size wk (wk.alloc (.cells #[.int .i64 p.se, .int .i64 p.sq] 87)) := by (repeat (first | (with_reducible exact Below.refl _ _) | (with_reducible assumption) | (with_reducible apply bel_alloc) | (with_reducible apply bel_drew) | (with_reducible apply bel_drewN) | (with_reducible refine bel_trans ?_ (by with_reducible assumption)) | (with_reducible refine bel_trans ?_ (HF.out _)) | (with_reducible refine bel_set ?_ (by simp) _) | (with_reducible refine bel_set ?_ (by simp; omega) _) | (with_reducible refine bel_set ?_ (by omega) _)))
      have a_0 := (hA).2 0 _ rfl; have a_1 := (hA).2 1 _ rfl
      cases h1 : idS p.se
      · have H1 := Lib.hid h1
        clear h1
        go_wp2_with fail
        refine wp_region_fam (by kernel_rfl) (by kernel_rfl) (fun ι F hne hF hcl => ?_)
        have hcF0 := fun n o => (bcell (hF n)).1 (wk.heap.size) o (by first | (simp; done) | (simp; omega) | omega)
        have hcF1 := fun n o => (bcell (hF n)).1 (b) o (by first | (simp; done) | (simp; omega) | omega)
        have hcF2 := fun n o => (bcell (hF n)).1 (w.heap.size) o (by first | (simp; done) | (simp; omega) | omega)
        have HF := Lib.hid hF; clear hF
        have HC := Lib.hid hcl; clear hcl
        repeat (any_goals (first
         | go_big_quiet_step (first | (go_at_call 55; exact Calls.fam_same (table_number _ false _ H1.out)))
         | (refine wpQuiet_guard _ _ _ rfl rfl ?_; (fail_if_success (intro b' hb; have h2 := hb.symm; have : b' = true := h2.trans (by with_reducible rfl))); (fail_if_success (intro b' hb; have h2 := hb.symm; have : b' = false := h2.trans (by with_reducible rfl))); intro b' hb; simp only [hb]; cases b' <;> (try simp only [Bool.not_eq_true', Bool.not_eq_false', decide_eq_true_eq, decide_eq_false_iff_not, Int.not_lt, Int.not_le, Bool.and_eq_true, Bool.or_eq_true, Bool.or_eq_false_iff, beq_iff_eq, beq_eq_false_iff_ne, Int.natCast_pos] at hb))))
        all_goals (refine wpQuiet_nil ?_; intro nq)
        all_goals (try (exfalso; omega))
        have hFwf := HF.out nq
        clear HF HC hne
        generalize F nq = wf at *
        have hbf : Below w.heap.size w wf := bel_trans hbw (bel_trans hba hFwf)
        go_wp2_with fail
        go_ret
        exact ⟨ret_bool (by rw [← HY.out, HB.out (.inl (by rw [← HP.out]; simp [acctS, H1.out]))]), hbf⟩
      · have H1 := Lib.hid h1
        clear h1
        cases h2 : idS p.sq
        · have H2 := Lib.hid h2
          clear h2
          go_wp2_with fail
          refine wp_region_fam (by kernel_rfl) (by kernel_rfl) (fun ι F hne hF hcl => ?_)
          have hcF0 := fun n o => (bcell (hF n)).1 (wk.heap.size) o (by first | (simp; done) | (simp; omega) | omega)
          have hcF1 := fun n o => (bcell (hF n)).1 (b) o (by first | (simp; done) | (simp; omega) | omega)
          have hcF2 := fun n o => (bcell (hF n)).1 (w.heap.size) o (by first | (simp; done) | (simp; omega) | omega)
          have HF := Lib.hid hF; clear hF
          have HC := Lib.hid hcl; clear hcl
          repeat (any_goals (first
           | go_big_quiet_step (first | (go_at_call 55; exact Calls.fam_same (table_number _ true _ H1.out)) | (go_at_call 55; exact Calls.fam_same (table_number _ false _ H2.out)))
           | (refine wpQuiet_guard _ _ _ rfl rfl ?_; (fail_if_success (intro b' hb; have h2 := hb.symm; have : b' = true := h2.trans (by with_reducible rfl))); (fail_if_success (intro b' hb; have h2 := hb.symm; have : b' = false := h2.trans (by with_reducible rfl))); intro b' hb; simp only [hb]; cases b' <;> (try simp only [Bool.not_eq_true', Bool.not_eq_false', decide_eq_true_eq, decide_eq_false_iff_not, Int.not_lt, Int.not_le, Bool.and_eq_true, Bool.or_eq_true, Bool.or_eq_false_iff, beq_iff_eq, beq_eq_false_iff_ne, Int.natCast_pos] at hb))))
          all_goals (refine wpQuiet_nil ?_; intro nq)
          all_goals (try (exfalso; omega))
          have hFwf := HF.out nq
          clear HF HC hne
          generalize F nq = wf at *
          have hbf : Below w.heap.size w wf := bel_trans hbw (bel_trans hba hFwf)
          go_wp2_with fail
          go_ret
          exact ⟨ret_bool (by rw [← HY.out, HB.out (.inl (by rw [← HP.out]; simp [acctS, H1.out, H2.out]))]), hbf⟩
        · have H2 := Lib.hid h2
          clear h2
          have HPS : Hid (acctS (ath q k) = true) := Lib.hid (by rw [← HP.out]; simp [acctS, H1.out, H2.out])
          rcases Nat.eq_zero_or_pos k with hk0 | hk0
          · subst hk0
            rw [Nat.zero_mul, Nat.add_zero] at c0 c1
            go_wp2_with fail
            refine wp_region_fam (by kernel_rfl) (by kernel_rfl) (fun ι F hne hF hcl => ?_)
            have hcF0 := fun n o => (bcell (hF n)).1 (wk.heap.size) o (by first | (simp; done) | (simp; omega) | omega)
            have hcF1 := fun n o => (bcell (hF n)).1 (b) o (by first | (simp; done) | (simp; omega) | omega)
            have hcF2 := fun n o => (bcell (hF n)).1 (w.heap.size) o (by first | (simp; done) | (simp; omega) | omega)
            have HF := Lib.hid hF; clear hF
            have HC := Lib.hid hcl; clear hcl
            repeat (any_goals (first
             | go_big_quiet_step (first | (go_at_call 55; exact Calls.fam_same (table_number _ true _ H1.out)) | (go_at_call 55; exact Calls.fam_same (table_number _ true _ H2.out)))
             | (refine wpQuiet_guard _ _ _ rfl rfl ?_; (fail_if_success (intro b' hb; have h2 := hb.symm; have : b' = true := h2.trans (by with_reducible rfl))); (fail_if_success (intro b' hb; have h2 := hb.symm; have : b' = false := h2.trans (by with_reducible rfl))); intro b' hb; simp only [hb]; cases b' <;> (try simp only [Bool.not_eq_true', Bool.not_eq_false', decide_eq_true_eq, decide_eq_false_iff_not, Int.not_lt, Int.not_le, Bool.and_eq_true, Bool.or_eq_true, Bool.or_eq_false_iff, beq_iff_eq, beq_eq_false_iff_ne, Int.natCast_pos] at hb))))
            all_goals (refine wpQuiet_nil ?_; intro nq)
            all_goals (try (exfalso; omega))
            have hFwf := HF.out nq
            clear HF HC hne
            generalize F nq = wf at *
            have hbf : Below w.heap.size w wf := bel_trans hbw (bel_trans hba hFwf)
            go_wp2_with fail
            (first | (go_round; (case rel => exact ⟨1, by omega, rfl, Lib.hid (HG.out.succ HPS.out (fun h => absurd h (by omega))), hbf, (HT.out.up hba).up hFwf⟩); (case measure => (simp [intOf] <;> omega))) | (go_roundw; (case rel => exact ⟨1, by omega, rfl, Lib.hid (HG.out.succ HPS.out (fun h => absurd h (by omega))), hbf, (HT.out.up hba).up hFwf⟩); (case measure => (simp [intOf] <;> omega))) | (refine ⟨?_, by simp [intOf] <;> omega⟩; (repeat apply Exists.intro); refine ⟨?rel, ?fr⟩; (case fr => ((repeat' apply And.intro) <;> rfl)); (case rel => exact ⟨1, by omega, rfl, Lib.hid (HG.out.succ HPS.out (fun h => absurd h (by omega))), hbf, (HT.out.up hba).up hFwf⟩)))
          · have d0 := HD.out hk0
            have hk1 : (0 : Int) < (k : Int) := by omega
            by_cases h3 : o < p.se
            · have h3b : decide (p.se ≤ o) = false := by simp; omega
              have H3 := Lib.hid h3
              clear h3
              go_wp2_with fail
              refine wp_region_fam (by kernel_rfl) (by kernel_rfl) (fun ι F hne hF hcl => ?_)
              have hcF0 := fun n o => (bcell (hF n)).1 (wk.heap.size) o (by first | (simp; done) | (simp; omega) | omega)
              have hcF1 := fun n o => (bcell (hF n)).1 (b) o (by first | (simp; done) | (simp; omega) | omega)
              have hcF2 := fun n o => (bcell (hF n)).1 (w.heap.size) o (by first | (simp; done) | (simp; omega) | omega)
              have HF := Lib.hid hF; clear hF
              have HC := Lib.hid hcl; clear hcl
              repeat (any_goals (first
               | go_big_quiet_step (first | (go_at_call 55; exact Calls.fam_same (table_number _ true _ H1.out)) | (go_at_call 55; exact Calls.fam_same (table_number _ true _ H2.out)))
               | (refine wpQuiet_guard _ _ _ rfl rfl ?_; (fail_if_success (intro b' hb; have h2 := hb.symm; have : b' = true := h2.trans (by with_reducible rfl))); (fail_if_success (intro b' hb; have h2 := hb.symm; have : b' = false := h2.trans (by with_reducible rfl))); intro b' hb; simp only [hb]; cases b' <;> (try simp only [Bool.not_eq_true', Bool.not_eq_false', decide_eq_true_eq, decide_eq_false_iff_not, Int.not_lt, Int.not_le, Bool.and_eq_true, Bool.or_eq_true, Bool.or_eq_false_iff, beq_iff_eq, beq_eq_false_iff_ne, Int.natCast_pos] at hb))))
              all_goals (refine wpQuiet_nil ?_; intro nq)
              all_goals (try (exfalso; omega))
              have hFwf := HF.out nq
              clear HF HC hne
              generalize F nq = wf at *
              have hbf : Below w.heap.size w wf := bel_trans hbw (bel_trans hba hFwf)
              go_wp2_with fail
              (first | (go_round; (case rel => exact ⟨k + 1, by omega, by go_num, Lib.hid (HG.out.succ HPS.out (fun _ => by rw [← HP.out, ← HO.out]; exact H3.out)), hbf, (HT.out.up hba).up hFwf⟩); (case measure => (simp [intOf] <;> omega))) | (go_roundw; (case rel => exact ⟨k + 1, by omega, by go_num, Lib.hid (HG.out.succ HPS.out (fun _ => by rw [← HP.out, ← HO.out]; exact H3.out)), hbf, (HT.out.up hba).up hFwf⟩); (case measure => (simp [intOf] <;> omega))) | (refine ⟨?_, by simp [intOf] <;> omega⟩; (repeat apply Exists.intro); refine ⟨?rel, ?fr⟩; (case fr => ((repeat' apply And.intro) <;> rfl)); (case rel => exact ⟨k + 1, by omega, by go_num, Lib.hid (HG.out.succ HPS.out (fun _ => by rw [← HP.out, ← HO.out]; exact H3.out)), hbf, (HT.out.up hba).up hFwf⟩)))
            · have h3b : decide (p.se ≤ o) = true := by simp; omega
              have H3 := Lib.hid h3
              clear h3
              go_wp2_with fail
              refine wp_region_fam (by kernel_rfl) (by kernel_rfl) (fun ι F hne hF hcl => ?_)
              have hcF0 := fun n o => (bcell (hF n)).1 (wk.heap.size) o (by first | (simp; done) | (simp; omega) | omega)
              have hcF1 := fun n o => (bcell (hF n)).1 (b) o (by first | (simp; done) | (simp; omega) | omega)
              have hcF2 := fun n o => (bcell (hF n)).1 (w.heap.size) o (by first | (simp; done) | (simp; omega) | omega)
              have HF := Lib.hid hF; clear hF
              have HC := Lib.hid hcl; clear hcl
              repeat (any_goals (first
               | go_big_quiet_step (first | (go_at_call 55; exact Calls.fam_same (table_number _ true _ H1.out)) | (go_at_call 55; exact Calls.fam_same (table_number _ true _ H2.out)))
               | (refine wpQuiet_guard _ _ _ rfl rfl ?_; (fail_if_success (intro b' hb; have h2 := hb.symm; have : b' = true := h2.trans (by with_reducible rfl))); (fail_if_success (intro b' hb; have h2 := hb.symm; have : b' = false := h2.trans (by with_reducible rfl))); intro b' hb; simp only [hb]; cases b' <;> (try simp only [Bool.not_eq_true', Bool.not_eq_false', decide_eq_true_eq, decide_eq_false_iff_not, Int.not_lt, Int.not_le, Bool.and_eq_true, Bool.or_eq_true, Bool.or_eq_false_iff, beq_iff_eq, beq_eq_false_iff_ne, Int.natCast_pos] at hb))))
              all_goals (refine wpQuiet_nil ?_; intro nq)
              all_goals (try (exfalso; omega))
              have hFwf := HF.out nq
              clear HF HC hne
              generalize F nq = wf at *
              have hbf : Below w.heap.size w wf := bel_trans hbw (bel_trans hba hFwf)
              go_wp2_with fail
              go_ret
              exact ⟨ret_bool (by rw [← HY.out, HB.out (.inr ⟨hk0, by rw [← HP.out, ← HO.out]; exact H3.out⟩)]), hbf⟩
    · obtain rfl : k = m := by omega
      by_cases hbig : 4096 < k
      · go_wp2_with fail
        go_ret
        refine ⟨ret_bool ?_, hbw⟩
        rw [← HY.out]
        exact dec_false (fun h => by have := h.2.1; rw [HM.out] at this; omega)
      · go_wp2_with (go_at_call 56; refine (table_pairs A n c l _ _ (HL.out.up hbw) rfl).mono ?_; rintro e w1 ⟨rfl, hb1⟩)
        go_ret
        refine ⟨ret_bool ?_, bel_trans hbw hb1⟩
        rw [← HY.out, Bool.eq_iff_iff, mayT_iff, mayP_iff]
        exact ⟨fun h => ⟨h, by rw [HM.out]; omega, by rw [HM.out]; exact HG.out⟩, fun h => h.1⟩
end Go.Proofs.Ytbakkpabiknlmaa
