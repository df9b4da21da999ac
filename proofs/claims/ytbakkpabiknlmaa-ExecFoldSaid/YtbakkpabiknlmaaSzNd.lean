/- Tables: what a table may be, at the reference. -/
import Derived.Test.YtbakkpabiknlmaaSzNc
namespace Go.Proofs.Ytbakkpabiknlmaa
open Go.RowKit
set_option linter.unusedSimpArgs false
set_option linter.unusedVariables false

theorem not_goodP {l : List PairD} {k n : Nat} (hl : l.length = n) (hk : k < n) (h : pairS (pth l k) = false ∨ (0 < k ∧ ltK (pth l (k - 1)).k (pth l k).k = false)) : ¬ MayP l := fun hm => by
  have := hm.2 k (by rw [hl]; exact hk)
  rcases h with h | ⟨h, h2⟩
  · rw [this.1] at h; cases h
  · rw [this.2 h] at h2; cases h2
theorem nil_false {a : ByteArray} (h : ¬ a.size = 0) : (a.toList == []) = false := by
  rw [beq_eq_false_iff_ne]; exact fun g => h (toList_nil.1 g)
theorem nil_true {a : ByteArray} (h : a.size = 0) : (a.toList == []) = true := by
  rw [beq_iff_eq]; exact toList_nil.2 h
set_option maxRecDepth 100000 in
set_option maxHeartbeats 8000000 in
theorem ref22_May (A : Option Addr) (n c : Nat) (l : List PairD) (B : Option Addr) (m d : Nat) (q : List AcctD) (y : Bool) (w : World) (hl : PairsR w A n l) (hq : AcctsR w B m q) (hy : mayT l q = y) : Calls Try.prog 22 #[.agg #[.slice A n c, .slice B m d]] w fun e w' => e = .returned (.bool y) ∧ Below w.heap.size w w' := by
  have HY := Lib.hid hy
  have HL := Lib.hid hl
  have HQ := Lib.hid hq
  have HN := Lib.hid hl.1
  have HM := Lib.hid hq.1
  have hnn : n ≤ 9223372036854775807 := hl.2.2.1
  have hmm : m ≤ 9223372036854775807 := hq.2.2.1
  clear hy hl hq
  go_enter Try.func22, Try.ntmps22
  by_cases hb1 : 4096 < n
  · go_wp2_with fail
    go_ret
    refine ⟨ret_bool ?_, by (repeat (first | (with_reducible exact Below.refl _ _) | (with_reducible assumption) | (with_reducible apply bel_alloc) | (with_reducible apply bel_drew) | (with_reducible apply bel_drewN) | (with_reducible refine bel_trans ?_ (by with_reducible assumption)) | (with_reducible refine bel_trans ?_ (HF.out _)) | (with_reducible refine bel_set ?_ (by simp) _) | (with_reducible refine bel_set ?_ (by simp; omega) _) | (with_reducible refine bel_set ?_ (by omega) _)))⟩
    rw [← HY.out]
    exact dec_false (fun h => by have := h.1.1; rw [HN.out] at this; omega)
  by_cases hb2 : 4096 < m
  · go_wp2_with fail
    go_ret
    refine ⟨ret_bool ?_, by (repeat (first | (with_reducible exact Below.refl _ _) | (with_reducible assumption) | (with_reducible apply bel_alloc) | (with_reducible apply bel_drew) | (with_reducible apply bel_drewN) | (with_reducible refine bel_trans ?_ (by with_reducible assumption)) | (with_reducible refine bel_trans ?_ (HF.out _)) | (with_reducible refine bel_set ?_ (by simp) _) | (with_reducible refine bel_set ?_ (by simp; omega) _) | (with_reducible refine bel_set ?_ (by omega) _)))⟩
    rw [← HY.out]
    exact dec_false (fun h => by have := h.2.1; rw [HM.out] at this; omega)
  go_wp2_with fail
  go_loopw [3] (fun ix wr => ∃ k : Nat, k ≤ n ∧ ix = .int .i64 k ∧ Hid (GoodP l k) ∧ Below w.heap.size w wr ∧ BoxR wr w.heap.size [.slice A n c, .slice B m d]) (fun ix _ => n - (intOf ix).toNat)
  case atStart => exact ⟨0, Nat.zero_le _, rfl, Lib.hid (fun j hj => absurd hj (by omega)), by (repeat (first | (with_reducible exact Below.refl _ _) | (with_reducible assumption) | (with_reducible apply bel_alloc) | (with_reducible apply bel_drew) | (with_reducible apply bel_drewN) | (with_reducible refine bel_trans ?_ (by with_reducible assumption)) | (with_reducible refine bel_trans ?_ (HF.out _)) | (with_reducible refine bel_set ?_ (by simp) _) | (with_reducible refine bel_set ?_ (by simp; omega) _) | (with_reducible refine bel_set ?_ (by omega) _))), BoxR.new w [.slice A n c, .slice B m d] 25⟩
  case round =>
    obtain ⟨k, hk, rfl, HG, hbw, hT⟩ := hrel
    (obtain ⟨wk, hwk⟩ : ∃ x, x = wr := ⟨_, rfl⟩); subst hwk
    have hg0 := hT.1
    have HT := Lib.hid hT
    have t_0 := (hT).2 0 _ rfl; have t_1 := (hT).2 1 _ rfl
    clear hT
    by_cases hlt : k < n
    · obtain ⟨b, off, rfl, hb, hc⟩ := (HL.out.up hbw).at (by omega)
      obtain ⟨c0, c1⟩ := hc k hlt
      have HB := Lib.hid (fun h => (by cases hm : mayT l q with | false => rfl | true => exact absurd (mayT_iff.1 hm).1 (not_goodP HN.out hlt h) : mayT l q = false))
      obtain ⟨p, hp⟩ : ∃ p, p = pth l k := ⟨_, rfl⟩
      rw [← hp] at c0 c1
      have HP := Lib.hid hp
      obtain ⟨o, ho⟩ : ∃ o, o = (pth l (k - 1)).k := ⟨_, rfl⟩
      have hd : 0 < k → wk.cell? ⟨b, off + (k - 1) * 2, none⟩ = some (.string o) := fun h => by rw [ho]; exact (hc (k - 1) (by omega)).1
      have HO := Lib.hid ho
      have HD := Lib.hid hd
      clear hc hd ho hp
      have hA : BoxR (wk.alloc (.cells #[.string p.k, .string p.v] 85)) wk.heap.size [.string p.k, .string p.v] := BoxR.new wk [.string p.k, .string p.v] 85
      have hba : Below wk.heap.size wk (wk.alloc (.cells #[.string p.k, .string p.v] 85)) := by (repeat (first | (with_reducible exact Below.refl _ _) | (with_reducible assumption) | (with_reducible apply bel_alloc) | (with_reducible apply bel_drew) | (with_reducible apply bel_drewN) | (with_reducible refine bel_trans ?_ (by with_reducible assumption)) | (with_reducible refine bel_trans ?_ (HF.out _)) | (with_reducible refine bel_set ?_ (by simp) _) | (with_reducible refine bel_set ?_ (by simp; omega) _) | (with_reducible refine bel_set ?_ (by omega) _)))
      have a_0 := (hA).2 0 _ rfl; have a_1 := (hA).2 1 _ rfl
      by_cases e0 : p.k.size = 0
      · have e0b := nil_true e0
        have HZ := Lib.hid e0
        clear e0
        go_wp2_with fail
        refine wp_region_fam (by kernel_rfl) (by kernel_rfl) (fun ι F hne hF hcl => ?_)
        have hcF0 := fun n o => (bcell (hF n)).1 (wk.heap.size) o (by first | (simp; done) | (simp; omega) | omega)
        have hcF1 := fun n o => (bcell (hF n)).1 (b) o (by first | (simp; done) | (simp; omega) | omega)
        have hcF2 := fun n o => (bcell (hF n)).1 (w.heap.size) o (by first | (simp; done) | (simp; omega) | omega)
        have HF := Lib.hid hF; clear hF
        have HC := Lib.hid hcl; clear hcl
        repeat (any_goals (first
         | go_big_quiet_step (first | (fail))
         | (refine wpQuiet_guard _ _ _ rfl rfl ?_; (fail_if_success (intro b' hb; have h2 := hb.symm; have : b' = true := h2.trans (by with_reducible rfl))); (fail_if_success (intro b' hb; have h2 := hb.symm; have : b' = false := h2.trans (by with_reducible rfl))); intro b' hb; simp only [hb]; cases b' <;> (try simp only [Bool.not_eq_true', Bool.not_eq_false', decide_eq_true_eq, decide_eq_false_iff_not, Int.not_lt, Int.not_le, Bool.and_eq_true, Bool.or_eq_true, Bool.or_eq_false_iff, beq_iff_eq, beq_eq_false_iff_ne, Int.natCast_pos] at hb))))
        all_goals (refine wpQuiet_nil ?_; intro nq)
        all_goals (try (exfalso; omega))
        have hFwf := HF.out nq
        clear HF HC hne
        generalize F nq = wf at *
        have hbf : Below w.heap.size w wf := bel_trans hbw (bel_trans hba hFwf)
        go_wp2_with fail
        go_ret
        exact ⟨ret_bool (by rw [← HY.out, HB.out (.inl (by rw [← HP.out, Bool.eq_false_iff]; intro hc; have := pairS_iff.1 hc; have := HZ.out; omega))]), hbf⟩
      have e0b := nil_false e0
      have HZ0 := Lib.hid e0
      clear e0
      by_cases e1 : 16 < p.k.size
      · have e1b : decide ((16 : Int) < (p.k.size : Int)) = true := by simp; omega
        have HZ := Lib.hid e1
        clear e1
        go_wp2_with fail
        refine wp_region_fam (by kernel_rfl) (by kernel_rfl) (fun ι F hne hF hcl => ?_)
        have hcF0 := fun n o => (bcell (hF n)).1 (wk.heap.size) o (by first | (simp; done) | (simp; omega) | omega)
        have hcF1 := fun n o => (bcell (hF n)).1 (b) o (by first | (simp; done) | (simp; omega) | omega)
        have hcF2 := fun n o => (bcell (hF n)).1 (w.heap.size) o (by first | (simp; done) | (simp; omega) | omega)
        have HF := Lib.hid hF; clear hF
        have HC := Lib.hid hcl; clear hcl
        repeat (any_goals (first
         | go_big_quiet_step (first | (fail))
         | (refine wpQuiet_guard _ _ _ rfl rfl ?_; (fail_if_success (intro b' hb; have h2 := hb.symm; have : b' = true := h2.trans (by with_reducible rfl))); (fail_if_success (intro b' hb; have h2 := hb.symm; have : b' = false := h2.trans (by with_reducible rfl))); intro b' hb; simp only [hb]; cases b' <;> (try simp only [Bool.not_eq_true', Bool.not_eq_false', decide_eq_true_eq, decide_eq_false_iff_not, Int.not_lt, Int.not_le, Bool.and_eq_true, Bool.or_eq_true, Bool.or_eq_false_iff, beq_iff_eq, beq_eq_false_iff_ne, Int.natCast_pos] at hb))))
        all_goals (refine wpQuiet_nil ?_; intro nq)
        all_goals (try (exfalso; omega))
        have hFwf := HF.out nq
        clear HF HC hne
        generalize F nq = wf at *
        have hbf : Below w.heap.size w wf := bel_trans hbw (bel_trans hba hFwf)
        go_wp2_with fail
        go_ret
        exact ⟨ret_bool (by rw [← HY.out, HB.out (.inl (by rw [← HP.out, Bool.eq_false_iff]; intro hc; have := pairS_iff.1 hc; have := HZ.out; omega))]), hbf⟩
      have e1b : decide ((16 : Int) < (p.k.size : Int)) = false := by simp; omega
      have HZ1 := Lib.hid e1
      clear e1
      by_cases e2 : p.v.size = 0
      · have e2b := nil_true e2
        have HZ := Lib.hid e2
        clear e2
        go_wp2_with fail
        refine wp_region_fam (by kernel_rfl) (by kernel_rfl) (fun ι F hne hF hcl => ?_)
        have hcF0 := fun n o => (bcell (hF n)).1 (wk.heap.size) o (by first | (simp; done) | (simp; omega) | omega)
        have hcF1 := fun n o => (bcell (hF n)).1 (b) o (by first | (simp; done) | (simp; omega) | omega)
        have hcF2 := fun n o => (bcell (hF n)).1 (w.heap.size) o (by first | (simp; done) | (simp; omega) | omega)
        have HF := Lib.hid hF; clear hF
        have HC := Lib.hid hcl; clear hcl
        repeat (any_goals (first
         | go_big_quiet_step (first | (fail))
         | (refine wpQuiet_guard _ _ _ rfl rfl ?_; (fail_if_success (intro b' hb; have h2 := hb.symm; have : b' = true := h2.trans (by with_reducible rfl))); (fail_if_success (intro b' hb; have h2 := hb.symm; have : b' = false := h2.trans (by with_reducible rfl))); intro b' hb; simp only [hb]; cases b' <;> (try simp only [Bool.not_eq_true', Bool.not_eq_false', decide_eq_true_eq, decide_eq_false_iff_not, Int.not_lt, Int.not_le, Bool.and_eq_true, Bool.or_eq_true, Bool.or_eq_false_iff, beq_iff_eq, beq_eq_false_iff_ne, Int.natCast_pos] at hb))))
        all_goals (refine wpQuiet_nil ?_; intro nq)
        all_goals (try (exfalso; omega))
        have hFwf := HF.out nq
        clear HF HC hne
        generalize F nq = wf at *
        have hbf : Below w.heap.size w wf := bel_trans hbw (bel_trans hba hFwf)
        go_wp2_with fail
        go_ret
        exact ⟨ret_bool (by rw [← HY.out, HB.out (.inl (by rw [← HP.out, Bool.eq_false_iff]; intro hc; have := pairS_iff.1 hc; have := HZ.out; omega))]), hbf⟩
      have e2b := nil_false e2
      have HZ2 := Lib.hid e2
      clear e2
      by_cases e3 : 32 < p.v.size
      · have e3b : decide ((32 : Int) < (p.v.size : Int)) = true := by simp; omega
        have HZ := Lib.hid e3
        clear e3
        go_wp2_with fail
        refine wp_region_fam (by kernel_rfl) (by kernel_rfl) (fun ι F hne hF hcl => ?_)
        have hcF0 := fun n o => (bcell (hF n)).1 (wk.heap.size) o (by first | (simp; done) | (simp; omega) | omega)
        have hcF1 := fun n o => (bcell (hF n)).1 (b) o (by first | (simp; done) | (simp; omega) | omega)
        have hcF2 := fun n o => (bcell (hF n)).1 (w.heap.size) o (by first | (simp; done) | (simp; omega) | omega)
        have HF := Lib.hid hF; clear hF
        have HC := Lib.hid hcl; clear hcl
        repeat (any_goals (first
         | go_big_quiet_step (first | (fail))
         | (refine wpQuiet_guard _ _ _ rfl rfl ?_; (fail_if_success (intro b' hb; have h2 := hb.symm; have : b' = true := h2.trans (by with_reducible rfl))); (fail_if_success (intro b' hb; have h2 := hb.symm; have : b' = false := h2.trans (by with_reducible rfl))); intro b' hb; simp only [hb]; cases b' <;> (try simp only [Bool.not_eq_true', Bool.not_eq_false', decide_eq_true_eq, decide_eq_false_iff_not, Int.not_lt, Int.not_le, Bool.and_eq_true, Bool.or_eq_true, Bool.or_eq_false_iff, beq_iff_eq, beq_eq_false_iff_ne, Int.natCast_pos] at hb))))
        all_goals (refine wpQuiet_nil ?_; intro nq)
        all_goals (try (exfalso; omega))
        have hFwf := HF.out nq
        clear HF HC hne
        generalize F nq = wf at *
        have hbf : Below w.heap.size w wf := bel_trans hbw (bel_trans hba hFwf)
        go_wp2_with fail
        go_ret
        exact ⟨ret_bool (by rw [← HY.out, HB.out (.inl (by rw [← HP.out, Bool.eq_false_iff]; intro hc; have := pairS_iff.1 hc; have := HZ.out; omega))]), hbf⟩
      have e3b : decide ((32 : Int) < (p.v.size : Int)) = false := by simp; omega
      have HPS : Hid (pairS (pth l k) = true) := Lib.hid (by rw [← HP.out, pairS_iff]; have := HZ0.out; have := HZ1.out; have := HZ2.out; omega)
      clear e3
      rcases Nat.eq_zero_or_pos k with hk0 | hk0
      · subst hk0
        rw [Nat.zero_mul, Nat.add_zero] at c0 c1
        go_wp2_with fail
        refine wp_region_fam (by kernel_rfl) (by kernel_rfl) (fun ι F hne hF hcl => ?_)
        have hcF0 := fun n o => (bcell (hF n)).1 (wk.heap.size) o (by first | (simp; done) | (simp; omega) | omega)
        have hcF1 := fun n o => (bcell (hF n)).1 (b) o (by first | (simp; done) | (simp; omega) | omega)
        have hcF2 := fun n o => (bcell (hF n)).1 (w.heap.size) o (by first | (simp; done) | (simp; omega) | omega)
        have HF := Lib.hid hF; clear hF
        have HC := Lib.hid hcl; clear hcl
        repeat (any_goals (first
         | go_big_quiet_step (first | (fail))
         | (refine wpQuiet_guard _ _ _ rfl rfl ?_; (fail_if_success (intro b' hb; have h2 := hb.symm; have : b' = true := h2.trans (by with_reducible rfl))); (fail_if_success (intro b' hb; have h2 := hb.symm; have : b' = false := h2.trans (by with_reducible rfl))); intro b' hb; simp only [hb]; cases b' <;> (try simp only [Bool.not_eq_true', Bool.not_eq_false', decide_eq_true_eq, decide_eq_false_iff_not, Int.not_lt, Int.not_le, Bool.and_eq_true, Bool.or_eq_true, Bool.or_eq_false_iff, beq_iff_eq, beq_eq_false_iff_ne, Int.natCast_pos] at hb))))
        all_goals (refine wpQuiet_nil ?_; intro nq)
        all_goals (try (exfalso; omega))
        have hFwf := HF.out nq
        clear HF HC hne
        generalize F nq = wf at *
        have hbf : Below w.heap.size w wf := bel_trans hbw (bel_trans hba hFwf)
        go_wp2_with fail
        (first | (go_round; (case rel => exact ⟨1, by omega, rfl, Lib.hid (HG.out.succ HPS.out (fun h => absurd h (by omega))), hbf, (HT.out.up hba).up hFwf⟩); (case measure => (simp [intOf] <;> omega))) | (go_roundw; (case rel => exact ⟨1, by omega, rfl, Lib.hid (HG.out.succ HPS.out (fun h => absurd h (by omega))), hbf, (HT.out.up hba).up hFwf⟩); (case measure => (simp [intOf] <;> omega))) | (refine ⟨?_, by simp [intOf] <;> omega⟩; (repeat apply Exists.intro); refine ⟨?rel, ?fr⟩; (case fr => ((repeat' apply And.intro) <;> rfl)); (case rel => exact ⟨1, by omega, rfl, Lib.hid (HG.out.succ HPS.out (fun h => absurd h (by omega))), hbf, (HT.out.up hba).up hFwf⟩)))
      · have d0 := HD.out hk0
        have hk1 : (0 : Int) < (k : Int) := by omega
        cases h3 : Op.bytesLess o.toList p.k.toList
        · have H3 := Lib.hid h3
          go_wp2_with fail
          refine wp_region_fam (by kernel_rfl) (by kernel_rfl) (fun ι F hne hF hcl => ?_)
          have hcF0 := fun n o => (bcell (hF n)).1 (wk.heap.size) o (by first | (simp; done) | (simp; omega) | omega)
          have hcF1 := fun n o => (bcell (hF n)).1 (b) o (by first | (simp; done) | (simp; omega) | omega)
          have hcF2 := fun n o => (bcell (hF n)).1 (w.heap.size) o (by first | (simp; done) | (simp; omega) | omega)
          have HF := Lib.hid hF; clear hF
          have HC := Lib.hid hcl; clear hcl
          repeat (any_goals (first
           | go_big_quiet_step (first | (fail))
           | (refine wpQuiet_guard _ _ _ rfl rfl ?_; (fail_if_success (intro b' hb; have h2 := hb.symm; have : b' = true := h2.trans (by with_reducible rfl))); (fail_if_success (intro b' hb; have h2 := hb.symm; have : b' = false := h2.trans (by with_reducible rfl))); intro b' hb; simp only [hb]; cases b' <;> (try simp only [Bool.not_eq_true', Bool.not_eq_false', decide_eq_true_eq, decide_eq_false_iff_not, Int.not_lt, Int.not_le, Bool.and_eq_true, Bool.or_eq_true, Bool.or_eq_false_iff, beq_iff_eq, beq_eq_false_iff_ne, Int.natCast_pos] at hb))))
          all_goals (refine wpQuiet_nil ?_; intro nq)
          all_goals (try (exfalso; omega))
          have hFwf := HF.out nq
          clear HF HC hne
          generalize F nq = wf at *
          have hbf : Below w.heap.size w wf := bel_trans hbw (bel_trans hba hFwf)
          go_wp2_with fail
          go_ret
          exact ⟨ret_bool (by rw [← HY.out, HB.out (.inr ⟨hk0, by rw [← HP.out, ← HO.out]; exact H3.out⟩)]), hbf⟩
        · have H3 := Lib.hid h3
          go_wp2_with fail
          refine wp_region_fam (by kernel_rfl) (by kernel_rfl) (fun ι F hne hF hcl => ?_)
          have hcF0 := fun n o => (bcell (hF n)).1 (wk.heap.size) o (by first | (simp; done) | (simp; omega) | omega)
          have hcF1 := fun n o => (bcell (hF n)).1 (b) o (by first | (simp; done) | (simp; omega) | omega)
          have hcF2 := fun n o => (bcell (hF n)).1 (w.heap.size) o (by first | (simp; done) | (simp; omega) | omega)
          have HF := Lib.hid hF; clear hF
          have HC := Lib.hid hcl; clear hcl
          repeat (any_goals (first
           | go_big_quiet_step (first | (fail))
           | (refine wpQuiet_guard _ _ _ rfl rfl ?_; (fail_if_success (intro b' hb; have h2 := hb.symm; have : b' = true := h2.trans (by with_reducible rfl))); (fail_if_success (intro b' hb; have h2 := hb.symm; have : b' = false := h2.trans (by with_reducible rfl))); intro b' hb; simp only [hb]; cases b' <;> (try simp only [Bool.not_eq_true', Bool.not_eq_false', decide_eq_true_eq, decide_eq_false_iff_not, Int.not_lt, Int.not_le, Bool.and_eq_true, Bool.or_eq_true, Bool.or_eq_false_iff, beq_iff_eq, beq_eq_false_iff_ne, Int.natCast_pos] at hb))))
          all_goals (refine wpQuiet_nil ?_; intro nq)
          all_goals (try (exfalso; omega))
          have hFwf := HF.out nq
          clear HF HC hne
          generalize F nq = wf at *
          have hbf : Below w.heap.size w wf := bel_trans hbw (bel_trans hba hFwf)
          go_wp2_with fail
          (first | (go_round; (case rel => exact ⟨k + 1, by omega, by go_num, Lib.hid (HG.out.succ HPS.out (fun _ => by rw [← HP.out, ← HO.out]; exact H3.out)), hbf, (HT.out.up hba).up hFwf⟩); (case measure => (simp [intOf] <;> omega))) | (go_roundw; (case rel => exact ⟨k + 1, by omega, by go_num, Lib.hid (HG.out.succ HPS.out (fun _ => by rw [← HP.out, ← HO.out]; exact H3.out)), hbf, (HT.out.up hba).up hFwf⟩); (case measure => (simp [intOf] <;> omega))) | (refine ⟨?_, by simp [intOf] <;> omega⟩; (repeat apply Exists.intro); refine ⟨?rel, ?fr⟩; (case fr => ((repeat' apply And.intro) <;> rfl)); (case rel => exact ⟨k + 1, by omega, by go_num, Lib.hid (HG.out.succ HPS.out (fun _ => by rw [← HP.out, ← HO.out]; exact H3.out)), hbf, (HT.out.up hba).up hFwf⟩)))
    · obtain rfl : n = k := by omega
      have HMP : Hid (MayP l) := Lib.hid ⟨by rw [HN.out]; omega, by rw [HN.out]; exact HG.out⟩
      have hwk : w.heap.size ≤ wk.heap.size := by omega
      clear HG HN
      go_wp2_with fail
      go_loopw [5] (fun ix wr => ∃ k : Nat, k ≤ m ∧ ix = .int .i64 k ∧ Hid (GoodA q k) ∧ Below w.heap.size w wr ∧ BoxR wr w.heap.size [.slice A n c, .slice B m d]) (fun ix _ => m - (intOf ix).toNat)
      case atStart => exact ⟨0, Nat.zero_le _, rfl, Lib.hid (fun j hj => absurd hj (by omega)), hbw, HT.out⟩
      case round =>
        clear t_0 t_1 hg0 HT hbw hwk
        obtain ⟨k, hk, rfl, HG, hbw, hT⟩ := hrel
        (obtain ⟨wk, hwk⟩ : ∃ x, x = wr := ⟨_, rfl⟩); subst hwk
        have hg0 := hT.1
        have HT := Lib.hid hT
        have t_0 := (hT).2 0 _ rfl; have t_1 := (hT).2 1 _ rfl
        clear hT
        by_cases hlt : k < m
        · obtain ⟨b, off, rfl, hb, hc⟩ := (HQ.out.up hbw).at (by omega)
          obtain ⟨c0, c1⟩ := hc k hlt
          have HB := Lib.hid (fun h => (by cases hm : mayT l q with | false => rfl | true => exact absurd (mayT_iff.1 hm).2 (not_goodA HM.out hlt h) : mayT l q = false))
          obtain ⟨p, hp⟩ : ∃ p, p = ath q k := ⟨_, rfl⟩
          rw [← hp] at c0 c1
          have HP := Lib.hid hp
          obtain ⟨o, ho⟩ : ∃ o, o = (ath q (k - 1)).se := ⟨_, rfl⟩
          have hd : 0 < k → wk.cell? ⟨b, off + (k - 1) * 2, none⟩ = some (.int .i64 o) := fun h => by rw [ho]; exact (hc (k - 1) (by omega)).1
          have HO := Lib.hid ho
          have HD := Lib.hid hd
          clear hc hd ho hp
          have hA : BoxR (wk.alloc (.cells #[.int .i64 p.se, .int .i64 p.sq] 87)) wk.heap.size [.int .i64 p.se, .int .i64 p.sq] := BoxR.new wk [.int .i64 p.se, .int .i64 p.sq] 87
          have hba : Below wk.heap.size wk (wk.alloc (.cells #[.int .i64 p.se, .int .i64 p.sq] 87)) := by (repeat (first | (with_reducible exact Below.refl _ _) | (with_reducible assumption) | (with_reducible apply bel_alloc) | (with_reducible apply bel_drew) | (with_reducible apply bel_drewN) | (with_reducible refine bel_trans ?_ (by with_reducible assumption)) | (with_reducible refine bel_trans ?_ (HF.out _)) | (with_reducible refine bel_set ?_ (by simp) _) | (with_reducible refine bel_set ?_ (by simp; omega) _) | (with_reducible refine bel_set ?_ (by omega) _)))
          have a_0 := (hA).2 0 _ rfl; have a_1 := (hA).2 1 _ rfl
          cases h1 : idS p.se
          · have H1 := Lib.hid h1
            clear h1
            go_wp2_with fail
            refine wp_region_fam (by kernel_rfl) (by kernel_rfl) (fun ι F hne hF hcl => ?_)
            have hcF0 := fun n o => (bcell (hF n)).1 (wk.heap.size) o (by first | (simp; done) | (simp; omega) | omega)
            have hcF1 := fun n o => (bcell (hF n)).1 (b) o (by first | (simp; done) | (simp; omega) | omega)
            have hcF2 := fun n o => (bcell (hF n)).1 (w.heap.size) o (by first | (simp; done) | (simp; omega) | omega)
            have HF := Lib.hid hF; clear hF
            have HC := Lib.hid hcl; clear hcl
            repeat (any_goals (first
             | go_big_quiet_step (first | (go_at_call 47; exact Calls.fam_same (ref22_id _ false _ H1.out)))
             | (refine wpQuiet_guard _ _ _ rfl rfl ?_; (fail_if_success (intro b' hb; have h2 := hb.symm; have : b' = true := h2.trans (by with_reducible rfl))); (fail_if_success (intro b' hb; have h2 := hb.symm; have : b' = false := h2.trans (by with_reducible rfl))); intro b' hb; simp only [hb]; cases b' <;> (try simp only [Bool.not_eq_true', Bool.not_eq_false', decide_eq_true_eq, decide_eq_false_iff_not, Int.not_lt, Int.not_le, Bool.and_eq_true, Bool.or_eq_true, Bool.or_eq_false_iff, beq_iff_eq, beq_eq_false_iff_ne, Int.natCast_pos] at hb))))
            all_goals (refine wpQuiet_nil ?_; intro nq)
            all_goals (try (exfalso; omega))
            have hFwf := HF.out nq
            clear HF HC hne
            generalize F nq = wf at *
            have hbf : Below w.heap.size w wf := bel_trans hbw (bel_trans hba hFwf)
            go_wp2_with fail
            go_ret
            exact ⟨ret_bool (by rw [← HY.out, HB.out (.inl (by rw [← HP.out]; simp [acctS, H1.out]))]), hbf⟩
          · have H1 := Lib.hid h1
            clear h1
            cases h2 : idS p.sq
            · have H2 := Lib.hid h2
              clear h2
              go_wp2_with fail
              refine wp_region_fam (by kernel_rfl) (by kernel_rfl) (fun ι F hne hF hcl => ?_)
              have hcF0 := fun n o => (bcell (hF n)).1 (wk.heap.size) o (by first | (simp; done) | (simp; omega) | omega)
              have hcF1 := fun n o => (bcell (hF n)).1 (b) o (by first | (simp; done) | (simp; omega) | omega)
              have hcF2 := fun n o => (bcell (hF n)).1 (w.heap.size) o (by first | (simp; done) | (simp; omega) | omega)
              have HF := Lib.hid hF; clear hF
              have HC := Lib.hid hcl; clear hcl
              repeat (any_goals (first
               | go_big_quiet_step (first | (go_at_call 47; exact Calls.fam_same (ref22_id _ true _ H1.out)) | (go_at_call 47; exact Calls.fam_same (ref22_id _ false _ H2.out)))
               | (refine wpQuiet_guard _ _ _ rfl rfl ?_; (fail_if_success (intro b' hb; have h2 := hb.symm; have : b' = true := h2.trans (by with_reducible rfl))); (fail_if_success (intro b' hb; have h2 := hb.symm; have : b' = false := h2.trans (by with_reducible rfl))); intro b' hb; simp only [hb]; cases b' <;> (try simp only [Bool.not_eq_true', Bool.not_eq_false', decide_eq_true_eq, decide_eq_false_iff_not, Int.not_lt, Int.not_le, Bool.and_eq_true, Bool.or_eq_true, Bool.or_eq_false_iff, beq_iff_eq, beq_eq_false_iff_ne, Int.natCast_pos] at hb))))
              all_goals (refine wpQuiet_nil ?_; intro nq)
              all_goals (try (exfalso; omega))
              have hFwf := HF.out nq
              clear HF HC hne
              generalize F nq = wf at *
              have hbf : Below w.heap.size w wf := bel_trans hbw (bel_trans hba hFwf)
              go_wp2_with fail
              go_ret
              exact ⟨ret_bool (by rw [← HY.out, HB.out (.inl (by rw [← HP.out]; simp [acctS, H1.out, H2.out]))]), hbf⟩
            · have H2 := Lib.hid h2
              clear h2
              have HPS : Hid (acctS (ath q k) = true) := Lib.hid (by rw [← HP.out]; simp [acctS, H1.out, H2.out])
              rcases Nat.eq_zero_or_pos k with hk0 | hk0
              · subst hk0
                rw [Nat.zero_mul, Nat.add_zero] at c0 c1
                go_wp2_with fail
                refine wp_region_fam (by kernel_rfl) (by kernel_rfl) (fun ι F hne hF hcl => ?_)
                have hcF0 := fun n o => (bcell (hF n)).1 (wk.heap.size) o (by first | (simp; done) | (simp; omega) | omega)
                have hcF1 := fun n o => (bcell (hF n)).1 (b) o (by first | (simp; done) | (simp; omega) | omega)
                have hcF2 := fun n o => (bcell (hF n)).1 (w.heap.size) o (by first | (simp; done) | (simp; omega) | omega)
                have HF := Lib.hid hF; clear hF
                have HC := Lib.hid hcl; clear hcl
                repeat (any_goals (first
                 | go_big_quiet_step (first | (go_at_call 47; exact Calls.fam_same (ref22_id _ true _ H1.out)) | (go_at_call 47; exact Calls.fam_same (ref22_id _ true _ H2.out)))
                 | (refine wpQuiet_guard _ _ _ rfl rfl ?_; (fail_if_success (intro b' hb; have h2 := hb.symm; have : b' = true := h2.trans (by with_reducible rfl))); (fail_if_success (intro b' hb; have h2 := hb.symm; have : b' = false := h2.trans (by with_reducible rfl))); intro b' hb; simp only [hb]; cases b' <;> (try simp only [Bool.not_eq_true', Bool.not_eq_false', decide_eq_true_eq, decide_eq_false_iff_not, Int.not_lt, Int.not_le, Bool.and_eq_true, Bool.or_eq_true, Bool.or_eq_false_iff, beq_iff_eq, beq_eq_false_iff_ne, Int.natCast_pos] at hb))))
                all_goals (refine wpQuiet_nil ?_; intro nq)
                all_goals (try (exfalso; omega))
                have hFwf := HF.out nq
                clear HF HC hne
                generalize F nq = wf at *
                have hbf : Below w.heap.size w wf := bel_trans hbw (bel_trans hba hFwf)
                go_wp2_with fail
                (first | (go_round; (case rel => exact ⟨1, by omega, rfl, Lib.hid (HG.out.succ HPS.out (fun h => absurd h (by omega))), hbf, (HT.out.up hba).up hFwf⟩); (case measure => (simp [intOf] <;> omega))) | (go_roundw; (case rel => exact ⟨1, by omega, rfl, Lib.hid (HG.out.succ HPS.out (fun h => absurd h (by omega))), hbf, (HT.out.up hba).up hFwf⟩); (case measure => (simp [intOf] <;> omega))) | (refine ⟨?_, by simp [intOf] <;> omega⟩; (repeat apply Exists.intro); refine ⟨?rel, ?fr⟩; (case fr => ((repeat' apply And.intro) <;> rfl)); (case rel => exact ⟨1, by omega, rfl, Lib.hid (HG.out.succ HPS.out (fun h => absurd h (by omega))), hbf, (HT.out.up hba).up hFwf⟩)))
              · have d0 := HD.out hk0
                have hk1 : (0 : Int) < (k : Int) := by omega
                by_cases h3 : o < p.se
                · have h3b : decide (p.se ≤ o) = false := by simp; omega
                  have H3 := Lib.hid h3
                  clear h3
                  go_wp2_with fail
                  refine wp_region_fam (by kernel_rfl) (by kernel_rfl) (fun ι F hne hF hcl => ?_)
                  have hcF0 := fun n o => (bcell (hF n)).1 (wk.heap.size) o (by first | (simp; done) | (simp; omega) | omega)
                  have hcF1 := fun n o => (bcell (hF n)).1 (b) o (by first | (simp; done) | (simp; omega) | omega)
                  have hcF2 := fun n o => (bcell (hF n)).1 (w.heap.size) o (by first | (simp; done) | (simp; omega) | omega)
                  have HF := Lib.hid hF; clear hF
                  have HC := Lib.hid hcl; clear hcl
                  repeat (any_goals (first
                   | go_big_quiet_step (first | (go_at_call 47; exact Calls.fam_same (ref22_id _ true _ H1.out)) | (go_at_call 47; exact Calls.fam_same (ref22_id _ true _ H2.out)))
                   | (refine wpQuiet_guard _ _ _ rfl rfl ?_; (fail_if_success (intro b' hb; have h2 := hb.symm; have : b' = true := h2.trans (by with_reducible rfl))); (fail_if_success (intro b' hb; have h2 := hb.symm; have : b' = false := h2.trans (by with_reducible rfl))); intro b' hb; simp only [hb]; cases b' <;> (try simp only [Bool.not_eq_true', Bool.not_eq_false', decide_eq_true_eq, decide_eq_false_iff_not, Int.not_lt, Int.not_le, Bool.and_eq_true, Bool.or_eq_true, Bool.or_eq_false_iff, beq_iff_eq, beq_eq_false_iff_ne, Int.natCast_pos] at hb))))
                  all_goals (refine wpQuiet_nil ?_; intro nq)
                  all_goals (try (exfalso; omega))
                  have hFwf := HF.out nq
                  clear HF HC hne
                  generalize F nq = wf at *
                  have hbf : Below w.heap.size w wf := bel_trans hbw (bel_trans hba hFwf)
                  go_wp2_with fail
                  (first | (go_round; (case rel => exact ⟨k + 1, by omega, by go_num, Lib.hid (HG.out.succ HPS.out (fun _ => by rw [← HP.out, ← HO.out]; exact H3.out)), hbf, (HT.out.up hba).up hFwf⟩); (case measure => (simp [intOf] <;> omega))) | (go_roundw; (case rel => exact ⟨k + 1, by omega, by go_num, Lib.hid (HG.out.succ HPS.out (fun _ => by rw [← HP.out, ← HO.out]; exact H3.out)), hbf, (HT.out.up hba).up hFwf⟩); (case measure => (simp [intOf] <;> omega))) | (refine ⟨?_, by simp [intOf] <;> omega⟩; (repeat apply Exists.intro); refine ⟨?rel, ?fr⟩; (case fr => ((repeat' apply And.intro) <;> rfl)); (case rel => exact ⟨k + 1, by omega, by go_num, Lib.hid (HG.out.succ HPS.out (fun _ => by rw [← HP.out, ← HO.out]; exact H3.out)), hbf, (HT.out.up hba).up hFwf⟩)))
                · have h3b : decide (p.se ≤ o) = true := by simp; omega
                  have H3 := Lib.hid h3
                  clear h3
                  go_wp2_with fail
                  refine wp_region_fam (by kernel_rfl) (by kernel_rfl) (fun ι F hne hF hcl => ?_)
                  have hcF0 := fun n o => (bcell (hF n)).1 (wk.heap.size) o (by first | (simp; done) | (simp; omega) | omega)
                  have hcF1 := fun n o => (bcell (hF n)).1 (b) o (by first | (simp; done) | (simp; omega) | omega)
                  have hcF2 := fun n o => (bcell (hF n)).1 (w.heap.size) o (by first | (simp; done) | (simp; omega) | omega)
                  have HF := Lib.hid hF; clear hF
                  have HC := Lib.hid hcl; clear hcl
                  repeat (any_goals (first
                   | go_big_quiet_step (first | (go_at_call 47; exact Calls.fam_same (ref22_id _ true _ H1.out)) | (go_at_call 47; exact Calls.fam_same (ref22_id _ true _ H2.out)))
                   | (refine wpQuiet_guard _ _ _ rfl rfl ?_; (fail_if_success (intro b' hb; have h2 := hb.symm; have : b' = true := h2.trans (by with_reducible rfl))); (fail_if_success (intro b' hb; have h2 := hb.symm; have : b' = false := h2.trans (by with_reducible rfl))); intro b' hb; simp only [hb]; cases b' <;> (try simp only [Bool.not_eq_true', Bool.not_eq_false', decide_eq_true_eq, decide_eq_false_iff_not, Int.not_lt, Int.not_le, Bool.and_eq_true, Bool.or_eq_true, Bool.or_eq_false_iff, beq_iff_eq, beq_eq_false_iff_ne, Int.natCast_pos] at hb))))
                  all_goals (refine wpQuiet_nil ?_; intro nq)
                  all_goals (try (exfalso; omega))
                  have hFwf := HF.out nq
                  clear HF HC hne
                  generalize F nq = wf at *
                  have hbf : Below w.heap.size w wf := bel_trans hbw (bel_trans hba hFwf)
                  go_wp2_with fail
                  go_ret
                  exact ⟨ret_bool (by rw [← HY.out, HB.out (.inr ⟨hk0, by rw [← HP.out, ← HO.out]; exact H3.out⟩)]), hbf⟩
        · obtain rfl : k = m := by omega
          go_wp2_with fail
          go_ret
          refine ⟨ret_bool ?_, hbw⟩
          rw [← HY.out]
          exact dec_true ⟨HMP.out, by rw [HM.out]; omega, by rw [HM.out]; exact HG.out⟩
end Go.Proofs.Ytbakkpabiknlmaa
