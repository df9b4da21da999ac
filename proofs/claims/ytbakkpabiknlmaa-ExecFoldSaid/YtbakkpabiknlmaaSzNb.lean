/- Tables: transactions, numbers, what pairs may be. -/
import Derived.Test.YtbakkpabiknlmaaSzNa
namespace Go.Proofs.Ytbakkpabiknlmaa
open Go.RowKit
set_option linter.unusedSimpArgs false
set_option linter.unusedVariables false

structure TxD where
  se : Int
  sq : Int
  k : ByteArray
  v : ByteArray
def idS (n : Int) : Bool := decide (1 ≤ n ∧ n ≤ 1099511627776)
theorem idS_iff {n : Int} : idS n = true ↔ (1 ≤ n ∧ n ≤ 1099511627776) := by simp [idS]
set_option maxRecDepth 100000 in
set_option maxHeartbeats 1000000 in
theorem table_number (n : Int) (y : Bool) (w : World) (hy : idS n = y) : Calls Try.prog 55 #[.int .i64 n] w fun e w' => e = .returned (.bool y) ∧ w = w' := by
  subst hy
  go_enter Try.func55, Try.ntmps55
  go_wp2
  all_goals (go_ret; refine ⟨ret_bool ?_, rfl⟩; rw [Bool.eq_iff_iff, idS_iff]; simp; try omega)
set_option maxRecDepth 100000 in
set_option maxHeartbeats 1000000 in
theorem ref22_id (n : Int) (y : Bool) (w : World) (hy : idS n = y) : Calls Try.prog 47 #[.int .i64 n] w fun e w' => e = .returned (.bool y) ∧ w = w' := by
  subst hy
  go_enter Try.func47, Try.ntmps47
  go_wp2
  all_goals (go_ret; refine ⟨ret_bool ?_, rfl⟩; rw [Bool.eq_iff_iff, idS_iff]; simp; try omega)
set_option maxRecDepth 100000 in
set_option maxHeartbeats 1000000 in
theorem ref4_id (n : Int) (y : Bool) (w : World) (hy : idS n = y) : Calls Try.prog 48 #[.int .i64 n] w fun e w' => e = .returned (.bool y) ∧ w = w' := by
  subst hy
  go_enter Try.func48, Try.ntmps48
  go_wp2
  all_goals (go_ret; refine ⟨ret_bool ?_, rfl⟩; rw [Bool.eq_iff_iff, idS_iff]; simp; try omega)
theorem toList_nil {a : ByteArray} : a.toList = [] ↔ a.size = 0 := by
  rw [ByteArray.toList_eq]
  obtain ⟨⟨x⟩⟩ := a
  simp [ByteArray.size]
def txS (x : TxD) : Bool := decide (1 ≤ x.se ∧ x.se ≤ 1099511627776 ∧ 1 ≤ x.sq ∧ x.sq ≤ 1099511627776 ∧ 1 ≤ x.k.size ∧ x.k.size ≤ 16 ∧ x.v.size ≤ 32)
theorem txS_iff {x : TxD} : txS x = true ↔ (1 ≤ x.se ∧ x.se ≤ 1099511627776 ∧ 1 ≤ x.sq ∧ x.sq ≤ 1099511627776 ∧ 1 ≤ x.k.size ∧ x.k.size ≤ 16 ∧ x.v.size ≤ 32) := by simp [txS]
set_option maxRecDepth 100000 in
set_option maxHeartbeats 1000000 in
theorem batch_MayTx (x : TxD) (y : Bool) (w : World) (hy : txS x = y) : Calls Try.prog 59 #[.agg #[.int .i64 x.se, .int .i64 x.sq, .string x.k, .string x.v]] w fun e w' => e = .returned (.bool y) ∧ Below w.heap.size w w' := by
  subst hy
  by_cases h0 : x.k.toList = []
  · have h1 := toList_nil.1 h0
    go_enter Try.func59, Try.ntmps59
    go_wp2_with fail
    all_goals (go_ret; refine ⟨ret_bool ?_, by (repeat (first | (with_reducible exact Below.refl _ _) | (with_reducible assumption) | (with_reducible apply bel_alloc) | (with_reducible apply bel_drew) | (with_reducible apply bel_drewN) | (with_reducible refine bel_trans ?_ (by with_reducible assumption)) | (with_reducible refine bel_trans ?_ (HF.out _)) | (with_reducible refine bel_set ?_ (by simp) _) | (with_reducible refine bel_set ?_ (by simp; omega) _) | (with_reducible refine bel_set ?_ (by omega) _)))⟩; rw [Bool.eq_iff_iff, txS_iff]; simp [h0]; try omega)
  · have h1 : ¬ x.k.size = 0 := fun h => h0 (toList_nil.2 h)
    go_enter Try.func59, Try.ntmps59
    go_wp2_with fail
    all_goals (go_ret; refine ⟨ret_bool ?_, by (repeat (first | (with_reducible exact Below.refl _ _) | (with_reducible assumption) | (with_reducible apply bel_alloc) | (with_reducible apply bel_drew) | (with_reducible apply bel_drewN) | (with_reducible refine bel_trans ?_ (by with_reducible assumption)) | (with_reducible refine bel_trans ?_ (HF.out _)) | (with_reducible refine bel_set ?_ (by simp) _) | (with_reducible refine bel_set ?_ (by simp; omega) _) | (with_reducible refine bel_set ?_ (by omega) _)))⟩; rw [Bool.eq_iff_iff, txS_iff]; simp [h0]; try omega)
set_option maxRecDepth 100000 in
set_option maxHeartbeats 1000000 in
theorem ref4_Tx (x : TxD) (y : Bool) (w : World) (hy : txS x = y) : Calls Try.prog 63 #[.agg #[.int .i64 x.se, .int .i64 x.sq, .string x.k, .string x.v]] w fun e w' => e = .returned (.bool y) ∧ Below w.heap.size w w' := by
  subst hy
  go_enter Try.func63, Try.ntmps63
  go_wp2_with (go_at_call 48; refine (ref4_id _ _ _ rfl).mono ?_; rintro e w' ⟨rfl, rfl⟩)
  all_goals (go_ret; refine ⟨ret_bool ?_, by (repeat (first | (with_reducible exact Below.refl _ _) | (with_reducible assumption) | (with_reducible apply bel_alloc) | (with_reducible apply bel_drew) | (with_reducible apply bel_drewN) | (with_reducible refine bel_trans ?_ (by with_reducible assumption)) | (with_reducible refine bel_trans ?_ (HF.out _)) | (with_reducible refine bel_set ?_ (by simp) _) | (with_reducible refine bel_set ?_ (by simp; omega) _) | (with_reducible refine bel_set ?_ (by omega) _)))⟩; go_light; rw [Bool.eq_iff_iff, txS_iff]; simp_all [idS]; try omega)
def pairS (p : PairD) : Bool := decide (1 ≤ p.k.size ∧ p.k.size ≤ 16 ∧ 1 ≤ p.v.size ∧ p.v.size ≤ 32)
theorem pairS_iff {p : PairD} : pairS p = true ↔ (1 ≤ p.k.size ∧ p.k.size ≤ 16 ∧ 1 ≤ p.v.size ∧ p.v.size ≤ 32) := by simp [pairS]
def GoodP (l : List PairD) (k : Nat) : Prop := ∀ j, j < k → pairS (pth l j) = true ∧ (0 < j → ltK (pth l (j - 1)).k (pth l j).k = true)
def MayP (l : List PairD) : Prop := l.length ≤ 4096 ∧ GoodP l l.length
noncomputable def mayP (l : List PairD) : Bool := dec (MayP l)
theorem mayP_iff {l : List PairD} : mayP l = true ↔ MayP l := dec_iff
theorem GoodP.succ {l : List PairD} {k : Nat} (h : GoodP l k) (h1 : pairS (pth l k) = true) (h2 : 0 < k → ltK (pth l (k - 1)).k (pth l k).k = true) : GoodP l (k + 1) := fun j hj => by
  rcases Nat.lt_or_ge j k with h3 | h3
  · exact h j h3
  · obtain rfl : j = k := by omega
    exact ⟨h1, h2⟩
set_option maxRecDepth 100000 in
set_option maxHeartbeats 4000000 in
theorem table_pairs (A : Option Addr) (n c : Nat) (l : List PairD) (y : Bool) (w : World) (hl : PairsR w A n l) (hy : mayP l = y) : Calls Try.prog 56 #[.slice A n c] w fun e w' => e = .returned (.bool y) ∧ Below w.heap.size w w' := by
  have HY := Lib.hid hy
  have HL := Lib.hid hl
  have HN := Lib.hid hl.1
  have hnn : n ≤ 9223372036854775807 := hl.2.2.1
  clear hy hl
  go_enter Try.func56, Try.ntmps56
  go_wp2_with fail
  go_loopw [7] (fun ix wr => ∃ k : Nat, k ≤ n ∧ ix = .int .i64 k ∧ Hid (GoodP l k) ∧ Below w.heap.size w wr) (fun ix _ => n - (intOf ix).toNat)
  case atStart => exact ⟨0, Nat.zero_le _, rfl, Lib.hid (fun j hj => absurd hj (by omega)), Below.refl _ _⟩
  case round =>
    obtain ⟨k, hk, rfl, HG, hbw⟩ := hrel
    (obtain ⟨wk, hwk⟩ : ∃ x, x = wr := ⟨_, rfl⟩); subst hwk
    by_cases hlt : k < n
    · obtain ⟨b, off, rfl, hb, hc⟩ := (HL.out.up hbw).at (by omega)
      obtain ⟨c0, c1⟩ := hc k hlt
      have hbad : pairS (pth l k) = false ∨ (0 < k ∧ ltK (pth l (k - 1)).k (pth l k).k = false) → mayP l = false := fun h => by
        cases hm : mayP l
        · rfl
        · have := (mayP_iff.1 hm).2 k (by rw [HN.out]; exact hlt)
          rcases h with h | ⟨h, h2⟩
          · rw [this.1] at h; cases h
          · rw [this.2 h] at h2; cases h2
      have HB := Lib.hid hbad
      obtain ⟨p, hp⟩ : ∃ p, p = pth l k := ⟨_, rfl⟩
      rw [← hp] at c0 c1
      have HP := Lib.hid hp
      obtain ⟨q, hq⟩ : ∃ q, q = (pth l (k - 1)).k := ⟨_, rfl⟩
      have hd : 0 < k → wk.cell? ⟨b, off + (k - 1) * 2, none⟩ = some (.string q) := fun h => by rw [hq]; exact (hc (k - 1) (by omega)).1
      have HQ0 := Lib.hid hq
      have HD := Lib.hid hd
      clear hc hd hq
      have hA : BoxR (wk.alloc (.cells #[.string p.k, .string p.v] 85)) wk.heap.size [.string p.k, .string p.v] := BoxR.new wk [.string p.k, .string p.v] 85
      have hba : Below wk.heap.size wk (wk.alloc (.cells #[.string p.k, .string p.v] 85)) := by (repeat (first | (with_reducible exact Below.refl _ _) | (with_reducible assumption) | (with_reducible apply bel_alloc) | (with_reducible apply bel_drew) | (with_reducible apply bel_drewN) | (with_reducible refine bel_trans ?_ (by with_reducible assumption)) | (with_reducible refine bel_trans ?_ (HF.out _)) | (with_reducible refine bel_set ?_ (by simp) _) | (with_reducible refine bel_set ?_ (by simp; omega) _) | (with_reducible refine bel_set ?_ (by omega) _)))
      clear hbad hp
      go_wp2_with fail
      by_cases e0 : p.k.toList = []
      · have e0b : (p.k.toList == []) = true := by simpa using e0
        have HZ : Hid (p.k.size = 0) := Lib.hid (toList_nil.1 e0)
        have a_0 := (hA).2 0 _ rfl; have a_1 := (hA).2 1 _ rfl
        go_wp2_with fail
        refine wp_region_fam (by kernel_rfl) (by kernel_rfl) (fun ι F hne hF hcl => ?_)
        have hcF0 := fun n o => (bcell (hF n)).1 (wk.heap.size) o (by first | (simp; done) | (simp; omega) | omega)
        have hcF1 := fun n o => (bcell (hF n)).1 (b) o (by first | (simp; done) | (simp; omega) | omega)
        have HF := Lib.hid hF; clear hF
        have HC := Lib.hid hcl; clear hcl
        repeat (any_goals (first
         | go_big_quiet_step (first | (fail))
         | (refine wpQuiet_guard _ _ _ rfl rfl ?_; (fail_if_success (intro b' hb; have h2 := hb.symm; have : b' = true := h2.trans (by with_reducible rfl))); (fail_if_success (intro b' hb; have h2 := hb.symm; have : b' = false := h2.trans (by with_reducible rfl))); intro b' hb; simp only [hb]; cases b' <;> (try simp only [Bool.not_eq_true', Bool.not_eq_false', decide_eq_true_eq, decide_eq_false_iff_not, Int.not_lt, Int.not_le, Bool.and_eq_true, Bool.or_eq_true, Bool.or_eq_false_iff, beq_iff_eq, beq_eq_false_iff_ne, Int.natCast_pos] at hb))))
        all_goals (refine wpQuiet_nil ?_; intro nq)
        all_goals (try (exfalso; omega))
        have hFwf := HF.out nq
        clear HF HC hne
        generalize F nq = wf at *
        have hbf : Below w.heap.size w wf := bel_trans hbw (bel_trans hba hFwf)
        go_wp2_with fail
        go_ret
        exact ⟨ret_bool (by rw [← HY.out, HB.out (.inl (by rw [← HP.out, Bool.eq_false_iff]; intro hc; have := pairS_iff.1 hc; have := HZ.out; omega))]), hbf⟩
      · have e0b : (p.k.toList == []) = false := by simpa using e0
        have hk0 : ¬ p.k.size = 0 := fun h => e0 (toList_nil.2 h)
        have HK0 := Lib.hid hk0
        clear hk0
        by_cases e1 : 16 < p.k.size
        · have e1b : decide ((16 : Int) < (p.k.size : Int)) = true := by simp; omega
          have HZ : Hid (16 < p.k.size) := Lib.hid e1
          clear e1
          have a_0 := (hA).2 0 _ rfl; have a_1 := (hA).2 1 _ rfl
          go_wp2_with fail
          refine wp_region_fam (by kernel_rfl) (by kernel_rfl) (fun ι F hne hF hcl => ?_)
          have hcF0 := fun n o => (bcell (hF n)).1 (wk.heap.size) o (by first | (simp; done) | (simp; omega) | omega)
          have hcF1 := fun n o => (bcell (hF n)).1 (b) o (by first | (simp; done) | (simp; omega) | omega)
          have HF := Lib.hid hF; clear hF
          have HC := Lib.hid hcl; clear hcl
          repeat (any_goals (first
           | go_big_quiet_step (first | (fail))
           | (refine wpQuiet_guard _ _ _ rfl rfl ?_; (fail_if_success (intro b' hb; have h2 := hb.symm; have : b' = true := h2.trans (by with_reducible rfl))); (fail_if_success (intro b' hb; have h2 := hb.symm; have : b' = false := h2.trans (by with_reducible rfl))); intro b' hb; simp only [hb]; cases b' <;> (try simp only [Bool.not_eq_true', Bool.not_eq_false', decide_eq_true_eq, decide_eq_false_iff_not, Int.not_lt, Int.not_le, Bool.and_eq_true, Bool.or_eq_true, Bool.or_eq_false_iff, beq_iff_eq, beq_eq_false_iff_ne, Int.natCast_pos] at hb))))
          all_goals (refine wpQuiet_nil ?_; intro nq)
          all_goals (try (exfalso; omega))
          have hFwf := HF.out nq
          clear HF HC hne
          generalize F nq = wf at *
          have hbf : Below w.heap.size w wf := bel_trans hbw (bel_trans hba hFwf)
          go_wp2_with fail
          go_ret
          exact ⟨ret_bool (by rw [← HY.out, HB.out (.inl (by rw [← HP.out, Bool.eq_false_iff]; intro hc; have := pairS_iff.1 hc; have := HZ.out; omega))]), hbf⟩
        · have e1b : decide ((16 : Int) < (p.k.size : Int)) = false := by simp; omega
          have HK1 := Lib.hid e1
          clear e1
          by_cases e2 : p.v.toList = []
          · have e2b : (p.v.toList == []) = true := by simpa using e2
            have HZ : Hid (p.v.size = 0) := Lib.hid (toList_nil.1 e2)
            have a_0 := (hA).2 0 _ rfl; have a_1 := (hA).2 1 _ rfl
            go_wp2_with fail
            refine wp_region_fam (by kernel_rfl) (by kernel_rfl) (fun ι F hne hF hcl => ?_)
            have hcF0 := fun n o => (bcell (hF n)).1 (wk.heap.size) o (by first | (simp; done) | (simp; omega) | omega)
            have hcF1 := fun n o => (bcell (hF n)).1 (b) o (by first | (simp; done) | (simp; omega) | omega)
            have HF := Lib.hid hF; clear hF
            have HC := Lib.hid hcl; clear hcl
            repeat (any_goals (first
             | go_big_quiet_step (first | (fail))
             | (refine wpQuiet_guard _ _ _ rfl rfl ?_; (fail_if_success (intro b' hb; have h2 := hb.symm; have : b' = true := h2.trans (by with_reducible rfl))); (fail_if_success (intro b' hb; have h2 := hb.symm; have : b' = false := h2.trans (by with_reducible rfl))); intro b' hb; simp only [hb]; cases b' <;> (try simp only [Bool.not_eq_true', Bool.not_eq_false', decide_eq_true_eq, decide_eq_false_iff_not, Int.not_lt, Int.not_le, Bool.and_eq_true, Bool.or_eq_true, Bool.or_eq_false_iff, beq_iff_eq, beq_eq_false_iff_ne, Int.natCast_pos] at hb))))
            all_goals (refine wpQuiet_nil ?_; intro nq)
            all_goals (try (exfalso; omega))
            have hFwf := HF.out nq
            clear HF HC hne
            generalize F nq = wf at *
            have hbf : Below w.heap.size w wf := bel_trans hbw (bel_trans hba hFwf)
            go_wp2_with fail
            go_ret
            exact ⟨ret_bool (by rw [← HY.out, HB.out (.inl (by rw [← HP.out, Bool.eq_false_iff]; intro hc; have := pairS_iff.1 hc; have := HZ.out; omega))]), hbf⟩
          · have e2b : (p.v.toList == []) = false := by simpa using e2
            have hv0 : ¬ p.v.size = 0 := fun h => e2 (toList_nil.2 h)
            have HV0 := Lib.hid hv0
            clear hv0
            by_cases e3 : 32 < p.v.size
            · have e3b : decide ((32 : Int) < (p.v.size : Int)) = true := by simp; omega
              have HZ : Hid (32 < p.v.size) := Lib.hid e3
              clear e3
              have a_0 := (hA).2 0 _ rfl; have a_1 := (hA).2 1 _ rfl
              go_wp2_with fail
              refine wp_region_fam (by kernel_rfl) (by kernel_rfl) (fun ι F hne hF hcl => ?_)
              have hcF0 := fun n o => (bcell (hF n)).1 (wk.heap.size) o (by first | (simp; done) | (simp; omega) | omega)
              have hcF1 := fun n o => (bcell (hF n)).1 (b) o (by first | (simp; done) | (simp; omega) | omega)
              have HF := Lib.hid hF; clear hF
              have HC := Lib.hid hcl; clear hcl
              repeat (any_goals (first
               | go_big_quiet_step (first | (fail))
               | (refine wpQuiet_guard _ _ _ rfl rfl ?_; (fail_if_success (intro b' hb; have h2 := hb.symm; have : b' = true := h2.trans (by with_reducible rfl))); (fail_if_success (intro b' hb; have h2 := hb.symm; have : b' = false := h2.trans (by with_reducible rfl))); intro b' hb; simp only [hb]; cases b' <;> (try simp only [Bool.not_eq_true', Bool.not_eq_false', decide_eq_true_eq, decide_eq_false_iff_not, Int.not_lt, Int.not_le, Bool.and_eq_true, Bool.or_eq_true, Bool.or_eq_false_iff, beq_iff_eq, beq_eq_false_iff_ne, Int.natCast_pos] at hb))))
              all_goals (refine wpQuiet_nil ?_; intro nq)
              all_goals (try (exfalso; omega))
              have hFwf := HF.out nq
              clear HF HC hne
              generalize F nq = wf at *
              have hbf : Below w.heap.size w wf := bel_trans hbw (bel_trans hba hFwf)
              go_wp2_with fail
              go_ret
              exact ⟨ret_bool (by rw [← HY.out, HB.out (.inl (by rw [← HP.out, Bool.eq_false_iff]; intro hc; have := pairS_iff.1 hc; have := HZ.out; omega))]), hbf⟩
            · have e3b : decide ((32 : Int) < (p.v.size : Int)) = false := by simp; omega
              have HPS : Hid (pairS (pth l k) = true) := Lib.hid (by rw [← HP.out, pairS_iff]; have := HK0.out; have := HK1.out; have := HV0.out; omega)
              clear e3
              rcases Nat.eq_zero_or_pos k with hk0 | hk0
              · subst hk0
                rw [Nat.zero_mul, Nat.add_zero] at c0 c1
                have a_0 := (hA).2 0 _ rfl; have a_1 := (hA).2 1 _ rfl
                go_wp2_with fail
                refine wp_region_fam (by kernel_rfl) (by kernel_rfl) (fun ι F hne hF hcl => ?_)
                have hcF0 := fun n o => (bcell (hF n)).1 (wk.heap.size) o (by first | (simp; done) | (simp; omega) | omega)
                have hcF1 := fun n o => (bcell (hF n)).1 (b) o (by first | (simp; done) | (simp; omega) | omega)
                have HF := Lib.hid hF; clear hF
                have HC := Lib.hid hcl; clear hcl
                repeat (any_goals (first
                 | go_big_quiet_step (first | (fail))
                 | (refine wpQuiet_guard _ _ _ rfl rfl ?_; (fail_if_success (intro b' hb; have h2 := hb.symm; have : b' = true := h2.trans (by with_reducible rfl))); (fail_if_success (intro b' hb; have h2 := hb.symm; have : b' = false := h2.trans (by with_reducible rfl))); intro b' hb; simp only [hb]; cases b' <;> (try simp only [Bool.not_eq_true', Bool.not_eq_false', decide_eq_true_eq, decide_eq_false_iff_not, Int.not_lt, Int.not_le, Bool.and_eq_true, Bool.or_eq_true, Bool.or_eq_false_iff, beq_iff_eq, beq_eq_false_iff_ne, Int.natCast_pos] at hb))))
                all_goals (refine wpQuiet_nil ?_; intro nq)
                all_goals (try (exfalso; omega))
                have hFwf := HF.out nq
                clear HF HC hne
                generalize F nq = wf at *
                have hbf : Below w.heap.size w wf := bel_trans hbw (bel_trans hba hFwf)
                go_wp2_with fail
                (first | (go_round; (case rel => exact ⟨1, by omega, rfl, Lib.hid (HG.out.succ HPS.out (fun h => absurd h (by omega))), hbf⟩); (case measure => (simp [intOf] <;> omega))) | (go_roundw; (case rel => exact ⟨1, by omega, rfl, Lib.hid (HG.out.succ HPS.out (fun h => absurd h (by omega))), hbf⟩); (case measure => (simp [intOf] <;> omega))) | (refine ⟨?_, by simp [intOf] <;> omega⟩; (repeat apply Exists.intro); refine ⟨?rel, ?fr⟩; (case fr => ((repeat' apply And.intro) <;> rfl)); (case rel => exact ⟨1, by omega, rfl, Lib.hid (HG.out.succ HPS.out (fun h => absurd h (by omega))), hbf⟩)))
              · have d0 := HD.out hk0
                have hk1 : (0 : Int) < (k : Int) := by omega
                cases hq : ltK q p.k
                · have hq2 : Op.bytesLess q.toList p.k.toList = false := hq
                  have HQ := Lib.hid hq
                  clear hq
                  have a_0 := (hA).2 0 _ rfl; have a_1 := (hA).2 1 _ rfl
                  go_wp2_with fail
                  refine wp_region_fam (by kernel_rfl) (by kernel_rfl) (fun ι F hne hF hcl => ?_)
                  have hcF0 := fun n o => (bcell (hF n)).1 (wk.heap.size) o (by first | (simp; done) | (simp; omega) | omega)
                  have hcF1 := fun n o => (bcell (hF n)).1 (b) o (by first | (simp; done) | (simp; omega) | omega)
                  have HF := Lib.hid hF; clear hF
                  have HC := Lib.hid hcl; clear hcl
                  repeat (any_goals (first
                   | go_big_quiet_step (first | (fail))
                   | (refine wpQuiet_guard _ _ _ rfl rfl ?_; (fail_if_success (intro b' hb; have h2 := hb.symm; have : b' = true := h2.trans (by with_reducible rfl))); (fail_if_success (intro b' hb; have h2 := hb.symm; have : b' = false := h2.trans (by with_reducible rfl))); intro b' hb; simp only [hb]; cases b' <;> (try simp only [Bool.not_eq_true', Bool.not_eq_false', decide_eq_true_eq, decide_eq_false_iff_not, Int.not_lt, Int.not_le, Bool.and_eq_true, Bool.or_eq_true, Bool.or_eq_false_iff, beq_iff_eq, beq_eq_false_iff_ne, Int.natCast_pos] at hb))))
                  all_goals (refine wpQuiet_nil ?_; intro nq)
                  all_goals (try (exfalso; omega))
                  have hFwf := HF.out nq
                  clear HF HC hne
                  generalize F nq = wf at *
                  have hbf : Below w.heap.size w wf := bel_trans hbw (bel_trans hba hFwf)
                  go_wp2_with fail
                  go_ret
                  exact ⟨ret_bool (by rw [← HY.out, HB.out (.inr ⟨hk0, by rw [← HP.out, ← HQ0.out]; exact HQ.out⟩)]), hbf⟩
                · have hq2 : Op.bytesLess q.toList p.k.toList = true := hq
                  have HQ := Lib.hid hq
                  clear hq
                  have a_0 := (hA).2 0 _ rfl; have a_1 := (hA).2 1 _ rfl
                  go_wp2_with fail
                  refine wp_region_fam (by kernel_rfl) (by kernel_rfl) (fun ι F hne hF hcl => ?_)
                  have hcF0 := fun n o => (bcell (hF n)).1 (wk.heap.size) o (by first | (simp; done) | (simp; omega) | omega)
                  have hcF1 := fun n o => (bcell (hF n)).1 (b) o (by first | (simp; done) | (simp; omega) | omega)
                  have HF := Lib.hid hF; clear hF
                  have HC := Lib.hid hcl; clear hcl
                  repeat (any_goals (first
                   | go_big_quiet_step (first | (fail))
                   | (refine wpQuiet_guard _ _ _ rfl rfl ?_; (fail_if_success (intro b' hb; have h2 := hb.symm; have : b' = true := h2.trans (by with_reducible rfl))); (fail_if_success (intro b' hb; have h2 := hb.symm; have : b' = false := h2.trans (by with_reducible rfl))); intro b' hb; simp only [hb]; cases b' <;> (try simp only [Bool.not_eq_true', Bool.not_eq_false', decide_eq_true_eq, decide_eq_false_iff_not, Int.not_lt, Int.not_le, Bool.and_eq_true, Bool.or_eq_true, Bool.or_eq_false_iff, beq_iff_eq, beq_eq_false_iff_ne, Int.natCast_pos] at hb))))
                  all_goals (refine wpQuiet_nil ?_; intro nq)
                  all_goals (try (exfalso; omega))
                  have hFwf := HF.out nq
                  clear HF HC hne
                  generalize F nq = wf at *
                  have hbf : Below w.heap.size w wf := bel_trans hbw (bel_trans hba hFwf)
                  go_wp2_with fail
                  (first | (go_round; (case rel => exact ⟨k + 1, by omega, by go_num, Lib.hid (HG.out.succ HPS.out (fun _ => by rw [← HP.out, ← HQ0.out]; exact HQ.out)), hbf⟩); (case measure => (simp [intOf] <;> omega))) | (go_roundw; (case rel => exact ⟨k + 1, by omega, by go_num, Lib.hid (HG.out.succ HPS.out (fun _ => by rw [← HP.out, ← HQ0.out]; exact HQ.out)), hbf⟩); (case measure => (simp [intOf] <;> omega))) | (refine ⟨?_, by simp [intOf] <;> omega⟩; (repeat apply Exists.intro); refine ⟨?rel, ?fr⟩; (case fr => ((repeat' apply And.intro) <;> rfl)); (case rel => exact ⟨k + 1, by omega, by go_num, Lib.hid (HG.out.succ HPS.out (fun _ => by rw [← HP.out, ← HQ0.out]; exact HQ.out)), hbf⟩)))
    · obtain rfl : k = n := by omega
      go_wp2_with fail
      go_ret
      refine ⟨ret_bool ?_, hbw⟩
      rw [← HY.out, Bool.eq_iff_iff, mayP_iff, decide_eq_true_eq]
      constructor
      · intro h; exact ⟨by rw [HN.out]; omega, by rw [HN.out]; exact HG.out⟩
      · intro h; have := h.1; rw [HN.out] at this; omega
end Go.Proofs.Ytbakkpabiknlmaa
