/- Fetch: where a row stands among rows: at the reference, at the program; wants copied, the same. -/
import Derived.Test.YtnngeaibdnnpoaaSkHd
namespace Go.Proofs.Ytnngeaibdnnpoaa
open Go.RowKit
set_option linter.unusedSimpArgs false
set_option linter.unusedVariables false

def posQ (k d : Int) : List FRowD → Nat
  | [] => 0
  | x :: l => if befS x.ki x.di k d = true then posQ k d l + 1 else 0
theorem posQ_eq (k d : Int) : ∀ (l : List FRowD) (p : Nat), p ≤ l.length → (∀ t, t < p → befS (qth l t).ki (qth l t).di k d = true) → (p < l.length → befS (qth l p).ki (qth l p).di k d = false) → posQ k d l = p
  | [], p, hp, _, _ => by simp at hp; simp [posQ, hp]
  | x :: l, 0, _, _, h2 => by
    have h : befS x.ki x.di k d = false := h2 (by simp)
    simp [posQ, h]
  | x :: l, p + 1, hp, h1, h2 => by
    have h : befS x.ki x.di k d = true := h1 0 (by omega)
    rw [posQ, if_pos h, posQ_eq k d l p (by simpa using hp) (fun t ht => h1 (t + 1) (by omega)) (fun hl => h2 (by simpa using hl))]
theorem posQ_spec (k d : Int) : ∀ (l : List FRowD), posQ k d l ≤ l.length ∧ (∀ t, t < posQ k d l → befS (qth l t).ki (qth l t).di k d = true) ∧ (posQ k d l < l.length → befS (qth l (posQ k d l)).ki (qth l (posQ k d l)).di k d = false)
  | [] => by simp [posQ]
  | x :: l => by
    obtain ⟨h1, h2, h3⟩ := posQ_spec k d l
    by_cases h : befS x.ki x.di k d = true
    · have e : posQ k d (x :: l) = posQ k d l + 1 := by rw [posQ, if_pos h]
      rw [e]
      refine ⟨by simpa using h1, fun t ht => ?_, fun hl => h3 (by simpa using hl)⟩
      cases t with
      | zero => exact h
      | succ t => exact h2 t (by omega)
    · have e : posQ k d (x :: l) = 0 := by rw [posQ, if_neg h]
      rw [e]
      refine ⟨by omega, fun t ht => absurd ht (by omega), fun _ => ?_⟩
      show befS x.ki x.di k d = false
      simpa using h
noncomputable def hereQ (k d : Int) (l : List FRowD) : Bool := dec (posQ k d l < l.length ∧ (qth l (posQ k d l)).ki = k ∧ (qth l (posQ k d l)).di = d)
def SortQ (l : List FRowD) : Prop := ∀ i j, i < j → j < l.length → befQ (qth l i) (qth l j) = true
theorem GoodQ.sort {l : List FRowD} (h : GoodQ l l.length) : SortQ l := by
  intro i j hij hj
  induction j with
  | zero => omega
  | succ j ih =>
    have h1 := (h (j + 1) hj).2 (by omega)
    rw [Nat.add_sub_cancel] at h1
    rcases Nat.lt_or_ge i j with h2 | h2
    · exact befS_tr (ih h2 (by omega)) h1
    · obtain rfl : i = j := by omega
      exact h1
set_option maxRecDepth 100000 in
set_option maxHeartbeats 2000000 in
theorem ref21_find (A : Option Addr) (n c : Nat) (l : List FRowD) (k d : Int) (p : Nat) (y : Bool) (w : World) (hl : RowsR w A n l) (hp : posQ k d l = p) (hy : hereQ k d l = y) : Calls Try.prog 76 #[.slice A n c, .int .i64 k, .int .i64 d] w fun e w' => e = .returned (.tuple #[.int .i64 p, .bool y]) ∧ Below w.heap.size w w' := by
  have HL := Lib.hid hl
  have HN := Lib.hid hl.1
  have hnn : n ≤ 9223372036854775807 := hl.2.2.1
  have HPY := Lib.hid (And.intro hp hy)
  clear hl hp hy
  go_enter Try.func76, Try.ntmps76
  go_wp2_with fail
  go_loopw [8] (fun ix wr => ∃ j : Nat, j ≤ n ∧ ix = .int .i64 j ∧ Hid (∀ t, t < j → befS (qth l t).ki (qth l t).di k d = true) ∧ Below w.heap.size w wr) (fun ix _ => n - (intOf ix).toNat)
  case atStart => exact ⟨0, Nat.zero_le _, rfl, Lib.hid (fun t ht => absurd ht (by omega)), Below.refl _ _⟩
  case round =>
    obtain ⟨j, hj, rfl, HB, hbw⟩ := hrel
    (obtain ⟨wj, hwj⟩ : ∃ x, x = wr := ⟨_, rfl⟩); subst hwj
    by_cases hlt : j < n
    · obtain ⟨b, off, rfl, hbl, hc⟩ := (HL.out.up hbw).at (by omega)
      obtain ⟨c0, c1, -, -⟩ := hc j hlt
      clear hc
      obtain ⟨rk, hrk⟩ : ∃ z, (qth l j).ki = z := ⟨_, rfl⟩
      obtain ⟨rd, hrd⟩ : ∃ z, (qth l j).di = z := ⟨_, rfl⟩
      rw [hrk] at c0
      rw [hrd] at c1
      have HR := Lib.hid (And.intro hrk hrd)
      clear hrk hrd
      rcases Int.lt_trichotomy rk k with ho | ho | ho
      · have e1 : decide (rk < k) = true := by simp; omega
        have HC : Hid (rk < k ∨ rk = k ∧ rd < d) := Lib.hid (.inl ho)
        clear ho
        go_wp2_with fail
        (first | (go_round; (case rel => exact ⟨j + 1, by omega, by go_num, Lib.hid (fun t ht => by (rcases Nat.lt_or_ge t j with h9 | h9; exact HB.out t h9; (obtain rfl : t = j := by omega); rw [HR.out.1, HR.out.2, befS_iff]; exact HC.out)), hbw⟩); (case measure => (simp [intOf] <;> omega))) | (go_roundw; (case rel => exact ⟨j + 1, by omega, by go_num, Lib.hid (fun t ht => by (rcases Nat.lt_or_ge t j with h9 | h9; exact HB.out t h9; (obtain rfl : t = j := by omega); rw [HR.out.1, HR.out.2, befS_iff]; exact HC.out)), hbw⟩); (case measure => (simp [intOf] <;> omega))) | (refine ⟨?_, by simp [intOf] <;> omega⟩; (repeat apply Exists.intro); refine ⟨?rel, ?fr⟩; (case fr => ((repeat' apply And.intro) <;> rfl)); (case rel => exact ⟨j + 1, by omega, by go_num, Lib.hid (fun t ht => by (rcases Nat.lt_or_ge t j with h9 | h9; exact HB.out t h9; (obtain rfl : t = j := by omega); rw [HR.out.1, HR.out.2, befS_iff]; exact HC.out)), hbw⟩)))
      · have ho2 := ho.symm
        subst ho2
        clear ho
        have e1 : decide (k < k) = false := by simp
        rcases Int.lt_trichotomy rd d with hq | hq | hq
        · have e2 : decide (rd < d) = true := by simp; omega
          have HC : Hid (k < k ∨ k = k ∧ rd < d) := Lib.hid (.inr ⟨rfl, hq⟩)
          clear hq
          go_wp2_with fail
          (first | (go_round; (case rel => exact ⟨j + 1, by omega, by go_num, Lib.hid (fun t ht => by (rcases Nat.lt_or_ge t j with h9 | h9; exact HB.out t h9; (obtain rfl : t = j := by omega); rw [HR.out.1, HR.out.2, befS_iff]; exact HC.out)), hbw⟩); (case measure => (simp [intOf] <;> omega))) | (go_roundw; (case rel => exact ⟨j + 1, by omega, by go_num, Lib.hid (fun t ht => by (rcases Nat.lt_or_ge t j with h9 | h9; exact HB.out t h9; (obtain rfl : t = j := by omega); rw [HR.out.1, HR.out.2, befS_iff]; exact HC.out)), hbw⟩); (case measure => (simp [intOf] <;> omega))) | (refine ⟨?_, by simp [intOf] <;> omega⟩; (repeat apply Exists.intro); refine ⟨?rel, ?fr⟩; (case fr => ((repeat' apply And.intro) <;> rfl)); (case rel => exact ⟨j + 1, by omega, by go_num, Lib.hid (fun t ht => by (rcases Nat.lt_or_ge t j with h9 | h9; exact HB.out t h9; (obtain rfl : t = j := by omega); rw [HR.out.1, HR.out.2, befS_iff]; exact HC.out)), hbw⟩)))
        · have hq2 := hq.symm
          subst hq2
          clear hq
          have e2 : decide (d < d) = false := by simp
          have HBF : Hid (befS k d k d = false) := Lib.hid (by unfold befS; simp)
          have hpe : posQ k d l = j := posQ_eq k d l j (by rw [HN.out]; omega) HB.out (fun _ => by rw [HR.out.1, HR.out.2]; exact HBF.out)
          have hpp : p = j := by rw [← HPY.out.1, hpe]
          have hyy : y = true := by rw [← HPY.out.2]; unfold hereQ; rw [hpe, HR.out.1, HR.out.2]; exact (dec_true ⟨by rw [HN.out]; exact hlt, rfl, rfl⟩).symm
          subst hpp hyy
          clear hpe
          go_wp2_with fail
          refine wp_region_fam (by kernel_rfl) (by kernel_rfl) (fun ι F hne hF hcl => ?_)
          have hcF0 := fun n o => (bcell (hF n)).1 (b) o (by first | (simp; done) | (simp; omega) | omega)
          have HF := Lib.hid hF; clear hF
          have HC := Lib.hid hcl; clear hcl
          repeat (any_goals (first
           | go_big_quiet_step (first | fail)
           | (refine wpQuiet_guard _ _ _ rfl rfl ?_; (fail_if_success (intro b' hb; have h2 := hb.symm; have : b' = true := h2.trans (by with_reducible rfl))); (fail_if_success (intro b' hb; have h2 := hb.symm; have : b' = false := h2.trans (by with_reducible rfl))); intro b' hb; simp only [hb]; cases b' <;> (try simp only [Bool.not_eq_true', Bool.not_eq_false', decide_eq_true_eq, decide_eq_false_iff_not, Int.not_lt, Int.not_le, Bool.and_eq_true, Bool.or_eq_true, Bool.or_eq_false_iff, beq_iff_eq, beq_eq_false_iff_ne, Int.natCast_pos] at hb))))
          all_goals (refine wpQuiet_nil ?_; intro nq)
          all_goals (try (exfalso; omega))
          have hFwf := HF.out nq
          clear HF HC hne
          generalize F nq = wf at *
          go_wp2_with fail
          go_ret2
          exact ⟨rfl, bel_trans hbw hFwf⟩
        · have e2 : decide (rd < d) = false := by simp; omega
          have e3 : (rd == d) = false := by simp; omega
          have HBF : Hid (befS k rd k d = false) := Lib.hid (by unfold befS; simp; omega)
          have HNE : Hid (¬ (k = k ∧ rd = d)) := Lib.hid (by omega)
          clear hq
          have hpe : posQ k d l = j := posQ_eq k d l j (by rw [HN.out]; omega) HB.out (fun _ => by rw [HR.out.1, HR.out.2]; exact HBF.out)
          have hpp : p = j := by rw [← HPY.out.1, hpe]
          have hyy : y = false := by rw [← HPY.out.2]; unfold hereQ; rw [hpe, HR.out.1, HR.out.2]; exact (dec_false (fun g => HNE.out g.2)).symm
          subst hpp hyy
          clear hpe
          go_wp2_with fail
          refine wp_region_fam (by kernel_rfl) (by kernel_rfl) (fun ι F hne hF hcl => ?_)
          have hcF0 := fun n o => (bcell (hF n)).1 (b) o (by first | (simp; done) | (simp; omega) | omega)
          have HF := Lib.hid hF; clear hF
          have HC := Lib.hid hcl; clear hcl
          repeat (any_goals (first
           | go_big_quiet_step (first | fail)
           | (refine wpQuiet_guard _ _ _ rfl rfl ?_; (fail_if_success (intro b' hb; have h2 := hb.symm; have : b' = true := h2.trans (by with_reducible rfl))); (fail_if_success (intro b' hb; have h2 := hb.symm; have : b' = false := h2.trans (by with_reducible rfl))); intro b' hb; simp only [hb]; cases b' <;> (try simp only [Bool.not_eq_true', Bool.not_eq_false', decide_eq_true_eq, decide_eq_false_iff_not, Int.not_lt, Int.not_le, Bool.and_eq_true, Bool.or_eq_true, Bool.or_eq_false_iff, beq_iff_eq, beq_eq_false_iff_ne, Int.natCast_pos] at hb))))
          all_goals (refine wpQuiet_nil ?_; intro nq)
          all_goals (try (exfalso; omega))
          have hFwf := HF.out nq
          clear HF HC hne
          generalize F nq = wf at *
          go_wp2_with fail
          go_ret2
          exact ⟨rfl, bel_trans hbw hFwf⟩
      · have e1 : decide (rk < k) = false := by simp; omega
        have e2 : (rk == k) = false := by simp; omega
        have HBF : Hid (befS rk rd k d = false) := Lib.hid (by unfold befS; simp; omega)
        have HNE : Hid (¬ (rk = k ∧ rd = d)) := Lib.hid (by omega)
        clear ho
        have hpe : posQ k d l = j := posQ_eq k d l j (by rw [HN.out]; omega) HB.out (fun _ => by rw [HR.out.1, HR.out.2]; exact HBF.out)
        have hpp : p = j := by rw [← HPY.out.1, hpe]
        have hyy : y = false := by rw [← HPY.out.2]; unfold hereQ; rw [hpe, HR.out.1, HR.out.2]; exact (dec_false (fun g => HNE.out g.2)).symm
        subst hpp hyy
        clear hpe
        go_wp2_with fail
        refine wp_region_fam (by kernel_rfl) (by kernel_rfl) (fun ι F hne hF hcl => ?_)
        have hcF0 := fun n o => (bcell (hF n)).1 (b) o (by first | (simp; done) | (simp; omega) | omega)
        have HF := Lib.hid hF; clear hF
        have HC := Lib.hid hcl; clear hcl
        repeat (any_goals (first
         | go_big_quiet_step (first | fail)
         | (refine wpQuiet_guard _ _ _ rfl rfl ?_; (fail_if_success (intro b' hb; have h2 := hb.symm; have : b' = true := h2.trans (by with_reducible rfl))); (fail_if_success (intro b' hb; have h2 := hb.symm; have : b' = false := h2.trans (by with_reducible rfl))); intro b' hb; simp only [hb]; cases b' <;> (try simp only [Bool.not_eq_true', Bool.not_eq_false', decide_eq_true_eq, decide_eq_false_iff_not, Int.not_lt, Int.not_le, Bool.and_eq_true, Bool.or_eq_true, Bool.or_eq_false_iff, beq_iff_eq, beq_eq_false_iff_ne, Int.natCast_pos] at hb))))
        all_goals (refine wpQuiet_nil ?_; intro nq)
        all_goals (try (exfalso; omega))
        have hFwf := HF.out nq
        clear HF HC hne
        generalize F nq = wf at *
        go_wp2_with fail
        go_ret2
        exact ⟨rfl, bel_trans hbw hFwf⟩
    · obtain rfl : n = j := by omega
      have hpe : posQ k d l = n := posQ_eq k d l n (by rw [HN.out]; exact Nat.le_refl _) HB.out (fun h => absurd h (by rw [HN.out]; omega))
      have hpp : p = n := by rw [← HPY.out.1, hpe]
      have hyy : y = false := by rw [← HPY.out.2]; unfold hereQ; rw [hpe]; exact (dec_false (fun g => absurd g.1 (by rw [HN.out]; omega))).symm
      subst hpp hyy
      go_wp2_with fail
      refine wp_region_fam (by kernel_rfl) (by kernel_rfl) (fun ι F hne hF hcl => ?_)
      have HF := Lib.hid hF; clear hF
      have HC := Lib.hid hcl; clear hcl
      repeat (any_goals (first
       | go_big_quiet_step (first | fail)
       | (refine wpQuiet_guard _ _ _ rfl rfl ?_; (fail_if_success (intro b' hb; have h2 := hb.symm; have : b' = true := h2.trans (by with_reducible rfl))); (fail_if_success (intro b' hb; have h2 := hb.symm; have : b' = false := h2.trans (by with_reducible rfl))); intro b' hb; simp only [hb]; cases b' <;> (try simp only [Bool.not_eq_true', Bool.not_eq_false', decide_eq_true_eq, decide_eq_false_iff_not, Int.not_lt, Int.not_le, Bool.and_eq_true, Bool.or_eq_true, Bool.or_eq_false_iff, beq_iff_eq, beq_eq_false_iff_ne, Int.natCast_pos] at hb))))
      all_goals (refine wpQuiet_nil ?_; intro nq)
      all_goals (try (exfalso; omega))
      have hFwf := HF.out nq
      clear HF HC hne
      generalize F nq = wf at *
      go_wp2_with fail
      go_ret2
      exact ⟨rfl, bel_trans hbw hFwf⟩
set_option maxRecDepth 100000 in
set_option maxHeartbeats 2000000 in
theorem slices_BSF_Q (A : Option Addr) (n c : Nat) (l : List FRowD) (r : FRowD) (p : Nat) (y : Bool) (w : World) (hl : RowsR w A n l) (hS : SortQ l) (hn : n ≤ 1000000000) (hp : posQ r.ki r.di l = p) (hy : hereQ r.ki r.di l = y) :
    Calls Try.prog 41 #[.slice A n c, .agg #[.int .i64 r.ki, .int .i64 r.di, .int .i64 r.ag, .int .i64 r.tr], .func (.func 42) #[] #[]] w fun e w' => e = .returned (.tuple #[.int .i64 p, .bool y]) ∧ Below w.heap.size w w' := by
  have HL := Lib.hid hl
  have HN := Lib.hid hl.1
  have HS := Lib.hid hS
  have HPY := Lib.hid (And.intro hp hy)
  have hpn : p ≤ n := by have h1 := (posQ_spec r.ki r.di l).1; rw [hp, hl.1] at h1; exact h1
  have HB1 : Hid (∀ t, t < p → befS (qth l t).ki (qth l t).di r.ki r.di = true) := Lib.hid (by have h1 := (posQ_spec r.ki r.di l).2.1; rw [hp] at h1; exact h1)
  have HB2 : Hid (∀ t, p ≤ t → t < n → befS (qth l t).ki (qth l t).di r.ki r.di = false) := Lib.hid (fun t h1 h2 => by
    have h3 := (posQ_spec r.ki r.di l).2.2
    rw [hp, hl.1] at h3
    have h4 := h3 (by omega)
    rcases Nat.lt_or_ge p t with h5 | h5
    · exact befS_no (hS p t h5 (by rw [hl.1]; exact h2)) h4
    · obtain rfl : t = p := by omega
      exact h4)
  clear hl hS hp hy
  go_enter Try.func41, Try.ntmps41
  go_wp2_with fail
  have hb0 : Below w.heap.size w (w.alloc (.cells #[.int .i64 r.ki, .int .i64 r.di, .int .i64 r.ag, .int .i64 r.tr] 55)) := bel_alloc (Below.refl _ _)
  have HB0 := Lib.hid (BoxR.new w [.int .i64 r.ki, .int .i64 r.di, .int .i64 r.ag, .int .i64 r.tr] 55)
  go_loopw [9, 10] (fun s7 s8 wr => ∃ lo hi : Nat, s7 = .int .i64 lo ∧ s8 = .int .i64 hi ∧ lo ≤ p ∧ p ≤ hi ∧ hi ≤ n ∧ Hid (BoxR wr w.heap.size [.int .i64 r.ki, .int .i64 r.di, .int .i64 r.ag, .int .i64 r.tr]) ∧ Below w.heap.size w wr) (fun s7 s8 _ => (intOf s8).toNat - (intOf s7).toNat)
  case atStart => exact ⟨0, n, rfl, rfl, Nat.zero_le _, hpn, Nat.le_refl _, HB0, hb0⟩
  case round =>
    clear HB0 hb0
    obtain ⟨lo, hi, rfl, rfl, hlp, hph, hin, HBX, hbw⟩ := hrel
    (obtain ⟨wx, hwx⟩ : ∃ x, x = wr := ⟨_, rfl⟩); subst hwx
    have xl := HBX.out.1
    have x_0 := (HBX.out).2 0 _ rfl; have x_1 := (HBX.out).2 1 _ rfl; have x_2 := (HBX.out).2 2 _ rfl; have x_3 := (HBX.out).2 3 _ rfl
    by_cases hlt : lo < hi
    · obtain ⟨b, off, rfl, hb, hc⟩ := (HL.out.up hbw).at (by omega)
      obtain ⟨m, hm⟩ : ∃ m, m = (lo + hi) / 2 := ⟨_, rfl⟩
      have hmn : m < n := by omega
      obtain ⟨c0, c1, c2, c3⟩ := hc m hmn
      have hd2 : ((lo : Int) + (hi : Int)) / 2 = (m : Int) := by rw [hm]; omega
      have hm2 : m < hi := by omega
      have hm1 : lo ≤ m := by omega
      clear hc hm
      obtain ⟨z, hz⟩ : ∃ z, cmpP (qth l m).ki (qth l m).di r.ki r.di = z := ⟨_, rfl⟩
      have HZ := Lib.hid hz
      clear hz
      by_cases hmp : m < p
      · have hz0 : z < 0 := by rw [← HZ.out, cmpP_lt]; exact HB1.out m hmp
        have hd : decide (z < 0) = true := by simpa using hz0
        clear hz0
        go_wp2_with fail
        refine wp_region_fam (by kernel_rfl) (by kernel_rfl) (fun ι F hne hF hcl => ?_)
        have hcF0 := fun n o => (bcell (hF n)).1 (b) o (by first | (simp; done) | (simp; omega) | omega)
        have hcF1 := fun n o => (bcell (hF n)).1 (w.heap.size) o (by first | (simp; done) | (simp; omega) | omega)
        have HF := Lib.hid hF; clear hF
        have HC := Lib.hid hcl; clear hcl
        repeat (any_goals (first
         | go_big_quiet_step (first | (go_at_call 42; exact Calls.fam HC.out (fetch_less (qth l m) r z _ HZ.out)))
         | (refine wpQuiet_guard _ _ _ rfl rfl ?_; (fail_if_success (intro b' hb; have h2 := hb.symm; have : b' = true := h2.trans (by with_reducible rfl))); (fail_if_success (intro b' hb; have h2 := hb.symm; have : b' = false := h2.trans (by with_reducible rfl))); intro b' hb; simp only [hb]; cases b' <;> (try simp only [Bool.not_eq_true', Bool.not_eq_false', decide_eq_true_eq, decide_eq_false_iff_not, Int.not_lt, Int.not_le, Bool.and_eq_true, Bool.or_eq_true, Bool.or_eq_false_iff, beq_iff_eq, beq_eq_false_iff_ne, Int.natCast_pos] at hb))))
        all_goals (refine wpQuiet_nil ?_; intro nq)
        all_goals (try (exfalso; omega))
        have hFwf := HF.out nq
        clear HF HC hne
        generalize F nq = wf at *
        go_wp2_with fail
        (first | (go_round; (case rel => exact ⟨m + 1, hi, by go_num, rfl, by omega, by omega, by omega, Lib.hid (HBX.out.up hFwf), bel_trans hbw hFwf⟩); (case measure => (simp [intOf] <;> omega))) | (go_roundw; (case rel => exact ⟨m + 1, hi, by go_num, rfl, by omega, by omega, by omega, Lib.hid (HBX.out.up hFwf), bel_trans hbw hFwf⟩); (case measure => (simp [intOf] <;> omega))) | (refine ⟨?_, by simp [intOf] <;> omega⟩; (repeat apply Exists.intro); refine ⟨?rel, ?fr⟩; (case fr => ((repeat' apply And.intro) <;> rfl)); (case rel => exact ⟨m + 1, hi, by go_num, rfl, by omega, by omega, by omega, Lib.hid (HBX.out.up hFwf), bel_trans hbw hFwf⟩)))
      · have hz0 : ¬ z < 0 := by rw [← HZ.out, cmpP_lt, HB2.out m (by omega) hmn]; simp
        have hd : decide (z < 0) = false := by simpa using hz0
        clear hz0
        go_wp2_with fail
        refine wp_region_fam (by kernel_rfl) (by kernel_rfl) (fun ι F hne hF hcl => ?_)
        have hcF0 := fun n o => (bcell (hF n)).1 (b) o (by first | (simp; done) | (simp; omega) | omega)
        have hcF1 := fun n o => (bcell (hF n)).1 (w.heap.size) o (by first | (simp; done) | (simp; omega) | omega)
        have HF := Lib.hid hF; clear hF
        have HC := Lib.hid hcl; clear hcl
        repeat (any_goals (first
         | go_big_quiet_step (first | (go_at_call 42; exact Calls.fam HC.out (fetch_less (qth l m) r z _ HZ.out)))
         | (refine wpQuiet_guard _ _ _ rfl rfl ?_; (fail_if_success (intro b' hb; have h2 := hb.symm; have : b' = true := h2.trans (by with_reducible rfl))); (fail_if_success (intro b' hb; have h2 := hb.symm; have : b' = false := h2.trans (by with_reducible rfl))); intro b' hb; simp only [hb]; cases b' <;> (try simp only [Bool.not_eq_true', Bool.not_eq_false', decide_eq_true_eq, decide_eq_false_iff_not, Int.not_lt, Int.not_le, Bool.and_eq_true, Bool.or_eq_true, Bool.or_eq_false_iff, beq_iff_eq, beq_eq_false_iff_ne, Int.natCast_pos] at hb))))
        all_goals (refine wpQuiet_nil ?_; intro nq)
        all_goals (try (exfalso; omega))
        have hFwf := HF.out nq
        clear HF HC hne
        generalize F nq = wf at *
        go_wp2_with fail
        (first | (go_round; (case rel => exact ⟨lo, m, rfl, by go_num, by omega, by omega, by omega, Lib.hid (HBX.out.up hFwf), bel_trans hbw hFwf⟩); (case measure => (simp [intOf] <;> omega))) | (go_roundw; (case rel => exact ⟨lo, m, rfl, by go_num, by omega, by omega, by omega, Lib.hid (HBX.out.up hFwf), bel_trans hbw hFwf⟩); (case measure => (simp [intOf] <;> omega))) | (refine ⟨?_, by simp [intOf] <;> omega⟩; (repeat apply Exists.intro); refine ⟨?rel, ?fr⟩; (case fr => ((repeat' apply And.intro) <;> rfl)); (case rel => exact ⟨lo, m, rfl, by go_num, by omega, by omega, by omega, Lib.hid (HBX.out.up hFwf), bel_trans hbw hFwf⟩)))
    · obtain rfl : hi = p := by omega
      obtain rfl : lo = hi := by omega
      by_cases hln : lo < n
      · obtain ⟨b, off, rfl, hb, hc⟩ := (HL.out.up hbw).at (by omega)
        obtain ⟨c0, c1, c2, c3⟩ := hc lo hln
        clear hc
        obtain ⟨z, hz⟩ : ∃ z, cmpP (qth l lo).ki (qth l lo).di r.ki r.di = z := ⟨_, rfl⟩
        have HZ := Lib.hid hz
        have hzy : (z == 0) = y := by
          rw [← HPY.out.2]; unfold hereQ
          rw [HPY.out.1, Bool.eq_iff_iff, dec_iff, beq_iff_eq, ← hz, cmpP_eq]
          exact ⟨fun h => ⟨by rw [HN.out]; exact hln, h⟩, fun h => h.2⟩
        clear hz
        cases y
        all_goals
          go_wp2_with fail
          refine wp_region_fam (by kernel_rfl) (by kernel_rfl) (fun ι F hne hF hcl => ?_)
          have hcF0 := fun n o => (bcell (hF n)).1 (b) o (by first | (simp; done) | (simp; omega) | omega)
          have hcF1 := fun n o => (bcell (hF n)).1 (w.heap.size) o (by first | (simp; done) | (simp; omega) | omega)
          have HF := Lib.hid hF; clear hF
          have HC := Lib.hid hcl; clear hcl
          repeat (any_goals (first
           | go_big_quiet_step (first | (go_at_call 42; exact Calls.fam HC.out (fetch_less (qth l lo) r z _ HZ.out)))
           | (refine wpQuiet_guard _ _ _ rfl rfl ?_; (fail_if_success (intro b' hb; have h2 := hb.symm; have : b' = true := h2.trans (by with_reducible rfl))); (fail_if_success (intro b' hb; have h2 := hb.symm; have : b' = false := h2.trans (by with_reducible rfl))); intro b' hb; simp only [hb]; cases b' <;> (try simp only [Bool.not_eq_true', Bool.not_eq_false', decide_eq_true_eq, decide_eq_false_iff_not, Int.not_lt, Int.not_le, Bool.and_eq_true, Bool.or_eq_true, Bool.or_eq_false_iff, beq_iff_eq, beq_eq_false_iff_ne, Int.natCast_pos] at hb))))
          all_goals (refine wpQuiet_nil ?_; intro nq)
          all_goals (try (exfalso; omega))
          have hFwf := HF.out nq
          clear HF HC hne
          generalize F nq = wf at *
          go_wp2_with fail
          go_ret2
          exact ⟨rfl, bel_trans hbw hFwf⟩
      · have hyy : y = false := by
          rw [← HPY.out.2]; unfold hereQ; rw [HPY.out.1]
          exact (dec_false (fun g => absurd g.1 (by rw [HN.out]; exact hln))).symm
        subst hyy
        go_wp2_with fail
        refine wp_region_fam (by kernel_rfl) (by kernel_rfl) (fun ι F hne hF hcl => ?_)
        have hcF0 := fun n o => (bcell (hF n)).1 (w.heap.size) o (by first | (simp; done) | (simp; omega) | omega)
        have HF := Lib.hid hF; clear hF
        have HC := Lib.hid hcl; clear hcl
        repeat (any_goals (first
         | go_big_quiet_step (first | fail)
         | (refine wpQuiet_guard _ _ _ rfl rfl ?_; (fail_if_success (intro b' hb; have h2 := hb.symm; have : b' = true := h2.trans (by with_reducible rfl))); (fail_if_success (intro b' hb; have h2 := hb.symm; have : b' = false := h2.trans (by with_reducible rfl))); intro b' hb; simp only [hb]; cases b' <;> (try simp only [Bool.not_eq_true', Bool.not_eq_false', decide_eq_true_eq, decide_eq_false_iff_not, Int.not_lt, Int.not_le, Bool.and_eq_true, Bool.or_eq_true, Bool.or_eq_false_iff, beq_iff_eq, beq_eq_false_iff_ne, Int.natCast_pos] at hb))))
        all_goals (refine wpQuiet_nil ?_; intro nq)
        all_goals (try (exfalso; omega))
        have hFwf := HF.out nq
        clear HF HC hne
        generalize F nq = wf at *
        go_wp2_with fail
        go_ret2
        exact ⟨rfl, bel_trans hbw hFwf⟩
set_option maxRecDepth 100000 in
set_option maxHeartbeats 1000000 in
theorem ref0_CopyFetch (id nodes : Int) (A : Option Addr) (n c : Nat) (l : List FRowD) (w : World) (hl : RowsR w A n l) (hn : n ≤ 800000000) : Calls Try.prog 21 #[.agg #[.int .i64 id, .int .i64 nodes, .slice A n c]] w fun e w' => ∃ v, e = .returned (.agg #[.int .i64 id, .int .i64 nodes, v]) ∧ OwnQ w' w.heap.size v l ∧ Below w.heap.size w w' := by
  have HL := Lib.hid hl
  have HN := Lib.hid hl.1
  clear hl
  go_enter Try.func21, Try.ntmps21
  go_wp2_with fail
  refine (ref0_CopyRows A n c l _ (HL.out.up (by (repeat (first | (with_reducible exact Below.refl _ _) | (with_reducible assumption) | (with_reducible apply bel_alloc) | (with_reducible apply bel_drew) | (with_reducible apply bel_drewN) | (with_reducible refine bel_trans ?_ (by with_reducible assumption)) | (with_reducible refine bel_trans ?_ (HF.out _)) | ((with_reducible refine bel_set3 ?_ ?_); rotate_left; omega))))) hn).mono ?_
  rintro e w1 ⟨v, rfl, hown, hb1⟩
  obtain ⟨A1, c1, rfl, hr1, -, -⟩ := hown.rows (by rw [HN.out]; omega)
  have HOWN := Lib.hid hown
  clear hown hr1
  have hz_w1 : w.heap.size + 3 ≤ w1.heap.size := (by have hq := (hb1).size; (try simp at hq); omega); have hc0_w1 := fun o => (bcell hb1).1 (w.heap.size) o (by first | (simp; done) | (simp; omega) | omega); have hc1_w1 := fun o => (bcell hb1).1 (w.heap.size + 1) o (by first | (simp; done) | (simp; omega) | omega); have hc2_w1 := fun o => (bcell hb1).1 (w.heap.size + 2) o (by first | (simp; done) | (simp; omega) | omega); have hf0_w1 := fun o => (bcell hb1).2 (w.heap.size) o (by first | (simp; done) | (simp; omega) | omega); have hf1_w1 := fun o => (bcell hb1).2 (w.heap.size + 1) o (by first | (simp; done) | (simp; omega) | omega); have hf2_w1 := fun o => (bcell hb1).2 (w.heap.size + 2) o (by first | (simp; done) | (simp; omega) | omega)
  go_wp2_with fail
  refine bodyPost_ret (v := .agg #[.int .i64 id, .int .i64 nodes, .slice A1 l.length c1]) (by simp [results, Try.results21, go_sem, hc0_w1, hc1_w1, hc2_w1]) rfl ⟨_, rfl, ?_, by (repeat (first | (with_reducible exact Below.refl _ _) | (with_reducible assumption) | (with_reducible apply bel_alloc) | (with_reducible apply bel_drew) | (with_reducible apply bel_drewN) | (with_reducible refine bel_trans ?_ (by with_reducible assumption)) | (with_reducible refine bel_trans ?_ (HF.out _)) | ((with_reducible refine bel_set3 ?_ ?_); rotate_left; omega)))⟩
  have h1 : OwnQ w1 (w.heap.size + 3) _ l := HOWN.out.mono (by first | (simp; done) | (simp; omega))
  exact (OwnQ.set3 (OwnQ.set3 (OwnQ.set3 (OwnQ.set3 h1 (by omega) _) (by omega) _) (by omega) _) (by omega) _).mono (by omega)
set_option maxRecDepth 100000 in
set_option maxHeartbeats 1000000 in
theorem ref0_EqFetch (id nodes : Int) (A : Option Addr) (n c : Nat) (A' : Option Addr) (n' c' : Nat) (l : List FRowD) (w : World) (hl : RowsR w A n l) (hl' : RowsR w A' n' l) : Calls Try.prog 13 #[.agg #[.int .i64 id, .int .i64 nodes, .slice A n c], .agg #[.int .i64 id, .int .i64 nodes, .slice A' n' c']] w fun e w' => e = .returned (.bool true) ∧ Below w.heap.size w w' := by
  have HL := Lib.hid hl
  have HL' := Lib.hid hl'
  clear hl hl'
  go_enter Try.func13, Try.ntmps13
  go_wp2_with (go_at_call 32; refine (ref0_EqRows A n c A' n' c' l _ (HL.out.up (by (repeat (first | (with_reducible exact Below.refl _ _) | (with_reducible assumption) | (with_reducible apply bel_alloc) | (with_reducible apply bel_drew) | (with_reducible apply bel_drewN) | (with_reducible refine bel_trans ?_ (by with_reducible assumption)) | (with_reducible refine bel_trans ?_ (HF.out _)) | (with_reducible refine bel_set ?_ (by simp) _) | (with_reducible refine bel_set ?_ (by simp; omega) _) | (with_reducible refine bel_set ?_ (by omega) _))))) (HL'.out.up (by (repeat (first | (with_reducible exact Below.refl _ _) | (with_reducible assumption) | (with_reducible apply bel_alloc) | (with_reducible apply bel_drew) | (with_reducible apply bel_drewN) | (with_reducible refine bel_trans ?_ (by with_reducible assumption)) | (with_reducible refine bel_trans ?_ (HF.out _)) | (with_reducible refine bel_set ?_ (by simp) _) | (with_reducible refine bel_set ?_ (by simp; omega) _) | (with_reducible refine bel_set ?_ (by omega) _)))))).mono ?_; rintro e w2 ⟨rfl, hb2⟩)
  go_ret
  exact ⟨rfl, by (repeat (first | (with_reducible exact Below.refl _ _) | (with_reducible assumption) | (with_reducible apply bel_alloc) | (with_reducible apply bel_drew) | (with_reducible apply bel_drewN) | (with_reducible refine bel_trans ?_ (by with_reducible assumption)) | (with_reducible refine bel_trans ?_ (HF.out _)) | (with_reducible refine bel_set ?_ (by simp) _) | (with_reducible refine bel_set ?_ (by simp; omega) _) | (with_reducible refine bel_set ?_ (by omega) _)))⟩
end Go.Proofs.Ytnngeaibdnnpoaa
