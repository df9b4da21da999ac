/- Votes: how they lie; what may be: at the reference, at the program. -/
import Derived.Test.YtffoglofijffpaaYb
import Derived.Test.YtffoglofijffpaaGi
namespace Go.Proofs.Ytffoglofijffpaa
open Go.RowKit
set_option linter.unusedSimpArgs false
set_option linter.unusedVariables false

open Classical in
noncomputable def dec (p : Prop) : Bool := decide p
theorem dec_iff {p : Prop} : dec p = true ↔ p := by simp [dec]
theorem dec_true {p : Prop} (h : p) : true = dec p := (dec_iff.2 h).symm
theorem dec_false {p : Prop} (h : ¬ p) : false = dec p := by simp [dec, h]
structure VoteD where
  ro : Int
  au : Int
  di : Int
deriving Inhabited
def encV (v : VoteD) : List Value := [.int .i64 v.ro, .int .i64 v.au, .int .i64 v.di]
theorem encV_len (v : VoteD) : (encV v).length = 3 := rfl
theorem encV_one (v : VoteD) : ∀ u ∈ encV v, u.oneCell' = true := by
  intro u hu
  simp only [encV, List.mem_cons, List.not_mem_nil, or_false] at hu
  rcases hu with rfl | rfl | rfl <;> rfl
def vth (l : List VoteD) (i : Nat) : VoteD := l.getD i default
def VotesR (w : World) (A : Option Addr) (n : Nat) (l : List VoteD) : Prop := l.length = n ∧ RowV w A n 3 (flat encV l)
theorem VotesR.up {w w' : World} {A n l} (h : VotesR w A n l) (hb : Below w.heap.size w w') : VotesR w' A n l := ⟨h.1, h.2.up hb⟩
def VoteAt (w : World) (b off : Nat) (v : VoteD) : Prop := w.cell? ⟨b, off, none⟩ = some (.int .i64 v.ro) ∧ w.cell? ⟨b, off + 1, none⟩ = some (.int .i64 v.au) ∧ w.cell? ⟨b, off + 2, none⟩ = some (.int .i64 v.di)
theorem VotesR.at {w : World} {A n l} (h : VotesR w A n l) (hn : 0 < n) : ∃ b off, A = some ⟨b, off, none⟩ ∧ b < w.heap.size ∧ ∀ j, j < n → VoteAt w b (off + j * 3) (vth l j) := by
  obtain ⟨b, off, e, hb, hc⟩ := h.2.2.2 hn
  refine ⟨b, off, e, hb, fun j hj => ?_⟩
  have hat : ∀ r u, r < 3 → (encV (vth l j))[r]? = some u → w.cell? ⟨b, off + j * 3 + r, none⟩ = some u := fun r u hr hu => by
    rw [Nat.add_assoc]
    exact hc _ u (by rw [flat_at encV_len l j r (by rw [h.1]; exact hj) hr]; exact hu)
  exact ⟨hat 0 _ (by omega) rfl, hat 1 _ (by omega) rfl, hat 2 _ (by omega) rfl⟩
def voteS (v : VoteD) : Bool := decide (1 ≤ v.ro ∧ v.ro ≤ 1099511627776 ∧ 1 ≤ v.au ∧ v.au ≤ 16 ∧ 1 ≤ v.di ∧ v.di ≤ 65536)
theorem voteS_iff {v : VoteD} : voteS v = true ↔ (1 ≤ v.ro ∧ v.ro ≤ 1099511627776 ∧ 1 ≤ v.au ∧ v.au ≤ 16 ∧ 1 ≤ v.di ∧ v.di ≤ 65536) := by simp [voteS]
def digS (d : Int) : Bool := decide (1 ≤ d ∧ d ≤ 65536)
theorem digS_iff {d : Int} : digS d = true ↔ (1 ≤ d ∧ d ≤ 65536) := by simp [digS]
set_option maxRecDepth 100000 in
set_option maxHeartbeats 1000000 in
theorem committee_Digest (d : Int) (w : World) : Calls Try.prog 98 #[.int .i64 d] w fun e w' => e = .returned (.bool (digS d)) ∧ w = w' := by
  go_enter Try.func98, Try.ntmps98
  go_wp2
  all_goals (go_ret; refine ⟨ret_bool ?_, rfl⟩; rw [Bool.eq_iff_iff, digS_iff]; simp; try omega)
set_option maxRecDepth 100000 in
set_option maxHeartbeats 1000000 in
theorem ref0_Digest (d : Int) (w : World) : Calls Try.prog 101 #[.int .i64 d] w fun e w' => e = .returned (.bool (digS d)) ∧ w = w' := by
  go_enter Try.func101, Try.ntmps101
  go_wp2
  all_goals (go_ret; refine ⟨ret_bool ?_, rfl⟩; rw [Bool.eq_iff_iff, digS_iff]; simp; try omega)
set_option maxRecDepth 100000 in
set_option maxHeartbeats 1000000 in
theorem ref19_vote (v : VoteD) (y : Bool) (w : World) (hy : voteS v = y) : Calls Try.prog 69 #[.agg #[.int .i64 v.ro, .int .i64 v.au, .int .i64 v.di]] w fun e w' => e = .returned (.bool y) ∧ Below w.heap.size w w' := by
  have HY := Lib.hid hy
  clear hy
  go_enter Try.func69, Try.ntmps69
  go_wp2_with (go_at_call 101; refine (ref0_Digest _ _).mono ?_; rintro e w' ⟨rfl, rfl⟩)
  all_goals (go_ret; refine ⟨ret_bool ?_, by (repeat (first | (with_reducible exact Below.refl _ _) | (with_reducible assumption) | (with_reducible apply bel_alloc) | (with_reducible apply bel_drew) | (with_reducible apply bel_drewN) | (with_reducible refine bel_trans ?_ (by with_reducible assumption)) | (with_reducible refine bel_trans ?_ (HF.out _)) | (with_reducible refine bel_set ?_ (by simp) _) | (with_reducible refine bel_set ?_ (by simp; omega) _) | (with_reducible refine bel_set ?_ (by omega) _)))⟩; rw [← HY.out]; go_light; rw [Bool.eq_iff_iff, voteS_iff]; simp [digS]; try omega)
set_option maxRecDepth 100000 in
set_option maxHeartbeats 1000000 in
theorem vote_may (v : VoteD) (y : Bool) (w : World) (hy : voteS v = y) : Calls Try.prog 63 #[.agg #[.int .i64 v.ro, .int .i64 v.au, .int .i64 v.di]] w fun e w' => e = .returned (.bool y) ∧ Below w.heap.size w w' := by
  have HY := Lib.hid hy
  clear hy
  go_enter Try.func63, Try.ntmps63
  go_wp2_with (first | (go_at_call 98; refine (committee_Digest _ _).mono ?_; rintro e w' ⟨rfl, rfl⟩) | (go_at_call 97; refine (place_Is _ _ _).mono ?_; rintro e w' ⟨rfl, rfl⟩))
  all_goals (go_ret; refine ⟨ret_bool ?_, by (repeat (first | (with_reducible exact Below.refl _ _) | (with_reducible assumption) | (with_reducible apply bel_alloc) | (with_reducible apply bel_drew) | (with_reducible apply bel_drewN) | (with_reducible refine bel_trans ?_ (by with_reducible assumption)) | (with_reducible refine bel_trans ?_ (HF.out _)) | (with_reducible refine bel_set ?_ (by simp) _) | (with_reducible refine bel_set ?_ (by simp; omega) _) | (with_reducible refine bel_set ?_ (by omega) _)))⟩; rw [← HY.out]; go_light; rw [Bool.eq_iff_iff, voteS_iff]; simp_all [digS, isP]; try omega)
set_option maxRecDepth 100000 in
set_option maxHeartbeats 1000000 in
theorem vote_of (ro au di : Int) (w : World) : Calls Try.prog 95 #[.agg #[.int .i64 ro, .int .i64 au, .int .i64 di]] w fun e w' => e = .returned (.complex .f64 (fl ro) (fl au)) ∧ Below w.heap.size w w' := by
  go_enter Try.func95, Try.ntmps95
  go_wp2_with (go_at_call 112; refine (place_Of _ _ _).mono ?_; rintro e w' ⟨rfl, rfl⟩)
  go_ret
  exact ⟨rfl, by (repeat (first | (with_reducible exact Below.refl _ _) | (with_reducible assumption) | (with_reducible apply bel_alloc) | (with_reducible apply bel_drew) | (with_reducible apply bel_drewN) | (with_reducible refine bel_trans ?_ (by with_reducible assumption)) | (with_reducible refine bel_trans ?_ (HF.out _)) | (with_reducible refine bel_set ?_ (by simp) _) | (with_reducible refine bel_set ?_ (by simp; omega) _) | (with_reducible refine bel_set ?_ (by omega) _)))⟩
theorem ref1_BeforeAt (r a s b : Int) (y : Bool) (w : World) (hy : befS r a s b = y) :
    Calls Try.prog 70 #[.int .i64 r, .int .i64 a, .int .i64 s, .int .i64 b] w fun e w' => e = .returned (.bool y) ∧ w = w' := hy ▸ ref1_Before r a s b w
theorem place_LessAt (r a s b : Int) (y : Bool) (w : World) (h1 : Sm r) (h2 : Sm a) (h3 : Sm s) (h4 : Sm b) (hy : befS r a s b = y) :
    Calls Try.prog 94 #[.complex .f64 (fl r) (fl a), .complex .f64 (fl s) (fl b)] w fun e w' => e = .returned (.bool y) ∧ w = w' := hy ▸ place_Less r a s b w h1 h2 h3 h4
def befV (a b : VoteD) : Bool := befS a.ro a.au b.ro b.au
def GoodV (l : List VoteD) (k : Nat) : Prop := ∀ j, j < k → voteS (vth l j) = true ∧ (0 < j → befV (vth l (j - 1)) (vth l j) = true)
def MayV (l : List VoteD) : Prop := l.length ≤ 65536 ∧ GoodV l l.length
noncomputable def mayV (l : List VoteD) : Bool := dec (MayV l)
theorem mayV_iff {l : List VoteD} : mayV l = true ↔ MayV l := dec_iff
theorem GoodV.succ {l : List VoteD} {k : Nat} (h : GoodV l k) (h1 : voteS (vth l k) = true) (h2 : 0 < k → befV (vth l (k - 1)) (vth l k) = true) : GoodV l (k + 1) := fun j hj => by
  rcases Nat.lt_or_ge j k with h3 | h3
  · exact h j h3
  · obtain rfl : j = k := by omega
    exact ⟨h1, h2⟩
set_option maxRecDepth 100000 in
set_option maxHeartbeats 2000000 in
theorem ref19_May (A : Option Addr) (n c : Nat) (l : List VoteD) (y : Bool) (w : World) (hl : VotesR w A n l) (hy : mayV l = y) : Calls Try.prog 59 #[.slice A n c] w fun e w' => e = .returned (.bool y) ∧ Below w.heap.size w w' := by
  have HY := Lib.hid hy
  have HL := Lib.hid hl
  have HN := Lib.hid hl.1
  have hnn : n ≤ 9223372036854775807 := hl.2.2.1
  clear hy hl
  go_enter Try.func59, Try.ntmps59
  by_cases hbig : 65536 < n
  · go_wp2_with fail
    go_ret
    exact ⟨ret_bool (by rw [← HY.out]; exact dec_false fun g => by have := g.1; rw [HN.out] at this; omega), by (repeat (first | (with_reducible exact Below.refl _ _) | (with_reducible assumption) | (with_reducible apply bel_alloc) | (with_reducible apply bel_drew) | (with_reducible apply bel_drewN) | (with_reducible refine bel_trans ?_ (by with_reducible assumption)) | (with_reducible refine bel_trans ?_ (HF.out _)) | (with_reducible refine bel_set ?_ (by simp) _) | (with_reducible refine bel_set ?_ (by simp; omega) _) | (with_reducible refine bel_set ?_ (by omega) _)))⟩
  · go_wp2_with fail
    go_loopw [3] (fun ix wr => ∃ k : Nat, k ≤ n ∧ ix = .int .i64 k ∧ Hid (GoodV l k) ∧ Below w.heap.size w wr) (fun ix _ => n - (intOf ix).toNat)
    case atStart => exact ⟨0, Nat.zero_le _, rfl, Lib.hid (fun j hj => absurd hj (by omega)), Below.refl _ _⟩
    case round =>
      obtain ⟨k, hk, rfl, HG, hbw⟩ := hrel
      (obtain ⟨wk, hwk⟩ : ∃ x, x = wr := ⟨_, rfl⟩); subst hwk
      by_cases hlt : k < n
      · obtain ⟨b, off, rfl, hb, hc⟩ := (HL.out.up hbw).at (by omega)
        obtain ⟨c0, c1, c2⟩ := hc k hlt
        have hbad : voteS (vth l k) = false ∨ (0 < k ∧ befV (vth l (k - 1)) (vth l k) = false) → mayV l = false := fun h => by
          cases hm : mayV l
          · rfl
          · have := (mayV_iff.1 hm).2 k (by rw [HN.out]; exact hlt)
            rcases h with h | ⟨h, h2⟩
            · rw [this.1] at h; cases h
            · rw [this.2 h] at h2; cases h2
        have HB := Lib.hid hbad
        clear hbad
        cases hv : voteS (vth l k)
        · have HV := Lib.hid hv
          clear hv hc
          go_wp2_with fail
          refine wp_region_fam (by kernel_rfl) (by kernel_rfl) (fun ι F hne hF hcl => ?_)
          have hcF0 := fun n o => (bcell (hF n)).1 (b) o (by first | (simp; done) | (simp; omega) | omega)
          have HF := Lib.hid hF; clear hF
          have HC := Lib.hid hcl; clear hcl
          repeat (any_goals (first
           | go_big_quiet_step (first | (go_at_call 69; exact Calls.fam HC.out (ref19_vote _ false _ HV.out)))
           | (refine wpQuiet_guard _ _ _ rfl rfl ?_; (fail_if_success (intro b' hb; have h2 := hb.symm; have : b' = true := h2.trans (by with_reducible rfl))); (fail_if_success (intro b' hb; have h2 := hb.symm; have : b' = false := h2.trans (by with_reducible rfl))); intro b' hb; simp only [hb]; cases b' <;> (try simp only [Bool.not_eq_true', Bool.not_eq_false', decide_eq_true_eq, decide_eq_false_iff_not, Int.not_lt, Int.not_le, Bool.and_eq_true, Bool.or_eq_true, Bool.or_eq_false_iff, beq_iff_eq, beq_eq_false_iff_ne, Int.natCast_pos] at hb))))
          all_goals (refine wpQuiet_nil ?_; intro nq)
          have hFwf := HF.out nq
          clear HF HC hne
          generalize F nq = wf at *
          go_wp2_with fail
          go_ret
          exact ⟨ret_bool (by rw [← HY.out, HB.out (.inl HV.out)]), bel_trans hbw hFwf⟩
        · have HV := Lib.hid hv
          clear hv
          rcases Nat.eq_zero_or_pos k with hk0 | hk0
          · subst hk0
            clear hc
            rw [Nat.zero_mul, Nat.add_zero] at c0 c1 c2
            go_wp2_with fail
            refine wp_region_fam (by kernel_rfl) (by kernel_rfl) (fun ι F hne hF hcl => ?_)
            have hcF0 := fun n o => (bcell (hF n)).1 (b) o (by first | (simp; done) | (simp; omega) | omega)
            have HF := Lib.hid hF; clear hF
            have HC := Lib.hid hcl; clear hcl
            repeat (any_goals (first
             | go_big_quiet_step (first | (go_at_call 69; exact Calls.fam HC.out (ref19_vote _ true _ HV.out)))
             | (refine wpQuiet_guard _ _ _ rfl rfl ?_; (fail_if_success (intro b' hb; have h2 := hb.symm; have : b' = true := h2.trans (by with_reducible rfl))); (fail_if_success (intro b' hb; have h2 := hb.symm; have : b' = false := h2.trans (by with_reducible rfl))); intro b' hb; simp only [hb]; cases b' <;> (try simp only [Bool.not_eq_true', Bool.not_eq_false', decide_eq_true_eq, decide_eq_false_iff_not, Int.not_lt, Int.not_le, Bool.and_eq_true, Bool.or_eq_true, Bool.or_eq_false_iff, beq_iff_eq, beq_eq_false_iff_ne, Int.natCast_pos] at hb))))
            all_goals (refine wpQuiet_nil ?_; intro nq)
            have hFwf := HF.out nq
            clear HF HC hne
            generalize F nq = wf at *
            go_wp2_with fail
            (first | (go_round; (case rel => exact ⟨1, by omega, rfl, Lib.hid (HG.out.succ HV.out (fun h => absurd h (by omega))), bel_trans hbw hFwf⟩); (case measure => (simp [intOf] <;> omega))) | (go_roundw; (case rel => exact ⟨1, by omega, rfl, Lib.hid (HG.out.succ HV.out (fun h => absurd h (by omega))), bel_trans hbw hFwf⟩); (case measure => (simp [intOf] <;> omega))) | (refine ⟨?_, by simp [intOf] <;> omega⟩; (repeat apply Exists.intro); refine ⟨?rel, ?fr⟩; (case fr => ((repeat' apply And.intro) <;> rfl)); (case rel => exact ⟨1, by omega, rfl, Lib.hid (HG.out.succ HV.out (fun h => absurd h (by omega))), bel_trans hbw hFwf⟩)))
          · obtain ⟨d0, d1, d2⟩ := hc (k - 1) (by omega)
            clear hc
            have hk1 : (0 : Int) < (k : Int) := by omega
            cases hq : befS (vth l (k - 1)).ro (vth l (k - 1)).au (vth l k).ro (vth l k).au
            · have HQ := Lib.hid hq
              clear hq
              go_wp2_with fail
              refine wp_region_fam (by kernel_rfl) (by kernel_rfl) (fun ι F hne hF hcl => ?_)
              have hcF0 := fun n o => (bcell (hF n)).1 (b) o (by first | (simp; done) | (simp; omega) | omega)
              have HF := Lib.hid hF; clear hF
              have HC := Lib.hid hcl; clear hcl
              repeat (any_goals (first
               | go_big_quiet_step (first | (go_at_call 69; exact Calls.fam HC.out (ref19_vote _ true _ HV.out)) | (go_at_call 70; exact Calls.fam_same (ref1_BeforeAt _ _ _ _ false _ HQ.out)))
               | (refine wpQuiet_guard _ _ _ rfl rfl ?_; (fail_if_success (intro b' hb; have h2 := hb.symm; have : b' = true := h2.trans (by with_reducible rfl))); (fail_if_success (intro b' hb; have h2 := hb.symm; have : b' = false := h2.trans (by with_reducible rfl))); intro b' hb; simp only [hb]; cases b' <;> (try simp only [Bool.not_eq_true', Bool.not_eq_false', decide_eq_true_eq, decide_eq_false_iff_not, Int.not_lt, Int.not_le, Bool.and_eq_true, Bool.or_eq_true, Bool.or_eq_false_iff, beq_iff_eq, beq_eq_false_iff_ne, Int.natCast_pos] at hb))))
              all_goals (refine wpQuiet_nil ?_; intro nq)
              all_goals (try (exfalso; omega))
              have hFwf := HF.out nq
              clear HF HC hne
              generalize F nq = wf at *
              go_wp2_with fail
              go_ret
              exact ⟨ret_bool (by rw [← HY.out, HB.out (.inr ⟨hk0, HQ.out⟩)]), bel_trans hbw hFwf⟩
            · have HQ := Lib.hid hq
              clear hq
              go_wp2_with fail
              refine wp_region_fam (by kernel_rfl) (by kernel_rfl) (fun ι F hne hF hcl => ?_)
              have hcF0 := fun n o => (bcell (hF n)).1 (b) o (by first | (simp; done) | (simp; omega) | omega)
              have HF := Lib.hid hF; clear hF
              have HC := Lib.hid hcl; clear hcl
              repeat (any_goals (first
               | go_big_quiet_step (first | (go_at_call 69; exact Calls.fam HC.out (ref19_vote _ true _ HV.out)) | (go_at_call 70; exact Calls.fam_same (ref1_BeforeAt _ _ _ _ true _ HQ.out)))
               | (refine wpQuiet_guard _ _ _ rfl rfl ?_; (fail_if_success (intro b' hb; have h2 := hb.symm; have : b' = true := h2.trans (by with_reducible rfl))); (fail_if_success (intro b' hb; have h2 := hb.symm; have : b' = false := h2.trans (by with_reducible rfl))); intro b' hb; simp only [hb]; cases b' <;> (try simp only [Bool.not_eq_true', Bool.not_eq_false', decide_eq_true_eq, decide_eq_false_iff_not, Int.not_lt, Int.not_le, Bool.and_eq_true, Bool.or_eq_true, Bool.or_eq_false_iff, beq_iff_eq, beq_eq_false_iff_ne, Int.natCast_pos] at hb))))
              all_goals (refine wpQuiet_nil ?_; intro nq)
              all_goals (try (exfalso; omega))
              have hFwf := HF.out nq
              clear HF HC hne
              generalize F nq = wf at *
              go_wp2_with fail
              (first | (go_round; (case rel => exact ⟨k + 1, by omega, by go_num, Lib.hid (HG.out.succ HV.out (fun _ => HQ.out)), bel_trans hbw hFwf⟩); (case measure => (simp [intOf] <;> omega))) | (go_roundw; (case rel => exact ⟨k + 1, by omega, by go_num, Lib.hid (HG.out.succ HV.out (fun _ => HQ.out)), bel_trans hbw hFwf⟩); (case measure => (simp [intOf] <;> omega))) | (refine ⟨?_, by simp [intOf] <;> omega⟩; (repeat apply Exists.intro); refine ⟨?rel, ?fr⟩; (case fr => ((repeat' apply And.intro) <;> rfl)); (case rel => exact ⟨k + 1, by omega, by go_num, Lib.hid (HG.out.succ HV.out (fun _ => HQ.out)), bel_trans hbw hFwf⟩)))
      · obtain rfl : k = n := by omega
        go_wp2_with fail
        go_ret
        exact ⟨ret_bool (by rw [← HY.out]; exact dec_true ⟨by rw [HN.out]; omega, by rw [HN.out]; exact HG.out⟩), hbw⟩

/-! ### vote.May: it jumps -/
def VMJ (A : Option Addr) (n c : Nat) (l : List VoteD) (w : World) (a' : Act) (w' : World) : Prop :=
  ∃ (k : Nat) (u1 u2 u4 u5 u6 u7 u8 u9 u10 u11 u12 u13 u14 u15 u16 u17 u18 u19 u20 u21 u22 u23 u24 u25 u26 u27 u28 u29 u30 u31 u32 u33 u34 u35 : Value), a' = { tmps := #[.slice A n c, u1, u2, .int .i64 (k : Int), u4, u5, u6, u7, u8, u9, u10, u11, u12, u13, u14, u15, u16, u17, u18, u19, u20, u21, u22, u23, u24, u25, u26, u27, u28, u29, u30, u31, u32, u33, u34, u35], defers := [] } ∧ n ≤ 65536 ∧ k ≤ n ∧ GoodV l k ∧ Below w.heap.size w w'
theorem VMJ.mk {A : Option Addr} {n c : Nat} {l : List VoteD} {w : World} {ix : Int} {k : Nat} {u1 u2 u4 u5 u6 u7 u8 u9 u10 u11 u12 u13 u14 u15 u16 u17 u18 u19 u20 u21 u22 u23 u24 u25 u26 u27 u28 u29 u30 u31 u32 u33 u34 u35 : Value} {w' : World} (hn : n ≤ 65536) (hk : k ≤ n) (h : GoodV l k) (hb : Below w.heap.size w w') (hix : ix = (k : Int)) :
    VMJ A n c l w { tmps := #[.slice A n c, u1, u2, .int .i64 ix, u4, u5, u6, u7, u8, u9, u10, u11, u12, u13, u14, u15, u16, u17, u18, u19, u20, u21, u22, u23, u24, u25, u26, u27, u28, u29, u30, u31, u32, u33, u34, u35], defers := [] } w' := hix ▸ ⟨k, _, _, _, _, _, _, _, _, _, _, _, _, _, _, _, _, _, _, _, _, _, _, _, _, _, _, _, _, _, _, _, _, _, _, rfl, hn, hk, h, hb⟩
def VME (l : List VoteD) (w : World) (a' : Act) (w' : World) : Prop :=
  ∃ (u0 u1 u2 u3 u4 u5 u6 u7 u8 u9 u10 u11 u12 u13 u14 u15 u16 u17 u18 u19 u20 u21 u22 u23 u24 u25 u26 u27 u28 u29 u30 u31 u32 u33 u34 u35 : Value), a' = { tmps := #[u0, u1, u2, u3, u4, u5, u6, u7, u8, u9, u10, u11, u12, u13, u14, u15, u16, u17, u18, u19, u20, u21, u22, u23, u24, u25, u26, u27, u28, u29, u30, u31, u32, u33, u34, u35], defers := [] } ∧ mayV l = false ∧ Below w.heap.size w w'
set_option maxRecDepth 100000 in
set_option maxHeartbeats 2000000 in
theorem vote_May (A : Option Addr) (n c : Nat) (l : List VoteD) (y : Bool) (w : World) (hl : VotesR w A n l) (hy : mayV l = y) : Calls Try.prog 61 #[.slice A n c] w fun e w' => e = .returned (.bool y) ∧ Below w.heap.size w w' := by
  have HY := Lib.hid hy
  have HL := Lib.hid hl
  have HN := Lib.hid hl.1
  have hnn : n ≤ 9223372036854775807 := hl.2.2.1
  clear hy hl
  go_enter Try.func61, Try.ntmps61
  go_wp2_with fail
  refine wp_scope_two 0 1 (VME l w) (VMJ A n c l w) (fun a' _ => n - (intOf (a'.tmps.getD 3 undef)).toNat) rfl rfl ?_ ?_ ?_
  · intro hpass
    by_cases hbig : 65536 < n
    · go_wp2_with fail
      apply wp_goto
      exact .inl ⟨rfl, _, _, _, _, _, _, _, _, _, _, _, _, _, _, _, _, _, _, _, _, _, _, _, _, _, _, _, _, _, _, _, _, _, _, _, _, rfl, by cases h : mayV l with
        | false => rfl
        | true => have := (mayV_iff.1 h).1; rw [HN.out] at this; omega, Below.refl _ _⟩
    · go_wp2_with fail
      rename_i K hK
      apply wp_label
      apply hK
      exact hpass _ _ (VMJ.mk (k := 0) (by omega) (Nat.zero_le _) (fun j hj => absurd hj (by omega)) (Below.refl _ _) rfl)
  · rintro a' w' ⟨k, u1, u2, u4, u5, u6, u7, u8, u9, u10, u11, u12, u13, u14, u15, u16, u17, u18, u19, u20, u21, u22, u23, u24, u25, u26, u27, u28, u29, u30, u31, u32, u33, u34, u35, rfl, hn5, hk, hG, hbw⟩
    have HG := Lib.hid hG; clear hG
    by_cases hlt : k < n
    · obtain ⟨b, off, rfl, hb, hc⟩ := (HL.out.up hbw).at (by omega)
      obtain ⟨c0, c1, c2⟩ := hc k hlt
      have hkn : ((k : Int) == (n : Int)) = false := by simp; omega
      have hbad : voteS (vth l k) = false ∨ (0 < k ∧ befV (vth l (k - 1)) (vth l k) = false) → mayV l = false := fun h => by
        cases hm : mayV l
        · rfl
        · have := (mayV_iff.1 hm).2 k (by rw [HN.out]; exact hlt)
          rcases h with h | ⟨h, h2⟩
          · rw [this.1] at h; cases h
          · rw [this.2 h] at h2; cases h2
      have HB := Lib.hid hbad
      clear hbad
      cases hv : voteS (vth l k)
      · have HV := Lib.hid hv
        clear hv hc
        go_wp2_with fail
        refine wp_region_fam (by kernel_rfl) (by kernel_rfl) (fun ι F hne hF hcl => ?_)
        have hcF0 := fun n o => (bcell (hF n)).1 (b) o (by first | (simp; done) | (simp; omega) | omega)
        have HF := Lib.hid hF; clear hF
        have HC := Lib.hid hcl; clear hcl
        repeat (any_goals (first
         | go_big_quiet_step (first | (go_at_call 63; exact Calls.fam HC.out (vote_may _ false _ HV.out)))
         | (refine wpQuiet_guard _ _ _ rfl rfl ?_; (fail_if_success (intro b' hb; have h2 := hb.symm; have : b' = true := h2.trans (by with_reducible rfl))); (fail_if_success (intro b' hb; have h2 := hb.symm; have : b' = false := h2.trans (by with_reducible rfl))); intro b' hb; simp only [hb]; cases b' <;> (try simp only [Bool.not_eq_true', Bool.not_eq_false', decide_eq_true_eq, decide_eq_false_iff_not, Int.not_lt, Int.not_le, Bool.and_eq_true, Bool.or_eq_true, Bool.or_eq_false_iff, beq_iff_eq, beq_eq_false_iff_ne, Int.natCast_pos] at hb))))
        all_goals (refine wpQuiet_nil ?_; intro nq)
        have hFwf := HF.out nq
        clear HF HC hne
        generalize F nq = wf at *
        go_wp2_with fail
        rename_i K hK
        apply wp_label
        apply hK
        go_wp2_with fail
        simp only [Exit.jump2]
        go_ret
        exact ⟨ret_bool (by rw [← HY.out, HB.out (.inl HV.out)]), bel_trans hbw hFwf⟩
      · have HV := Lib.hid hv
        clear hv
        rcases Nat.eq_zero_or_pos k with hk0 | hk0
        · subst hk0
          clear hc
          rw [Nat.zero_mul, Nat.add_zero] at c0 c1 c2
          go_wp2_with fail
          refine wp_region_fam (by kernel_rfl) (by kernel_rfl) (fun ι F hne hF hcl => ?_)
          have hcF0 := fun n o => (bcell (hF n)).1 (b) o (by first | (simp; done) | (simp; omega) | omega)
          have HF := Lib.hid hF; clear hF
          have HC := Lib.hid hcl; clear hcl
          repeat (any_goals (first
           | go_big_quiet_step (first | (go_at_call 63; exact Calls.fam HC.out (vote_may _ true _ HV.out)))
           | (refine wpQuiet_guard _ _ _ rfl rfl ?_; (fail_if_success (intro b' hb; have h2 := hb.symm; have : b' = true := h2.trans (by with_reducible rfl))); (fail_if_success (intro b' hb; have h2 := hb.symm; have : b' = false := h2.trans (by with_reducible rfl))); intro b' hb; simp only [hb]; cases b' <;> (try simp only [Bool.not_eq_true', Bool.not_eq_false', decide_eq_true_eq, decide_eq_false_iff_not, Int.not_lt, Int.not_le, Bool.and_eq_true, Bool.or_eq_true, Bool.or_eq_false_iff, beq_iff_eq, beq_eq_false_iff_ne, Int.natCast_pos] at hb))))
          all_goals (refine wpQuiet_nil ?_; intro nq)
          have hFwf := HF.out nq
          clear HF HC hne
          generalize F nq = wf at *
          go_wp2_with fail
          apply wp_goto
          refine .inr ⟨rfl, VMJ.mk (k := 1) hn5 (by omega) (HG.out.succ HV.out (fun h => absurd h (by omega))) (bel_trans hbw hFwf) rfl, ?_⟩
          simp [intOf]; omega
        · obtain ⟨d0, d1, d2⟩ := hc (k - 1) (by omega)
          clear hc
          have hkz : ((k : Int) == 0) = false := by simp; omega
          have hvp := (HG.out (k - 1) (by omega)).1
          have s1 := voteS_iff.1 HV.out
          have s2 := voteS_iff.1 hvp
          have m1 : Sm (vth l (k - 1)).ro := ⟨by omega, by omega⟩
          have m2 : Sm (vth l (k - 1)).au := ⟨by omega, by omega⟩
          have m3 : Sm (vth l k).ro := ⟨by omega, by omega⟩
          have m4 : Sm (vth l k).au := ⟨by omega, by omega⟩
          clear hvp s1 s2
          cases hq : befS (vth l (k - 1)).ro (vth l (k - 1)).au (vth l k).ro (vth l k).au
          · have HQ := Lib.hid hq
            clear hq
            go_wp2_with fail
            refine wp_region_fam (by kernel_rfl) (by kernel_rfl) (fun ι F hne hF hcl => ?_)
            have hcF0 := fun n o => (bcell (hF n)).1 (b) o (by first | (simp; done) | (simp; omega) | omega)
            have HF := Lib.hid hF; clear hF
            have HC := Lib.hid hcl; clear hcl
            repeat (any_goals (first
             | go_big_quiet_step (first | (go_at_call 63; exact Calls.fam HC.out (vote_may _ true _ HV.out)) | (go_at_call 95; exact Calls.fam HC.out (vote_of _ _ _ _)) | (go_at_call 94; exact Calls.fam_same (place_LessAt _ _ _ _ false _ m1 m2 m3 m4 HQ.out)))
             | (refine wpQuiet_guard _ _ _ rfl rfl ?_; (fail_if_success (intro b' hb; have h2 := hb.symm; have : b' = true := h2.trans (by with_reducible rfl))); (fail_if_success (intro b' hb; have h2 := hb.symm; have : b' = false := h2.trans (by with_reducible rfl))); intro b' hb; simp only [hb]; cases b' <;> (try simp only [Bool.not_eq_true', Bool.not_eq_false', decide_eq_true_eq, decide_eq_false_iff_not, Int.not_lt, Int.not_le, Bool.and_eq_true, Bool.or_eq_true, Bool.or_eq_false_iff, beq_iff_eq, beq_eq_false_iff_ne, Int.natCast_pos] at hb))))
            all_goals (refine wpQuiet_nil ?_; intro nq)
            all_goals (try (exfalso; omega))
            have hFwf := HF.out nq
            clear HF HC hne
            generalize F nq = wf at *
            go_wp2_with fail
            rename_i K hK
            apply wp_label
            apply hK
            go_wp2_with fail
            simp only [Exit.jump2]
            go_ret
            exact ⟨ret_bool (by rw [← HY.out, HB.out (.inr ⟨hk0, HQ.out⟩)]), bel_trans hbw hFwf⟩
          · have HQ := Lib.hid hq
            clear hq
            go_wp2_with fail
            refine wp_region_fam (by kernel_rfl) (by kernel_rfl) (fun ι F hne hF hcl => ?_)
            have hcF0 := fun n o => (bcell (hF n)).1 (b) o (by first | (simp; done) | (simp; omega) | omega)
            have HF := Lib.hid hF; clear hF
            have HC := Lib.hid hcl; clear hcl
            repeat (any_goals (first
             | go_big_quiet_step (first | (go_at_call 63; exact Calls.fam HC.out (vote_may _ true _ HV.out)) | (go_at_call 95; exact Calls.fam HC.out (vote_of _ _ _ _)) | (go_at_call 94; exact Calls.fam_same (place_LessAt _ _ _ _ true _ m1 m2 m3 m4 HQ.out)))
             | (refine wpQuiet_guard _ _ _ rfl rfl ?_; (fail_if_success (intro b' hb; have h2 := hb.symm; have : b' = true := h2.trans (by with_reducible rfl))); (fail_if_success (intro b' hb; have h2 := hb.symm; have : b' = false := h2.trans (by with_reducible rfl))); intro b' hb; simp only [hb]; cases b' <;> (try simp only [Bool.not_eq_true', Bool.not_eq_false', decide_eq_true_eq, decide_eq_false_iff_not, Int.not_lt, Int.not_le, Bool.and_eq_true, Bool.or_eq_true, Bool.or_eq_false_iff, beq_iff_eq, beq_eq_false_iff_ne, Int.natCast_pos] at hb))))
            all_goals (refine wpQuiet_nil ?_; intro nq)
            all_goals (try (exfalso; omega))
            have hFwf := HF.out nq
            clear HF HC hne
            generalize F nq = wf at *
            go_wp2_with fail
            apply wp_goto
            refine .inr ⟨rfl, VMJ.mk (k := k + 1) hn5 (by omega) (HG.out.succ HV.out (fun _ => HQ.out)) (bel_trans hbw hFwf) (by omega), ?_⟩
            simp [intOf]; omega
    · obtain rfl : k = n := by omega
      go_wp2_with fail
      simp only [Exit.jump2]
      go_ret
      exact ⟨ret_bool (by rw [← HY.out]; exact dec_true ⟨by rw [HN.out]; exact hn5, by rw [HN.out]; exact HG.out⟩), hbw⟩
  · rintro a' w' ⟨u0, u1, u2, u3, u4, u5, u6, u7, u8, u9, u10, u11, u12, u13, u14, u15, u16, u17, u18, u19, u20, u21, u22, u23, u24, u25, u26, u27, u28, u29, u30, u31, u32, u33, u34, u35, rfl, hm, hbw⟩
    go_wp2_with fail
    simp only [Exit.noGoto]
    go_ret
    exact ⟨ret_bool (by rw [← HY.out, hm]), hbw⟩
set_option maxRecDepth 100000 in
set_option maxHeartbeats 1000000 in
theorem vote_Check (A : Option Addr) (n c : Nat) (l : List VoteD) (y : Int) (w : World) (hl : VotesR w A n l) (hy : (if mayV l = true then 0 else 1) = y) : Calls Try.prog 38 #[.slice A n c] w fun e w' => e = .returned (.int .i64 y) ∧ Below w.heap.size w w' := by
  cases hm : mayV l
  all_goals
    have HY := Lib.hid hy
    have HM := Lib.hid hm
    clear hy hm
    go_enter Try.func38, Try.ntmps38
    go_wp2_with fail
    refine (vote_May A n c l _ _ hl HM.out).mono ?_
    rintro e w1 ⟨rfl, hb1⟩
    go_wp2_with fail
    go_ret
    exact ⟨ret_int (by rw [← HY.out, HM.out]; rfl), hb1⟩
end Go.Proofs.Ytffoglofijffpaa
