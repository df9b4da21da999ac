/- order: rising, looking up in a list that rises, Behind, Order. -/
import Derived.Test.YtfkbilbgndekkaaCb
import Derived.IntWalk
namespace Go.Proofs.Ytfkbilbgndekkaa
open Go.RowKit
set_option linter.unusedSimpArgs false
set_option linter.unusedVariables false

/-! ### rising -/
def RisF (n : Nat) (l : List Int) (k : Nat) : Prop := 1 ≤ k ∧ (k ≤ n ∨ k = 1) ∧ ∀ j, j + 1 < k → nth l j < nth l (j + 1)
def RisJ (A : Option Addr) (n c : Nat) (l : List Int) (w : World) (a' : Act) (w' : World) : Prop :=
  ∃ (k : Nat) (u1 u2 u4 u5 u6 u7 u8 u9 u10 u11 u12 u13 u14 u15 u16 u17 u18 u19 : Value), a' = { tmps := #[.slice A n c, u1, u2, .int .i64 (k : Int), u4, u5, u6, u7, u8, u9, u10, u11, u12, u13, u14, u15, u16, u17, u18, u19], defers := [] } ∧ RisF n l k ∧ Below w.heap.size w w'
theorem RisJ.mk {A : Option Addr} {n c : Nat} {l : List Int} {w : World} {ix : Int} {k : Nat} {u1 u2 u4 u5 u6 u7 u8 u9 u10 u11 u12 u13 u14 u15 u16 u17 u18 u19 : Value} {w' : World} (h : RisF n l k) (hb : Below w.heap.size w w') (hix : ix = (k : Int)) :
    RisJ A n c l w { tmps := #[.slice A n c, u1, u2, .int .i64 ix, u4, u5, u6, u7, u8, u9, u10, u11, u12, u13, u14, u15, u16, u17, u18, u19], defers := [] } w' := hix ▸ ⟨k, _, _, _, _, _, _, _, _, _, _, _, _, _, _, _, _, _, _, rfl, h, hb⟩
set_option maxRecDepth 100000 in
set_option maxHeartbeats 1000000 in
theorem order_rising (A : Option Addr) (n c : Nat) (l : List Int) (w : World) (hl : IntsR w A n l) :
    Calls Try.prog 74 #[.slice A n c] w fun e w' => e = .returned (.bool (risS l)) ∧ Below w.heap.size w w' := by
  have HL := Lib.hid hl
  have HN := Lib.hid hl.1
  have hnn : n ≤ 9223372036854775807 := hl.2.1
  clear hl
  go_enter Try.func74, Try.ntmps74
  go_wp2_with fail
  refine wp_scope_back 0 (RisJ A n c l w) (fun a' _ => n - (intOf (a'.tmps.getD 3 undef)).toNat) rfl ?_ ?_
  · intro hpass
    go_wp2_with fail
    rename_i K hK
    apply wp_label
    apply hK
    exact hpass _ _ (RisJ.mk (k := 1) ⟨Nat.le_refl _, .inr rfl, fun j hj => absurd hj (by omega)⟩ (Below.refl _ _) rfl)
  · rintro a' w' ⟨k, u1, u2, u4, u5, u6, u7, u8, u9, u10, u11, u12, u13, u14, u15, u16, u17, u18, u19, rfl, ⟨hk1, hk2, hr⟩, hbw⟩
    have HR := Lib.hid hr; clear hr
    by_cases hlt : k < n
    · obtain ⟨b, off, rfl, hb, hc⟩ := (HL.out.up hbw).2.2 (by omega)
      have hck := hc k hlt
      have hcp := hc (k - 1) (by omega)
      clear hc
      by_cases hq : nth l (k - 1) < nth l k
      · have hd : decide (nth l (k - 1) < nth l k) = true := by simpa using hq
        have HQ := Lib.hid hq; clear hq
        go_wp2_with fail
        refine wp_region_fam (by kernel_rfl) (by kernel_rfl) (fun ι F hne hF hcl => ?_)
        have hcF0 := fun n o => (bcell (hF n)).1 (b) o (by first | (simp; done) | (simp; omega) | omega)
        have HF := Lib.hid hF; clear hF
        have HC := Lib.hid hcl; clear hcl
        repeat (any_goals (first
         | go_big_quiet_step (first | (fail))
         | (refine wpQuiet_guard _ _ _ rfl rfl ?_; (fail_if_success (intro b' hb; have h2 := hb.symm; have : b' = true := h2.trans (by with_reducible rfl))); (fail_if_success (intro b' hb; have h2 := hb.symm; have : b' = false := h2.trans (by with_reducible rfl))); intro b' hb; simp only [hb]; cases b' <;> (try simp only [Bool.not_eq_true', Bool.not_eq_false', decide_eq_true_eq, decide_eq_false_iff_not, Int.not_lt, Int.not_le, Bool.and_eq_true, Bool.or_eq_true, Bool.or_eq_false_iff, beq_iff_eq, beq_eq_false_iff_ne, Int.natCast_pos] at hb))))
        all_goals (refine wpQuiet_nil ?_; intro nq)
        have hFwf := HF.out nq
        clear HF HC hne
        generalize F nq = wf at *
        go_wp2_with fail
        apply wp_goto
        refine ⟨rfl, RisJ.mk (k := k + 1) ⟨by omega, by omega, fun j hj => ?_⟩ (bel_trans hbw hFwf) (by omega), ?_⟩
        · by_cases hjk : j = k - 1
          · subst hjk; rw [show k - 1 + 1 = k by omega]; exact HQ.out
          · exact HR.out j (by omega)
        · simp [intOf]; omega
      · have hd : decide (nth l (k - 1) < nth l k) = false := by simpa using hq
        have HQ := Lib.hid hq; clear hq
        go_wp2_with fail
        refine wp_region_fam (by kernel_rfl) (by kernel_rfl) (fun ι F hne hF hcl => ?_)
        have hcF0 := fun n o => (bcell (hF n)).1 (b) o (by first | (simp; done) | (simp; omega) | omega)
        have HF := Lib.hid hF; clear hF
        have HC := Lib.hid hcl; clear hcl
        repeat (any_goals (first
         | go_big_quiet_step (first | (fail))
         | (refine wpQuiet_guard _ _ _ rfl rfl ?_; (fail_if_success (intro b' hb; have h2 := hb.symm; have : b' = true := h2.trans (by with_reducible rfl))); (fail_if_success (intro b' hb; have h2 := hb.symm; have : b' = false := h2.trans (by with_reducible rfl))); intro b' hb; simp only [hb]; cases b' <;> (try simp only [Bool.not_eq_true', Bool.not_eq_false', decide_eq_true_eq, decide_eq_false_iff_not, Int.not_lt, Int.not_le, Bool.and_eq_true, Bool.or_eq_true, Bool.or_eq_false_iff, beq_iff_eq, beq_eq_false_iff_ne, Int.natCast_pos] at hb))))
        all_goals (refine wpQuiet_nil ?_; intro nq)
        have hFwf := HF.out nq
        clear HF HC hne
        generalize F nq = wf at *
        go_wp2_with fail
        simp only [Exit.jump]
        go_ret
        exact ⟨ret_bool (dec_false (p := Rises l) fun g => absurd HQ.out (by have := g (k - 1) (by rw [HN.out]; omega); rw [show k - 1 + 1 = k by omega] at this; omega)), bel_trans hbw hFwf⟩
    · go_wp2_with fail
      simp only [Exit.jump]
      go_ret
      exact ⟨ret_bool (dec_true (p := Rises l) fun j hj => HR.out j (by rw [HN.out] at hj; omega)), hbw⟩

/-! ### looking up -/
theorem cmp_isNaN_int (x : Int) (w : World) : Calls Try.prog 142 #[.int .i64 x] w fun e w' => e = .returned (.bool false) ∧ w = w' := by
  go_enter Try.func142, Try.ntmps142
  go_wp2
  go_ret
  exact ⟨by simp, rfl⟩
theorem slices_isNaN_int (x : Int) (w : World) : Calls Try.prog 129 #[.int .i64 x] w fun e w' => e = .returned (.bool false) ∧ w = w' := by
  go_enter Try.func129, Try.ntmps129
  go_wp2
  go_ret
  exact ⟨by simp, rfl⟩
theorem cmp_Less_int (x y : Int) (w : World) : Calls Try.prog 128 #[.int .i64 x, .int .i64 y] w fun e w' => e = .returned (.bool (decide (x < y))) ∧ w = w' := by
  go_enter Try.func128, Try.ntmps128
  go_wp2_with (go_at_call 142; refine (cmp_isNaN_int _ _).mono ?_; rintro e w' ⟨rfl, rfl⟩)
  all_goals (go_ret; refine ⟨ret_bool ?_, rfl⟩; first | rfl | (simp [*]; done))
theorem Rises.lt {l : List Int} (h : Rises l) : ∀ {a b : Nat}, a < b → b < l.length → nth l a < nth l b := by
  intro a b hab hb
  induction b with
  | zero => omega
  | succ b ih =>
    rcases Nat.lt_or_ge a b with h1 | h1
    · exact Int.lt_trans (ih h1 (by omega)) (h b hb)
    · obtain rfl : a = b := by omega
      exact h a hb
theorem has_at {l : List Int} {x : Int} {lo : Nat} (h : Rises l) (h1 : ∀ t, t < lo → nth l t < x) (h2 : ∀ t, lo ≤ t → t < l.length → x ≤ nth l t) : hasS l x = decide (lo < l.length ∧ nth l lo = x) := by
  rw [Bool.eq_iff_iff, hasS_iff, decide_eq_true_eq]
  constructor
  · intro hm
    obtain ⟨t, ht, e⟩ := nth_mem hm
    rcases Nat.lt_or_ge t lo with h3 | h3
    · have := h1 t h3; omega
    · rcases Nat.lt_or_ge lo t with h4 | h4
      · have := h2 lo (Nat.le_refl _) (by omega); have := h.lt h4 ht; omega
      · obtain rfl : t = lo := by omega
        exact ⟨ht, e⟩
  · rintro ⟨h3, h4⟩; rw [← h4]; exact mem_nth h3
def BsF (n : Nat) (l : List Int) (x : Int) (lo hi : Nat) : Prop := (∀ t, t < lo → nth l t < x) ∧ (∀ t, hi ≤ t → t < n → x ≤ nth l t)
set_option maxRecDepth 100000 in
set_option maxHeartbeats 1000000 in
theorem slices_BinarySearch (A : Option Addr) (n c : Nat) (l : List Int) (x : Int) (w : World) (hl : IntsR w A n l) (hr : Rises l) (hn : n ≤ 1000000000) :
    Calls Try.prog 108 #[.slice A n c, .int .i64 x] w fun e w' => ∃ i : Int, e = .returned (.tuple #[.int .i64 i, .bool (hasS l x)]) ∧ Below w.heap.size w w' := by
  have HL := Lib.hid hl
  have HN := Lib.hid hl.1
  have HR := Lib.hid hr
  clear hl hr
  go_enter Try.func108, Try.ntmps108
  go_wp2_with fail
  go_loopw [7, 8] (fun s7 s8 wr => ∃ lo hi : Nat, s7 = .int .i64 lo ∧ s8 = .int .i64 hi ∧ lo ≤ hi ∧ hi ≤ n ∧ Hid (BsF n l x lo hi) ∧ Below w.heap.size w wr) (fun s7 s8 _ => (intOf s8).toNat - (intOf s7).toNat)
  case atStart => exact ⟨0, n, rfl, rfl, Nat.zero_le _, Nat.le_refl _, ⟨fun t ht => absurd ht (Nat.not_lt_zero _), fun t h1 h2 => by omega⟩, Below.refl _ _⟩
  case round =>
    obtain ⟨lo, hi, rfl, rfl, hlh, hin, I, hbw⟩ := hrel
    by_cases hlt : lo < hi
    · obtain ⟨b, off, rfl, hb, hc⟩ := (HL.out.up hbw).2.2 (by omega)
      have cm := hc ((lo + hi) / 2) (by omega)
      clear hc
      by_cases hyx : nth l ((lo + hi) / 2) < x
      · have hd : decide (nth l ((lo + hi) / 2) < x) = true := by simpa using hyx
        have HQ := Lib.hid hyx; clear hyx
        go_wp2_with (first | (go_at_call 128; refine (cmp_Less_int _ _ _).mono ?_; rintro e w' ⟨rfl, rfl⟩) | (go_at_call 129; refine (slices_isNaN_int _ _).mono ?_; rintro e w' ⟨rfl, rfl⟩))
        (first | (go_round; (case rel => (refine ⟨(lo + hi) / 2 + 1, hi, by rw [show ((lo : Int) + (hi : Int)) / 2 + 1 = (((lo + hi) / 2 + 1 : Nat) : Int) by omega], rfl, by omega, hin, Lib.hid ⟨fun t ht => ?_, I.out.2⟩, hbw⟩; have q := HQ.out; rcases Nat.lt_or_ge t ((lo + hi) / 2) with h1 | h1; (have := HR.out.lt h1 (by rw [HN.out]; omega); omega); (obtain rfl : t = (lo + hi) / 2 := by omega); exact q)); (case measure => (simp [intOf] <;> omega))) | (go_roundw; (case rel => (refine ⟨(lo + hi) / 2 + 1, hi, by rw [show ((lo : Int) + (hi : Int)) / 2 + 1 = (((lo + hi) / 2 + 1 : Nat) : Int) by omega], rfl, by omega, hin, Lib.hid ⟨fun t ht => ?_, I.out.2⟩, hbw⟩; have q := HQ.out; rcases Nat.lt_or_ge t ((lo + hi) / 2) with h1 | h1; (have := HR.out.lt h1 (by rw [HN.out]; omega); omega); (obtain rfl : t = (lo + hi) / 2 := by omega); exact q)); (case measure => (simp [intOf] <;> omega))) | (refine ⟨?_, by simp [intOf] <;> omega⟩; (repeat apply Exists.intro); refine ⟨?rel, ?fr⟩; (case fr => ((repeat' apply And.intro) <;> rfl)); (case rel => (refine ⟨(lo + hi) / 2 + 1, hi, by rw [show ((lo : Int) + (hi : Int)) / 2 + 1 = (((lo + hi) / 2 + 1 : Nat) : Int) by omega], rfl, by omega, hin, Lib.hid ⟨fun t ht => ?_, I.out.2⟩, hbw⟩; have q := HQ.out; rcases Nat.lt_or_ge t ((lo + hi) / 2) with h1 | h1; (have := HR.out.lt h1 (by rw [HN.out]; omega); omega); (obtain rfl : t = (lo + hi) / 2 := by omega); exact q))))
      · have hd : decide (nth l ((lo + hi) / 2) < x) = false := by simpa using hyx
        have HQ := Lib.hid hyx; clear hyx
        go_wp2_with (first | (go_at_call 128; refine (cmp_Less_int _ _ _).mono ?_; rintro e w' ⟨rfl, rfl⟩) | (go_at_call 129; refine (slices_isNaN_int _ _).mono ?_; rintro e w' ⟨rfl, rfl⟩))
        (first | (go_round; (case rel => (refine ⟨lo, (lo + hi) / 2, rfl, by rw [show ((lo : Int) + (hi : Int)) / 2 = (((lo + hi) / 2 : Nat) : Int) by omega], by omega, by omega, Lib.hid ⟨I.out.1, fun t ht htn => ?_⟩, hbw⟩; have q := HQ.out; rcases Nat.lt_or_ge ((lo + hi) / 2) t with h1 | h1; (have := HR.out.lt h1 (by rw [HN.out]; omega); omega); (obtain rfl : t = (lo + hi) / 2 := by omega); omega)); (case measure => (simp [intOf] <;> omega))) | (go_roundw; (case rel => (refine ⟨lo, (lo + hi) / 2, rfl, by rw [show ((lo : Int) + (hi : Int)) / 2 = (((lo + hi) / 2 : Nat) : Int) by omega], by omega, by omega, Lib.hid ⟨I.out.1, fun t ht htn => ?_⟩, hbw⟩; have q := HQ.out; rcases Nat.lt_or_ge ((lo + hi) / 2) t with h1 | h1; (have := HR.out.lt h1 (by rw [HN.out]; omega); omega); (obtain rfl : t = (lo + hi) / 2 := by omega); omega)); (case measure => (simp [intOf] <;> omega))) | (refine ⟨?_, by simp [intOf] <;> omega⟩; (repeat apply Exists.intro); refine ⟨?rel, ?fr⟩; (case fr => ((repeat' apply And.intro) <;> rfl)); (case rel => (refine ⟨lo, (lo + hi) / 2, rfl, by rw [show ((lo : Int) + (hi : Int)) / 2 = (((lo + hi) / 2 : Nat) : Int) by omega], by omega, by omega, Lib.hid ⟨I.out.1, fun t ht htn => ?_⟩, hbw⟩; have q := HQ.out; rcases Nat.lt_or_ge ((lo + hi) / 2) t with h1 | h1; (have := HR.out.lt h1 (by rw [HN.out]; omega); omega); (obtain rfl : t = (lo + hi) / 2 := by omega); omega))))
    · obtain rfl : hi = lo := by omega
      have he := has_at HR.out I.out.1 (fun t h1 h2 => I.out.2 t h1 (by rw [HN.out] at h2; exact h2))
      rw [HN.out] at he
      by_cases hln : hi < n
      · obtain ⟨b, off, rfl, hb, hc⟩ := (HL.out.up hbw).2.2 (by omega)
        have cm := hc hi hln
        clear hc
        by_cases hyx : nth l hi = x
        · have hh : hasS l x = true := by rw [he]; simp [hln, hyx]
          have HH := Lib.hid hh
          have hd : (nth l hi == x) = true := by simpa using hyx
          clear he hh hyx
          go_wp2_with (first | (go_at_call 128; refine (cmp_Less_int _ _ _).mono ?_; rintro e w' ⟨rfl, rfl⟩) | (go_at_call 129; refine (slices_isNaN_int _ _).mono ?_; rintro e w' ⟨rfl, rfl⟩))
          go_ret2
          exact ⟨_, by rw [HH.out]; rfl, hbw⟩
        · have hh : hasS l x = false := by rw [he]; simp [hyx]
          have HH := Lib.hid hh
          have hd : (nth l hi == x) = false := by simpa using hyx
          clear he hh hyx
          go_wp2_with (first | (go_at_call 128; refine (cmp_Less_int _ _ _).mono ?_; rintro e w' ⟨rfl, rfl⟩) | (go_at_call 129; refine (slices_isNaN_int _ _).mono ?_; rintro e w' ⟨rfl, rfl⟩))
          go_ret2
          exact ⟨_, by rw [HH.out]; rfl, hbw⟩
      · have hh : hasS l x = false := by rw [he]; simp [hln]
        have HH := Lib.hid hh
        clear he hh
        go_wp2_with fail
        go_ret2
        exact ⟨_, by rw [HH.out]; rfl, hbw⟩
end Go.Proofs.Ytfkbilbgndekkaa
