/- Places at the program and at the reference. -/
import Derived.Test.YtffoglofijffpaaYa
namespace Go.Proofs.Ytffoglofijffpaa
open Go.RowKit
set_option linter.unusedSimpArgs false
set_option linter.unusedVariables false

set_option maxRecDepth 100000 in
set_option maxHeartbeats 1000000 in
theorem place_whole (x : Nat) (lo hi : Int) (w : World) (hlo : 0 ≤ lo) (hlh : lo ≤ hi) (hhi : hi ≤ 1099511627776) :
    Calls Try.prog 93 #[.float .f64 x, .int .i64 lo, .int .i64 hi] w fun e w' => ∃ k, e = .returned (.tuple #[.int .i64 k, .bool (whB x lo hi)]) ∧ w = w' ∧ (whB x lo hi = true → k = whN x) := by
  have hok := fun h => ok_int (x := x) (lo := lo) (hi := hi) h hlo hlh hhi
  obtain ⟨n, hn⟩ : ∃ n, n = whN x := ⟨_, rfl⟩
  have hw : whB x lo hi = (okB x lo hi && (FloatKind.f64.format.order (floatOfInt .f64 n) x == some Ordering.eq)) := by rw [hn]; rfl
  have hk : okB x lo hi = ((FloatKind.f64.format.order x (floatOfInt .f64 lo) == some Ordering.gt || FloatKind.f64.format.order x (floatOfInt .f64 lo) == some Ordering.eq) && (FloatKind.f64.format.order x (floatOfInt .f64 hi) == some Ordering.lt || FloatKind.f64.format.order x (floatOfInt .f64 hi) == some Ordering.eq)) := rfl
  rw [← hn] at hok ⊢
  cases hob : okB x lo hi
  · rw [hob] at hk
    rw [hob, Bool.false_and] at hw
    have HW := Lib.hid hw
    clear hok hob hw hn
    rcases o1 : FloatKind.f64.format.order x (floatOfInt .f64 lo) with _ | (_ | _ | _) <;> rcases o2 : FloatKind.f64.format.order x (floatOfInt .f64 hi) with _ | (_ | _ | _) <;> rw [o1, o2] at hk <;> (first | (exfalso; revert hk; decide) | skip)
    all_goals
      clear hk
      go_enter Try.func93, Try.ntmps93
      go_wp2_with fail
      go_ret2
      exact ⟨0, by rw [HW.out]; rfl, rfl, fun h => by rw [HW.out] at h; cases h⟩
  · obtain ⟨h1, h2, h3⟩ := hok hob
    have hmin : IntKind.i64.min ≤ n := by have : IntKind.i64.min = -9223372036854775808 := by decide
                                          omega
    have hmax : n ≤ IntKind.i64.max := by have : IntKind.i64.max = 9223372036854775807 := by decide
                                          omega
    have hcv : (convert 58 3 (.float .f64 x)).run Try.prog w = .ok (.int .i64 n) w := by
      simp [convert, run_underlying Try.underlying58, run_underlying Try.underlying3, Conv.floatToInt, h1, hmin, hmax]
      intro hbig; omega
    rw [hob] at hk
    rw [hob, Bool.true_and] at hw
    have HW := Lib.hid hw
    have HN := Lib.hid hn
    clear hok hob hw hn
    rcases o1 : FloatKind.f64.format.order x (floatOfInt .f64 lo) with _ | (_ | _ | _) <;> rcases o2 : FloatKind.f64.format.order x (floatOfInt .f64 hi) with _ | (_ | _ | _) <;> rw [o1, o2] at hk <;> (first | (exfalso; revert hk; decide) | skip)
    all_goals
      clear hk
      go_enter Try.func93, Try.ntmps93
      go_wp2_with fail
      go_ret2
      exact ⟨n, by rw [HW.out]; rfl, rfl, fun _ => rfl⟩
set_option maxRecDepth 100000 in
set_option maxHeartbeats 1000000 in
theorem ref1_whole (x : Nat) (lo hi : Int) (w : World) (hlo : 0 ≤ lo) (hlh : lo ≤ hi) (hhi : hi ≤ 1099511627776) :
    Calls Try.prog 58 #[.float .f64 x, .int .i64 lo, .int .i64 hi] w fun e w' => ∃ k, e = .returned (.tuple #[.int .i64 k, .bool (whB x lo hi)]) ∧ w = w' ∧ (whB x lo hi = true → k = whN x) := by
  have hok := fun h => ok_int (x := x) (lo := lo) (hi := hi) h hlo hlh hhi
  obtain ⟨n, hn⟩ : ∃ n, n = whN x := ⟨_, rfl⟩
  have hw : whB x lo hi = (okB x lo hi && (FloatKind.f64.format.order (floatOfInt .f64 n) x == some Ordering.eq)) := by rw [hn]; rfl
  have hk : okB x lo hi = ((FloatKind.f64.format.order x (floatOfInt .f64 lo) == some Ordering.gt || FloatKind.f64.format.order x (floatOfInt .f64 lo) == some Ordering.eq) && (FloatKind.f64.format.order x (floatOfInt .f64 hi) == some Ordering.lt || FloatKind.f64.format.order x (floatOfInt .f64 hi) == some Ordering.eq)) := rfl
  rw [← hn] at hok ⊢
  cases hob : okB x lo hi
  · rw [hob] at hk
    rw [hob, Bool.false_and] at hw
    have HW := Lib.hid hw
    clear hok hob hw hn
    rcases o1 : FloatKind.f64.format.order x (floatOfInt .f64 lo) with _ | (_ | _ | _) <;> rcases o2 : FloatKind.f64.format.order x (floatOfInt .f64 hi) with _ | (_ | _ | _) <;> rw [o1, o2] at hk <;> (first | (exfalso; revert hk; decide) | skip)
    all_goals
      clear hk
      go_enter Try.func58, Try.ntmps58
      go_wp2_with fail
      go_ret2
      exact ⟨0, by rw [HW.out]; rfl, rfl, fun h => by rw [HW.out] at h; cases h⟩
  · obtain ⟨h1, h2, h3⟩ := hok hob
    have hmin : IntKind.i64.min ≤ n := by have : IntKind.i64.min = -9223372036854775808 := by decide
                                          omega
    have hmax : n ≤ IntKind.i64.max := by have : IntKind.i64.max = 9223372036854775807 := by decide
                                          omega
    have hcv : (convert 58 3 (.float .f64 x)).run Try.prog w = .ok (.int .i64 n) w := by
      simp [convert, run_underlying Try.underlying58, run_underlying Try.underlying3, Conv.floatToInt, h1, hmin, hmax]
      intro hbig; omega
    rw [hob] at hk
    rw [hob, Bool.true_and] at hw
    have HW := Lib.hid hw
    have HN := Lib.hid hn
    clear hok hob hw hn
    rcases o1 : FloatKind.f64.format.order x (floatOfInt .f64 lo) with _ | (_ | _ | _) <;> rcases o2 : FloatKind.f64.format.order x (floatOfInt .f64 hi) with _ | (_ | _ | _) <;> rw [o1, o2] at hk <;> (first | (exfalso; revert hk; decide) | skip)
    all_goals
      clear hk
      go_enter Try.func58, Try.ntmps58
      go_wp2_with fail
      go_ret2
      exact ⟨n, by rw [HW.out]; rfl, rfl, fun _ => rfl⟩
def paOk (x y : Nat) : Bool := whB x 0 1099511627776 && whB y 1 16
def paR (x y : Nat) : Int := if paOk x y = true then whN x else 0
def paA (x y : Nat) : Int := if paOk x y = true then whN y else 0
def paE (x y : Nat) : Int := if paOk x y = true then 0 else 1
theorem pa_ok {x y : Nat} (h : paOk x y = true) : 0 ≤ whN x ∧ whN x ≤ 1099511627776 ∧ Dn x (whN x) ∧ 1 ≤ whN y ∧ whN y ≤ 16 ∧ Dn y (whN y) := by
  unfold paOk at h
  rw [Bool.and_eq_true] at h
  have hh : ∀ (z : Nat) (lo hi : Int), whB z lo hi = true → 0 ≤ lo → lo ≤ hi → hi ≤ 1099511627776 → lo ≤ whN z ∧ whN z ≤ hi ∧ Dn z (whN z) := fun z lo hi hz hlo hlh hhi => by
    unfold whB at hz
    rw [Bool.and_eq_true, beq_iff_eq] at hz
    obtain ⟨_, g1, g2⟩ := ok_int hz.1 hlo hlh hhi
    have hd := order_num (by omega) (by omega) hz.2
    have h1 := (hd.2 lo hlo (by omega)).2
    have h2 := (hd.2 hi (by omega) (by omega)).2
    have hk := hz.1
    unfold okB at hk
    rw [h1, h2] at hk
    simp only [compare, compareOfLessAndEq, Bool.and_eq_true, Bool.or_eq_true, beq_iff_eq, Option.some.injEq] at hk
    refine ⟨?_, ?_, hd⟩
    · rcases Int.lt_or_le (whN z) lo with hc | hc
      · rw [if_pos hc] at hk
        rcases hk.1 with h | h <;> cases h
      · exact hc
    · rcases Int.lt_or_le hi (whN z) with hc | hc
      · rw [if_neg (show ¬ whN z < hi by omega), if_neg (show ¬ whN z = hi by omega)] at hk
        rcases hk.2 with h | h <;> cases h
      · exact hc
  obtain ⟨a1, a2, a3⟩ := hh x 0 1099511627776 h.1 (by omega) (by omega) (by omega)
  obtain ⟨b1, b2, b3⟩ := hh y 1 16 h.2 (by omega) (by omega) (by omega)
  exact ⟨a1, a2, a3, b1, b2, b3⟩
set_option maxRecDepth 100000 in
set_option maxHeartbeats 1000000 in
theorem place_Parts (x y : Nat) (w : World) :
    Calls Try.prog 60 #[.complex .f64 x y] w fun e w' => e = .returned (.tuple #[.int .i64 (paR x y), .int .i64 (paA x y), .int .i64 (paE x y)]) ∧ w = w' := by
  have hR : Hid (∀ a b, whB x 0 1099511627776 = a → whB y 1 16 = b → paR x y = (if (a && b) = true then whN x else 0) ∧ paA x y = (if (a && b) = true then whN y else 0) ∧ paE x y = (if (a && b) = true then 0 else 1)) := Lib.hid fun a b ha hb => by unfold paR paA paE paOk; rw [ha, hb]; exact ⟨rfl, rfl, rfl⟩
  go_enter Try.func60, Try.ntmps60
  go_wp2_with fail
  refine (place_whole x 0 1099511627776 _ (by omega) (by omega) (by omega)).mono ?_
  rintro e w1 ⟨k, rfl, rfl, hk⟩
  have HK := Lib.hid hk
  clear hk
  obtain ⟨b1, hb1⟩ : ∃ b, whB x 0 1099511627776 = b := ⟨_, rfl⟩
  rw [hb1] at HK ⊢
  have HB1 := Lib.hid hb1
  clear hb1
  go_wp2_with fail
  refine (place_whole y 1 16 _ (by omega) (by omega) (by omega)).mono ?_
  rintro e w1 ⟨j, rfl, rfl, hj⟩
  have HJ := Lib.hid hj
  clear hj
  obtain ⟨b2, hb2⟩ : ∃ b, whB y 1 16 = b := ⟨_, rfl⟩
  rw [hb2] at HJ ⊢
  have HB2 := Lib.hid hb2
  clear hb2
  cases b1 <;> cases b2
  all_goals
    go_wp2_with fail
    go_ret3
    obtain ⟨e1, e2, e3⟩ := hR.out _ _ HB1.out HB2.out
    refine ⟨?_, rfl⟩
    rw [e1, e2, e3]
    first | rfl | (rw [← HK.out (by simp), ← HJ.out (by simp)]; rfl)
set_option maxRecDepth 100000 in
set_option maxHeartbeats 1000000 in
theorem ref1_Parts (x y : Nat) (w : World) :
    Calls Try.prog 24 #[.complex .f64 x y] w fun e w' => e = .returned (.tuple #[.int .i64 (paR x y), .int .i64 (paA x y), .bool (paOk x y)]) ∧ w = w' := by
  have hR : Hid (∀ a b, whB x 0 1099511627776 = a → whB y 1 16 = b → paR x y = (if (a && b) = true then whN x else 0) ∧ paA x y = (if (a && b) = true then whN y else 0) ∧ paOk x y = (a && b)) := Lib.hid fun a b ha hb => by unfold paR paA paOk; rw [ha, hb]; exact ⟨rfl, rfl, rfl⟩
  go_enter Try.func24, Try.ntmps24
  go_wp2_with fail
  refine (ref1_whole x 0 1099511627776 _ (by omega) (by omega) (by omega)).mono ?_
  rintro e w1 ⟨k, rfl, rfl, hk⟩
  have HK := Lib.hid hk
  clear hk
  obtain ⟨b1, hb1⟩ : ∃ b, whB x 0 1099511627776 = b := ⟨_, rfl⟩
  rw [hb1] at HK ⊢
  have HB1 := Lib.hid hb1
  clear hb1
  go_wp2_with fail
  refine (ref1_whole y 1 16 _ (by omega) (by omega) (by omega)).mono ?_
  rintro e w1 ⟨j, rfl, rfl, hj⟩
  have HJ := Lib.hid hj
  clear hj
  obtain ⟨b2, hb2⟩ : ∃ b, whB y 1 16 = b := ⟨_, rfl⟩
  rw [hb2] at HJ ⊢
  have HB2 := Lib.hid hb2
  clear hb2
  cases b1 <;> cases b2
  all_goals
    go_wp2_with fail
    go_ret3
    obtain ⟨e1, e2, e3⟩ := hR.out _ _ HB1.out HB2.out
    refine ⟨?_, rfl⟩
    rw [e1, e2, e3]
    first | rfl | (rw [← HK.out (by simp), ← HJ.out (by simp)]; rfl)
set_option maxRecDepth 100000 in
set_option maxHeartbeats 1000000 in
theorem place_Of (r a : Int) (w : World) : Calls Try.prog 112 #[.int .i64 r, .int .i64 a] w fun e w' => e = .returned (.complex .f64 (fl r) (fl a)) ∧ w = w' := by
  go_enter Try.func112, Try.ntmps112
  go_wp2
  go_ret
  exact ⟨rfl, rfl⟩
theorem cmpLt {a b : Int} : (compare a b = Ordering.lt) = (a < b) := by
  have := cmp_lt a b
  rw [Bool.eq_iff_iff] at this
  simpa using this
theorem cmpGt {a b : Int} : (compare a b = Ordering.gt) = (b < a) := by
  have := cmp_gt a b
  rw [Bool.eq_iff_iff] at this
  simpa using this
def Sm (n : Int) : Prop := 0 ≤ n ∧ n < 9007199254740992
def befS (r a s b : Int) : Bool := decide (r < s ∨ r = s ∧ a < b)
theorem befS_iff {r a s b : Int} : befS r a s b = true ↔ (r < s ∨ r = s ∧ a < b) := by simp [befS]
set_option maxRecDepth 100000 in
set_option maxHeartbeats 1000000 in
theorem place_Less (r a s b : Int) (w : World) (h1 : Sm r) (h2 : Sm a) (h3 : Sm s) (h4 : Sm b) :
    Calls Try.prog 94 #[.complex .f64 (fl r) (fl a), .complex .f64 (fl s) (fl b)] w fun e w' => e = .returned (.bool (befS r a s b)) ∧ w = w' := by
  have o1 := order_fl r s h1.1 h3.1 h1.2 h3.2
  have o2 := order_fl a b h2.1 h4.1 h2.2 h4.2
  go_enter Try.func94, Try.ntmps94
  go_wp2
  all_goals (go_ret; refine ⟨ret_bool ?_, rfl⟩; go_light; rw [Bool.eq_iff_iff, befS_iff]; simp only [cmpLt] at *; simp [*, cmpLt]; try omega)
set_option maxRecDepth 100000 in
set_option maxHeartbeats 1000000 in
theorem ref1_Before (r a s b : Int) (w : World) :
    Calls Try.prog 70 #[.int .i64 r, .int .i64 a, .int .i64 s, .int .i64 b] w fun e w' => e = .returned (.bool (befS r a s b)) ∧ w = w' := by
  go_enter Try.func70, Try.ntmps70
  go_wp2
  all_goals (go_ret; refine ⟨ret_bool ?_, rfl⟩; go_light; rw [Bool.eq_iff_iff, befS_iff]; simp; try omega)
def isP (r a : Int) : Bool := decide (0 ≤ r ∧ r ≤ 1099511627776 ∧ 1 ≤ a ∧ a ≤ 16)
theorem isP_iff {r a : Int} : isP r a = true ↔ (0 ≤ r ∧ r ≤ 1099511627776 ∧ 1 ≤ a ∧ a ≤ 16) := by simp [isP]
set_option maxRecDepth 100000 in
set_option maxHeartbeats 1000000 in
theorem place_Is (r a : Int) (w : World) :
    Calls Try.prog 97 #[.int .i64 r, .int .i64 a] w fun e w' => e = .returned (.bool (isP r a)) ∧ w = w' := by
  go_enter Try.func97, Try.ntmps97
  go_wp2
  all_goals (go_ret; refine ⟨ret_bool ?_, rfl⟩; go_light; rw [Bool.eq_iff_iff, isP_iff]; simp; try omega)
set_option maxRecDepth 100000 in
set_option maxHeartbeats 1000000 in
theorem cmp_isNaN (x : Nat) (w : World) (h1 : FloatKind.f64.format.order x x = some Ordering.eq) :
    Calls Try.prog 124 #[.float .f64 x] w fun e w' => e = .returned (.bool false) ∧ w = w' := by
  go_enter Try.func124, Try.ntmps124
  go_wp2
  go_ret
  exact ⟨ret_bool (by simp), rfl⟩
def cmp3 (a b : Int) : Int := if a < b then -1 else if b < a then 1 else 0
set_option maxRecDepth 100000 in
set_option maxHeartbeats 1000000 in
theorem cmp_Compare (x y : Nat) (a b : Int) (w : World) (h1 : FloatKind.f64.format.order x x = some Ordering.eq) (h2 : FloatKind.f64.format.order y y = some Ordering.eq) (o1 : FloatKind.f64.format.order x y = some (compare a b)) :
    Calls Try.prog 116 #[.float .f64 x, .float .f64 y] w fun e w' => e = .returned (.int .i64 (cmp3 a b)) ∧ w = w' := by
  rcases Int.lt_trichotomy a b with h | h | h
  case' inl =>
    rw [show compare a b = Ordering.lt by rw [cmpLt]; exact h] at o1
    have hc : cmp3 a b = -1 := by unfold cmp3; rw [if_pos h]
  case' inr.inl =>
    rw [show compare a b = Ordering.eq by subst h; simp [compare, compareOfLessAndEq]] at o1
    have hc : cmp3 a b = 0 := by unfold cmp3; rw [if_neg (by omega), if_neg (by omega)]
  case' inr.inr =>
    rw [show compare a b = Ordering.gt by rw [cmpGt]; exact h] at o1
    have hc : cmp3 a b = 1 := by unfold cmp3; rw [if_neg (by omega), if_pos h]
  all_goals
    have HC := Lib.hid hc
    clear hc h
    go_enter Try.func116, Try.ntmps116
    go_wp2_with (go_at_call 124; first | (refine (cmp_isNaN _ _ h1).mono ?_; rintro e w' ⟨rfl, rfl⟩) | (refine (cmp_isNaN _ _ h2).mono ?_; rintro e w' ⟨rfl, rfl⟩))
    go_ret
    exact ⟨ret_int HC.out.symm, rfl⟩
def or2 (x y : Int) : Int := if x = 0 then y else x
set_option maxRecDepth 100000 in
set_option maxHeartbeats 1000000 in
theorem cmp_Or (g : Nat) (x y : Int) (w : World) (h0 : w.cell? ⟨g, 0, none⟩ = some (.int .i64 x)) (h1 : w.cell? ⟨g, 1, none⟩ = some (.int .i64 y)) :
    Calls Try.prog 115 #[.slice (some ⟨g, 0, none⟩) 2 2] w fun e w' => e = .returned (.int .i64 (or2 x y)) ∧ w = w' := by
  go_enter Try.func115, Try.ntmps115
  go_wp2_with fail
  go_loop [8] (fun i => ∃ k : Nat, k ≤ 2 ∧ i = .int .i64 k ∧ (k = 0 ∨ x = 0) ∧ (k ≤ 1 ∨ y = 0)) (fun i => 2 - (intOf i).toNat)
  case atStart => exact ⟨0, by omega, rfl, .inl rfl, .inl (by omega)⟩
  case round =>
    obtain ⟨k, hk, rfl, hx, hy⟩ := hrel
    obtain h | h | h : k = 0 ∨ k = 1 ∨ k = 2 := by omega
    · subst h
      by_cases hx0 : x = 0
      · have hb : (x != 0) = false := by simp [hx0]
        have HX := Lib.hid hx0
        clear hx hy hx0
        go_wp2_with fail
        (first | (go_round; (case rel => exact ⟨1, by omega, rfl, .inr HX.out, .inl (by omega)⟩); (case measure => (simp [intOf] <;> omega))) | (go_roundw; (case rel => exact ⟨1, by omega, rfl, .inr HX.out, .inl (by omega)⟩); (case measure => (simp [intOf] <;> omega))) | (refine ⟨?_, by simp [intOf] <;> omega⟩; (repeat apply Exists.intro); refine ⟨?rel, ?fr⟩; (case fr => ((repeat' apply And.intro) <;> rfl)); (case rel => exact ⟨1, by omega, rfl, .inr HX.out, .inl (by omega)⟩)))
      · have hb : (x != 0) = true := by simp [hx0]
        have HX := Lib.hid hx0
        clear hx hy hx0
        go_wp2_with fail
        go_ret
        exact ⟨ret_int (by unfold or2; rw [if_neg HX.out]), rfl⟩
    · subst h
      have hx0 : x = 0 := by omega
      have HX := Lib.hid hx0
      clear hx hy hx0
      by_cases hy0 : y = 0
      · have hb : (y != 0) = false := by simp [hy0]
        have HY := Lib.hid hy0
        clear hy0
        go_wp2_with fail
        (first | (go_round; (case rel => exact ⟨2, by omega, rfl, .inr HX.out, .inr HY.out⟩); (case measure => (simp [intOf] <;> omega))) | (go_roundw; (case rel => exact ⟨2, by omega, rfl, .inr HX.out, .inr HY.out⟩); (case measure => (simp [intOf] <;> omega))) | (refine ⟨?_, by simp [intOf] <;> omega⟩; (repeat apply Exists.intro); refine ⟨?rel, ?fr⟩; (case fr => ((repeat' apply And.intro) <;> rfl)); (case rel => exact ⟨2, by omega, rfl, .inr HX.out, .inr HY.out⟩)))
      · have hb : (y != 0) = true := by simp [hy0]
        clear hy0
        go_wp2_with fail
        go_ret
        exact ⟨ret_int (by unfold or2; rw [if_pos HX.out]), rfl⟩
    · subst h
      have hx0 : x = 0 := by omega
      have hy0 : y = 0 := by omega
      have HX := Lib.hid hx0
      have HY := Lib.hid hy0
      clear hx hy hx0 hy0
      go_wp2_with fail
      go_ret
      exact ⟨ret_int (by unfold or2; rw [if_pos HX.out, HY.out]), rfl⟩
def cmpP (ro au r a : Int) : Int := or2 (cmp3 ro r) (cmp3 au a)
theorem cmpP_lt {ro au r a : Int} : cmpP ro au r a < 0 ↔ befS ro au r a = true := by
  rw [befS_iff]; unfold cmpP or2 cmp3; repeat' split
  all_goals omega
theorem cmpP_eq {ro au r a : Int} : cmpP ro au r a = 0 ↔ ro = r ∧ au = a := by
  unfold cmpP or2 cmp3; repeat' split
  all_goals omega
end Go.Proofs.Ytffoglofijffpaa
