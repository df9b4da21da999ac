/- Any floats as places: what they are, at the program and at the reference. -/
import Derived.Test.YtfkbilbgndekkaaYa
namespace Go.Proofs.Ytfkbilbgndekkaa
open Go.RowKit
set_option linter.unusedSimpArgs false
set_option linter.unusedVariables false

set_option maxRecDepth 100000 in
set_option maxHeartbeats 1000000 in
theorem place_whole (x : Nat) (lo hi : Int) (w : World) (hlo : 0 ≤ lo) (hlh : lo ≤ hi) (hhi : hi ≤ 1099511627776) :
    Calls Try.prog 126 #[.float .f64 x, .int .i64 lo, .int .i64 hi] w fun e w' => ∃ k, e = .returned (.tuple #[.int .i64 k, .bool (whB x lo hi)]) ∧ w = w' ∧ (whB x lo hi = true → k = whN x) := by
  have hok := fun h => ok_int (x := x) (lo := lo) (hi := hi) h hlo hlh hhi
  obtain ⟨n, hn⟩ : ∃ n, n = whN x := ⟨_, rfl⟩
  have hw : whB x lo hi = (okB x lo hi && (FloatKind.f64.format.order (floatOfInt .f64 n) x == some Ordering.eq)) := by rw [hn]; rfl
  have hk : okB x lo hi = ((FloatKind.f64.format.order x (floatOfInt .f64 lo) == some Ordering.gt || FloatKind.f64.format.order x (floatOfInt .f64 lo) == some Ordering.eq) && (FloatKind.f64.format.order x (floatOfInt .f64 hi) == some Ordering.lt || FloatKind.f64.format.order x (floatOfInt .f64 hi) == some Ordering.eq)) := rfl
  rw [← hn] at hok ⊢
  cases hob : okB x lo hi
  · rw [hob] at hk
    rw [hob, Bool.false_and] at hw
    have HW := Lib.hid hw
    clear hok hob hw hn
    rcases o1 : FloatKind.f64.format.order x (floatOfInt .f64 lo) with _ | (_ | _ | _) <;> rcases o2 : FloatKind.f64.format.order x (floatOfInt .f64 hi) with _ | (_ | _ | _) <;> rw [o1, o2] at hk <;> (first | (exfalso; revert hk; decide) | skip)
    all_goals
      clear hk
      go_enter Try.func126, Try.ntmps126
      go_wp2_with fail
      go_ret2
      exact ⟨0, by rw [HW.out]; rfl, rfl, fun h => by rw [HW.out] at h; cases h⟩
  · obtain ⟨h1, h2, h3⟩ := hok hob
    have hmin : IntKind.i64.min ≤ n := by have : IntKind.i64.min = -9223372036854775808 := by decide
                                          omega
    have hmax : n ≤ IntKind.i64.max := by have : IntKind.i64.max = 9223372036854775807 := by decide
                                          omega
    have hcv : (convert 84 3 (.float .f64 x)).run Try.prog w = .ok (.int .i64 n) w := by
      simp [convert, run_underlying Try.underlying84, run_underlying Try.underlying3, Conv.floatToInt, h1, hmin, hmax]
      intro hbig; omega
    rw [hob] at hk
    rw [hob, Bool.true_and] at hw
    have HW := Lib.hid hw
    have HN := Lib.hid hn
    clear hok hob hw hn
    rcases o1 : FloatKind.f64.format.order x (floatOfInt .f64 lo) with _ | (_ | _ | _) <;> rcases o2 : FloatKind.f64.format.order x (floatOfInt .f64 hi) with _ | (_ | _ | _) <;> rw [o1, o2] at hk <;> (first | (exfalso; revert hk; decide) | skip)
    all_goals
      clear hk
      go_enter Try.func126, Try.ntmps126
      go_wp2_with fail
      go_ret2
      exact ⟨n, by rw [HW.out]; rfl, rfl, fun _ => rfl⟩
set_option maxRecDepth 100000 in
set_option maxHeartbeats 1000000 in
theorem ref1_whole (x : Nat) (lo hi : Int) (w : World) (hlo : 0 ≤ lo) (hlh : lo ≤ hi) (hhi : hi ≤ 1099511627776) :
    Calls Try.prog 97 #[.float .f64 x, .int .i64 lo, .int .i64 hi] w fun e w' => ∃ k, e = .returned (.tuple #[.int .i64 k, .bool (whB x lo hi)]) ∧ w = w' ∧ (whB x lo hi = true → k = whN x) := by
  have hok := fun h => ok_int (x := x) (lo := lo) (hi := hi) h hlo hlh hhi
  obtain ⟨n, hn⟩ : ∃ n, n = whN x := ⟨_, rfl⟩
  have hw : whB x lo hi = (okB x lo hi && (FloatKind.f64.format.order (floatOfInt .f64 n) x == some Ordering.eq)) := by rw [hn]; rfl
  have hk : okB x lo hi = ((FloatKind.f64.format.order x (floatOfInt .f64 lo) == some Ordering.gt || FloatKind.f64.format.order x (floatOfInt .f64 lo) == some Ordering.eq) && (FloatKind.f64.format.order x (floatOfInt .f64 hi) == some Ordering.lt || FloatKind.f64.format.order x (floatOfInt .f64 hi) == some Ordering.eq)) := rfl
  rw [← hn] at hok ⊢
  cases hob : okB x lo hi
  · rw [hob] at hk
    rw [hob, Bool.false_and] at hw
    have HW := Lib.hid hw
    clear hok hob hw hn
    rcases o1 : FloatKind.f64.format.order x (floatOfInt .f64 lo) with _ | (_ | _ | _) <;> rcases o2 : FloatKind.f64.format.order x (floatOfInt .f64 hi) with _ | (_ | _ | _) <;> rw [o1, o2] at hk <;> (first | (exfalso; revert hk; decide) | skip)
    all_goals
      clear hk
      go_enter Try.func97, Try.ntmps97
      go_wp2_with fail
      go_ret2
      exact ⟨0, by rw [HW.out]; rfl, rfl, fun h => by rw [HW.out] at h; cases h⟩
  · obtain ⟨h1, h2, h3⟩ := hok hob
    have hmin : IntKind.i64.min ≤ n := by have : IntKind.i64.min = -9223372036854775808 := by decide
                                          omega
    have hmax : n ≤ IntKind.i64.max := by have : IntKind.i64.max = 9223372036854775807 := by decide
                                          omega
    have hcv : (convert 84 3 (.float .f64 x)).run Try.prog w = .ok (.int .i64 n) w := by
      simp [convert, run_underlying Try.underlying84, run_underlying Try.underlying3, Conv.floatToInt, h1, hmin, hmax]
      intro hbig; omega
    rw [hob] at hk
    rw [hob, Bool.true_and] at hw
    have HW := Lib.hid hw
    have HN := Lib.hid hn
    clear hok hob hw hn
    rcases o1 : FloatKind.f64.format.order x (floatOfInt .f64 lo) with _ | (_ | _ | _) <;> rcases o2 : FloatKind.f64.format.order x (floatOfInt .f64 hi) with _ | (_ | _ | _) <;> rw [o1, o2] at hk <;> (first | (exfalso; revert hk; decide) | skip)
    all_goals
      clear hk
      go_enter Try.func97, Try.ntmps97
      go_wp2_with fail
      go_ret2
      exact ⟨n, by rw [HW.out]; rfl, rfl, fun _ => rfl⟩
def paOk (x y : Nat) : Bool := whB x 0 1099511627776 && whB y 1 16
def paR (x y : Nat) : Int := if paOk x y = true then whN x else 0
def paA (x y : Nat) : Int := if paOk x y = true then whN y else 0
def paE (x y : Nat) : Int := if paOk x y = true then 0 else 1
theorem pa_ok {x y : Nat} (h : paOk x y = true) : 0 ≤ whN x ∧ whN x ≤ 1099511627776 ∧ Dn x (whN x) ∧ 1 ≤ whN y ∧ whN y ≤ 16 ∧ Dn y (whN y) := by
  unfold paOk at h
  rw [Bool.and_eq_true] at h
  have hh : ∀ (z : Nat) (lo hi : Int), whB z lo hi = true → 0 ≤ lo → lo ≤ hi → hi ≤ 1099511627776 → lo ≤ whN z ∧ whN z ≤ hi ∧ Dn z (whN z) := fun z lo hi hz hlo hlh hhi => by
    unfold whB at hz
    rw [Bool.and_eq_true, beq_iff_eq] at hz
    obtain ⟨_, g1, g2⟩ := ok_int hz.1 hlo hlh hhi
    have hd := order_num (by omega) (by omega) hz.2
    have h1 := (hd.2 lo hlo (by omega)).2
    have h2 := (hd.2 hi (by omega) (by omega)).2
    have hk := hz.1
    unfold okB at hk
    rw [h1, h2] at hk
    simp only [compare, compareOfLessAndEq, Bool.and_eq_true, Bool.or_eq_true, beq_iff_eq, Option.some.injEq] at hk
    refine ⟨?_, ?_, hd⟩
    · rcases Int.lt_or_le (whN z) lo with hc | hc
      · rw [if_pos hc] at hk
        rcases hk.1 with h | h <;> cases h
      · exact hc
    · rcases Int.lt_or_le hi (whN z) with hc | hc
      · rw [if_neg (show ¬ whN z < hi by omega), if_neg (show ¬ whN z = hi by omega)] at hk
        rcases hk.2 with h | h <;> cases h
      · exact hc
  obtain ⟨a1, a2, a3⟩ := hh x 0 1099511627776 h.1 (by omega) (by omega) (by omega)
  obtain ⟨b1, b2, b3⟩ := hh y 1 16 h.2 (by omega) (by omega) (by omega)
  exact ⟨a1, a2, a3, b1, b2, b3⟩
set_option maxRecDepth 100000 in
set_option maxHeartbeats 1000000 in
theorem place_Parts (x y : Nat) (w : World) :
    Calls Try.prog 98 #[.complex .f64 x y] w fun e w' => e = .returned (.tuple #[.int .i64 (paR x y), .int .i64 (paA x y), .int .i64 (paE x y)]) ∧ w = w' := by
  have hR : Hid (∀ a b, whB x 0 1099511627776 = a → whB y 1 16 = b → paR x y = (if (a && b) = true then whN x else 0) ∧ paA x y = (if (a && b) = true then whN y else 0) ∧ paE x y = (if (a && b) = true then 0 else 1)) := Lib.hid fun a b ha hb => by unfold paR paA paE paOk; rw [ha, hb]; exact ⟨rfl, rfl, rfl⟩
  go_enter Try.func98, Try.ntmps98
  go_wp2_with fail
  refine (place_whole x 0 1099511627776 _ (by omega) (by omega) (by omega)).mono ?_
  rintro e w1 ⟨k, rfl, rfl, hk⟩
  have HK := Lib.hid hk
  clear hk
  obtain ⟨b1, hb1⟩ : ∃ b, whB x 0 1099511627776 = b := ⟨_, rfl⟩
  rw [hb1] at HK ⊢
  have HB1 := Lib.hid hb1
  clear hb1
  go_wp2_with fail
  refine (place_whole y 1 16 _ (by omega) (by omega) (by omega)).mono ?_
  rintro e w1 ⟨j, rfl, rfl, hj⟩
  have HJ := Lib.hid hj
  clear hj
  obtain ⟨b2, hb2⟩ : ∃ b, whB y 1 16 = b := ⟨_, rfl⟩
  rw [hb2] at HJ ⊢
  have HB2 := Lib.hid hb2
  clear hb2
  cases b1 <;> cases b2
  all_goals
    go_wp2_with fail
    go_ret3
    obtain ⟨e1, e2, e3⟩ := hR.out _ _ HB1.out HB2.out
    refine ⟨?_, rfl⟩
    rw [e1, e2, e3]
    first | rfl | (rw [← HK.out (by simp), ← HJ.out (by simp)]; rfl)
set_option maxRecDepth 100000 in
set_option maxHeartbeats 1000000 in
theorem ref1_Parts (x y : Nat) (w : World) :
    Calls Try.prog 62 #[.complex .f64 x y] w fun e w' => e = .returned (.tuple #[.int .i64 (paR x y), .int .i64 (paA x y), .bool (paOk x y)]) ∧ w = w' := by
  have hR : Hid (∀ a b, whB x 0 1099511627776 = a → whB y 1 16 = b → paR x y = (if (a && b) = true then whN x else 0) ∧ paA x y = (if (a && b) = true then whN y else 0) ∧ paOk x y = (a && b)) := Lib.hid fun a b ha hb => by unfold paR paA paOk; rw [ha, hb]; exact ⟨rfl, rfl, rfl⟩
  go_enter Try.func62, Try.ntmps62
  go_wp2_with fail
  refine (ref1_whole x 0 1099511627776 _ (by omega) (by omega) (by omega)).mono ?_
  rintro e w1 ⟨k, rfl, rfl, hk⟩
  have HK := Lib.hid hk
  clear hk
  obtain ⟨b1, hb1⟩ : ∃ b, whB x 0 1099511627776 = b := ⟨_, rfl⟩
  rw [hb1] at HK ⊢
  have HB1 := Lib.hid hb1
  clear hb1
  go_wp2_with fail
  refine (ref1_whole y 1 16 _ (by omega) (by omega) (by omega)).mono ?_
  rintro e w1 ⟨j, rfl, rfl, hj⟩
  have HJ := Lib.hid hj
  clear hj
  obtain ⟨b2, hb2⟩ : ∃ b, whB y 1 16 = b := ⟨_, rfl⟩
  rw [hb2] at HJ ⊢
  have HB2 := Lib.hid hb2
  clear hb2
  cases b1 <;> cases b2
  all_goals
    go_wp2_with fail
    go_ret3
    obtain ⟨e1, e2, e3⟩ := hR.out _ _ HB1.out HB2.out
    refine ⟨?_, rfl⟩
    rw [e1, e2, e3]
    first | rfl | (rw [← HK.out (by simp), ← HJ.out (by simp)]; rfl)
end Go.Proofs.Ytfkbilbgndekkaa
