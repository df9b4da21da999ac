/- Places at the program and at the reference. -/
import Derived.Test.YtgljmljmljccgaaYa
namespace Go.Proofs.Ytgljmljmljccgaa
open Go.RowKit
set_option linter.unusedSimpArgs false
set_option linter.unusedVariables false

def paOk (x y : Nat) : Bool := whB x 0 1099511627776 && whB y 1 16
def paR (x y : Nat) : Int := if paOk x y = true then whN x else 0
def paA (x y : Nat) : Int := if paOk x y = true then whN y else 0
def paE (x y : Nat) : Int := if paOk x y = true then 0 else 1
theorem pa_ok {x y : Nat} (h : paOk x y = true) : 0 ≤ whN x ∧ whN x ≤ 1099511627776 ∧ Dn x (whN x) ∧ 1 ≤ whN y ∧ whN y ≤ 16 ∧ Dn y (whN y) := by
  unfold paOk at h
  rw [Bool.and_eq_true] at h
  have hh : ∀ (z : Nat) (lo hi : Int), whB z lo hi = true → 0 ≤ lo → lo ≤ hi → hi ≤ 1099511627776 → lo ≤ whN z ∧ whN z ≤ hi ∧ Dn z (whN z) := fun z lo hi hz hlo hlh hhi => by
    unfold whB at hz
    rw [Bool.and_eq_true, beq_iff_eq] at hz
    obtain ⟨_, g1, g2⟩ := ok_int hz.1 hlo hlh hhi
    have hd := order_num (by omega) (by omega) hz.2
    have h1 := (hd.2 lo hlo (by omega)).2
    have h2 := (hd.2 hi (by omega) (by omega)).2
    have hk := hz.1
    unfold okB at hk
    rw [h1, h2] at hk
    simp only [compare, compareOfLessAndEq, Bool.and_eq_true, Bool.or_eq_true, beq_iff_eq, Option.some.injEq] at hk
    refine ⟨?_, ?_, hd⟩
    · rcases Int.lt_or_le (whN z) lo with hc | hc
      · rw [if_pos hc] at hk
        rcases hk.1 with h | h <;> cases h
      · exact hc
    · rcases Int.lt_or_le hi (whN z) with hc | hc
      · rw [if_neg (show ¬ whN z < hi by omega), if_neg (show ¬ whN z = hi by omega)] at hk
        rcases hk.2 with h | h <;> cases h
      · exact hc
  obtain ⟨a1, a2, a3⟩ := hh x 0 1099511627776 h.1 (by omega) (by omega) (by omega)
  obtain ⟨b1, b2, b3⟩ := hh y 1 16 h.2 (by omega) (by omega) (by omega)
  exact ⟨a1, a2, a3, b1, b2, b3⟩
theorem cmpLt {a b : Int} : (compare a b = Ordering.lt) = (a < b) := by
  have := cmp_lt a b
  rw [Bool.eq_iff_iff] at this
  simpa using this
theorem cmpGt {a b : Int} : (compare a b = Ordering.gt) = (b < a) := by
  have := cmp_gt a b
  rw [Bool.eq_iff_iff] at this
  simpa using this
def Sm (n : Int) : Prop := 0 ≤ n ∧ n < 9007199254740992
def befS (r a s b : Int) : Bool := decide (r < s ∨ r = s ∧ a < b)
theorem befS_iff {r a s b : Int} : befS r a s b = true ↔ (r < s ∨ r = s ∧ a < b) := by simp [befS]
def isP (r a : Int) : Bool := decide (0 ≤ r ∧ r ≤ 1099511627776 ∧ 1 ≤ a ∧ a ≤ 16)
theorem isP_iff {r a : Int} : isP r a = true ↔ (0 ≤ r ∧ r ≤ 1099511627776 ∧ 1 ≤ a ∧ a ≤ 16) := by simp [isP]
def cmp3 (a b : Int) : Int := if a < b then -1 else if b < a then 1 else 0
def or2 (x y : Int) : Int := if x = 0 then y else x
def cmpP (ro au r a : Int) : Int := or2 (cmp3 ro r) (cmp3 au a)
theorem cmpP_lt {ro au r a : Int} : cmpP ro au r a < 0 ↔ befS ro au r a = true := by
  rw [befS_iff]; unfold cmpP or2 cmp3; repeat' split
  all_goals omega
theorem cmpP_eq {ro au r a : Int} : cmpP ro au r a = 0 ↔ ro = r ∧ au = a := by
  unfold cmpP or2 cmp3; repeat' split
  all_goals omega
end Go.Proofs.Ytgljmljmljccgaa
