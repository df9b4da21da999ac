/- Whole numbers below 2^53 as floats: they are told exactly, and stand to each other as the numbers do. -/
import Derived.Test.YtfkbilbgndekkaaBase
namespace Go.Proofs.Ytfkbilbgndekkaa
open Go.RowKit
set_option linter.unusedSimpArgs false
set_option linter.unusedVariables false

def fl (n : Int) : Nat := FloatKind.f64.nearest n

theorem log2_bd (n : Nat) (h : 0 < n) : 2 ^ n.log2 ≤ n ∧ n < 2 ^ (n.log2 + 1) := ⟨Nat.log2_self_le (by omega), Nat.lt_log2_self⟩
theorem log2_le52 (n : Nat) (h : 0 < n) (hn : n < 2 ^ 53) : n.log2 ≤ 52 := by
  have := (Nat.log2_lt (by omega)).2 hn
  omega
theorem decode_fl (n : Nat) (hn : n < 2 ^ 53) : ∃ e : Nat, FloatKind.f64.decode (fl n) = .number false (n * 2 ^ e) (-(e : Int)) := by
  rcases Nat.eq_zero_or_pos n with rfl | h0
  · exact ⟨1074, by decide +kernel⟩
  · have hL := log2_le52 n h0 hn
    obtain ⟨b1, b2⟩ := log2_bd n h0
    refine ⟨52 - n.log2, ?_⟩
    have hp : 2 ^ n.log2 * 2 ^ (52 - n.log2) = 2 ^ 52 := by rw [← Nat.pow_add]; congr 1; omega
    have hp2 : 2 ^ (n.log2 + 1) * 2 ^ (52 - n.log2) = 2 ^ 53 := by rw [← Nat.pow_add]; congr 1; omega
    have m1 : 2 ^ 52 ≤ n * 2 ^ (52 - n.log2) := by rw [← hp]; exact Nat.mul_le_mul_right _ b1
    have m2 : n * 2 ^ (52 - n.log2) < 2 ^ 53 := by rw [← hp2]; exact Nat.mul_lt_mul_of_pos_right b2 (Nat.two_pow_pos _)
    have hfl : fl n = (n.log2 + 1022) * 2 ^ 52 + n * 2 ^ (52 - n.log2) := by
      have hneg : decide ((n : Int) < 0) = false := by simp
      unfold fl FloatKind.nearest FloatKind.encode FloatKind.format Ieee.Format.write
      simp only [hneg]
      unfold Ieee.Format.nearest
      have e1 : Ieee.double.leastPlace = -1074 := by decide +kernel
      have e2 : Ieee.double.fractionBits = 52 := rfl
      have e3 : Ieee.double.binade = 2 ^ 52 := rfl
      have e4 : Ieee.double.infRung = 2047 * 2 ^ 52 := by decide +kernel
      have hna : (n : Int).natAbs = n := by simp
      rw [hna, if_neg (by omega), e1, e2, e3, e4]
      have hlast : max ((0 : Int) + (n.log2 : Int) - ((52 : Nat) : Int)) (-1074) = (n.log2 : Int) - 52 := by omega
      simp only [hlast]
      have t1 : ((0 : Int) - ((n.log2 : Int) - 52)).toNat = 52 - n.log2 := by omega
      have t2 : ((n.log2 : Int) - 52 - 0).toNat = 0 := by omega
      have t3 : ((n.log2 : Int) - 52 - -1074).toNat = n.log2 + 1022 := by omega
      rw [t1, t2, t3, Nat.shiftLeft_eq]
      have hcut : Ieee.Toward.even.cut false (n * 2 ^ (52 - n.log2)) 0 = n * 2 ^ (52 - n.log2) := by
        unfold Ieee.Toward.cut
        simp [Nat.mod_one]
      rw [hcut]
      unfold Ieee.Format.word
      simp only [Bool.false_eq_true, if_false]
      have : (n.log2 + 1022) * 2 ^ 52 + n * 2 ^ (52 - n.log2) ≤ 2047 * 2 ^ 52 := by omega
      exact Nat.min_eq_left this
    rw [hfl]
    generalize hm : n * 2 ^ (52 - n.log2) = m at *
    generalize n.log2 = L at *
    unfold FloatKind.decode FloatKind.format Ieee.Format.read
    have e1 : Ieee.double.leastPlace = -1074 := by decide +kernel
    have e3 : Ieee.double.binade = 4503599627370496 := rfl
    have e4 : Ieee.double.infRung = 9218868437227405312 := by decide +kernel
    have e5 : Ieee.double.signWeight = 9223372036854775808 := by decide +kernel
    simp only [e1, e3, e4, e5]
    have q1 : ((L + 1022) * 2 ^ 52 + m) / 9223372036854775808 % 2 = 0 := by omega
    have q2 : ((L + 1022) * 2 ^ 52 + m) % 9223372036854775808 = (L + 1022) * 2 ^ 52 + m := by omega
    rw [q1, q2, if_neg (by omega), if_pos (by omega)]
    have q3 : 4503599627370496 + ((L + 1022) * 2 ^ 52 + m) % 4503599627370496 = m := by omega
    have q4 : ((L + 1022) * 2 ^ 52 + m) / 4503599627370496 - 1 = L + 1022 := by omega
    rw [q3, q4]
    have q5 : (-1074 : Int) + ((L + 1022 : Nat) : Int) = -((52 - L : Nat) : Int) := by omega
    rw [q5]
    rfl

theorem compare_mul (a b k : Nat) : compare ((a * 2 ^ k : Nat) : Int) ((b * 2 ^ k : Nat) : Int) = compare (a : Int) (b : Int) := by
  have hk : 0 < 2 ^ k := Nat.two_pow_pos _
  have h1 : ((a * 2 ^ k : Nat) : Int) < ((b * 2 ^ k : Nat) : Int) ↔ (a : Int) < (b : Int) := by
    rw [Int.ofNat_lt, Int.ofNat_lt]; exact Nat.mul_lt_mul_right hk
  have h2 : ((a * 2 ^ k : Nat) : Int) = ((b * 2 ^ k : Nat) : Int) ↔ (a : Int) = (b : Int) := by
    rw [Int.ofNat_inj, Int.ofNat_inj]; exact Nat.mul_left_inj (by omega)
  simp only [compare, compareOfLessAndEq, h1, h2]

theorem order_fl (a b : Int) (ha : 0 ≤ a) (hb : 0 ≤ b) (ha' : a < 9007199254740992) (hb' : b < 9007199254740992) : FloatKind.f64.format.order (fl a) (fl b) = some (compare a b) := by
  obtain ⟨x, rfl⟩ := Int.eq_ofNat_of_zero_le ha
  obtain ⟨y, rfl⟩ := Int.eq_ofNat_of_zero_le hb
  obtain ⟨e, he⟩ := decode_fl x (by omega)
  obtain ⟨d, hd⟩ := decode_fl y (by omega)
  unfold Ieee.Format.order
  have he' : FloatKind.f64.format.read (fl x) = .number false (x * 2 ^ e) (-(e : Int)) := he
  have hd' : FloatKind.f64.format.read (fl y) = .number false (y * 2 ^ d) (-(d : Int)) := hd
  rw [he', hd']
  unfold Ieee.Datum.order Ieee.signed
  simp only [Bool.false_eq_true, if_false, Nat.shiftLeft_eq, Nat.mul_assoc, ← Nat.pow_add]
  have k1 : e + (-(e : Int) - min (-(e : Int)) (-(d : Int))).toNat = max e d := by omega
  have k2 : d + (-(d : Int) - min (-(e : Int)) (-(d : Int))).toNat = max e d := by omega
  rw [k1, k2, compare_mul]
theorem cmp_lt (a b : Int) : (some (compare a b) == some Ordering.lt) = decide (a < b) := by
  simp only [compare, compareOfLessAndEq]
  split
  · simp [*]
  · split <;> simp [*]
theorem cmp_eq (a b : Int) : (some (compare a b) == some Ordering.eq) = (a == b) := by
  simp only [compare, compareOfLessAndEq]
  by_cases h : a < b
  · simp [h]; omega
  · by_cases h2 : a = b <;> simp [h, h2]
theorem cmp_gt (a b : Int) : (some (compare a b) == some Ordering.gt) = decide (b < a) := by
  simp only [compare, compareOfLessAndEq]
  by_cases h : a < b
  · simp [h]; omega
  · by_cases h2 : a = b
    · subst h2; simp
    · simp [h, h2]; omega
end Go.Proofs.Ytfkbilbgndekkaa
