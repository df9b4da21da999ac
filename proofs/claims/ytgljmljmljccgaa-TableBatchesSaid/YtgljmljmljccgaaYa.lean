/- Floats that are whole numbers, whatever their bits. -/
import Derived.Test.YtgljmljmljccgaaF
namespace Go.Proofs.Ytgljmljmljccgaa
open Go.RowKit
set_option linter.unusedSimpArgs false
set_option linter.unusedVariables false

theorem signed_up (s : Bool) (m u k : Nat) : Ieee.signed s m (u + k) = Ieee.signed s m u * (2 ^ k : Nat) := by
  unfold Ieee.signed
  cases s
  · simp [Nat.shiftLeft_eq, Nat.pow_add, Nat.mul_assoc, Int.mul_assoc]
  · simp [Nat.shiftLeft_eq, Nat.pow_add, Nat.mul_assoc, Int.neg_mul, Int.mul_assoc]
theorem compare_mulI (a b : Int) (k : Nat) : compare (a * (2 ^ k : Nat)) (b * (2 ^ k : Nat)) = compare a b := by
  have hk : (0 : Int) < ((2 ^ k : Nat) : Int) := by have := Nat.two_pow_pos k; omega
  have h1 : a * ((2 ^ k : Nat) : Int) < b * ((2 ^ k : Nat) : Int) ↔ a < b := ⟨fun h => Int.lt_of_mul_lt_mul_right h (Int.le_of_lt hk), fun h => Int.mul_lt_mul_of_pos_right h hk⟩
  have h2 : a * ((2 ^ k : Nat) : Int) = b * ((2 ^ k : Nat) : Int) ↔ a = b := ⟨fun h => Int.eq_of_mul_eq_mul_right (by omega) h, fun h => by rw [h]⟩
  simp only [compare, compareOfLessAndEq, h1, h2]
/-- Two numbers stand as they do at any common scale. -/
theorem order_at (s t : Bool) (m n : Nat) (i j C : Int) (hi : 0 ≤ i + C) (hj : 0 ≤ j + C) :
    Ieee.Datum.order (.number s m i) (.number t n j) = some (compare (Ieee.signed s m (i + C).toNat) (Ieee.signed t n (j + C).toNat)) := by
  unfold Ieee.Datum.order
  obtain ⟨k, hk⟩ : ∃ k : Nat, (k : Int) = C + min i j := ⟨(C + min i j).toNat, by omega⟩
  have e1 : (i + C).toNat = (i - min i j).toNat + k := by omega
  have e2 : (j + C).toNat = (j - min i j).toNat + k := by omega
  rw [e1, e2, signed_up, signed_up, compare_mulI]
theorem read_fl (n : Int) (h : 0 ≤ n) (h' : n < 9007199254740992) : ∃ e : Nat, FloatKind.f64.format.read (fl n) = .number false (n.toNat * 2 ^ e) (-(e : Int)) := by
  obtain ⟨k, rfl⟩ := Int.eq_ofNat_of_zero_le h
  obtain ⟨e, he⟩ := decode_fl k (by omega)
  have he2 : FloatKind.f64.format.read (fl (k : Int)) = .number false (k * 2 ^ e) (-(e : Int)) := he
  exact ⟨e, by rw [Int.toNat_natCast]; exact he2⟩
theorem signed_fl (n : Nat) (e C : Nat) (h : e ≤ C) : Ieee.signed false (n * 2 ^ e) (-(e : Int) + (C : Int)).toNat = (n : Int) * (2 ^ C : Nat) := by
  unfold Ieee.signed
  have e1 : (-(e : Int) + (C : Int)).toNat = C - e := by omega
  have e2 : e + (C - e) = C := by omega
  rw [e1]
  simp only [Bool.false_eq_true, if_false, Nat.shiftLeft_eq, Nat.mul_assoc, ← Nat.pow_add, e2, Int.natCast_mul]
/-- The float x is the whole number n: it stands to each whole number as n does. -/
def Dn (x : Nat) (n : Int) : Prop := FloatKind.f64.format.order x x = some Ordering.eq ∧ ∀ m : Int, 0 ≤ m → m < 9007199254740992 → FloatKind.f64.format.order (fl m) x = some (compare m n) ∧ FloatKind.f64.format.order x (fl m) = some (compare n m)
theorem Dn.fl {n : Int} (h : 0 ≤ n) (h' : n < 9007199254740992) : Dn (fl n) n :=
  ⟨by rw [order_fl n n h h h' h']; simp [compare, compareOfLessAndEq], fun m h1 h2 => ⟨order_fl m n h1 h h2 h', order_fl n m h h1 h' h2⟩⟩
theorem order_num {x : Nat} {n : Int} (h : 0 ≤ n) (h' : n < 9007199254740992) (o : FloatKind.f64.format.order (fl n) x = some Ordering.eq) : Dn x n := by
  obtain ⟨e, he⟩ := read_fl n h h'
  unfold Ieee.Format.order at o
  rw [he] at o
  rcases hx : FloatKind.f64.format.read x with ⟨s, mm, i⟩ | ⟨s⟩ | ⟨s, t⟩
  · rw [hx] at o
    have key : ∀ C : Nat, e ≤ C → 0 ≤ i + (C : Int) → n * ((2 ^ C : Nat) : Int) = Ieee.signed s mm (i + (C : Int)).toNat := fun C hC hi => by
      rw [order_at false s _ mm _ i (C : Int) (by omega) hi, signed_fl _ e C hC] at o
      have hn : ((n.toNat : Nat) : Int) = n := by omega
      rw [hn] at o
      injection o with o
      rw [compare, instOrdInt] at o
      simp only [compareOfLessAndEq] at o
      split at o
      · cases o
      · split at o
        · assumption
        · cases o
    have cmpI : ∀ (a b : Int) (C : Nat), compare (a * ((2 ^ C : Nat) : Int)) (b * ((2 ^ C : Nat) : Int)) = compare a b := compare_mulI
    refine ⟨?_, fun m hm hm' => ?_⟩
    · unfold Ieee.Format.order
      rw [hx, order_at s s mm mm i i ((-i).toNat : Nat) (by omega) (by omega)]
      simp [compare, compareOfLessAndEq]
    · obtain ⟨d, hd⟩ := read_fl m hm hm'
      obtain ⟨C, hC⟩ : ∃ C : Nat, C = e + d + (-i).toNat := ⟨_, rfl⟩
      have hk := key C (by omega) (by omega)
      have hmn : ((m.toNat : Nat) : Int) = m := by omega
      unfold Ieee.Format.order
      rw [hd, hx]
      constructor
      · rw [order_at false s _ mm _ i (C : Int) (by omega) (by omega), signed_fl _ d C (by omega), ← hk, hmn, cmpI]
      · rw [order_at s false mm _ i _ (C : Int) (by omega) (by omega), signed_fl _ d C (by omega), ← hk, hmn, cmpI]
  · rw [hx] at o
    simp only [Ieee.Datum.order] at o
    cases s <;> cases o
  · rw [hx] at o
    simp only [Ieee.Datum.order] at o
    cases o
def okB (x : Nat) (lo hi : Int) : Bool := (FloatKind.f64.format.order x (fl lo) == some Ordering.gt || FloatKind.f64.format.order x (fl lo) == some Ordering.eq) && (FloatKind.f64.format.order x (fl hi) == some Ordering.lt || FloatKind.f64.format.order x (fl hi) == some Ordering.eq)
def whN (x : Nat) : Int := ((FloatKind.f64.decode x).toInt .zero).getD 0
def whB (x : Nat) (lo hi : Int) : Bool := okB x lo hi && (FloatKind.f64.format.order (fl (whN x)) x == some Ordering.eq)
theorem cut_zero (s : Bool) (n drop : Nat) : Ieee.Toward.zero.cut s n drop = n / 2 ^ drop := by
  unfold Ieee.Toward.cut
  simp only [Nat.shiftLeft_eq, Nat.one_mul, Bool.toNat_false, Nat.add_zero]
  rcases Nat.le_total drop (n.log2 + 2) with h | h
  · rw [Nat.min_eq_left h]
  · rw [Nat.min_eq_right h]
    have h1 : n < 2 ^ (n.log2 + 2) := Nat.lt_of_lt_of_le Nat.lt_log2_self (Nat.pow_le_pow_right (by omega) (by omega))
    rw [Nat.div_eq_of_lt h1, Nat.div_eq_of_lt (Nat.lt_of_lt_of_le h1 (Nat.pow_le_pow_right (by omega) h))]
theorem ok_int {x : Nat} {lo hi : Int} (h : okB x lo hi = true) (hlo : 0 ≤ lo) (hlh : lo ≤ hi) (hhi : hi ≤ 1099511627776) : (FloatKind.f64.decode x).toInt .zero = some (whN x) ∧ 0 ≤ whN x ∧ whN x ≤ 1099511627776 := by
  unfold okB at h
  simp only [Bool.and_eq_true, Bool.or_eq_true, beq_iff_eq] at h
  obtain ⟨h1, h2⟩ := h
  obtain ⟨e, he⟩ := read_fl lo hlo (by omega)
  obtain ⟨d, hd⟩ := read_fl hi (by omega) (by omega)
  unfold Ieee.Format.order at h1 h2
  rw [he] at h1
  rw [hd] at h2
  have hdec : FloatKind.f64.decode x = FloatKind.f64.format.read x := rfl
  unfold whN
  rw [hdec]
  rcases hx : FloatKind.f64.format.read x with ⟨s, mm, i⟩ | ⟨s⟩ | ⟨s, t⟩
  · rw [hx] at h1 h2
    obtain ⟨C, hC⟩ : ∃ C : Nat, C = e + d + (-i).toNat := ⟨_, rfl⟩
    rw [order_at s false mm _ i _ (C : Int) (by omega) (by omega), signed_fl _ e C (by omega)] at h1
    rw [order_at s false mm _ i _ (C : Int) (by omega) (by omega), signed_fl _ d C (by omega)] at h2
    have hl : ((lo.toNat : Nat) : Int) = lo := by omega
    have hh : ((hi.toNat : Nat) : Int) = hi := by omega
    rw [hl] at h1
    rw [hh] at h2
    have hp : (0 : Int) < ((2 ^ C : Nat) : Int) := by have := Nat.two_pow_pos C; omega
    have g1 : lo * ((2 ^ C : Nat) : Int) ≤ Ieee.signed s mm (i + (C : Int)).toNat := by
      simp only [compare, compareOfLessAndEq, Option.some.injEq] at h1
      split at h1
      · rcases h1 with h | h <;> cases h
      · omega
    have g2 : Ieee.signed s mm (i + (C : Int)).toNat ≤ hi * ((2 ^ C : Nat) : Int) := by
      simp only [compare, compareOfLessAndEq, Option.some.injEq] at h2
      split at h2
      · omega
      · split at h2
        · omega
        · rcases h2 with h | h <;> cases h
    have g0 : 0 ≤ lo * ((2 ^ C : Nat) : Int) := Int.mul_nonneg hlo (Int.le_of_lt hp)
    have hcut : ∀ q : Nat, mm <<< i.toNat / 2 ^ (-i).toNat = q → ¬ (s = true ∧ mm ≠ 0) → (q : Int) ≤ hi := fun q hq hs => by
      have hb : ((mm * 2 ^ (i + (C : Int)).toNat : Nat) : Int) ≤ hi * ((2 ^ C : Nat) : Int) := by
        unfold Ieee.signed at g2
        cases s
        · simpa [Nat.shiftLeft_eq] using g2
        · have : mm = 0 := by
            rcases Nat.eq_zero_or_pos mm with h | h
            · exact h
            · exact absurd ⟨rfl, by omega⟩ hs
          subst this
          simpa using Int.mul_nonneg (by omega) (Int.le_of_lt hp)
      obtain ⟨H, rfl⟩ := Int.eq_ofNat_of_zero_le (show 0 ≤ hi by omega)
      have hb2 : mm * 2 ^ (i + (C : Int)).toNat ≤ H * 2 ^ C := by exact_mod_cast hb
      have : q ≤ H := by
        rw [← hq, Nat.shiftLeft_eq]
        rcases Int.le_total 0 i with hi0 | hi0
        · have e1 : (-i).toNat = 0 := by omega
          have e2 : (i + (C : Int)).toNat = i.toNat + C := by omega
          rw [e1, Nat.pow_zero, Nat.div_one]
          rw [e2, Nat.pow_add, ← Nat.mul_assoc] at hb2
          exact Nat.le_of_mul_le_mul_right hb2 (Nat.two_pow_pos C)
        · have e1 : i.toNat = 0 := by omega
          have e2 : (i + (C : Int)).toNat + (-i).toNat = C := by omega
          rw [e1, Nat.pow_zero, Nat.mul_one]
          refine Nat.div_le_of_le_mul ?_
          have e3 : 2 ^ C = 2 ^ (-i).toNat * 2 ^ (i + (C : Int)).toNat := by rw [← Nat.pow_add]; congr 1; omega
          rw [e3, ← Nat.mul_assoc] at hb2
          have := Nat.le_of_mul_le_mul_right hb2 (Nat.two_pow_pos _)
          rw [Nat.mul_comm]; exact this
      omega
    have hneg : ¬ (s = true ∧ mm ≠ 0) := by
      rintro ⟨rfl, hm⟩
      unfold Ieee.signed at g1
      simp only [if_true, Nat.shiftLeft_eq] at g1
      have : 0 < mm * 2 ^ (i + (C : Int)).toNat := Nat.mul_pos (by omega) (Nat.two_pow_pos _)
      omega
    unfold Ieee.Datum.toInt Ieee.Datum.integral
    have hc : Ieee.Toward.zero.cut s (mm <<< i.toNat) (-i).toNat = mm <<< i.toNat / 2 ^ (-i).toNat := cut_zero _ _ _
    simp only [hc]
    obtain ⟨q, hq⟩ : ∃ q, mm <<< i.toNat / 2 ^ (-i).toNat = q := ⟨_, rfl⟩
    have hqh := hcut q hq hneg
    rw [hq]
    simp only [Option.getD_some]
    cases s
    · simp [Ieee.signed]; omega
    · have : mm = 0 := by
        rcases Nat.eq_zero_or_pos mm with h | h
        · exact h
        · exact absurd ⟨rfl, by omega⟩ hneg
      subst this
      have : q = 0 := by rw [← hq]; simp
      subst this
      simp [Ieee.signed]
  · rw [hx] at h1 h2
    simp only [Ieee.Datum.order] at h1 h2
    cases s <;> simp at h1 h2
  · rw [hx] at h1
    simp only [Ieee.Datum.order] at h1
    simp at h1
end Go.Proofs.Ytgljmljmljccgaa
