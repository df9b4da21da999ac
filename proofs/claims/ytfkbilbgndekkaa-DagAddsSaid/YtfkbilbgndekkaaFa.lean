/- Looking for a place among certificates. -/
import Derived.Test.YtfkbilbgndekkaaOa
namespace Go.Proofs.Ytfkbilbgndekkaa
open Go.RowKit
set_option linter.unusedSimpArgs false
set_option linter.unusedVariables false

def cmp3 (a b : Int) : Int := if a < b then -1 else if b < a then 1 else 0
theorem cmpGt {a b : Int} : (compare a b = Ordering.gt) = (b < a) := by
  have := cmp_gt a b
  rw [Bool.eq_iff_iff] at this
  simpa using this
set_option maxRecDepth 100000 in
set_option maxHeartbeats 1000000 in
theorem cmp_Compare (a b : Int) (w : World) (h1 : Sm a) (h2 : Sm b) :
    Calls Try.prog 135 #[.float .f64 (fl a), .float .f64 (fl b)] w fun e w' => e = .returned (.int .i64 (cmp3 a b)) ∧ w = w' := by
  have o1 := order_fl a b h1.1 h2.1 h1.2 h2.2
  rcases Int.lt_trichotomy a b with h | h | h
  case' inl =>
    rw [show compare a b = Ordering.lt by rw [cmpLt]; exact h] at o1
    have hc : cmp3 a b = -1 := by unfold cmp3; rw [if_pos h]
  case' inr.inl =>
    rw [show compare a b = Ordering.eq by subst h; simp [compare, compareOfLessAndEq]] at o1
    have hc : cmp3 a b = 0 := by unfold cmp3; rw [if_neg (by omega), if_neg (by omega)]
  case' inr.inr =>
    rw [show compare a b = Ordering.gt by rw [cmpGt]; exact h] at o1
    have hc : cmp3 a b = 1 := by unfold cmp3; rw [if_neg (by omega), if_pos h]
  all_goals
    have HC := Lib.hid hc
    clear hc h
    go_enter Try.func135, Try.ntmps135
    go_wp2_with (go_at_call 144; first | (refine (cmp_isNaN _ _ h1).mono ?_; rintro e w' ⟨rfl, rfl⟩) | (refine (cmp_isNaN _ _ h2).mono ?_; rintro e w' ⟨rfl, rfl⟩))
    go_ret
    exact ⟨ret_int HC.out.symm, rfl⟩
def or2 (x y : Int) : Int := if x = 0 then y else x
set_option maxRecDepth 100000 in
set_option maxHeartbeats 1000000 in
theorem cmp_Or (g : Nat) (x y : Int) (w : World) (h0 : w.cell? ⟨g, 0, none⟩ = some (.int .i64 x)) (h1 : w.cell? ⟨g, 1, none⟩ = some (.int .i64 y)) :
    Calls Try.prog 134 #[.slice (some ⟨g, 0, none⟩) 2 2] w fun e w' => e = .returned (.int .i64 (or2 x y)) ∧ w = w' := by
  go_enter Try.func134, Try.ntmps134
  go_wp2_with fail
  go_loop [8] (fun i => ∃ k : Nat, k ≤ 2 ∧ i = .int .i64 k ∧ (k = 0 ∨ x = 0) ∧ (k ≤ 1 ∨ y = 0)) (fun i => 2 - (intOf i).toNat)
  case atStart => exact ⟨0, by omega, rfl, .inl rfl, .inl (by omega)⟩
  case round =>
    obtain ⟨k, hk, rfl, hx, hy⟩ := hrel
    obtain h | h | h : k = 0 ∨ k = 1 ∨ k = 2 := by omega
    · subst h
      by_cases hx0 : x = 0
      · have hb : (x != 0) = false := by simp [hx0]
        have HX := Lib.hid hx0
        clear hx hy hx0
        go_wp2_with fail
        (first | (go_round; (case rel => exact ⟨1, by omega, rfl, .inr HX.out, .inl (by omega)⟩); (case measure => (simp [intOf] <;> omega))) | (go_roundw; (case rel => exact ⟨1, by omega, rfl, .inr HX.out, .inl (by omega)⟩); (case measure => (simp [intOf] <;> omega))) | (refine ⟨?_, by simp [intOf] <;> omega⟩; (repeat apply Exists.intro); refine ⟨?rel, ?fr⟩; (case fr => ((repeat' apply And.intro) <;> rfl)); (case rel => exact ⟨1, by omega, rfl, .inr HX.out, .inl (by omega)⟩)))
      · have hb : (x != 0) = true := by simp [hx0]
        have HX := Lib.hid hx0
        clear hx hy hx0
        go_wp2_with fail
        go_ret
        exact ⟨ret_int (by unfold or2; rw [if_neg HX.out]), rfl⟩
    · subst h
      have hx0 : x = 0 := by omega
      have HX := Lib.hid hx0
      clear hx hy hx0
      by_cases hy0 : y = 0
      · have hb : (y != 0) = false := by simp [hy0]
        have HY := Lib.hid hy0
        clear hy0
        go_wp2_with fail
        (first | (go_round; (case rel => exact ⟨2, by omega, rfl, .inr HX.out, .inr HY.out⟩); (case measure => (simp [intOf] <;> omega))) | (go_roundw; (case rel => exact ⟨2, by omega, rfl, .inr HX.out, .inr HY.out⟩); (case measure => (simp [intOf] <;> omega))) | (refine ⟨?_, by simp [intOf] <;> omega⟩; (repeat apply Exists.intro); refine ⟨?rel, ?fr⟩; (case fr => ((repeat' apply And.intro) <;> rfl)); (case rel => exact ⟨2, by omega, rfl, .inr HX.out, .inr HY.out⟩)))
      · have hb : (y != 0) = true := by simp [hy0]
        clear hy0
        go_wp2_with fail
        go_ret
        exact ⟨ret_int (by unfold or2; rw [if_pos HX.out]), rfl⟩
    · subst h
      have hx0 : x = 0 := by omega
      have hy0 : y = 0 := by omega
      have HX := Lib.hid hx0
      have HY := Lib.hid hy0
      clear hx hy hx0 hy0
      go_wp2_with fail
      go_ret
      exact ⟨ret_int (by unfold or2; rw [if_pos HX.out, HY.out]), rfl⟩
def cmpP (ro au r a : Int) : Int := or2 (cmp3 ro r) (cmp3 au a)
theorem cmpP_lt {ro au r a : Int} : cmpP ro au r a < 0 ↔ befS ro au r a = true := by
  rw [befS_iff]; unfold cmpP or2 cmp3; repeat' split
  all_goals omega
theorem cmpP_eq {ro au r a : Int} : cmpP ro au r a = 0 ↔ ro = r ∧ au = a := by
  unfold cmpP or2 cmp3; repeat' split
  all_goals omega
set_option maxRecDepth 100000 in
set_option maxHeartbeats 1000000 in
theorem dag_find1 (au ro di r a : Int) (bA pA sA : Option Addr) (bn bc pn pc sn sc : Nat) (w : World) (h1 : Sm ro) (h2 : Sm au) (h3 : Sm r) (h4 : Sm a) :
    Calls Try.prog 133 #[.agg #[.int .i64 au, .int .i64 ro, .slice bA bn bc, .slice pA pn pc, .int .i64 di, .slice sA sn sc], .complex .f64 (fl r) (fl a)] w fun e w' => e = .returned (.int .i64 (cmpP ro au r a)) ∧ Below w.heap.size w w' := by
  go_enter Try.func133, Try.ntmps133
  go_wp2_with fail
  refine (dag_Place' _ _ _ _ _ _ _ _ _ _ _ _ _).mono ?_
  rintro e w1 ⟨rfl, hb1⟩
  go_wp2_with fail
  refine (cmp_Compare ro r _ h1 h3).mono ?_
  rintro e w2 ⟨rfl, rfl⟩
  go_wp2_with fail
  refine (cmp_Compare au a _ h2 h4).mono ?_
  rintro e w2 ⟨rfl, rfl⟩
  go_wp2_with fail
  refine (cmp_Or _ (cmp3 ro r) (cmp3 au a) _ (by simp) (by simp)).mono ?_
  rintro e w2 ⟨rfl, rfl⟩
  go_wp2_with fail
  go_ret
  exact ⟨rfl, by (repeat (first | (with_reducible exact Below.refl _ _) | (with_reducible assumption) | (with_reducible apply bel_alloc) | (with_reducible apply bel_drew) | (with_reducible apply bel_drewN) | (with_reducible refine bel_trans ?_ (by with_reducible assumption)) | (with_reducible refine bel_trans ?_ (HF.out _)) | (with_reducible refine bel_set ?_ (by simp) _) | (with_reducible refine bel_set ?_ (by simp; omega) _) | (with_reducible refine bel_set ?_ (by omega) _)))⟩

/-! ### certificates by places -/
def Places (l : List CertD) : Prop := (∀ i j, i < j → j < l.length → befS (cth l i).h.ro (cth l i).h.au (cth l j).h.ro (cth l j).h.au = true) ∧ ∀ k, k < l.length → Sm (cth l k).h.ro ∧ Sm (cth l k).h.au
def CutP (l : List CertD) (n : Nat) (r a : Int) (lo hi : Nat) : Prop := (∀ t, t < lo → befS (cth l t).h.ro (cth l t).h.au r a = true) ∧ ∀ t, hi ≤ t → t < n → befS (cth l t).h.ro (cth l t).h.au r a = false
noncomputable def hereS (l : List CertD) (r a : Int) (lo : Nat) : Bool := dec (lo < l.length ∧ (cth l lo).h.ro = r ∧ (cth l lo).h.au = a)
theorem befS_tr {a b c d e f : Int} (h1 : befS a b c d = true) (h2 : befS c d e f = true) : befS a b e f = true := by
  rw [befS_iff] at *; omega
theorem befS_no {a b c d e f : Int} (h1 : befS a b c d = true) (h2 : befS a b e f = false) : befS c d e f = false := by
  cases h : befS c d e f
  · rfl
  · rw [befS_tr h1 h] at h2; cases h2
set_option maxRecDepth 100000 in
set_option maxHeartbeats 1000000 in
theorem slices_BSF (A : Option Addr) (n c : Nat) (l : List CertD) (r a : Int) (w : World) (hl : CertsR w A n l) (hP : Places l) (hn : n ≤ 1000000000) (h3 : Sm r) (h4 : Sm a) :
    Calls Try.prog 132 #[.slice A n c, .complex .f64 (fl r) (fl a), .func (.func 133) #[] #[]] w fun e w' => ∃ lo : Nat, e = .returned (.tuple #[.int .i64 lo, .bool (hereS l r a lo)]) ∧ lo ≤ n ∧ CutP l n r a lo lo ∧ Below w.heap.size w w' := by
  have HL := Lib.hid hl
  have HN := Lib.hid hl.1
  have HP := Lib.hid hP
  clear hl hP
  go_enter Try.func132, Try.ntmps132
  go_wp2_with fail
  go_loopw [9, 10] (fun s7 s8 wr => ∃ lo hi : Nat, s7 = .int .i64 lo ∧ s8 = .int .i64 hi ∧ lo ≤ hi ∧ hi ≤ n ∧ Hid (CutP l n r a lo hi) ∧ Below w.heap.size w wr) (fun s7 s8 _ => (intOf s8).toNat - (intOf s7).toNat)
  case atStart => exact ⟨0, n, rfl, rfl, Nat.zero_le _, Nat.le_refl _, ⟨fun t ht => absurd ht (Nat.not_lt_zero _), fun t h1 h2 => by omega⟩, Below.refl _ _⟩
  case round =>
    obtain ⟨lo, hi, rfl, rfl, hlh, hin, I, hbw⟩ := hrel
    (obtain ⟨wx, hwx⟩ : ∃ x, x = wr := ⟨_, rfl⟩); subst hwx
    by_cases hlt : lo < hi
    · obtain ⟨b, off, rfl, hb, hc⟩ := (HL.out.up hbw).2.2 (by omega)
      obtain ⟨m, hm⟩ : ∃ m, m = (lo + hi) / 2 := ⟨_, rfl⟩
      have hmn : m < n := by omega
      obtain ⟨p, hat, _⟩ := hc m hmn
      obtain ⟨c0, c1, c2, c3, c4, c5⟩ := hat
      obtain ⟨⟨⟨bA, bn, bc⟩, ⟨pA, pn, pc⟩⟩, ⟨sA, sn, sc⟩⟩ := p
      dsimp only at c0 c1 c2 c3 c4 c5
      have hsm := HP.out.2 m (by rw [HN.out]; exact hmn)
      have hd2 : ((lo : Int) + (hi : Int)) / 2 = (m : Int) := by rw [hm]; omega
      have hm2 : m < hi := by omega
      have hm1 : lo ≤ m := by omega
      have HM2 := Lib.hid hm
      clear hc hm
      cases hbf : befS (cth l m).h.ro (cth l m).h.au r a
      · have hd : decide (cmpP (cth l m).h.ro (cth l m).h.au r a < 0) = false := by rw [decide_eq_false_iff_not, cmpP_lt, hbf]; simp
        have HB := Lib.hid hbf
        clear hbf
        go_wp2_with (go_at_call 133; refine (dag_find1 _ _ _ _ _ _ _ _ _ _ _ _ _ _ _ hsm.1 hsm.2 h3 h4).mono ?_; rintro e w1 ⟨rfl, hb1⟩)
        (first | (go_round; (case rel => (refine ⟨lo, m, rfl, by go_num, by omega, by omega, Lib.hid ⟨I.out.1, fun t h1 h2 => ?_⟩, bel_trans hbw hb1⟩; rcases Nat.lt_or_ge m t with h5 | h5; exact befS_no (HP.out.1 m t h5 (by rw [HN.out]; exact h2)) HB.out; (obtain rfl : t = m := by omega); exact HB.out)); (case measure => (simp [intOf] <;> omega))) | (go_roundw; (case rel => (refine ⟨lo, m, rfl, by go_num, by omega, by omega, Lib.hid ⟨I.out.1, fun t h1 h2 => ?_⟩, bel_trans hbw hb1⟩; rcases Nat.lt_or_ge m t with h5 | h5; exact befS_no (HP.out.1 m t h5 (by rw [HN.out]; exact h2)) HB.out; (obtain rfl : t = m := by omega); exact HB.out)); (case measure => (simp [intOf] <;> omega))) | (refine ⟨?_, by simp [intOf] <;> omega⟩; (repeat apply Exists.intro); refine ⟨?rel, ?fr⟩; (case fr => ((repeat' apply And.intro) <;> rfl)); (case rel => (refine ⟨lo, m, rfl, by go_num, by omega, by omega, Lib.hid ⟨I.out.1, fun t h1 h2 => ?_⟩, bel_trans hbw hb1⟩; rcases Nat.lt_or_ge m t with h5 | h5; exact befS_no (HP.out.1 m t h5 (by rw [HN.out]; exact h2)) HB.out; (obtain rfl : t = m := by omega); exact HB.out))))
      · have hd : decide (cmpP (cth l m).h.ro (cth l m).h.au r a < 0) = true := by rw [decide_eq_true_eq, cmpP_lt, hbf]
        have HB := Lib.hid hbf
        clear hbf
        go_wp2_with (go_at_call 133; refine (dag_find1 _ _ _ _ _ _ _ _ _ _ _ _ _ _ _ hsm.1 hsm.2 h3 h4).mono ?_; rintro e w1 ⟨rfl, hb1⟩)
        (first | (go_round; (case rel => (refine ⟨m + 1, hi, by go_num, rfl, by omega, by omega, Lib.hid ⟨fun t h1 => ?_, I.out.2⟩, bel_trans hbw hb1⟩; rcases Nat.lt_or_ge t m with h5 | h5; exact befS_tr (HP.out.1 t m h5 (by rw [HN.out]; exact hmn)) HB.out; (obtain rfl : t = m := by omega); exact HB.out)); (case measure => (simp [intOf] <;> omega))) | (go_roundw; (case rel => (refine ⟨m + 1, hi, by go_num, rfl, by omega, by omega, Lib.hid ⟨fun t h1 => ?_, I.out.2⟩, bel_trans hbw hb1⟩; rcases Nat.lt_or_ge t m with h5 | h5; exact befS_tr (HP.out.1 t m h5 (by rw [HN.out]; exact hmn)) HB.out; (obtain rfl : t = m := by omega); exact HB.out)); (case measure => (simp [intOf] <;> omega))) | (refine ⟨?_, by simp [intOf] <;> omega⟩; (repeat apply Exists.intro); refine ⟨?rel, ?fr⟩; (case fr => ((repeat' apply And.intro) <;> rfl)); (case rel => (refine ⟨m + 1, hi, by go_num, rfl, by omega, by omega, Lib.hid ⟨fun t h1 => ?_, I.out.2⟩, bel_trans hbw hb1⟩; rcases Nat.lt_or_ge t m with h5 | h5; exact befS_tr (HP.out.1 t m h5 (by rw [HN.out]; exact hmn)) HB.out; (obtain rfl : t = m := by omega); exact HB.out))))
    · obtain rfl : hi = lo := by omega
      by_cases hln : hi < n
      · obtain ⟨b, off, rfl, hb, hc⟩ := (HL.out.up hbw).2.2 (by omega)
        obtain ⟨p, hat, _⟩ := hc hi hln
        obtain ⟨c0, c1, c2, c3, c4, c5⟩ := hat
        obtain ⟨⟨⟨bA, bn, bc⟩, ⟨pA, pn, pc⟩⟩, ⟨sA, sn, sc⟩⟩ := p
        dsimp only at c0 c1 c2 c3 c4 c5
        have hsm := HP.out.2 hi (by rw [HN.out]; exact hln)
        clear hc
        cases hh : hereS l r a hi
        · have hne : ¬ ((cth l hi).h.ro = r ∧ (cth l hi).h.au = a) := fun g => by
            have : hereS l r a hi = true := dec_iff.2 ⟨by rw [HN.out]; exact hln, g⟩
            rw [hh] at this; cases this
          have hd : (cmpP (cth l hi).h.ro (cth l hi).h.au r a == 0) = false := by rw [beq_eq_false_iff_ne]; exact fun g => hne (cmpP_eq.1 g)
          have HH := Lib.hid hh
          clear hh hne
          go_wp2_with (go_at_call 133; refine (dag_find1 _ _ _ _ _ _ _ _ _ _ _ _ _ _ _ hsm.1 hsm.2 h3 h4).mono ?_; rintro e w1 ⟨rfl, hb1⟩)
          go_ret2
          exact ⟨hi, by rw [HH.out]; rfl, hin, I.out, bel_trans hbw hb1⟩
        · have hne : (cth l hi).h.ro = r ∧ (cth l hi).h.au = a := (dec_iff.1 hh).2
          have hd : (cmpP (cth l hi).h.ro (cth l hi).h.au r a == 0) = true := by rw [beq_iff_eq]; exact cmpP_eq.2 hne
          have HH := Lib.hid hh
          clear hh hne
          go_wp2_with (go_at_call 133; refine (dag_find1 _ _ _ _ _ _ _ _ _ _ _ _ _ _ _ hsm.1 hsm.2 h3 h4).mono ?_; rintro e w1 ⟨rfl, hb1⟩)
          go_ret2
          exact ⟨hi, by rw [HH.out]; rfl, hin, I.out, bel_trans hbw hb1⟩
      · have hh : hereS l r a hi = false := by
          cases h : hereS l r a hi
          · rfl
          · have := (dec_iff.1 h).1; rw [HN.out] at this; exact absurd this hln
        have HH := Lib.hid hh
        clear hh
        go_wp2_with fail
        go_ret2
        exact ⟨hi, by rw [HH.out]; rfl, hin, I.out, hbw⟩
set_option maxRecDepth 100000 in
set_option maxHeartbeats 1000000 in
theorem dag_find (A : Option Addr) (n c : Nat) (l : List CertD) (r a : Int) (w : World) (hl : CertsR w A n l) (hP : Places l) (hn : n ≤ 1000000000) (h3 : Sm r) (h4 : Sm a) :
    Calls Try.prog 119 #[.slice A n c, .complex .f64 (fl r) (fl a)] w fun e w' => ∃ lo : Nat, e = .returned (.tuple #[.int .i64 lo, .bool (hereS l r a lo)]) ∧ lo ≤ n ∧ CutP l n r a lo lo ∧ Below w.heap.size w w' := by
  go_enter Try.func119, Try.ntmps119
  go_wp2_with fail
  refine (slices_BSF A n c l r a _ hl hP hn h3 h4).mono ?_
  rintro e w1 ⟨lo, rfl, h1, h2, hb1⟩
  have H2 := Lib.hid h2
  clear h2
  go_wp2_with fail
  go_ret2
  exact ⟨lo, rfl, h1, H2.out, hb1⟩

/-! ### the place of a round and an author -/
def atF (r a : Int) : Int → List CertD → Int
  | _, [] => -1
  | i, c :: l => if c.h.ro = r ∧ c.h.au = a then i else atF r a (i + 1) l
def atS (l : List CertD) (r a : Int) : Int := atF r a 0 l
theorem atF_step (r a : Int) (l : List CertD) (k : Nat) (h : k < l.length) : atF r a k (l.drop k) = if (cth l k).h.ro = r ∧ (cth l k).h.au = a then (k : Int) else atF r a ((k + 1 : Nat) : Int) (l.drop (k + 1)) := by
  rw [drop_cth l k h, atF]; simp
theorem atF_cases (r a : Int) : ∀ (l : List CertD) (k : Int), (atF r a k l = -1 ∧ ∀ j, j < l.length → ¬ ((cth l j).h.ro = r ∧ (cth l j).h.au = a)) ∨ ∃ i, i < l.length ∧ atF r a k l = k + (i : Nat) ∧ ((cth l i).h.ro = r ∧ (cth l i).h.au = a) ∧ ∀ j, j < i → ¬ ((cth l j).h.ro = r ∧ (cth l j).h.au = a)
  | [], k => .inl ⟨rfl, fun j h => absurd h (by simp)⟩
  | c :: l, k => by
    by_cases hc : c.h.ro = r ∧ c.h.au = a
    · exact .inr ⟨0, by simp, by simp [atF, hc], by simpa [cth] using hc, fun j h => absurd h (by omega)⟩
    · rcases atF_cases r a l (k + 1) with ⟨h1, h2⟩ | ⟨i, h1, h2, h3, h4⟩
      · refine .inl ⟨by rw [atF, if_neg hc, h1], fun j hj => ?_⟩
        cases j with
        | zero => simpa [cth] using hc
        | succ j => exact h2 j (by simpa using hj)
      · refine .inr ⟨i + 1, by simpa using h1, by rw [atF, if_neg hc, h2]; omega, h3, fun j hj => ?_⟩
        cases j with
        | zero => simpa [cth] using hc
        | succ j => exact h4 j (by omega)
theorem atS_cases (l : List CertD) (r a : Int) : (atS l r a = -1 ∧ ∀ j, j < l.length → ¬ ((cth l j).h.ro = r ∧ (cth l j).h.au = a)) ∨ ∃ i, i < l.length ∧ atS l r a = (i : Nat) ∧ ((cth l i).h.ro = r ∧ (cth l i).h.au = a) ∧ ∀ j, j < i → ¬ ((cth l j).h.ro = r ∧ (cth l j).h.au = a) := by
  have := atF_cases r a l 0
  simpa [atS] using this
theorem at_here {l : List CertD} {r a : Int} {lo : Nat} (hP : Places l) (h : CutP l l.length r a lo lo) : (hereS l r a lo = true ∧ atS l r a = (lo : Int) ∧ lo < l.length) ∨ (hereS l r a lo = false ∧ atS l r a = -1) := by
  cases hh : hereS l r a lo
  · right
    refine ⟨rfl, ?_⟩
    rcases atS_cases l r a with ⟨h1, _⟩ | ⟨i, h1, h2, ⟨h3, h3'⟩, _⟩
    · exact h1
    · exfalso
      have e : i = lo := by
        rcases Nat.lt_or_ge i lo with h5 | h5
        · have := befS_iff.1 (h.1 i h5); omega
        · rcases Nat.lt_or_ge lo i with h6 | h6
          · have := h.2 lo (Nat.le_refl _) (by omega)
            have h7 := hP.1 lo i h6 h1
            rw [h3, h3', this] at h7; cases h7
          · omega
      subst e
      have : hereS l r a i = true := dec_iff.2 ⟨h1, h3, h3'⟩
      rw [hh] at this; cases this
  · left
    have hq := dec_iff.1 hh
    refine ⟨rfl, ?_, hq.1⟩
    rcases atS_cases l r a with ⟨_, h2⟩ | ⟨i, h1, h2, ⟨h3, h3'⟩, h4⟩
    · exact absurd hq.2 (h2 lo hq.1)
    · rw [h2]
      rcases Nat.lt_trichotomy i lo with h5 | h5 | h5
      · have := befS_iff.1 (h.1 i h5); omega
      · rw [h5]
      · exact absurd hq.2 (h4 lo h5)
theorem DagOk.places {D : DagD} (h : DagOk D) : Places D.certs := by
  refine ⟨?_, fun k hk => certS_sm (h.2.2.2.2 k hk).1⟩
  intro i j hij hj
  induction j with
  | zero => omega
  | succ j ih =>
    have h1 := (h.2.2.2.2 (j + 1) hj).2.2.2.1 (by omega)
    simp only [Nat.add_sub_cancel] at h1
    rcases Nat.lt_or_ge i j with h2 | h2
    · exact befS_tr (ih h2 (by omega)) h1
    · obtain rfl : i = j := by omega
      exact h1
end Go.Proofs.Ytfkbilbgndekkaa
