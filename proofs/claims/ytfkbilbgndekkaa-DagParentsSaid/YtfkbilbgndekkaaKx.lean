/- A place that any floats are, among certificates, at the program. -/
import Derived.Test.YtfkbilbgndekkaaKw
import Derived.Test.YtfkbilbgndekkaaKq
namespace Go.Proofs.Ytfkbilbgndekkaa
open Go.RowKit
set_option linter.unusedSimpArgs false
set_option linter.unusedVariables false

set_option maxRecDepth 100000 in
set_option maxHeartbeats 1000000 in
theorem cmp_isNaND (x : Nat) (w : World) (h1 : FloatKind.f64.format.order x x = some Ordering.eq) :
    Calls Try.prog 144 #[.float .f64 x] w fun e w' => e = .returned (.bool false) ∧ w = w' := by
  go_enter Try.func144, Try.ntmps144
  go_wp2
  go_ret
  exact ⟨ret_bool (by simp), rfl⟩
set_option maxRecDepth 100000 in
set_option maxHeartbeats 1000000 in
theorem cmp_CompareD (x y : Nat) (a b : Int) (w : World) (h1 : FloatKind.f64.format.order x x = some Ordering.eq) (h2 : FloatKind.f64.format.order y y = some Ordering.eq) (o1 : FloatKind.f64.format.order x y = some (compare a b)) :
    Calls Try.prog 135 #[.float .f64 x, .float .f64 y] w fun e w' => e = .returned (.int .i64 (cmp3 a b)) ∧ w = w' := by
  rcases Int.lt_trichotomy a b with h | h | h
  case' inl =>
    rw [show compare a b = Ordering.lt by rw [cmpLt]; exact h] at o1
    have hc : cmp3 a b = -1 := by unfold cmp3; rw [if_pos h]
  case' inr.inl =>
    rw [show compare a b = Ordering.eq by subst h; simp [compare, compareOfLessAndEq]] at o1
    have hc : cmp3 a b = 0 := by unfold cmp3; rw [if_neg (by omega), if_neg (by omega)]
  case' inr.inr =>
    rw [show compare a b = Ordering.gt by rw [cmpGt]; exact h] at o1
    have hc : cmp3 a b = 1 := by unfold cmp3; rw [if_neg (by omega), if_pos h]
  all_goals
    have HC := Lib.hid hc
    clear hc h
    go_enter Try.func135, Try.ntmps135
    go_wp2_with (go_at_call 144; first | (refine (cmp_isNaND _ _ h1).mono ?_; rintro e w' ⟨rfl, rfl⟩) | (refine (cmp_isNaND _ _ h2).mono ?_; rintro e w' ⟨rfl, rfl⟩))
    go_ret
    exact ⟨ret_int HC.out.symm, rfl⟩
set_option maxRecDepth 100000 in
set_option maxHeartbeats 1000000 in
theorem dag_find1D (au ro di r a : Int) (bA pA sA : Option Addr) (bn bc pn pc sn sc : Nat) (x y : Nat) (w : World) (h1 : Sm ro) (h2 : Sm au) (h3 : Dn x r) (h4 : Dn y a) :
    Calls Try.prog 133 #[.agg #[.int .i64 au, .int .i64 ro, .slice bA bn bc, .slice pA pn pc, .int .i64 di, .slice sA sn sc], .complex .f64 x y] w fun e w' => e = .returned (.int .i64 (cmpP ro au r a)) ∧ Below w.heap.size w w' := by
  go_enter Try.func133, Try.ntmps133
  go_wp2_with fail
  refine (dag_Place' _ _ _ _ _ _ _ _ _ _ _ _ _).mono ?_
  rintro e w1 ⟨rfl, hb1⟩
  go_wp2_with fail
  refine (cmp_CompareD _ _ ro r _ (Dn.fl h1.1 h1.2).1 h3.1 (h3.2 ro h1.1 h1.2).1).mono ?_
  rintro e w2 ⟨rfl, rfl⟩
  go_wp2_with fail
  refine (cmp_CompareD _ _ au a _ (Dn.fl h2.1 h2.2).1 h4.1 (h4.2 au h2.1 h2.2).1).mono ?_
  rintro e w2 ⟨rfl, rfl⟩
  go_wp2_with fail
  refine (cmp_Or _ (cmp3 ro r) (cmp3 au a) _ (by simp) (by simp)).mono ?_
  rintro e w2 ⟨rfl, rfl⟩
  go_wp2_with fail
  go_ret
  exact ⟨rfl, by (repeat (first | (with_reducible exact Below.refl _ _) | (with_reducible assumption) | (with_reducible apply bel_alloc) | (with_reducible apply bel_drew) | (with_reducible apply bel_drewN) | (with_reducible refine bel_trans ?_ (by with_reducible assumption)) | (with_reducible refine bel_trans ?_ (HF.out _)) | (with_reducible refine bel_set ?_ (by simp) _) | (with_reducible refine bel_set ?_ (by simp; omega) _) | (with_reducible refine bel_set ?_ (by omega) _)))⟩
set_option maxRecDepth 100000 in
set_option maxHeartbeats 1000000 in
theorem slices_BSFD (A : Option Addr) (n c : Nat) (l : List CertD) (r a : Int) (x y : Nat) (w : World) (hl : CertsR w A n l) (hP : Places l) (hn : n ≤ 1000000000) (h3 : Dn x r) (h4 : Dn y a) :
    Calls Try.prog 132 #[.slice A n c, .complex .f64 x y, .func (.func 133) #[] #[]] w fun e w' => ∃ lo : Nat, e = .returned (.tuple #[.int .i64 lo, .bool (hereS l r a lo)]) ∧ lo ≤ n ∧ CutP l n r a lo lo ∧ Below w.heap.size w w' := by
  have HL := Lib.hid hl
  have HN := Lib.hid hl.1
  have HP := Lib.hid hP
  clear hl hP
  go_enter Try.func132, Try.ntmps132
  go_wp2_with fail
  go_loopw [9, 10] (fun s7 s8 wr => ∃ lo hi : Nat, s7 = .int .i64 lo ∧ s8 = .int .i64 hi ∧ lo ≤ hi ∧ hi ≤ n ∧ Hid (CutP l n r a lo hi) ∧ Below w.heap.size w wr) (fun s7 s8 _ => (intOf s8).toNat - (intOf s7).toNat)
  case atStart => exact ⟨0, n, rfl, rfl, Nat.zero_le _, Nat.le_refl _, ⟨fun t ht => absurd ht (Nat.not_lt_zero _), fun t h1 h2 => by omega⟩, Below.refl _ _⟩
  case round =>
    obtain ⟨lo, hi, rfl, rfl, hlh, hin, I, hbw⟩ := hrel
    (obtain ⟨wx, hwx⟩ : ∃ x, x = wr := ⟨_, rfl⟩); subst hwx
    by_cases hlt : lo < hi
    · obtain ⟨b, off, rfl, hb, hc⟩ := (HL.out.up hbw).2.2 (by omega)
      obtain ⟨m, hm⟩ : ∃ m, m = (lo + hi) / 2 := ⟨_, rfl⟩
      have hmn : m < n := by omega
      obtain ⟨p, hat, _⟩ := hc m hmn
      obtain ⟨c0, c1, c2, c3, c4, c5⟩ := hat
      obtain ⟨⟨⟨bA, bn, bc⟩, ⟨pA, pn, pc⟩⟩, ⟨sA, sn, sc⟩⟩ := p
      dsimp only at c0 c1 c2 c3 c4 c5
      have hsm := HP.out.2 m (by rw [HN.out]; exact hmn)
      have hd2 : ((lo : Int) + (hi : Int)) / 2 = (m : Int) := by rw [hm]; omega
      have hm2 : m < hi := by omega
      have hm1 : lo ≤ m := by omega
      have HM2 := Lib.hid hm
      clear hc hm
      cases hbf : befS (cth l m).h.ro (cth l m).h.au r a
      · have hd : decide (cmpP (cth l m).h.ro (cth l m).h.au r a < 0) = false := by rw [decide_eq_false_iff_not, cmpP_lt, hbf]; simp
        have HB := Lib.hid hbf
        clear hbf
        go_wp2_with (go_at_call 133; refine (dag_find1D _ _ _ _ _ _ _ _ _ _ _ _ _ _ _ _ _ hsm.1 hsm.2 h3 h4).mono ?_; rintro e w1 ⟨rfl, hb1⟩)
        (first | (go_round; (case rel => (refine ⟨lo, m, rfl, by go_num, by omega, by omega, Lib.hid ⟨I.out.1, fun t h1 h2 => ?_⟩, bel_trans hbw hb1⟩; rcases Nat.lt_or_ge m t with h5 | h5; exact befS_no (HP.out.1 m t h5 (by rw [HN.out]; exact h2)) HB.out; (obtain rfl : t = m := by omega); exact HB.out)); (case measure => (simp [intOf] <;> omega))) | (go_roundw; (case rel => (refine ⟨lo, m, rfl, by go_num, by omega, by omega, Lib.hid ⟨I.out.1, fun t h1 h2 => ?_⟩, bel_trans hbw hb1⟩; rcases Nat.lt_or_ge m t with h5 | h5; exact befS_no (HP.out.1 m t h5 (by rw [HN.out]; exact h2)) HB.out; (obtain rfl : t = m := by omega); exact HB.out)); (case measure => (simp [intOf] <;> omega))) | (refine ⟨?_, by simp [intOf] <;> omega⟩; (repeat apply Exists.intro); refine ⟨?rel, ?fr⟩; (case fr => ((repeat' apply And.intro) <;> rfl)); (case rel => (refine ⟨lo, m, rfl, by go_num, by omega, by omega, Lib.hid ⟨I.out.1, fun t h1 h2 => ?_⟩, bel_trans hbw hb1⟩; rcases Nat.lt_or_ge m t with h5 | h5; exact befS_no (HP.out.1 m t h5 (by rw [HN.out]; exact h2)) HB.out; (obtain rfl : t = m := by omega); exact HB.out))))
      · have hd : decide (cmpP (cth l m).h.ro (cth l m).h.au r a < 0) = true := by rw [decide_eq_true_eq, cmpP_lt, hbf]
        have HB := Lib.hid hbf
        clear hbf
        go_wp2_with (go_at_call 133; refine (dag_find1D _ _ _ _ _ _ _ _ _ _ _ _ _ _ _ _ _ hsm.1 hsm.2 h3 h4).mono ?_; rintro e w1 ⟨rfl, hb1⟩)
        (first | (go_round; (case rel => (refine ⟨m + 1, hi, by go_num, rfl, by omega, by omega, Lib.hid ⟨fun t h1 => ?_, I.out.2⟩, bel_trans hbw hb1⟩; rcases Nat.lt_or_ge t m with h5 | h5; exact befS_tr (HP.out.1 t m h5 (by rw [HN.out]; exact hmn)) HB.out; (obtain rfl : t = m := by omega); exact HB.out)); (case measure => (simp [intOf] <;> omega))) | (go_roundw; (case rel => (refine ⟨m + 1, hi, by go_num, rfl, by omega, by omega, Lib.hid ⟨fun t h1 => ?_, I.out.2⟩, bel_trans hbw hb1⟩; rcases Nat.lt_or_ge t m with h5 | h5; exact befS_tr (HP.out.1 t m h5 (by rw [HN.out]; exact hmn)) HB.out; (obtain rfl : t = m := by omega); exact HB.out)); (case measure => (simp [intOf] <;> omega))) | (refine ⟨?_, by simp [intOf] <;> omega⟩; (repeat apply Exists.intro); refine ⟨?rel, ?fr⟩; (case fr => ((repeat' apply And.intro) <;> rfl)); (case rel => (refine ⟨m + 1, hi, by go_num, rfl, by omega, by omega, Lib.hid ⟨fun t h1 => ?_, I.out.2⟩, bel_trans hbw hb1⟩; rcases Nat.lt_or_ge t m with h5 | h5; exact befS_tr (HP.out.1 t m h5 (by rw [HN.out]; exact hmn)) HB.out; (obtain rfl : t = m := by omega); exact HB.out))))
    · obtain rfl : hi = lo := by omega
      by_cases hln : hi < n
      · obtain ⟨b, off, rfl, hb, hc⟩ := (HL.out.up hbw).2.2 (by omega)
        obtain ⟨p, hat, _⟩ := hc hi hln
        obtain ⟨c0, c1, c2, c3, c4, c5⟩ := hat
        obtain ⟨⟨⟨bA, bn, bc⟩, ⟨pA, pn, pc⟩⟩, ⟨sA, sn, sc⟩⟩ := p
        dsimp only at c0 c1 c2 c3 c4 c5
        have hsm := HP.out.2 hi (by rw [HN.out]; exact hln)
        clear hc
        cases hh : hereS l r a hi
        · have hne : ¬ ((cth l hi).h.ro = r ∧ (cth l hi).h.au = a) := fun g => by
            have : hereS l r a hi = true := dec_iff.2 ⟨by rw [HN.out]; exact hln, g⟩
            rw [hh] at this; cases this
          have hd : (cmpP (cth l hi).h.ro (cth l hi).h.au r a == 0) = false := by rw [beq_eq_false_iff_ne]; exact fun g => hne (cmpP_eq.1 g)
          have HH := Lib.hid hh
          clear hh hne
          go_wp2_with (go_at_call 133; refine (dag_find1D _ _ _ _ _ _ _ _ _ _ _ _ _ _ _ _ _ hsm.1 hsm.2 h3 h4).mono ?_; rintro e w1 ⟨rfl, hb1⟩)
          go_ret2
          exact ⟨hi, by rw [HH.out]; rfl, hin, I.out, bel_trans hbw hb1⟩
        · have hne : (cth l hi).h.ro = r ∧ (cth l hi).h.au = a := (dec_iff.1 hh).2
          have hd : (cmpP (cth l hi).h.ro (cth l hi).h.au r a == 0) = true := by rw [beq_iff_eq]; exact cmpP_eq.2 hne
          have HH := Lib.hid hh
          clear hh hne
          go_wp2_with (go_at_call 133; refine (dag_find1D _ _ _ _ _ _ _ _ _ _ _ _ _ _ _ _ _ hsm.1 hsm.2 h3 h4).mono ?_; rintro e w1 ⟨rfl, hb1⟩)
          go_ret2
          exact ⟨hi, by rw [HH.out]; rfl, hin, I.out, bel_trans hbw hb1⟩
      · have hh : hereS l r a hi = false := by
          cases h : hereS l r a hi
          · rfl
          · have := (dec_iff.1 h).1; rw [HN.out] at this; exact absurd this hln
        have HH := Lib.hid hh
        clear hh
        go_wp2_with fail
        go_ret2
        exact ⟨hi, by rw [HH.out]; rfl, hin, I.out, hbw⟩
set_option maxRecDepth 100000 in
set_option maxHeartbeats 1000000 in
theorem dag_findD (A : Option Addr) (n c : Nat) (l : List CertD) (r a : Int) (x y : Nat) (w : World) (hl : CertsR w A n l) (hP : Places l) (hn : n ≤ 1000000000) (h3 : Dn x r) (h4 : Dn y a) :
    Calls Try.prog 119 #[.slice A n c, .complex .f64 x y] w fun e w' => ∃ lo : Nat, e = .returned (.tuple #[.int .i64 lo, .bool (hereS l r a lo)]) ∧ lo ≤ n ∧ CutP l n r a lo lo ∧ Below w.heap.size w w' := by
  go_enter Try.func119, Try.ntmps119
  go_wp2_with fail
  refine (slices_BSFD A n c l r a x y _ hl hP hn h3 h4).mono ?_
  rintro e w1 ⟨lo, rfl, h1, h2, hb1⟩
  have H2 := Lib.hid h2
  clear h2
  go_wp2_with fail
  go_ret2
  exact ⟨lo, rfl, h1, H2.out, hb1⟩
set_option maxRecDepth 100000 in
set_option maxHeartbeats 1000000 in
theorem dag_ThereD_none (A : Option Addr) (n c : Nat) (l : List CertD) (nodes low r a : Int) (x y : Nat) (w : World) (hl : CertsR w A n l) (hP : Places l) (hn : n ≤ 1000000000) (h3 : Dn x r) (h4 : Dn y a) (hat : atS l r a = -1) :
    Calls Try.prog 99 #[.agg #[.int .i64 nodes, .int .i64 low, .slice A n c], .complex .f64 x y] w fun e w' => e = .returned (.tuple #[.agg #[.int .i64 0, .int .i64 0, .slice none 0 0, .slice none 0 0, .int .i64 0, .slice none 0 0], .bool false]) ∧ Below w.heap.size w w' := by
  have HL := Lib.hid hl
  have HP := Lib.hid hP
  have HAT := Lib.hid hat
  have HN := Lib.hid hl.1
  clear hl hP hat
  go_enter Try.func99, Try.ntmps99
  go_wp2_with fail
  refine (dag_findD A n c l r a x y _ (HL.out.up (by (repeat (first | (with_reducible exact Below.refl _ _) | (with_reducible assumption) | (with_reducible apply bel_alloc) | (with_reducible apply bel_drew) | (with_reducible apply bel_drewN) | (with_reducible refine bel_trans ?_ (by with_reducible assumption)) | (with_reducible refine bel_trans ?_ (HF.out _)) | (with_reducible refine bel_set ?_ (by simp) _) | (with_reducible refine bel_set ?_ (by simp; omega) _) | (with_reducible refine bel_set ?_ (by omega) _))))) HP.out hn h3 h4).mono ?_
  rintro e w1 ⟨lo, rfl, h1, h2, hb1⟩
  have hh : hereS l r a lo = false := by
    rcases at_here HP.out (by rw [HN.out]; exact h2) with ⟨_, g, _⟩ | ⟨g, _⟩
    · rw [HAT.out] at g; omega
    · exact g
  rw [hh]
  clear hh h2
  have hz_w1 : w.heap.size + 2 ≤ w1.heap.size := (by have hq := (hb1).size; (try simp at hq); omega); have hc0_w1 := fun o => (bcell hb1).1 (w.heap.size) o (by first | (simp; done) | (simp; omega) | omega); have hc1_w1 := fun o => (bcell hb1).1 (w.heap.size + 1) o (by first | (simp; done) | (simp; omega) | omega); have hf0_w1 := fun o => (bcell hb1).2 (w.heap.size) o (by first | (simp; done) | (simp; omega) | omega); have hf1_w1 := fun o => (bcell hb1).2 (w.heap.size + 1) o (by first | (simp; done) | (simp; omega) | omega)
  go_wp2_with fail
  exact bodyPost_ret (v := .tuple #[.agg #[.int .i64 0, .int .i64 0, .slice none 0 0, .slice none 0 0, .int .i64 0, .slice none 0 0], .bool false]) (by simp [results, Try.results99, go_sem, hc0_w1, hc1_w1]) rfl ⟨rfl, by (repeat (first | (with_reducible exact Below.refl _ _) | (with_reducible assumption) | (with_reducible apply bel_alloc) | (with_reducible apply bel_drew) | (with_reducible apply bel_drewN) | (with_reducible refine bel_trans ?_ (by with_reducible assumption)) | (with_reducible refine bel_trans ?_ (HF.out _)) | ((with_reducible refine bel_set3 ?_ ?_); rotate_left; omega)))⟩
set_option maxRecDepth 100000 in
set_option maxHeartbeats 1000000 in
theorem dag_ThereD_some (A : Option Addr) (n c : Nat) (l : List CertD) (nodes low r a : Int) (i : Nat) (x y : Nat) (u w : World) (hub : Below u.heap.size u w) (hl : CertsR u A n l) (hP : Places l) (hn : n ≤ 1000000000) (h3 : Dn x r) (h4 : Dn y a) (hat : atS l r a = (i : Int)) :
    Calls Try.prog 99 #[.agg #[.int .i64 nodes, .int .i64 low, .slice A n c], .complex .f64 x y] w fun e w' => ∃ p : CertP, e = .returned (.tuple #[.agg #[.int .i64 (cth l i).h.au, .int .i64 (cth l i).h.ro, .slice p.h.b.A p.h.b.n p.h.b.c, .slice p.h.p.A p.h.p.n p.h.p.c, .int .i64 (cth l i).di, .slice p.s.A p.s.n p.s.c], .bool true]) ∧ CertR u p (cth l i) ∧ Below w.heap.size w w' := by
  have HL := Lib.hid hl
  have HP := Lib.hid hP
  have HAT := Lib.hid hat
  have HN := Lib.hid hl.1
  clear hl hP hat
  go_enter Try.func99, Try.ntmps99
  go_wp2_with fail
  refine (dag_findD A n c l r a x y _ (HL.out.up (by (repeat (first | (with_reducible exact Below.refl _ _) | (with_reducible assumption) | (with_reducible apply bel_alloc) | (with_reducible apply bel_drew) | (with_reducible apply bel_drewN) | (with_reducible refine bel_trans ?_ (by with_reducible assumption)) | (with_reducible refine bel_trans ?_ (HF.out _)) | (with_reducible refine bel_set ?_ (by simp) _) | (with_reducible refine bel_set ?_ (by simp; omega) _) | (with_reducible refine bel_set ?_ (by omega) _))))) HP.out hn h3 h4).mono ?_
  rintro e w1 ⟨lo, rfl, h1, h2, hb1⟩
  have hh : hereS l r a lo = true ∧ lo = i ∧ i < n := by
    rcases at_here HP.out (by rw [HN.out]; exact h2) with ⟨g1, g, g2⟩ | ⟨_, g⟩
    · rw [HAT.out] at g; rw [HN.out] at g2; exact ⟨g1, by omega, by omega⟩
    · rw [HAT.out] at g; omega
  obtain ⟨hh, rfl, hin⟩ := hh
  rw [hh]
  clear hh h2
  obtain ⟨b, off, rfl, hb, hc⟩ := HL.out.2.2 (by omega)
  obtain ⟨p, hat, hcr⟩ := hc lo hin
  have hbw1 : Below w.heap.size w w1 := by (repeat (first | (with_reducible exact Below.refl _ _) | (with_reducible assumption) | (with_reducible apply bel_alloc) | (with_reducible apply bel_drew) | (with_reducible apply bel_drewN) | (with_reducible refine bel_trans ?_ (by with_reducible assumption)) | (with_reducible refine bel_trans ?_ (HF.out _)) | (with_reducible refine bel_set ?_ (by simp) _) | (with_reducible refine bel_set ?_ (by simp; omega) _) | (with_reducible refine bel_set ?_ (by omega) _)))
  obtain ⟨c0, c1, c2, c3, c4, c5⟩ := hat.up (bel_trans hub hbw1) hb
  have HCR := Lib.hid hcr
  obtain ⟨⟨⟨bA, bn, bc⟩, ⟨pA, pn, pc⟩⟩, ⟨sA, sn, sc⟩⟩ := p
  dsimp only at c0 c1 c2 c3 c4 c5
  clear hc hat hcr
  have hz_w1 : w.heap.size + 2 ≤ w1.heap.size := (by have hq := (hb1).size; (try simp at hq); omega); have hc0_w1 := fun o => (bcell hb1).1 (w.heap.size) o (by first | (simp; done) | (simp; omega) | omega); have hc1_w1 := fun o => (bcell hb1).1 (w.heap.size + 1) o (by first | (simp; done) | (simp; omega) | omega); have hf0_w1 := fun o => (bcell hb1).2 (w.heap.size) o (by first | (simp; done) | (simp; omega) | omega); have hf1_w1 := fun o => (bcell hb1).2 (w.heap.size + 1) o (by first | (simp; done) | (simp; omega) | omega)
  go_wp2_with fail
  exact bodyPost_ret (v := .tuple #[.agg #[.int .i64 (cth l lo).h.au, .int .i64 (cth l lo).h.ro, .slice bA bn bc, .slice pA pn pc, .int .i64 (cth l lo).di, .slice sA sn sc], .bool true]) (by simp [results, Try.results99, go_sem, hc0_w1, hc1_w1]) rfl ⟨⟨⟨⟨bA, bn, bc⟩, ⟨pA, pn, pc⟩⟩, ⟨sA, sn, sc⟩⟩, rfl, HCR.out, by (repeat (first | (with_reducible exact Below.refl _ _) | (with_reducible assumption) | (with_reducible apply bel_alloc) | (with_reducible apply bel_drew) | (with_reducible apply bel_drewN) | (with_reducible refine bel_trans ?_ (by with_reducible assumption)) | (with_reducible refine bel_trans ?_ (HF.out _)) | ((with_reducible refine bel_set3 ?_ ?_); rotate_left; omega)))⟩
end Go.Proofs.Ytfkbilbgndekkaa
