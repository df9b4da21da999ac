/- Votes: what a place has, at the reference, at the program. -/
import Derived.Test.YtffoglofijffpaaYc
namespace Go.Proofs.Ytffoglofijffpaa
open Go.RowKit
set_option linter.unusedSimpArgs false
set_option linter.unusedVariables false

theorem place_PartsAt (x y : Nat) (r a e : Int) (w : World) (h1 : paR x y = r) (h2 : paA x y = a) (h3 : paE x y = e) :
    Calls Try.prog 60 #[.complex .f64 x y] w fun en w' => en = .returned (.tuple #[.int .i64 r, .int .i64 a, .int .i64 e]) ∧ w = w' := h1 ▸ h2 ▸ h3 ▸ place_Parts x y w
def hasF (r a : Int) : List VoteD → Int
  | [] => 0
  | v :: l => if v.ro = r ∧ v.au = a then v.di else hasF r a l
def hasV (l : List VoteD) (r a : Int) : Int := hasF r a l
theorem hasF_step (r a : Int) (l : List VoteD) (k : Nat) (h : k < l.length) : hasF r a (l.drop k) = if (vth l k).ro = r ∧ (vth l k).au = a then (vth l k).di else hasF r a (l.drop (k + 1)) := by
  rw [List.drop_eq_getElem_cons h]; simp [hasF, vth, h]
theorem hasF_cases (r a : Int) : ∀ (l : List VoteD), (hasF r a l = 0 ∧ ∀ j, j < l.length → ¬ ((vth l j).ro = r ∧ (vth l j).au = a)) ∨ ∃ i, i < l.length ∧ hasF r a l = (vth l i).di ∧ (vth l i).ro = r ∧ (vth l i).au = a
  | [] => .inl ⟨rfl, fun j hj => absurd hj (by simp)⟩
  | v :: l => by
    by_cases hv : v.ro = r ∧ v.au = a
    · exact .inr ⟨0, by simp, by simp [hasF, hv, vth], hv.1, hv.2⟩
    · rcases hasF_cases r a l with ⟨h1, h2⟩ | ⟨i, h1, h2, h3, h4⟩
      · refine .inl ⟨by rw [hasF, if_neg hv, h1], fun j hj => ?_⟩
        cases j with
        | zero => exact hv
        | succ j => exact h2 j (by simpa using hj)
      · exact .inr ⟨i + 1, by simpa using h1, by rw [hasF, if_neg hv, h2]; rfl, h3, h4⟩
set_option maxRecDepth 100000 in
set_option maxHeartbeats 2000000 in
theorem ref19_Has (A : Option Addr) (n c : Nat) (l : List VoteD) (r a y : Int) (w : World) (hl : VotesR w A n l) (hy : hasV l r a = y) : Calls Try.prog 26 #[.slice A n c, .int .i64 r, .int .i64 a] w fun e w' => e = .returned (.int .i64 y) ∧ w = w' := by
  have HY := Lib.hid hy
  have HL := Lib.hid hl
  have HN := Lib.hid hl.1
  have hnn : n ≤ 9223372036854775807 := hl.2.2.1
  clear hy hl
  go_enter Try.func26, Try.ntmps26
  go_wp2_with fail
  go_loop [7] (fun ix => ∃ k : Nat, k ≤ n ∧ ix = .int .i64 k ∧ Hid (hasV l r a = hasF r a (l.drop k))) (fun ix => n - (intOf ix).toNat)
  case atStart => exact ⟨0, Nat.zero_le _, rfl, Lib.hid rfl⟩
  case round =>
    obtain ⟨k, hk, rfl, HR⟩ := hrel
    by_cases hlt : k < n
    · obtain ⟨b, off, rfl, hb, hc⟩ := HL.out.at (by omega)
      obtain ⟨c0, c1, c2⟩ := hc k hlt
      have HS := Lib.hid (hasF_step r a l k (by rw [HN.out]; exact hlt))
      clear hc
      by_cases h1 : (vth l k).ro = r
      · have d1 : ((vth l k).ro == r) = true := by simpa using h1
        by_cases h2 : (vth l k).au = a
        · have d2 : ((vth l k).au == a) = true := by simpa using h2
          have H1 := Lib.hid h1
          have H2 := Lib.hid h2
          clear h1 h2
          go_wp2_with fail
          go_ret
          exact ⟨ret_int (by rw [← HY.out, HR.out, HS.out, if_pos ⟨H1.out, H2.out⟩]), rfl⟩
        · have d2 : ((vth l k).au == a) = false := by simpa using h2
          have H2 := Lib.hid h2
          clear h1 h2
          go_wp2_with fail
          (first | (go_round; (case rel => exact ⟨k + 1, by omega, by go_num, Lib.hid (by rw [HR.out, HS.out, if_neg (fun g => H2.out g.2)])⟩); (case measure => (simp [intOf] <;> omega))) | (go_roundw; (case rel => exact ⟨k + 1, by omega, by go_num, Lib.hid (by rw [HR.out, HS.out, if_neg (fun g => H2.out g.2)])⟩); (case measure => (simp [intOf] <;> omega))) | (refine ⟨?_, by simp [intOf] <;> omega⟩; (repeat apply Exists.intro); refine ⟨?rel, ?fr⟩; (case fr => ((repeat' apply And.intro) <;> rfl)); (case rel => exact ⟨k + 1, by omega, by go_num, Lib.hid (by rw [HR.out, HS.out, if_neg (fun g => H2.out g.2)])⟩)))
      · have d1 : ((vth l k).ro == r) = false := by simpa using h1
        have H1 := Lib.hid h1
        clear h1
        go_wp2_with fail
        (first | (go_round; (case rel => exact ⟨k + 1, by omega, by go_num, Lib.hid (by rw [HR.out, HS.out, if_neg (fun g => H1.out g.1)])⟩); (case measure => (simp [intOf] <;> omega))) | (go_roundw; (case rel => exact ⟨k + 1, by omega, by go_num, Lib.hid (by rw [HR.out, HS.out, if_neg (fun g => H1.out g.1)])⟩); (case measure => (simp [intOf] <;> omega))) | (refine ⟨?_, by simp [intOf] <;> omega⟩; (repeat apply Exists.intro); refine ⟨?rel, ?fr⟩; (case fr => ((repeat' apply And.intro) <;> rfl)); (case rel => exact ⟨k + 1, by omega, by go_num, Lib.hid (by rw [HR.out, HS.out, if_neg (fun g => H1.out g.1)])⟩)))
    · go_wp2_with fail
      go_ret
      exact ⟨ret_int (by rw [← HY.out, HR.out, List.drop_of_length_le (by rw [HN.out]; omega)]; rfl), rfl⟩
set_option maxRecDepth 100000 in
set_option maxHeartbeats 1000000 in
theorem vote_find1 (ro au di r a : Int) (x y : Nat) (w : World) (h1 : Sm ro) (h2 : Sm au) (h3 : Dn x r) (h4 : Dn y a) :
    Calls Try.prog 114 #[.agg #[.int .i64 ro, .int .i64 au, .int .i64 di], .complex .f64 x y] w fun e w' => e = .returned (.int .i64 (cmpP ro au r a)) ∧ Below w.heap.size w w' := by
  go_enter Try.func114, Try.ntmps114
  go_wp2_with fail
  refine (vote_of ro au di _).mono ?_
  rintro e w1 ⟨rfl, hb1⟩
  go_wp2_with fail
  refine (cmp_Compare _ _ ro r _ (Dn.fl h1.1 h1.2).1 h3.1 (h3.2 ro h1.1 h1.2).1).mono ?_
  rintro e w2 ⟨rfl, rfl⟩
  go_wp2_with fail
  refine (cmp_Compare _ _ au a _ (Dn.fl h2.1 h2.2).1 h4.1 (h4.2 au h2.1 h2.2).1).mono ?_
  rintro e w2 ⟨rfl, rfl⟩
  go_wp2_with fail
  refine (cmp_Or _ (cmp3 ro r) (cmp3 au a) _ (by simp) (by simp)).mono ?_
  rintro e w2 ⟨rfl, rfl⟩
  go_wp2_with fail
  go_ret
  exact ⟨rfl, by (repeat (first | (with_reducible exact Below.refl _ _) | (with_reducible assumption) | (with_reducible apply bel_alloc) | (with_reducible apply bel_drew) | (with_reducible apply bel_drewN) | (with_reducible refine bel_trans ?_ (by with_reducible assumption)) | (with_reducible refine bel_trans ?_ (HF.out _)) | (with_reducible refine bel_set ?_ (by simp) _) | (with_reducible refine bel_set ?_ (by simp; omega) _) | (with_reducible refine bel_set ?_ (by omega) _)))⟩
def PlV (l : List VoteD) : Prop := (∀ i j, i < j → j < l.length → befV (vth l i) (vth l j) = true) ∧ ∀ k, k < l.length → Sm (vth l k).ro ∧ Sm (vth l k).au
def CutV (l : List VoteD) (n : Nat) (r a : Int) (lo hi : Nat) : Prop := (∀ t, t < lo → befS (vth l t).ro (vth l t).au r a = true) ∧ ∀ t, hi ≤ t → t < n → befS (vth l t).ro (vth l t).au r a = false
noncomputable def hereV (l : List VoteD) (r a : Int) (lo : Nat) : Bool := dec (lo < l.length ∧ (vth l lo).ro = r ∧ (vth l lo).au = a)
theorem befS_tr {a b c d e f : Int} (h1 : befS a b c d = true) (h2 : befS c d e f = true) : befS a b e f = true := by
  rw [befS_iff] at *; omega
theorem befS_no {a b c d e f : Int} (h1 : befS a b c d = true) (h2 : befS a b e f = false) : befS c d e f = false := by
  cases h : befS c d e f
  · rfl
  · rw [befS_tr h1 h] at h2; cases h2
theorem MayV.pl {l : List VoteD} (h : MayV l) : PlV l := by
  refine ⟨fun i j hij hj => ?_, fun k hk => ?_⟩
  · induction j with
    | zero => omega
    | succ j ih =>
      have h1 := (h.2 (j + 1) hj).2 (by omega)
      rw [Nat.add_sub_cancel] at h1
      rcases Nat.lt_or_ge i j with h2 | h2
      · exact befS_tr (ih h2 (by omega)) h1
      · obtain rfl : i = j := by omega
        exact h1
  · have := voteS_iff.1 (h.2 k hk).1
    exact ⟨⟨by omega, by omega⟩, ⟨by omega, by omega⟩⟩
set_option maxRecDepth 100000 in
set_option maxHeartbeats 2000000 in
theorem slices_BSF_V (A : Option Addr) (n c : Nat) (l : List VoteD) (r a : Int) (x y : Nat) (w : World) (hl : VotesR w A n l) (hP : PlV l) (hn : n ≤ 1000000000) (h3 : Dn x r) (h4 : Dn y a) :
    Calls Try.prog 113 #[.slice A n c, .complex .f64 x y, .func (.func 114) #[] #[]] w fun e w' => ∃ lo : Nat, e = .returned (.tuple #[.int .i64 lo, .bool (hereV l r a lo)]) ∧ lo ≤ n ∧ CutV l n r a lo lo ∧ Below w.heap.size w w' := by
  have HL := Lib.hid hl
  have HN := Lib.hid hl.1
  have HP := Lib.hid hP
  clear hl hP
  go_enter Try.func113, Try.ntmps113
  go_wp2_with fail
  go_loopw [9, 10] (fun s7 s8 wr => ∃ lo hi : Nat, s7 = .int .i64 lo ∧ s8 = .int .i64 hi ∧ lo ≤ hi ∧ hi ≤ n ∧ Hid (CutV l n r a lo hi) ∧ Below w.heap.size w wr) (fun s7 s8 _ => (intOf s8).toNat - (intOf s7).toNat)
  case atStart => exact ⟨0, n, rfl, rfl, Nat.zero_le _, Nat.le_refl _, ⟨fun t ht => absurd ht (Nat.not_lt_zero _), fun t h1 h2 => by omega⟩, Below.refl _ _⟩
  case round =>
    obtain ⟨lo, hi, rfl, rfl, hlh, hin, I, hbw⟩ := hrel
    (obtain ⟨wx, hwx⟩ : ∃ x, x = wr := ⟨_, rfl⟩); subst hwx
    by_cases hlt : lo < hi
    · obtain ⟨b, off, rfl, hb, hc⟩ := (HL.out.up hbw).at (by omega)
      obtain ⟨m, hm⟩ : ∃ m, m = (lo + hi) / 2 := ⟨_, rfl⟩
      have hmn : m < n := by omega
      obtain ⟨c0, c1, c2⟩ := hc m hmn
      have hsm := HP.out.2 m (by rw [HN.out]; exact hmn)
      have hd2 : ((lo : Int) + (hi : Int)) / 2 = (m : Int) := by rw [hm]; omega
      have hm2 : m < hi := by omega
      have hm1 : lo ≤ m := by omega
      have HM2 := Lib.hid hm
      clear hc hm
      cases hbf : befS (vth l m).ro (vth l m).au r a
      · have hd : decide (cmpP (vth l m).ro (vth l m).au r a < 0) = false := by rw [decide_eq_false_iff_not, cmpP_lt, hbf]; simp
        have HB := Lib.hid hbf
        clear hbf
        go_wp2_with (go_at_call 114; refine (vote_find1 _ _ _ _ _ _ _ _ hsm.1 hsm.2 h3 h4).mono ?_; rintro e w1 ⟨rfl, hb1⟩)
        (first | (go_round; (case rel => (refine ⟨lo, m, rfl, by go_num, by omega, by omega, Lib.hid ⟨I.out.1, fun t h1 h2 => ?_⟩, bel_trans hbw hb1⟩; rcases Nat.lt_or_ge m t with h5 | h5; exact befS_no (HP.out.1 m t h5 (by rw [HN.out]; exact h2)) HB.out; (obtain rfl : t = m := by omega); exact HB.out)); (case measure => (simp [intOf] <;> omega))) | (go_roundw; (case rel => (refine ⟨lo, m, rfl, by go_num, by omega, by omega, Lib.hid ⟨I.out.1, fun t h1 h2 => ?_⟩, bel_trans hbw hb1⟩; rcases Nat.lt_or_ge m t with h5 | h5; exact befS_no (HP.out.1 m t h5 (by rw [HN.out]; exact h2)) HB.out; (obtain rfl : t = m := by omega); exact HB.out)); (case measure => (simp [intOf] <;> omega))) | (refine ⟨?_, by simp [intOf] <;> omega⟩; (repeat apply Exists.intro); refine ⟨?rel, ?fr⟩; (case fr => ((repeat' apply And.intro) <;> rfl)); (case rel => (refine ⟨lo, m, rfl, by go_num, by omega, by omega, Lib.hid ⟨I.out.1, fun t h1 h2 => ?_⟩, bel_trans hbw hb1⟩; rcases Nat.lt_or_ge m t with h5 | h5; exact befS_no (HP.out.1 m t h5 (by rw [HN.out]; exact h2)) HB.out; (obtain rfl : t = m := by omega); exact HB.out))))
      · have hd : decide (cmpP (vth l m).ro (vth l m).au r a < 0) = true := by rw [decide_eq_true_eq, cmpP_lt, hbf]
        have HB := Lib.hid hbf
        clear hbf
        go_wp2_with (go_at_call 114; refine (vote_find1 _ _ _ _ _ _ _ _ hsm.1 hsm.2 h3 h4).mono ?_; rintro e w1 ⟨rfl, hb1⟩)
        (first | (go_round; (case rel => (refine ⟨m + 1, hi, by go_num, rfl, by omega, by omega, Lib.hid ⟨fun t h1 => ?_, I.out.2⟩, bel_trans hbw hb1⟩; rcases Nat.lt_or_ge t m with h5 | h5; exact befS_tr (HP.out.1 t m h5 (by rw [HN.out]; exact hmn)) HB.out; (obtain rfl : t = m := by omega); exact HB.out)); (case measure => (simp [intOf] <;> omega))) | (go_roundw; (case rel => (refine ⟨m + 1, hi, by go_num, rfl, by omega, by omega, Lib.hid ⟨fun t h1 => ?_, I.out.2⟩, bel_trans hbw hb1⟩; rcases Nat.lt_or_ge t m with h5 | h5; exact befS_tr (HP.out.1 t m h5 (by rw [HN.out]; exact hmn)) HB.out; (obtain rfl : t = m := by omega); exact HB.out)); (case measure => (simp [intOf] <;> omega))) | (refine ⟨?_, by simp [intOf] <;> omega⟩; (repeat apply Exists.intro); refine ⟨?rel, ?fr⟩; (case fr => ((repeat' apply And.intro) <;> rfl)); (case rel => (refine ⟨m + 1, hi, by go_num, rfl, by omega, by omega, Lib.hid ⟨fun t h1 => ?_, I.out.2⟩, bel_trans hbw hb1⟩; rcases Nat.lt_or_ge t m with h5 | h5; exact befS_tr (HP.out.1 t m h5 (by rw [HN.out]; exact hmn)) HB.out; (obtain rfl : t = m := by omega); exact HB.out))))
    · obtain rfl : hi = lo := by omega
      by_cases hln : hi < n
      · obtain ⟨b, off, rfl, hb, hc⟩ := (HL.out.up hbw).at (by omega)
        obtain ⟨c0, c1, c2⟩ := hc hi hln
        have hsm := HP.out.2 hi (by rw [HN.out]; exact hln)
        clear hc
        cases hh : hereV l r a hi
        · have hne : ¬ ((vth l hi).ro = r ∧ (vth l hi).au = a) := fun g => by
            have : hereV l r a hi = true := dec_iff.2 ⟨by rw [HN.out]; exact hln, g⟩
            rw [hh] at this; cases this
          have hd : (cmpP (vth l hi).ro (vth l hi).au r a == 0) = false := by rw [beq_eq_false_iff_ne]; exact fun g => hne (cmpP_eq.1 g)
          have HH := Lib.hid hh
          clear hh hne
          go_wp2_with (go_at_call 114; refine (vote_find1 _ _ _ _ _ _ _ _ hsm.1 hsm.2 h3 h4).mono ?_; rintro e w1 ⟨rfl, hb1⟩)
          go_ret2
          exact ⟨hi, by rw [HH.out]; rfl, hin, I.out, bel_trans hbw hb1⟩
        · have hne : (vth l hi).ro = r ∧ (vth l hi).au = a := (dec_iff.1 hh).2
          have hd : (cmpP (vth l hi).ro (vth l hi).au r a == 0) = true := by rw [beq_iff_eq]; exact cmpP_eq.2 hne
          have HH := Lib.hid hh
          clear hh hne
          go_wp2_with (go_at_call 114; refine (vote_find1 _ _ _ _ _ _ _ _ hsm.1 hsm.2 h3 h4).mono ?_; rintro e w1 ⟨rfl, hb1⟩)
          go_ret2
          exact ⟨hi, by rw [HH.out]; rfl, hin, I.out, bel_trans hbw hb1⟩
      · have hh : hereV l r a hi = false := by
          cases h : hereV l r a hi
          · rfl
          · have := (dec_iff.1 h).1; rw [HN.out] at this; exact absurd this hln
        have HH := Lib.hid hh
        clear hh
        go_wp2_with fail
        go_ret2
        exact ⟨hi, by rw [HH.out]; rfl, hin, I.out, hbw⟩
set_option maxRecDepth 100000 in
set_option maxHeartbeats 1000000 in
theorem vote_find (A : Option Addr) (n c : Nat) (l : List VoteD) (r a : Int) (x y : Nat) (w : World) (hl : VotesR w A n l) (hP : PlV l) (hn : n ≤ 1000000000) (h3 : Dn x r) (h4 : Dn y a) :
    Calls Try.prog 96 #[.slice A n c, .complex .f64 x y] w fun e w' => ∃ lo : Nat, e = .returned (.tuple #[.int .i64 lo, .bool (hereV l r a lo)]) ∧ lo ≤ n ∧ CutV l n r a lo lo ∧ Below w.heap.size w w' := by
  go_enter Try.func96, Try.ntmps96
  go_wp2_with fail
  refine (slices_BSF_V A n c l r a x y _ hl hP hn h3 h4).mono ?_
  rintro e w1 ⟨lo, rfl, h1, h2, hb1⟩
  have H2 := Lib.hid h2
  clear h2
  go_wp2_with fail
  go_ret2
  exact ⟨lo, rfl, h1, H2.out, hb1⟩
theorem cut_has {l : List VoteD} {r a : Int} {lo : Nat} (hP : PlV l) (h : CutV l l.length r a lo lo) : (hereV l r a lo = true ∧ lo < l.length ∧ hasV l r a = (vth l lo).di) ∨ (hereV l r a lo = false ∧ hasV l r a = 0 ∧ ∀ j, j < l.length → ¬ ((vth l j).ro = r ∧ (vth l j).au = a)) := by
  rcases hasF_cases r a l with ⟨h1, h2⟩ | ⟨i, h1, h2, h3, h4⟩
  · right
    refine ⟨?_, h1, h2⟩
    cases hh : hereV l r a lo
    · rfl
    · exact absurd (dec_iff.1 hh).2 (h2 lo (dec_iff.1 hh).1)
  · left
    have hi : i = lo := by
      rcases Nat.lt_trichotomy i lo with g | g | g
      · have := befS_iff.1 (h.1 i g); omega
      · exact g
      · have h5 := h.2 lo (Nat.le_refl _) (by omega)
        have h6 := hP.1 lo i g h1
        unfold befV at h6
        rw [h3, h4] at h6
        rw [h6] at h5; cases h5
    subst hi
    exact ⟨dec_iff.2 ⟨h1, h3, h4⟩, h1, h2⟩
set_option maxRecDepth 100000 in
set_option maxHeartbeats 1000000 in
theorem vote_At (A : Option Addr) (n c : Nat) (l : List VoteD) (r a : Int) (x y : Nat) (z : Int) (w : World) (hl : VotesR w A n l) (hP : PlV l) (hn : n ≤ 1000000000) (h3 : Dn x r) (h4 : Dn y a) (hz : hasV l r a = z) :
    Calls Try.prog 62 #[.slice A n c, .complex .f64 x y] w fun e w' => e = .returned (.int .i64 z) ∧ Below w.heap.size w w' := by
  have HL := Lib.hid hl
  have HN := Lib.hid hl.1
  have HP := Lib.hid hP
  have HZ := Lib.hid hz
  clear hl hP hz
  go_enter Try.func62, Try.ntmps62
  go_wp2_with fail
  refine (vote_find A n c l r a x y _ HL.out HP.out hn h3 h4).mono ?_
  rintro e w1 ⟨lo, rfl, h1, h2, hb1⟩
  rcases cut_has HP.out (by rw [HN.out]; exact h2) with ⟨hh, hlo, hv⟩ | ⟨hh, hv, _⟩
  · rw [hh]
    have hln : lo < n := by rw [← HN.out]; exact hlo
    obtain ⟨b, off, rfl, hb, hc⟩ := (HL.out.up hb1).at (by omega)
    obtain ⟨c0, c1, c2⟩ := hc lo hln
    have HV := Lib.hid hv
    clear hc hh h2 hv hlo
    go_wp2_with fail
    go_ret
    exact ⟨ret_int (by rw [← HZ.out, HV.out]), hb1⟩
  · rw [hh]
    have HV := Lib.hid hv
    clear hh h2 hv
    go_wp2_with fail
    go_ret
    exact ⟨ret_int (by rw [← HZ.out, HV.out]), hb1⟩
noncomputable def hsOk (l : List VoteD) (x y : Nat) : Bool := paOk x y && mayV l
noncomputable def hsB (l : List VoteD) (x y : Nat) : Int := if hsOk l x y = true then hasV l (whN x) (whN y) else 0
noncomputable def hsE (l : List VoteD) (x y : Nat) : Int := if hsOk l x y = true then (if hasV l (whN x) (whN y) = 0 then 3 else 0) else 1
set_option maxRecDepth 100000 in
set_option maxHeartbeats 2000000 in
theorem vote_Has (A : Option Addr) (n c : Nat) (l : List VoteD) (x y : Nat) (u v : Int) (w : World) (hl : VotesR w A n l) (hu : hsB l x y = u) (hv : hsE l x y = v) :
    Calls Try.prog 27 #[.slice A n c, .complex .f64 x y] w fun e w' => e = .returned (.tuple #[.int .i64 u, .int .i64 v]) ∧ Below w.heap.size w w' := by
  have HL := Lib.hid hl
  have HN := Lib.hid hl.1
  subst hu; subst hv
  clear hl
  cases hp : paOk x y
  · have e1 : hsB l x y = 0 ∧ hsE l x y = 1 ∧ paE x y = 1 := by simp [hsB, hsE, hsOk, hp, paE]
    have E1 := Lib.hid e1
    clear e1 hp
    go_enter Try.func27, Try.ntmps27
    go_wp2_with fail
    refine (place_PartsAt x y _ _ 1 _ rfl rfl E1.out.2.2).mono ?_
    rintro e w1 ⟨rfl, rfl⟩
    go_wp2_with fail
    go_ret2
    exact ⟨by rw [E1.out.1, E1.out.2.1]; rfl, Below.refl _ _⟩
  · cases hm : mayV l
    · have e1 : hsB l x y = 0 ∧ hsE l x y = 1 ∧ paE x y = 0 := by simp [hsB, hsE, hsOk, hp, hm, paE]
      have E1 := Lib.hid e1
      have HM := Lib.hid hm
      clear e1 hp hm
      go_enter Try.func27, Try.ntmps27
      go_wp2_with fail
      refine (place_PartsAt x y _ _ 0 _ rfl rfl E1.out.2.2).mono ?_
      rintro e w1 ⟨rfl, rfl⟩
      go_wp2_with fail
      refine (vote_May A n c l false _ HL.out HM.out).mono ?_
      rintro e w1 ⟨rfl, hb1⟩
      go_wp2_with fail
      go_ret2
      exact ⟨by rw [E1.out.1, E1.out.2.1]; rfl, hb1⟩
    · obtain ⟨_, _, d1, _, _, d2⟩ := pa_ok hp
      have hP := (mayV_iff.1 hm).pl
      have hn : n ≤ 1000000000 := by have := (mayV_iff.1 hm).1; rw [HN.out] at this; omega
      have HP := Lib.hid hP
      have HM := Lib.hid hm
      by_cases hz : hasV l (whN x) (whN y) = 0
      · have e1 : hsB l x y = 0 ∧ hsE l x y = 3 ∧ paE x y = 0 := by simp [hsB, hsE, hsOk, hp, hm, paE, hz]
        have E1 := Lib.hid e1
        have HZ := Lib.hid hz
        clear e1 hp hm hP hz
        go_enter Try.func27, Try.ntmps27
        go_wp2_with fail
        refine (place_PartsAt x y _ _ 0 _ rfl rfl E1.out.2.2).mono ?_
        rintro e w1 ⟨rfl, rfl⟩
        go_wp2_with fail
        refine (vote_May A n c l true _ HL.out HM.out).mono ?_
        rintro e w1 ⟨rfl, hb1⟩
        go_wp2_with fail
        refine (vote_At A n c l _ _ x y 0 _ (HL.out.up hb1) HP.out hn d1 d2 HZ.out).mono ?_
        rintro e w2 ⟨rfl, hb2⟩
        go_wp2_with fail
        go_ret2
        exact ⟨by rw [E1.out.1, E1.out.2.1]; rfl, bel_trans hb1 hb2⟩
      · obtain ⟨z, hzz⟩ : ∃ z, hasV l (whN x) (whN y) = z := ⟨_, rfl⟩
        rw [hzz] at hz
        have e1 : hsB l x y = z ∧ hsE l x y = 0 ∧ paE x y = 0 := by simp [hsB, hsE, hsOk, hp, hm, paE, hz, hzz]
        have E1 := Lib.hid e1
        have HZ := Lib.hid hzz
        have hzb : (z == 0) = false := by simpa using hz
        clear e1 hp hm hP hz hzz
        go_enter Try.func27, Try.ntmps27
        go_wp2_with fail
        refine (place_PartsAt x y _ _ 0 _ rfl rfl E1.out.2.2).mono ?_
        rintro e w1 ⟨rfl, rfl⟩
        go_wp2_with fail
        refine (vote_May A n c l true _ HL.out HM.out).mono ?_
        rintro e w1 ⟨rfl, hb1⟩
        go_wp2_with fail
        refine (vote_At A n c l _ _ x y z _ (HL.out.up hb1) HP.out hn d1 d2 HZ.out).mono ?_
        rintro e w2 ⟨rfl, hb2⟩
        go_wp2_with fail
        go_ret2
        exact ⟨by rw [E1.out.1, E1.out.2.1]; rfl, bel_trans hb1 hb2⟩
end Go.Proofs.Ytffoglofijffpaa
