/- droverlaw19: num, heavy, check, wakes; the law VoteHas. -/
import Derived.Test.YtffoglofijffpaaYe
import Derived.Test.YtffoglofijffpaaYv
namespace Go.Proofs.Ytffoglofijffpaa
open Go.RowKit
set_option linter.unusedSimpArgs false
set_option linter.unusedVariables false

set_option maxRecDepth 100000 in
set_option maxHeartbeats 1000000 in
theorem law19_num (x : Int) (w : World) : Calls Try.prog 28 #[.int .i64 x] w fun e w' => e = .returned (.int .i64 x) ∧ w = w' := by
  go_enter Try.func28, Try.ntmps28
  go_wp2
  go_ret
  exact ⟨rfl, rfl⟩
def hv19 (n mn pn lm : Nat) : Bool := decide (300 < n ∨ 100 < mn ∨ 100 < pn ∨ 100 < lm)
theorem hv19_iff {n mn pn lm : Nat} : hv19 n mn pn lm = true ↔ (300 < n ∨ 100 < mn ∨ 100 < pn ∨ 100 < lm) := by simp [hv19]
set_option maxRecDepth 100000 in
set_option maxHeartbeats 1000000 in
theorem law19_heavy0 (A : Option Addr) (n c : Nat) (mA : Option Addr) (mn mc : Nat) (pA : Option Addr) (pn pc : Nat) (lA : Option Addr) (lm lc : Nat) (w : World) :
    Calls Try.prog 23 #[.agg #[.slice A n c, .slice mA mn mc, .slice pA pn pc, .slice lA lm lc]] w fun e w' => e = .returned (.bool (hv19 n mn pn lm)) ∧ Below w.heap.size w w' := by
  go_enter Try.func23, Try.ntmps23
  go_wp2_with fail
  all_goals
    go_ret
    refine ⟨ret_bool ?_, by (repeat (first | (with_reducible exact Below.refl _ _) | (with_reducible assumption) | (with_reducible apply bel_alloc) | (with_reducible apply bel_drew) | (with_reducible apply bel_drewN) | (with_reducible refine bel_trans ?_ (by with_reducible assumption)) | (with_reducible refine bel_trans ?_ (HF.out _)) | (with_reducible refine bel_set ?_ (by simp) _) | (with_reducible refine bel_set ?_ (by simp; omega) _) | (with_reducible refine bel_set ?_ (by omega) _)))⟩
    rw [Bool.eq_iff_iff, hv19_iff]
    simp
    try omega
theorem law19_heavy (A : Option Addr) (n c : Nat) (mA : Option Addr) (mn mc : Nat) (pA : Option Addr) (pn pc : Nat) (lA : Option Addr) (lm lc : Nat) (w : World) :
    Calls Try.prog 23 #[.agg #[.slice A n c, .slice mA mn mc, .slice pA pn pc, .slice lA lm lc]] w fun e w' => ∃ x : Bool, e = .returned (.bool x) ∧ (x = false → n ≤ 300 ∧ mn ≤ 100 ∧ pn ≤ 100 ∧ lm ≤ 100) ∧ Below w.heap.size w w' :=
  (law19_heavy0 A n c mA mn mc pA pn pc lA lm lc w).mono fun e w' ⟨h1, h2⟩ => ⟨_, h1, fun h => by
    have : ¬ hv19 n mn pn lm = true := by rw [h]; simp
    rw [hv19_iff] at this
    omega, h2⟩
set_option maxRecDepth 100000 in
set_option maxHeartbeats 1000000 in
theorem law19_check (A : Option Addr) (n c : Nat) (l : List VoteD) (y : Int) (w : World) (hl : VotesR w A n l) (hy : (if mayV l = true then 0 else 1) = y) : Calls Try.prog 25 #[.slice A n c] w fun e w' => e = .returned (.int .i64 y) ∧ Below w.heap.size w w' := by
  cases hm : mayV l
  all_goals
    have HY := Lib.hid hy
    have HM := Lib.hid hm
    clear hy hm
    go_enter Try.func25, Try.ntmps25
    go_wp2_with fail
    refine (ref19_May A n c l _ _ hl HM.out).mono ?_
    rintro e w1 ⟨rfl, hb1⟩
    go_wp2_with fail
    go_ret
    exact ⟨ret_int (by rw [← HY.out, HM.out]; rfl), hb1⟩
def wkV : VoteD := ⟨1, 1, 5⟩
theorem fl_1 : (4607182418800017408 : Nat) = fl 1 := by decide +kernel
theorem wk_may0 : mayV [] = true := mayV_iff.2 ⟨by simp, fun j hj => absurd hj (by simp)⟩
theorem wk_may1 : mayV [wkV] = true := mayV_iff.2 ⟨by simp, fun j hj => by
  have : j = 0 := by simpa using hj
  subst this
  exact ⟨by decide, fun h => absurd h (by omega)⟩⟩
theorem wk_give : giE [] wkV = 0 ∧ giB [] wkV = [wkV] := by
  have h1 : voteS wkV = true := by decide
  have h2 : giE [] wkV = 0 := by simp [giE, wk_may0, h1, hasV, hasF]
  exact ⟨h2, by unfold giB; rw [if_pos h2]; rfl⟩
theorem wk_ok : paOk 4607182418800017408 4607182418800017408 = true := by decide +kernel
theorem wk_n : whN 4607182418800017408 = 1 := by decide +kernel
theorem wk_has : hsB [wkV] 4607182418800017408 4607182418800017408 = 5 ∧ hsE [wkV] 4607182418800017408 4607182418800017408 = 0 := by
  have h1 : hsOk [wkV] 4607182418800017408 4607182418800017408 = true := by unfold hsOk; rw [wk_ok, wk_may1]; rfl
  have h2 : hasV [wkV] 1 1 = 5 := by decide
  constructor
  · unfold hsB; rw [if_pos h1, wk_n, h2]
  · unfold hsE; rw [if_pos h1, wk_n, h2]; rfl
set_option maxRecDepth 100000 in
set_option maxHeartbeats 1000000 in
theorem law19_wakes (w : World) : Calls Try.prog 29 #[] w fun e w' => e = .returned (.bool true) ∧ Below w.heap.size w w' := by
  go_enter Try.func29, Try.ntmps29
  go_wp2_with fail
  refine (vote_Give none 0 0 [] wkV 0 [wkV] _ ⟨rfl, by simp [flat], by omega, fun h => absurd h (by omega)⟩ wk_give.1 wk_give.2).mono ?_
  rintro e w1 ⟨u, rfl, hown, hb1⟩
  obtain ⟨A, c, rfl, hr, _, _⟩ := hown.votes (by simp)
  have HR := Lib.hid hr
  clear hr hown
  go_wp2_with fail
  refine (vote_Has A _ c [wkV] _ _ 5 0 _ HR.out wk_has.1 wk_has.2).mono ?_
  rintro e w2 ⟨rfl, hb2⟩
  go_wp2_with (go_at_call 28; refine (law19_num _ _).mono ?_; rintro e w' ⟨rfl, rfl⟩)
  go_ret
  exact ⟨rfl, bel_trans hb1 hb2⟩
theorem ref1_PartsAt (x y : Nat) (r a : Int) (k : Bool) (w : World) (h1 : paR x y = r) (h2 : paA x y = a) (h3 : paOk x y = k) :
    Calls Try.prog 24 #[.complex .f64 x y] w fun en w' => en = .returned (.tuple #[.int .i64 r, .int .i64 a, .bool k]) ∧ w = w' := h1 ▸ h2 ▸ h3 ▸ ref1_Parts x y w
set_option maxRecDepth 100000 in
set_option maxHeartbeats 4000000 in
theorem law_VoteHas (A : Option Addr) (n c : Nat) (l : List VoteD) (mA : Option Addr) (mn mc : Nat) (ml : List VoteD) (pA : Option Addr) (pn pc : Nat) (pl : List (Nat × Nat)) (lA : Option Addr) (lm lc : Nat) (Lo : List Int) (w : World) (hl : VotesR w A n l) (hm : VotesR w mA mn ml) (hp : FloatsR w pA pn pl) (hL : IntsR w lA lm Lo) :
    Calls Try.prog 6 #[.agg #[.slice A n c, .slice mA mn mc, .slice pA pn pc, .slice lA lm lc]] w fun e w' => e = .returned (.bool true) ∧ Below w.heap.size w w' := by
  have HL := Lib.hid hl
  have HP := Lib.hid hp
  clear hl hm hp hL
  go_enter Try.func6, Try.ntmps6
  go_wp2_with fail
  refine (law19_heavy _ _ _ _ _ _ _ _ _ _ _ _ _).mono ?_
  rintro e w1 ⟨x, rfl, hx, hb1⟩
  cases x
  case true =>
    clear hx
    go_wp2_with fail
    go_ret
    exact ⟨rfl, by (repeat (first | (with_reducible exact Below.refl _ _) | (with_reducible assumption) | (with_reducible apply bel_alloc) | (with_reducible apply bel_drew) | (with_reducible apply bel_drewN) | (with_reducible refine bel_trans ?_ (by with_reducible assumption)) | (with_reducible refine bel_trans ?_ (HF.out _)) | (with_reducible refine bel_set ?_ (by simp) _) | (with_reducible refine bel_set ?_ (by simp; omega) _) | (with_reducible refine bel_set ?_ (by omega) _)))⟩
  case false =>
    obtain ⟨hn3, hmn, hpn, hlm⟩ := hx rfl
    clear hx
    have hB1 : BoxR w1 w.heap.size [.slice A n c, .slice mA mn mc, .slice pA pn pc, .slice lA lm lc] := (BoxR.new w [.slice A n c, .slice mA mn mc, .slice pA pn pc, .slice lA lm lc] 55).up hb1
    have hbw1 : Below w.heap.size w w1 := by (repeat (first | (with_reducible exact Below.refl _ _) | (with_reducible assumption) | (with_reducible apply bel_alloc) | (with_reducible apply bel_drew) | (with_reducible apply bel_drewN) | (with_reducible refine bel_trans ?_ (by with_reducible assumption)) | (with_reducible refine bel_trans ?_ (HF.out _)) | (with_reducible refine bel_set ?_ (by simp) _) | (with_reducible refine bel_set ?_ (by simp; omega) _) | (with_reducible refine bel_set ?_ (by omega) _)))
    clear hb1
    go_wp2_with fail
    go_loopw [3] (fun ix wr => ∃ i : Nat, i ≤ pn ∧ ix = .int .i64 i ∧ Below w1.heap.size w1 wr) (fun ix _ => pn - (intOf ix).toNat)
    case atStart => exact ⟨0, Nat.zero_le _, rfl, Below.refl _ _⟩
    case round =>
      obtain ⟨i, hi, rfl, hbx⟩ := hrel
      (obtain ⟨wi, hwi⟩ : ∃ x, x = wr := ⟨_, rfl⟩); subst hwi
      have hBi := hB1.up hbx
      have hbwi : Below w.heap.size w wi := bel_trans hbw1 hbx
      have b_0 := (hBi).2 0 _ rfl; have b_1 := (hBi).2 1 _ rfl; have b_2 := (hBi).2 2 _ rfl; have b_3 := (hBi).2 3 _ rfl
      have hg0 := hBi.1
      by_cases hlt : i < pn ∧ i < 30
      · obtain ⟨hlt1, hlt2⟩ := hlt
        obtain ⟨pb, poff, rfl, hpb, hpc⟩ := (HP.out.up hbwi).at (by omega)
        obtain ⟨p0, p1⟩ := hpc i hlt1
        obtain ⟨x, hx⟩ : ∃ x, x = (fth pl i).1 := ⟨_, rfl⟩
        obtain ⟨y, hy⟩ : ∃ y, y = (fth pl i).2 := ⟨_, rfl⟩
        rw [← hx] at p0
        rw [← hy] at p1
        clear hpc hx hy
        go_wp2_with fail
        refine wp_region_fam (by kernel_rfl) (by kernel_rfl) (fun ι F hne hF hcl => ?_)
        have hcF0 := fun n o => (bcell (hF n)).1 (w.heap.size) o (by first | (simp; done) | (simp; omega) | omega)
        have hcF1 := fun n o => (bcell (hF n)).1 (pb) o (by first | (simp; done) | (simp; omega) | omega)
        have HF := Lib.hid hF; clear hF
        have HC := Lib.hid hcl; clear hcl
        repeat (any_goals (first
         | go_big_quiet_step (first | (fail))
         | (refine wpQuiet_guard _ _ _ rfl rfl ?_; (fail_if_success (intro b' hb; have h2 := hb.symm; have : b' = true := h2.trans (by with_reducible rfl))); (fail_if_success (intro b' hb; have h2 := hb.symm; have : b' = false := h2.trans (by with_reducible rfl))); intro b' hb; simp only [hb]; cases b' <;> (try simp only [Bool.not_eq_true', Bool.not_eq_false', decide_eq_true_eq, decide_eq_false_iff_not, Int.not_lt, Int.not_le, Bool.and_eq_true, Bool.or_eq_true, Bool.or_eq_false_iff, beq_iff_eq, beq_eq_false_iff_ne, Int.natCast_pos] at hb))))
        all_goals (refine wpQuiet_nil ?_; intro nq)
        have hFwf := HF.out nq
        clear HF HC hne
        generalize F nq = wf at *
        have hBf := hBi.up hFwf
        have hbwf : Below w.heap.size w wf := bel_trans hbwi hFwf
        have hbxf := bel_trans hbx hFwf
        clear hcF0 hcF1 b_0 b_1 b_2 b_3 p0 p1
        have b_0 := (hBf).2 0 _ rfl; have b_1 := (hBf).2 1 _ rfl; have b_2 := (hBf).2 2 _ rfl; have b_3 := (hBf).2 3 _ rfl
        cases hm : mayV l
        case' false =>
          have hv : hsB l x y = 0 ∧ hsE l x y = 1 := by simp [hsB, hsE, hsOk, hm]
          obtain ⟨k, hk⟩ : ∃ k, paOk x y = k := ⟨_, rfl⟩
          have HV := Lib.hid hv
          have HK := Lib.hid hk
          have HC : Hid ((if mayV l = true then 0 else 1) = (1 : Int)) := Lib.hid (by rw [hm]; rfl)
          clear hv hk hm
          go_wp2_with fail
          refine (ref1_PartsAt x y _ _ k _ rfl rfl HK.out).mono ?_
          rintro e w2 ⟨rfl, rfl⟩
          go_wp2_with fail
          refine (law19_check A n c l 1 _ (HL.out.up hbwf) HC.out).mono ?_
          rintro e w3 ⟨rfl, hb3⟩
          have hB3 := hBf.up hb3
          clear b_0 b_1 b_2 b_3
          have b_0 := (hB3).2 0 _ rfl; have b_1 := (hB3).2 1 _ rfl; have b_2 := (hB3).2 2 _ rfl; have b_3 := (hB3).2 3 _ rfl
          go_wp2_with fail
          refine (vote_Has A n c l x y 0 1 _ (HL.out.up (bel_trans hbwf hb3)) HV.out.1 HV.out.2).mono ?_
          rintro e w4 ⟨rfl, hb4⟩
          clear b_0 b_1 b_2 b_3
          go_wp2_with (go_at_call 28; refine (law19_num _ _).mono ?_; rintro e w' ⟨rfl, rfl⟩)
          (first | (go_round; (case rel => exact ⟨i + 1, by omega, by go_num, bel_trans hbxf (bel_trans hb3 hb4)⟩); (case measure => (simp [intOf] <;> omega))) | (go_roundw; (case rel => exact ⟨i + 1, by omega, by go_num, bel_trans hbxf (bel_trans hb3 hb4)⟩); (case measure => (simp [intOf] <;> omega))) | (refine ⟨?_, by simp [intOf] <;> omega⟩; (repeat apply Exists.intro); refine ⟨?rel, ?fr⟩; (case fr => ((repeat' apply And.intro) <;> rfl)); (case rel => exact ⟨i + 1, by omega, by go_num, bel_trans hbxf (bel_trans hb3 hb4)⟩)))
        case' true =>
          have HC : Hid ((if mayV l = true then 0 else 1) = (0 : Int)) := Lib.hid (by rw [hm]; rfl)
          cases hk : paOk x y
          case' false =>
            have hv : hsB l x y = 0 ∧ hsE l x y = 1 := by simp [hsB, hsE, hsOk, hk]
            have HV := Lib.hid hv
            have HK := Lib.hid hk
            clear hv hk hm
            go_wp2_with fail
            refine (ref1_PartsAt x y _ _ false _ rfl rfl HK.out).mono ?_
            rintro e w2 ⟨rfl, rfl⟩
            go_wp2_with fail
            refine (law19_check A n c l 0 _ (HL.out.up hbwf) HC.out).mono ?_
            rintro e w3 ⟨rfl, hb3⟩
            have hB3 := hBf.up hb3
            clear b_0 b_1 b_2 b_3
            have b_0 := (hB3).2 0 _ rfl; have b_1 := (hB3).2 1 _ rfl; have b_2 := (hB3).2 2 _ rfl; have b_3 := (hB3).2 3 _ rfl
            go_wp2_with fail
            refine (vote_Has A n c l x y 0 1 _ (HL.out.up (bel_trans hbwf hb3)) HV.out.1 HV.out.2).mono ?_
            rintro e w4 ⟨rfl, hb4⟩
            clear b_0 b_1 b_2 b_3
            go_wp2_with (go_at_call 28; refine (law19_num _ _).mono ?_; rintro e w' ⟨rfl, rfl⟩)
            (first | (go_round; (case rel => exact ⟨i + 1, by omega, by go_num, bel_trans hbxf (bel_trans hb3 hb4)⟩); (case measure => (simp [intOf] <;> omega))) | (go_roundw; (case rel => exact ⟨i + 1, by omega, by go_num, bel_trans hbxf (bel_trans hb3 hb4)⟩); (case measure => (simp [intOf] <;> omega))) | (refine ⟨?_, by simp [intOf] <;> omega⟩; (repeat apply Exists.intro); refine ⟨?rel, ?fr⟩; (case fr => ((repeat' apply And.intro) <;> rfl)); (case rel => exact ⟨i + 1, by omega, by go_num, bel_trans hbxf (bel_trans hb3 hb4)⟩)))
          case' true =>
            obtain ⟨z, hz⟩ : ∃ z, hasV l (whN x) (whN y) = z := ⟨_, rfl⟩
            have hR : paR x y = whN x ∧ paA x y = whN y := by simp [paR, paA, hk]
            have HR := Lib.hid hR
            have HZ := Lib.hid hz
            have HK := Lib.hid hk
            obtain ⟨rr, hrr⟩ : ∃ rr, whN x = rr := ⟨_, rfl⟩
            obtain ⟨aa, haa⟩ : ∃ aa, whN y = aa := ⟨_, rfl⟩
            rw [hrr, haa] at HR HZ
            by_cases hz0 : z = 0
            case' pos =>
              subst hz0
              have hv : hsB l x y = 0 ∧ hsE l x y = 3 := by simp [hsB, hsE, hsOk, hk, hm, hz]
            case' neg =>
              have hv : hsB l x y = z ∧ hsE l x y = 0 := by simp [hsB, hsE, hsOk, hk, hm, hz, hz0]
              have hzb : (z == 0) = false := by simpa using hz0
            all_goals
              have HV := Lib.hid hv
              clear hv hk hm hR hz hrr haa
              go_wp2_with fail
              refine (ref1_PartsAt x y rr aa true _ HR.out.1 HR.out.2 HK.out).mono ?_
              rintro e w2 ⟨rfl, rfl⟩
              go_wp2_with fail
              refine (law19_check A n c l 0 _ (HL.out.up hbwf) HC.out).mono ?_
              rintro e w3 ⟨rfl, hb3⟩
              have hB3 := hBf.up hb3
              clear b_0 b_1 b_2 b_3
              have b_0 := (hB3).2 0 _ rfl; have b_1 := (hB3).2 1 _ rfl; have b_2 := (hB3).2 2 _ rfl; have b_3 := (hB3).2 3 _ rfl
              go_wp2_with fail
              refine (ref19_Has A n c l rr aa _ _ (HL.out.up (bel_trans hbwf hb3)) HZ.out).mono ?_
              rintro e w3' ⟨rfl, rfl⟩
              go_wp2_with fail
              refine (vote_Has A n c l x y _ _ _ (HL.out.up (bel_trans hbwf hb3)) HV.out.1 HV.out.2).mono ?_
              rintro e w4 ⟨rfl, hb4⟩
              clear b_0 b_1 b_2 b_3
              go_wp2_with (go_at_call 28; refine (law19_num _ _).mono ?_; rintro e w' ⟨rfl, rfl⟩)
              (first | (go_round; (case rel => exact ⟨i + 1, by omega, by go_num, bel_trans hbxf (bel_trans hb3 hb4)⟩); (case measure => (simp [intOf] <;> omega))) | (go_roundw; (case rel => exact ⟨i + 1, by omega, by go_num, bel_trans hbxf (bel_trans hb3 hb4)⟩); (case measure => (simp [intOf] <;> omega))) | (refine ⟨?_, by simp [intOf] <;> omega⟩; (repeat apply Exists.intro); refine ⟨?rel, ?fr⟩; (case fr => ((repeat' apply And.intro) <;> rfl)); (case rel => exact ⟨i + 1, by omega, by go_num, bel_trans hbxf (bel_trans hb3 hb4)⟩)))
      · clear b_0 b_1 b_3
        by_cases h1 : i < pn
        · have h2 : ¬ i < 30 := fun h => hlt ⟨h1, h⟩
          clear hlt
          go_wp2_with (go_at_call 29; refine (law19_wakes _).mono ?_; rintro e w9 ⟨rfl, hb9⟩)
          go_ret
          exact ⟨rfl, bel_trans hbwi hb9⟩
        · clear hlt
          go_wp2_with (go_at_call 29; refine (law19_wakes _).mono ?_; rintro e w9 ⟨rfl, hb9⟩)
          go_ret
          exact ⟨rfl, bel_trans hbwi hb9⟩
end Go.Proofs.Ytffoglofijffpaa
