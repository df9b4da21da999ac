/- The laws AnchorFinds and AnchorVotes: the walks. -/
import Derived.Test.YthpljlffjbodpaaFe
namespace Go.Proofs.Ythpljlffjbodpaa
open Go.RowKit
set_option linter.unusedSimpArgs false
set_option linter.unusedVariables false

theorem ref14_AnchorAt (A : Option Addr) (n c : Nat) (D : DagD) (r y : Int) (w : World) (hl : CertsR w A n D.certs) (h1 : 1 ≤ D.nodes) (h2 : D.nodes ≤ 16) (h3 : 2 ≤ r) (h4 : r ≤ 1099511627776) (hy : anchS D r = y) :
    Calls Try.prog 45 #[.agg #[.int .i64 D.nodes, .int .i64 D.low, .slice A n c], .int .i64 r] w fun e w' => e = .returned (.int .i64 y) ∧ Below w.heap.size w w' := hy ▸ ref14_Anchor A n c D r w hl h1 h2 h3 h4
theorem ref14_VotesAt (A : Option Addr) (n c : Nat) (D : DagD) (r y : Int) (w : World) (hl : CertsR w A n D.certs) (hn : n ≤ 65536) (h1 : 1 ≤ D.nodes) (h2 : D.nodes ≤ 16) (h3 : 2 ≤ r) (h4 : r ≤ 1099511627776) (hy : votesS D r = y) :
    Calls Try.prog 39 #[.agg #[.int .i64 D.nodes, .int .i64 D.low, .slice A n c], .int .i64 r] w fun e w' => e = .returned (.int .i64 y) ∧ Below w.heap.size w w' := hy ▸ ref14_Votes A n c D r w hl hn h1 h2 h3 h4
theorem ref14_DirectAt (A : Option Addr) (n c : Nat) (D : DagD) (r : Int) (y : Bool) (w : World) (hl : CertsR w A n D.certs) (hn : n ≤ 65536) (h0 : isS D.nodes = true) (h3 : 2 ≤ r) (h4 : r ≤ 1099511627776) (hy : directS D r = y) :
    Calls Try.prog 40 #[.agg #[.int .i64 D.nodes, .int .i64 D.low, .slice A n c], .int .i64 r] w fun e w' => e = .returned (.bool y) ∧ Below w.heap.size w w' := hy ▸ ref14_Direct A n c D r w hl hn h0 h3 h4
theorem anchor_AnchorAt (A : Option Addr) (n c : Nat) (D : DagD) (r x y : Int) (w : World) (hl : CertsR w A n D.certs) (hx : anB D r = x) (hy : anE D r = y) :
    Calls Try.prog 46 #[.agg #[.int .i64 D.nodes, .int .i64 D.low, .slice A n c], .int .i64 r] w fun e w' => e = .returned (.tuple #[.int .i64 x, .int .i64 y]) ∧ Below w.heap.size w w' := hx ▸ hy ▸ anchor_Anchor A n c D r w hl
theorem anchor_VotesAt (A : Option Addr) (n c : Nat) (D : DagD) (r x y : Int) (w : World) (hl : CertsR w A n D.certs) (hcap : n ≤ c) (hcb : c ≤ 9223372036854775807) (hx : voB D r = x) (hy : asE D r = y) :
    Calls Try.prog 41 #[.agg #[.int .i64 D.nodes, .int .i64 D.low, .slice A n c], .int .i64 r] w fun e w' => e = .returned (.tuple #[.int .i64 x, .int .i64 y]) ∧ Below w.heap.size w w' := hx ▸ hy ▸ anchor_Votes A n c D r w hl hcap hcb
theorem anchor_DirectAt (A : Option Addr) (n c : Nat) (D : DagD) (r : Int) (x : Bool) (y : Int) (w : World) (hl : CertsR w A n D.certs) (hcap : n ≤ c) (hcb : c ≤ 9223372036854775807) (hx : diB D r = x) (hy : asE D r = y) :
    Calls Try.prog 42 #[.agg #[.int .i64 D.nodes, .int .i64 D.low, .slice A n c], .int .i64 r] w fun e w' => e = .returned (.tuple #[.bool x, .int .i64 y]) ∧ Below w.heap.size w w' := hx ▸ hy ▸ anchor_Direct A n c D r w hl hcap hcb
set_option maxRecDepth 100000 in
set_option maxHeartbeats 2000000 in
theorem law_AnchorFinds (A : Option Addr) (n c : Nat) (D : DagD) (iA : Option Addr) (im ic : Nat) (Is : List Int) (lA : Option Addr) (lm lc : Nat) (Lo : List Int) (w : World) (hl : CertsR w A n D.certs) (hi : IntsR w iA im Is) (hL : IntsR w lA lm Lo) (hcap : n ≤ c) (hcb : c ≤ 9223372036854775807) :
    Calls Try.prog 11 #[.agg #[.int .i64 D.nodes, .int .i64 D.low, .slice A n c, .slice iA im ic, .slice lA lm lc]] w fun e w' => e = .returned (.bool true) ∧ Below w.heap.size w w' := by
  have HL := Lib.hid hl
  have HN := Lib.hid hl.1
  have HO := Lib.hid hL
  have hlm : lm ≤ 9223372036854775807 := hL.2.1
  clear hl hi hL
  go_enter Try.func11, Try.ntmps11
  go_wp2_with fail
  refine (law16_heavy _ _ _ _ _ D.certs _ _ _ _ _ _ _ (HL.out.up (by (repeat (first | (with_reducible exact Below.refl _ _) | (with_reducible assumption) | (with_reducible apply bel_alloc) | (with_reducible apply bel_drew) | (with_reducible apply bel_drewN) | (with_reducible refine bel_trans ?_ (by with_reducible assumption)) | (with_reducible refine bel_trans ?_ (HF.out _)) | (with_reducible refine bel_set ?_ (by simp) _) | (with_reducible refine bel_set ?_ (by simp; omega) _) | (with_reducible refine bel_set ?_ (by omega) _)))))).mono ?_
  rintro e w1 ⟨⟨x, rfl⟩, hb1⟩
  have hz_w1 : w.heap.size + 1 ≤ w1.heap.size := (by have hq := (hb1).size; (try simp at hq); omega); have hc0_w1 := fun o => (bcell hb1).1 (w.heap.size) o (by first | (simp; done) | (simp; omega) | omega)
  cases x
  case true =>
    go_wp2_with fail
    go_ret
    exact ⟨rfl, by (repeat (first | (with_reducible exact Below.refl _ _) | (with_reducible assumption) | (with_reducible apply bel_alloc) | (with_reducible apply bel_drew) | (with_reducible apply bel_drewN) | (with_reducible refine bel_trans ?_ (by with_reducible assumption)) | (with_reducible refine bel_trans ?_ (HF.out _)) | (with_reducible refine bel_set ?_ (by simp) _) | (with_reducible refine bel_set ?_ (by simp; omega) _) | (with_reducible refine bel_set ?_ (by omega) _)))⟩
  case false =>
    go_wp2_with fail
    refine (ref14_May A n c D _ (HL.out.up (by (repeat (first | (with_reducible exact Below.refl _ _) | (with_reducible assumption) | (with_reducible apply bel_alloc) | (with_reducible apply bel_drew) | (with_reducible apply bel_drewN) | (with_reducible refine bel_trans ?_ (by with_reducible assumption)) | (with_reducible refine bel_trans ?_ (HF.out _)) | (with_reducible refine bel_set ?_ (by simp) _) | (with_reducible refine bel_set ?_ (by simp; omega) _) | (with_reducible refine bel_set ?_ (by omega) _)))))).mono ?_
    rintro e w2 ⟨rfl, hb2⟩
    rw [may_eq]
    have hB2 : BoxR w2 w.heap.size [.int .i64 D.nodes, .int .i64 D.low, .slice A n c, .slice iA im ic, .slice lA lm lc] := ((BoxR.new w [.int .i64 D.nodes, .int .i64 D.low, .slice A n c, .slice iA im ic, .slice lA lm lc] 27).up hb1).up hb2
    have hbw2 : Below w.heap.size w w2 := by (repeat (first | (with_reducible exact Below.refl _ _) | (with_reducible assumption) | (with_reducible apply bel_alloc) | (with_reducible apply bel_drew) | (with_reducible apply bel_drewN) | (with_reducible refine bel_trans ?_ (by with_reducible assumption)) | (with_reducible refine bel_trans ?_ (HF.out _)) | (with_reducible refine bel_set ?_ (by simp) _) | (with_reducible refine bel_set ?_ (by simp; omega) _) | (with_reducible refine bel_set ?_ (by omega) _)))
    clear hc0_w1 hz_w1
    have b_0 := (hB2).2 0 _ rfl; have b_1 := (hB2).2 1 _ rfl; have b_2 := (hB2).2 2 _ rfl; have b_3 := (hB2).2 3 _ rfl; have b_4 := (hB2).2 4 _ rfl
    cases hm : mayS D
    all_goals
      have HM := Lib.hid hm
      clear hm
      go_wp2_with fail
      go_loopw [4] (fun ix wr => ∃ i : Nat, i ≤ lm ∧ ix = .int .i64 i ∧ Below w2.heap.size w2 wr) (fun ix _ => lm - (intOf ix).toNat)
      case atStart => exact ⟨0, Nat.zero_le _, rfl, Below.refl _ _⟩
    case round =>
      clear b_0 b_1 b_2 b_3 b_4
      obtain ⟨i, hi, rfl, hbx⟩ := hrel
      (obtain ⟨wi, hwi⟩ : ∃ x, x = wr := ⟨_, rfl⟩); subst hwi
      have hBi := hB2.up hbx
      have hbw : Below w.heap.size w wi := bel_trans hbw2 hbx
      have b_0 := (hBi).2 0 _ rfl; have b_1 := (hBi).2 1 _ rfl; have b_2 := (hBi).2 2 _ rfl; have b_3 := (hBi).2 3 _ rfl; have b_4 := (hBi).2 4 _ rfl
      have hg0 : w.heap.size < wi.heap.size := hBi.1
      by_cases hlt : i < lm
      · obtain ⟨lb, loff, rfl, hlb, hlc⟩ := (HO.out.up hbw).2.2 (by omega)
        have hci := hlc i hlt
        clear hlc
        have hask : askS D (nth Lo i) = false := by unfold askS; rw [HM.out]; rfl
        have HASK := Lib.hid hask
        clear hask
        go_wp2_with fail
        have hx : anB D (nth Lo i) = 0 ∧ anE D (nth Lo i) = 1 := by simp [anB, anE, HASK.out]
        have HX := Lib.hid hx
        clear hx
        refine wp_region_fam (by kernel_rfl) (by kernel_rfl) (fun ι F hne hF hcl => ?_)
        have hcF0 := fun n o => (bcell (hF n)).1 (w.heap.size) o (by first | (simp; done) | (simp; omega) | omega)
        have hcF1 := fun n o => (bcell (hF n)).1 (lb) o (by first | (simp; done) | (simp; omega) | omega)
        have HF := Lib.hid hF; clear hF
        have HC := Lib.hid hcl; clear hcl
        repeat (any_goals (first
         | go_big_quiet_step (first | (go_at_call 46; exact Calls.fam HC.out (anchor_AnchorAt _ _ _ D _ 0 1 _ (HL.out.up (by (repeat (first | (with_reducible exact Below.refl _ _) | (with_reducible assumption) | (with_reducible apply bel_alloc) | (with_reducible apply bel_drew) | (with_reducible apply bel_drewN) | (with_reducible refine bel_trans ?_ (by with_reducible assumption)) | (with_reducible refine bel_trans ?_ (HF.out _)) | (with_reducible refine bel_set ?_ (by simp) _) | (with_reducible refine bel_set ?_ (by simp; omega) _) | (with_reducible refine bel_set ?_ (by omega) _))))) HX.out.1 HX.out.2)))
         | (refine wpQuiet_guard _ _ _ rfl rfl ?_; (fail_if_success (intro b' hb; have h2 := hb.symm; have : b' = true := h2.trans (by with_reducible rfl))); (fail_if_success (intro b' hb; have h2 := hb.symm; have : b' = false := h2.trans (by with_reducible rfl))); intro b' hb; simp only [hb]; cases b' <;> (try simp only [Bool.not_eq_true', Bool.not_eq_false', decide_eq_true_eq, decide_eq_false_iff_not, Int.not_lt, Int.not_le, Bool.and_eq_true, Bool.or_eq_true, Bool.or_eq_false_iff, beq_iff_eq, beq_eq_false_iff_ne, Int.natCast_pos] at hb))))
        all_goals (refine wpQuiet_nil ?_; intro nq)
        have hFwf := HF.out nq
        clear HF HC hne
        generalize F nq = wf at *
        go_wp2_with (go_at_call 43; refine (law16_num _ _).mono ?_; rintro e w' ⟨rfl, rfl⟩)
        (first | (go_round; (case rel => exact ⟨i + 1, by omega, by go_num, bel_trans hbx hFwf⟩); (case measure => (simp [intOf] <;> omega))) | (go_roundw; (case rel => exact ⟨i + 1, by omega, by go_num, bel_trans hbx hFwf⟩); (case measure => (simp [intOf] <;> omega))) | (refine ⟨?_, by simp [intOf] <;> omega⟩; (repeat apply Exists.intro); refine ⟨?rel, ?fr⟩; (case fr => ((repeat' apply And.intro) <;> rfl)); (case rel => exact ⟨i + 1, by omega, by go_num, bel_trans hbx hFwf⟩)))
      · go_wp2_with (go_at_call 44; refine (law16_wakes _).mono ?_; rintro e w9 ⟨rfl, hb9⟩)
        go_ret
        exact ⟨rfl, bel_trans hbw hb9⟩
    case round =>
      clear b_0 b_1 b_2 b_3 b_4
      obtain ⟨i, hi, rfl, hbx⟩ := hrel
      (obtain ⟨wi, hwi⟩ : ∃ x, x = wr := ⟨_, rfl⟩); subst hwi
      have hBi := hB2.up hbx
      have hbw : Below w.heap.size w wi := bel_trans hbw2 hbx
      have b_0 := (hBi).2 0 _ rfl; have b_1 := (hBi).2 1 _ rfl; have b_2 := (hBi).2 2 _ rfl; have b_3 := (hBi).2 3 _ rfl; have b_4 := (hBi).2 4 _ rfl
      have hg0 : w.heap.size < wi.heap.size := hBi.1
      by_cases hlt : i < lm
      · obtain ⟨lb, loff, rfl, hlb, hlc⟩ := (HO.out.up hbw).2.2 (by omega)
        have hci := hlc i hlt
        clear hlc
        cases hev : evenS (nth Lo i)
        · have hask : askS D (nth Lo i) = false := by unfold askS; rw [hev]; simp
          have HASK := Lib.hid hask
          have HEV := Lib.hid hev
          clear hask hev
          go_wp2_with (go_at_call 38; refine (ref2_Even _ _).mono ?_; rintro e w' ⟨rfl, rfl⟩; rw [HEV.out])
          have hx : anB D (nth Lo i) = 0 ∧ anE D (nth Lo i) = 1 := by simp [anB, anE, HASK.out]
          have HX := Lib.hid hx
          clear hx
          refine wp_region_fam (by kernel_rfl) (by kernel_rfl) (fun ι F hne hF hcl => ?_)
          have hcF0 := fun n o => (bcell (hF n)).1 (w.heap.size) o (by first | (simp; done) | (simp; omega) | omega)
          have hcF1 := fun n o => (bcell (hF n)).1 (lb) o (by first | (simp; done) | (simp; omega) | omega)
          have HF := Lib.hid hF; clear hF
          have HC := Lib.hid hcl; clear hcl
          repeat (any_goals (first
           | go_big_quiet_step (first | (go_at_call 46; exact Calls.fam HC.out (anchor_AnchorAt _ _ _ D _ 0 1 _ (HL.out.up (by (repeat (first | (with_reducible exact Below.refl _ _) | (with_reducible assumption) | (with_reducible apply bel_alloc) | (with_reducible apply bel_drew) | (with_reducible apply bel_drewN) | (with_reducible refine bel_trans ?_ (by with_reducible assumption)) | (with_reducible refine bel_trans ?_ (HF.out _)) | (with_reducible refine bel_set ?_ (by simp) _) | (with_reducible refine bel_set ?_ (by simp; omega) _) | (with_reducible refine bel_set ?_ (by omega) _))))) HX.out.1 HX.out.2)))
           | (refine wpQuiet_guard _ _ _ rfl rfl ?_; (fail_if_success (intro b' hb; have h2 := hb.symm; have : b' = true := h2.trans (by with_reducible rfl))); (fail_if_success (intro b' hb; have h2 := hb.symm; have : b' = false := h2.trans (by with_reducible rfl))); intro b' hb; simp only [hb]; cases b' <;> (try simp only [Bool.not_eq_true', Bool.not_eq_false', decide_eq_true_eq, decide_eq_false_iff_not, Int.not_lt, Int.not_le, Bool.and_eq_true, Bool.or_eq_true, Bool.or_eq_false_iff, beq_iff_eq, beq_eq_false_iff_ne, Int.natCast_pos] at hb))))
          all_goals (refine wpQuiet_nil ?_; intro nq)
          have hFwf := HF.out nq
          clear HF HC hne
          generalize F nq = wf at *
          go_wp2_with (go_at_call 43; refine (law16_num _ _).mono ?_; rintro e w' ⟨rfl, rfl⟩)
          (first | (go_round; (case rel => exact ⟨i + 1, by omega, by go_num, bel_trans hbx hFwf⟩); (case measure => (simp [intOf] <;> omega))) | (go_roundw; (case rel => exact ⟨i + 1, by omega, by go_num, bel_trans hbx hFwf⟩); (case measure => (simp [intOf] <;> omega))) | (refine ⟨?_, by simp [intOf] <;> omega⟩; (repeat apply Exists.intro); refine ⟨?rel, ?fr⟩; (case fr => ((repeat' apply And.intro) <;> rfl)); (case rel => exact ⟨i + 1, by omega, by go_num, bel_trans hbx hFwf⟩)))
        · have hask : askS D (nth Lo i) = true := by unfold askS; rw [HM.out, hev]; rfl
          obtain ⟨f1, f2, f3, f4, f5, f6, f7, f8⟩ := ask_facts HN.out hask
          have HASK := Lib.hid hask
          have HEV := Lib.hid hev
          have F4 := Lib.hid f4
          clear hask hev f1 f2 f4
          go_wp2_with (go_at_call 38; refine (ref2_Even _ _).mono ?_; rintro e w' ⟨rfl, rfl⟩; rw [HEV.out])
          by_cases hz : anchS D (nth Lo i) = 0
          · have hx : anB D (nth Lo i) = 0 ∧ anE D (nth Lo i) = 3 := by simp [anB, anE, HASK.out, hz]
            have HX := Lib.hid hx
            have HZ := Lib.hid hz
            clear hx hz
            refine wp_region_fam (by kernel_rfl) (by kernel_rfl) (fun ι F hne hF hcl => ?_)
            have hcF0 := fun n o => (bcell (hF n)).1 (w.heap.size) o (by first | (simp; done) | (simp; omega) | omega)
            have hcF1 := fun n o => (bcell (hF n)).1 (lb) o (by first | (simp; done) | (simp; omega) | omega)
            have HF := Lib.hid hF; clear hF
            have HC := Lib.hid hcl; clear hcl
            repeat (any_goals (first
             | go_big_quiet_step (first | (go_at_call 45; exact Calls.fam HC.out (ref14_AnchorAt _ _ _ D _ 0 _ (HL.out.up (by (repeat (first | (with_reducible exact Below.refl _ _) | (with_reducible assumption) | (with_reducible apply bel_alloc) | (with_reducible apply bel_drew) | (with_reducible apply bel_drewN) | (with_reducible refine bel_trans ?_ (by with_reducible assumption)) | (with_reducible refine bel_trans ?_ (HF.out _)) | (with_reducible refine bel_set ?_ (by simp) _) | (with_reducible refine bel_set ?_ (by simp; omega) _) | (with_reducible refine bel_set ?_ (by omega) _))))) f5 f6 f7 f8 HZ.out)))
             | (refine wpQuiet_guard _ _ _ rfl rfl ?_; (fail_if_success (intro b' hb; have h2 := hb.symm; have : b' = true := h2.trans (by with_reducible rfl))); (fail_if_success (intro b' hb; have h2 := hb.symm; have : b' = false := h2.trans (by with_reducible rfl))); intro b' hb; simp only [hb]; cases b' <;> (try simp only [Bool.not_eq_true', Bool.not_eq_false', decide_eq_true_eq, decide_eq_false_iff_not, Int.not_lt, Int.not_le, Bool.and_eq_true, Bool.or_eq_true, Bool.or_eq_false_iff, beq_iff_eq, beq_eq_false_iff_ne, Int.natCast_pos] at hb))))
            all_goals (refine wpQuiet_nil ?_; intro nq)
            have hFwf := HF.out nq
            clear HF HC hne
            generalize F nq = wf at *
            have hc0 := fun o => (bcell hFwf).1 w.heap.size o hg0
            have hc1 := fun o => (bcell hFwf).1 lb o hlb
            have hg1 : w.heap.size < wf.heap.size := Nat.lt_of_lt_of_le hg0 hFwf.size
            have hlb1 : lb < wf.heap.size := Nat.lt_of_lt_of_le hlb hFwf.size
            go_wp2_with fail
            refine wp_region_fam (by kernel_rfl) (by kernel_rfl) (fun ι F hne hF hcl => ?_)
            have hcF0 := fun n o => (bcell (hF n)).1 (w.heap.size) o (by first | (simp; done) | (simp; omega) | omega)
            have hcF1 := fun n o => (bcell (hF n)).1 (lb) o (by first | (simp; done) | (simp; omega) | omega)
            have HF := Lib.hid hF; clear hF
            have HC := Lib.hid hcl; clear hcl
            repeat (any_goals (first
             | go_big_quiet_step (first | (go_at_call 46; exact Calls.fam HC.out (anchor_AnchorAt _ _ _ D _ 0 3 _ (HL.out.up (by (repeat (first | (with_reducible exact Below.refl _ _) | (with_reducible assumption) | (with_reducible apply bel_alloc) | (with_reducible apply bel_drew) | (with_reducible apply bel_drewN) | (with_reducible refine bel_trans ?_ (by with_reducible assumption)) | (with_reducible refine bel_trans ?_ (HF.out _)) | (with_reducible refine bel_set ?_ (by simp) _) | (with_reducible refine bel_set ?_ (by simp; omega) _) | (with_reducible refine bel_set ?_ (by omega) _))))) HX.out.1 HX.out.2)))
             | (refine wpQuiet_guard _ _ _ rfl rfl ?_; (fail_if_success (intro b' hb; have h2 := hb.symm; have : b' = true := h2.trans (by with_reducible rfl))); (fail_if_success (intro b' hb; have h2 := hb.symm; have : b' = false := h2.trans (by with_reducible rfl))); intro b' hb; simp only [hb]; cases b' <;> (try simp only [Bool.not_eq_true', Bool.not_eq_false', decide_eq_true_eq, decide_eq_false_iff_not, Int.not_lt, Int.not_le, Bool.and_eq_true, Bool.or_eq_true, Bool.or_eq_false_iff, beq_iff_eq, beq_eq_false_iff_ne, Int.natCast_pos] at hb))))
            all_goals (refine wpQuiet_nil ?_; intro nq)
            have hFwg := HF.out nq
            clear HF HC hne
            generalize F nq = wg at *
            go_wp2_with (go_at_call 43; refine (law16_num _ _).mono ?_; rintro e w' ⟨rfl, rfl⟩)
            (first | (go_round; (case rel => exact ⟨i + 1, by omega, by go_num, bel_trans (bel_trans hbx hFwf) hFwg⟩); (case measure => (simp [intOf] <;> omega))) | (go_roundw; (case rel => exact ⟨i + 1, by omega, by go_num, bel_trans (bel_trans hbx hFwf) hFwg⟩); (case measure => (simp [intOf] <;> omega))) | (refine ⟨?_, by simp [intOf] <;> omega⟩; (repeat apply Exists.intro); refine ⟨?rel, ?fr⟩; (case fr => ((repeat' apply And.intro) <;> rfl)); (case rel => exact ⟨i + 1, by omega, by go_num, bel_trans (bel_trans hbx hFwf) hFwg⟩)))
          · obtain ⟨an, han⟩ : ∃ an, an = anchS D (nth Lo i) := ⟨_, rfl⟩
            have hx : anB D (nth Lo i) = an ∧ anE D (nth Lo i) = 0 := by rw [han]; simp [anB, anE, HASK.out, hz]
            have HX := Lib.hid hx
            have HZ := Lib.hid han.symm
            have hz1 : (an == 0) = false := by rw [han]; simpa using hz
            clear hx hz han
            refine wp_region_fam (by kernel_rfl) (by kernel_rfl) (fun ι F hne hF hcl => ?_)
            have hcF0 := fun n o => (bcell (hF n)).1 (w.heap.size) o (by first | (simp; done) | (simp; omega) | omega)
            have hcF1 := fun n o => (bcell (hF n)).1 (lb) o (by first | (simp; done) | (simp; omega) | omega)
            have HF := Lib.hid hF; clear hF
            have HC := Lib.hid hcl; clear hcl
            repeat (any_goals (first
             | go_big_quiet_step (first | (go_at_call 45; exact Calls.fam HC.out (ref14_AnchorAt _ _ _ D _ an _ (HL.out.up (by (repeat (first | (with_reducible exact Below.refl _ _) | (with_reducible assumption) | (with_reducible apply bel_alloc) | (with_reducible apply bel_drew) | (with_reducible apply bel_drewN) | (with_reducible refine bel_trans ?_ (by with_reducible assumption)) | (with_reducible refine bel_trans ?_ (HF.out _)) | (with_reducible refine bel_set ?_ (by simp) _) | (with_reducible refine bel_set ?_ (by simp; omega) _) | (with_reducible refine bel_set ?_ (by omega) _))))) f5 f6 f7 f8 HZ.out)))
             | (refine wpQuiet_guard _ _ _ rfl rfl ?_; (fail_if_success (intro b' hb; have h2 := hb.symm; have : b' = true := h2.trans (by with_reducible rfl))); (fail_if_success (intro b' hb; have h2 := hb.symm; have : b' = false := h2.trans (by with_reducible rfl))); intro b' hb; simp only [hb]; cases b' <;> (try simp only [Bool.not_eq_true', Bool.not_eq_false', decide_eq_true_eq, decide_eq_false_iff_not, Int.not_lt, Int.not_le, Bool.and_eq_true, Bool.or_eq_true, Bool.or_eq_false_iff, beq_iff_eq, beq_eq_false_iff_ne, Int.natCast_pos] at hb))))
            all_goals (refine wpQuiet_nil ?_; intro nq)
            have hFwf := HF.out nq
            clear HF HC hne
            generalize F nq = wf at *
            have hc0 := fun o => (bcell hFwf).1 w.heap.size o hg0
            have hc1 := fun o => (bcell hFwf).1 lb o hlb
            have hg1 : w.heap.size < wf.heap.size := Nat.lt_of_lt_of_le hg0 hFwf.size
            have hlb1 : lb < wf.heap.size := Nat.lt_of_lt_of_le hlb hFwf.size
            go_wp2_with fail
            refine wp_region_fam (by kernel_rfl) (by kernel_rfl) (fun ι F hne hF hcl => ?_)
            have hcF0 := fun n o => (bcell (hF n)).1 (w.heap.size) o (by first | (simp; done) | (simp; omega) | omega)
            have hcF1 := fun n o => (bcell (hF n)).1 (lb) o (by first | (simp; done) | (simp; omega) | omega)
            have HF := Lib.hid hF; clear hF
            have HC := Lib.hid hcl; clear hcl
            repeat (any_goals (first
             | go_big_quiet_step (first | (go_at_call 46; exact Calls.fam HC.out (anchor_AnchorAt _ _ _ D _ an 0 _ (HL.out.up (by (repeat (first | (with_reducible exact Below.refl _ _) | (with_reducible assumption) | (with_reducible apply bel_alloc) | (with_reducible apply bel_drew) | (with_reducible apply bel_drewN) | (with_reducible refine bel_trans ?_ (by with_reducible assumption)) | (with_reducible refine bel_trans ?_ (HF.out _)) | (with_reducible refine bel_set ?_ (by simp) _) | (with_reducible refine bel_set ?_ (by simp; omega) _) | (with_reducible refine bel_set ?_ (by omega) _))))) HX.out.1 HX.out.2)))
             | (refine wpQuiet_guard _ _ _ rfl rfl ?_; (fail_if_success (intro b' hb; have h2 := hb.symm; have : b' = true := h2.trans (by with_reducible rfl))); (fail_if_success (intro b' hb; have h2 := hb.symm; have : b' = false := h2.trans (by with_reducible rfl))); intro b' hb; simp only [hb]; cases b' <;> (try simp only [Bool.not_eq_true', Bool.not_eq_false', decide_eq_true_eq, decide_eq_false_iff_not, Int.not_lt, Int.not_le, Bool.and_eq_true, Bool.or_eq_true, Bool.or_eq_false_iff, beq_iff_eq, beq_eq_false_iff_ne, Int.natCast_pos] at hb))))
            all_goals (refine wpQuiet_nil ?_; intro nq)
            have hFwg := HF.out nq
            clear HF HC hne
            generalize F nq = wg at *
            go_wp2_with (go_at_call 43; refine (law16_num _ _).mono ?_; rintro e w' ⟨rfl, rfl⟩)
            (first | (go_round; (case rel => exact ⟨i + 1, by omega, by go_num, bel_trans (bel_trans hbx hFwf) hFwg⟩); (case measure => (simp [intOf] <;> omega))) | (go_roundw; (case rel => exact ⟨i + 1, by omega, by go_num, bel_trans (bel_trans hbx hFwf) hFwg⟩); (case measure => (simp [intOf] <;> omega))) | (refine ⟨?_, by simp [intOf] <;> omega⟩; (repeat apply Exists.intro); refine ⟨?rel, ?fr⟩; (case fr => ((repeat' apply And.intro) <;> rfl)); (case rel => exact ⟨i + 1, by omega, by go_num, bel_trans (bel_trans hbx hFwf) hFwg⟩)))
      · go_wp2_with (go_at_call 44; refine (law16_wakes _).mono ?_; rintro e w9 ⟨rfl, hb9⟩)
        go_ret
        exact ⟨rfl, bel_trans hbw hb9⟩
set_option maxRecDepth 100000 in
set_option maxHeartbeats 2000000 in
theorem law_AnchorVotes (A : Option Addr) (n c : Nat) (D : DagD) (iA : Option Addr) (im ic : Nat) (Is : List Int) (lA : Option Addr) (lm lc : Nat) (Lo : List Int) (w : World) (hl : CertsR w A n D.certs) (hi : IntsR w iA im Is) (hL : IntsR w lA lm Lo) (hcap : n ≤ c) (hcb : c ≤ 9223372036854775807) :
    Calls Try.prog 10 #[.agg #[.int .i64 D.nodes, .int .i64 D.low, .slice A n c, .slice iA im ic, .slice lA lm lc]] w fun e w' => e = .returned (.bool true) ∧ Below w.heap.size w w' := by
  have HL := Lib.hid hl
  have HN := Lib.hid hl.1
  have HO := Lib.hid hL
  have hlm : lm ≤ 9223372036854775807 := hL.2.1
  clear hl hi hL
  go_enter Try.func10, Try.ntmps10
  go_wp2_with fail
  refine (law16_heavy _ _ _ _ _ D.certs _ _ _ _ _ _ _ (HL.out.up (by (repeat (first | (with_reducible exact Below.refl _ _) | (with_reducible assumption) | (with_reducible apply bel_alloc) | (with_reducible apply bel_drew) | (with_reducible apply bel_drewN) | (with_reducible refine bel_trans ?_ (by with_reducible assumption)) | (with_reducible refine bel_trans ?_ (HF.out _)) | (with_reducible refine bel_set ?_ (by simp) _) | (with_reducible refine bel_set ?_ (by simp; omega) _) | (with_reducible refine bel_set ?_ (by omega) _)))))).mono ?_
  rintro e w1 ⟨⟨x, rfl⟩, hb1⟩
  have hz_w1 : w.heap.size + 1 ≤ w1.heap.size := (by have hq := (hb1).size; (try simp at hq); omega); have hc0_w1 := fun o => (bcell hb1).1 (w.heap.size) o (by first | (simp; done) | (simp; omega) | omega)
  cases x
  case true =>
    go_wp2_with fail
    go_ret
    exact ⟨rfl, by (repeat (first | (with_reducible exact Below.refl _ _) | (with_reducible assumption) | (with_reducible apply bel_alloc) | (with_reducible apply bel_drew) | (with_reducible apply bel_drewN) | (with_reducible refine bel_trans ?_ (by with_reducible assumption)) | (with_reducible refine bel_trans ?_ (HF.out _)) | (with_reducible refine bel_set ?_ (by simp) _) | (with_reducible refine bel_set ?_ (by simp; omega) _) | (with_reducible refine bel_set ?_ (by omega) _)))⟩
  case false =>
    go_wp2_with fail
    refine (ref14_May A n c D _ (HL.out.up (by (repeat (first | (with_reducible exact Below.refl _ _) | (with_reducible assumption) | (with_reducible apply bel_alloc) | (with_reducible apply bel_drew) | (with_reducible apply bel_drewN) | (with_reducible refine bel_trans ?_ (by with_reducible assumption)) | (with_reducible refine bel_trans ?_ (HF.out _)) | (with_reducible refine bel_set ?_ (by simp) _) | (with_reducible refine bel_set ?_ (by simp; omega) _) | (with_reducible refine bel_set ?_ (by omega) _)))))).mono ?_
    rintro e w2 ⟨rfl, hb2⟩
    rw [may_eq]
    have hB2 : BoxR w2 w.heap.size [.int .i64 D.nodes, .int .i64 D.low, .slice A n c, .slice iA im ic, .slice lA lm lc] := ((BoxR.new w [.int .i64 D.nodes, .int .i64 D.low, .slice A n c, .slice iA im ic, .slice lA lm lc] 27).up hb1).up hb2
    have hbw2 : Below w.heap.size w w2 := by (repeat (first | (with_reducible exact Below.refl _ _) | (with_reducible assumption) | (with_reducible apply bel_alloc) | (with_reducible apply bel_drew) | (with_reducible apply bel_drewN) | (with_reducible refine bel_trans ?_ (by with_reducible assumption)) | (with_reducible refine bel_trans ?_ (HF.out _)) | (with_reducible refine bel_set ?_ (by simp) _) | (with_reducible refine bel_set ?_ (by simp; omega) _) | (with_reducible refine bel_set ?_ (by omega) _)))
    clear hc0_w1 hz_w1
    have b_0 := (hB2).2 0 _ rfl; have b_1 := (hB2).2 1 _ rfl; have b_2 := (hB2).2 2 _ rfl; have b_3 := (hB2).2 3 _ rfl; have b_4 := (hB2).2 4 _ rfl
    cases hm : mayS D
    all_goals
      have HM := Lib.hid hm
      clear hm
      go_wp2_with fail
      go_loopw [4] (fun ix wr => ∃ i : Nat, i ≤ lm ∧ ix = .int .i64 i ∧ Below w2.heap.size w2 wr) (fun ix _ => lm - (intOf ix).toNat)
      case atStart => exact ⟨0, Nat.zero_le _, rfl, Below.refl _ _⟩
    case round =>
      clear b_0 b_1 b_2 b_3 b_4
      obtain ⟨i, hi, rfl, hbx⟩ := hrel
      (obtain ⟨wi, hwi⟩ : ∃ x, x = wr := ⟨_, rfl⟩); subst hwi
      have hBi := hB2.up hbx
      have hbw : Below w.heap.size w wi := bel_trans hbw2 hbx
      have b_0 := (hBi).2 0 _ rfl; have b_1 := (hBi).2 1 _ rfl; have b_2 := (hBi).2 2 _ rfl; have b_3 := (hBi).2 3 _ rfl; have b_4 := (hBi).2 4 _ rfl
      have hg0 : w.heap.size < wi.heap.size := hBi.1
      by_cases hlt : i < lm
      · obtain ⟨lb, loff, rfl, hlb, hlc⟩ := (HO.out.up hbw).2.2 (by omega)
        have hci := hlc i hlt
        clear hlc
        have hask : askS D (nth Lo i) = false := by unfold askS; rw [HM.out]; rfl
        have HASK := Lib.hid hask
        clear hask
        go_wp2_with fail
        have hx : voB D (nth Lo i) = 0 ∧ diB D (nth Lo i) = false ∧ asE D (nth Lo i) = 1 := by simp [voB, diB, asE, HASK.out]
        have HX := Lib.hid hx
        clear hx
        refine wp_region_fam (by kernel_rfl) (by kernel_rfl) (fun ι F hne hF hcl => ?_)
        have hcF0 := fun n o => (bcell (hF n)).1 (w.heap.size) o (by first | (simp; done) | (simp; omega) | omega)
        have hcF1 := fun n o => (bcell (hF n)).1 (lb) o (by first | (simp; done) | (simp; omega) | omega)
        have HF := Lib.hid hF; clear hF
        have HC := Lib.hid hcl; clear hcl
        repeat (any_goals (first
         | go_big_quiet_step (first | (go_at_call 41; exact Calls.fam HC.out (anchor_VotesAt _ _ _ D _ 0 1 _ (HL.out.up (by (repeat (first | (with_reducible exact Below.refl _ _) | (with_reducible assumption) | (with_reducible apply bel_alloc) | (with_reducible apply bel_drew) | (with_reducible apply bel_drewN) | (with_reducible refine bel_trans ?_ (by with_reducible assumption)) | (with_reducible refine bel_trans ?_ (HF.out _)) | (with_reducible refine bel_set ?_ (by simp) _) | (with_reducible refine bel_set ?_ (by simp; omega) _) | (with_reducible refine bel_set ?_ (by omega) _))))) hcap hcb HX.out.1 HX.out.2.2)))
         | (refine wpQuiet_guard _ _ _ rfl rfl ?_; (fail_if_success (intro b' hb; have h2 := hb.symm; have : b' = true := h2.trans (by with_reducible rfl))); (fail_if_success (intro b' hb; have h2 := hb.symm; have : b' = false := h2.trans (by with_reducible rfl))); intro b' hb; simp only [hb]; cases b' <;> (try simp only [Bool.not_eq_true', Bool.not_eq_false', decide_eq_true_eq, decide_eq_false_iff_not, Int.not_lt, Int.not_le, Bool.and_eq_true, Bool.or_eq_true, Bool.or_eq_false_iff, beq_iff_eq, beq_eq_false_iff_ne, Int.natCast_pos] at hb))))
        all_goals (refine wpQuiet_nil ?_; intro nq)
        have hFwg := HF.out nq
        clear HF HC hne
        generalize F nq = wg at *
        have hc0g := fun o => (bcell hFwg).1 w.heap.size o (by assumption)
        have hc1g := fun o => (bcell hFwg).1 lb o (by assumption)
        have hgg : w.heap.size < wg.heap.size := Nat.lt_of_lt_of_le (by assumption) hFwg.size
        have hlbg : lb < wg.heap.size := Nat.lt_of_lt_of_le (by assumption) hFwg.size
        go_wp2_with fail
        refine wp_region_fam (by kernel_rfl) (by kernel_rfl) (fun ι F hne hF hcl => ?_)
        have hcF0 := fun n o => (bcell (hF n)).1 (w.heap.size) o (by first | (simp; done) | (simp; omega) | omega)
        have hcF1 := fun n o => (bcell (hF n)).1 (lb) o (by first | (simp; done) | (simp; omega) | omega)
        have HF := Lib.hid hF; clear hF
        have HC := Lib.hid hcl; clear hcl
        repeat (any_goals (first
         | go_big_quiet_step (first | (go_at_call 42; exact Calls.fam HC.out (anchor_DirectAt _ _ _ D _ false 1 _ (HL.out.up (by (repeat (first | (with_reducible exact Below.refl _ _) | (with_reducible assumption) | (with_reducible apply bel_alloc) | (with_reducible apply bel_drew) | (with_reducible apply bel_drewN) | (with_reducible refine bel_trans ?_ (by with_reducible assumption)) | (with_reducible refine bel_trans ?_ (HF.out _)) | (with_reducible refine bel_set ?_ (by simp) _) | (with_reducible refine bel_set ?_ (by simp; omega) _) | (with_reducible refine bel_set ?_ (by omega) _))))) hcap hcb HX.out.2.1 HX.out.2.2)))
         | (refine wpQuiet_guard _ _ _ rfl rfl ?_; (fail_if_success (intro b' hb; have h2 := hb.symm; have : b' = true := h2.trans (by with_reducible rfl))); (fail_if_success (intro b' hb; have h2 := hb.symm; have : b' = false := h2.trans (by with_reducible rfl))); intro b' hb; simp only [hb]; cases b' <;> (try simp only [Bool.not_eq_true', Bool.not_eq_false', decide_eq_true_eq, decide_eq_false_iff_not, Int.not_lt, Int.not_le, Bool.and_eq_true, Bool.or_eq_true, Bool.or_eq_false_iff, beq_iff_eq, beq_eq_false_iff_ne, Int.natCast_pos] at hb))))
        all_goals (refine wpQuiet_nil ?_; intro nq)
        have hFwh := HF.out nq
        clear HF HC hne
        generalize F nq = wh at *
        go_wp2_with (go_at_call 43; refine (law16_num _ _).mono ?_; rintro e w' ⟨rfl, rfl⟩)
        (first | (go_round; (case rel => exact ⟨i + 1, by omega, by go_num, bel_trans (bel_trans hbx hFwg) hFwh⟩); (case measure => (simp [intOf] <;> omega))) | (go_roundw; (case rel => exact ⟨i + 1, by omega, by go_num, bel_trans (bel_trans hbx hFwg) hFwh⟩); (case measure => (simp [intOf] <;> omega))) | (refine ⟨?_, by simp [intOf] <;> omega⟩; (repeat apply Exists.intro); refine ⟨?rel, ?fr⟩; (case fr => ((repeat' apply And.intro) <;> rfl)); (case rel => exact ⟨i + 1, by omega, by go_num, bel_trans (bel_trans hbx hFwg) hFwh⟩)))
      · go_wp2_with (go_at_call 44; refine (law16_wakes _).mono ?_; rintro e w9 ⟨rfl, hb9⟩)
        go_ret
        exact ⟨rfl, bel_trans hbw hb9⟩
    case round =>
      clear b_0 b_1 b_2 b_3 b_4
      obtain ⟨i, hi, rfl, hbx⟩ := hrel
      (obtain ⟨wi, hwi⟩ : ∃ x, x = wr := ⟨_, rfl⟩); subst hwi
      have hBi := hB2.up hbx
      have hbw : Below w.heap.size w wi := bel_trans hbw2 hbx
      have b_0 := (hBi).2 0 _ rfl; have b_1 := (hBi).2 1 _ rfl; have b_2 := (hBi).2 2 _ rfl; have b_3 := (hBi).2 3 _ rfl; have b_4 := (hBi).2 4 _ rfl
      have hg0 : w.heap.size < wi.heap.size := hBi.1
      by_cases hlt : i < lm
      · obtain ⟨lb, loff, rfl, hlb, hlc⟩ := (HO.out.up hbw).2.2 (by omega)
        have hci := hlc i hlt
        clear hlc
        cases hev : evenS (nth Lo i)
        · have hask : askS D (nth Lo i) = false := by unfold askS; rw [hev]; simp
          have HASK := Lib.hid hask
          have HEV := Lib.hid hev
          clear hask hev
          go_wp2_with (go_at_call 38; refine (ref2_Even _ _).mono ?_; rintro e w' ⟨rfl, rfl⟩; rw [HEV.out])
          have hx : voB D (nth Lo i) = 0 ∧ diB D (nth Lo i) = false ∧ asE D (nth Lo i) = 1 := by simp [voB, diB, asE, HASK.out]
          have HX := Lib.hid hx
          clear hx
          refine wp_region_fam (by kernel_rfl) (by kernel_rfl) (fun ι F hne hF hcl => ?_)
          have hcF0 := fun n o => (bcell (hF n)).1 (w.heap.size) o (by first | (simp; done) | (simp; omega) | omega)
          have hcF1 := fun n o => (bcell (hF n)).1 (lb) o (by first | (simp; done) | (simp; omega) | omega)
          have HF := Lib.hid hF; clear hF
          have HC := Lib.hid hcl; clear hcl
          repeat (any_goals (first
           | go_big_quiet_step (first | (go_at_call 41; exact Calls.fam HC.out (anchor_VotesAt _ _ _ D _ 0 1 _ (HL.out.up (by (repeat (first | (with_reducible exact Below.refl _ _) | (with_reducible assumption) | (with_reducible apply bel_alloc) | (with_reducible apply bel_drew) | (with_reducible apply bel_drewN) | (with_reducible refine bel_trans ?_ (by with_reducible assumption)) | (with_reducible refine bel_trans ?_ (HF.out _)) | (with_reducible refine bel_set ?_ (by simp) _) | (with_reducible refine bel_set ?_ (by simp; omega) _) | (with_reducible refine bel_set ?_ (by omega) _))))) hcap hcb HX.out.1 HX.out.2.2)))
           | (refine wpQuiet_guard _ _ _ rfl rfl ?_; (fail_if_success (intro b' hb; have h2 := hb.symm; have : b' = true := h2.trans (by with_reducible rfl))); (fail_if_success (intro b' hb; have h2 := hb.symm; have : b' = false := h2.trans (by with_reducible rfl))); intro b' hb; simp only [hb]; cases b' <;> (try simp only [Bool.not_eq_true', Bool.not_eq_false', decide_eq_true_eq, decide_eq_false_iff_not, Int.not_lt, Int.not_le, Bool.and_eq_true, Bool.or_eq_true, Bool.or_eq_false_iff, beq_iff_eq, beq_eq_false_iff_ne, Int.natCast_pos] at hb))))
          all_goals (refine wpQuiet_nil ?_; intro nq)
          have hFwg := HF.out nq
          clear HF HC hne
          generalize F nq = wg at *
          have hc0g := fun o => (bcell hFwg).1 w.heap.size o (by assumption)
          have hc1g := fun o => (bcell hFwg).1 lb o (by assumption)
          have hgg : w.heap.size < wg.heap.size := Nat.lt_of_lt_of_le (by assumption) hFwg.size
          have hlbg : lb < wg.heap.size := Nat.lt_of_lt_of_le (by assumption) hFwg.size
          go_wp2_with fail
          refine wp_region_fam (by kernel_rfl) (by kernel_rfl) (fun ι F hne hF hcl => ?_)
          have hcF0 := fun n o => (bcell (hF n)).1 (w.heap.size) o (by first | (simp; done) | (simp; omega) | omega)
          have hcF1 := fun n o => (bcell (hF n)).1 (lb) o (by first | (simp; done) | (simp; omega) | omega)
          have HF := Lib.hid hF; clear hF
          have HC := Lib.hid hcl; clear hcl
          repeat (any_goals (first
           | go_big_quiet_step (first | (go_at_call 42; exact Calls.fam HC.out (anchor_DirectAt _ _ _ D _ false 1 _ (HL.out.up (by (repeat (first | (with_reducible exact Below.refl _ _) | (with_reducible assumption) | (with_reducible apply bel_alloc) | (with_reducible apply bel_drew) | (with_reducible apply bel_drewN) | (with_reducible refine bel_trans ?_ (by with_reducible assumption)) | (with_reducible refine bel_trans ?_ (HF.out _)) | (with_reducible refine bel_set ?_ (by simp) _) | (with_reducible refine bel_set ?_ (by simp; omega) _) | (with_reducible refine bel_set ?_ (by omega) _))))) hcap hcb HX.out.2.1 HX.out.2.2)))
           | (refine wpQuiet_guard _ _ _ rfl rfl ?_; (fail_if_success (intro b' hb; have h2 := hb.symm; have : b' = true := h2.trans (by with_reducible rfl))); (fail_if_success (intro b' hb; have h2 := hb.symm; have : b' = false := h2.trans (by with_reducible rfl))); intro b' hb; simp only [hb]; cases b' <;> (try simp only [Bool.not_eq_true', Bool.not_eq_false', decide_eq_true_eq, decide_eq_false_iff_not, Int.not_lt, Int.not_le, Bool.and_eq_true, Bool.or_eq_true, Bool.or_eq_false_iff, beq_iff_eq, beq_eq_false_iff_ne, Int.natCast_pos] at hb))))
          all_goals (refine wpQuiet_nil ?_; intro nq)
          have hFwh := HF.out nq
          clear HF HC hne
          generalize F nq = wh at *
          go_wp2_with (go_at_call 43; refine (law16_num _ _).mono ?_; rintro e w' ⟨rfl, rfl⟩)
          (first | (go_round; (case rel => exact ⟨i + 1, by omega, by go_num, bel_trans (bel_trans hbx hFwg) hFwh⟩); (case measure => (simp [intOf] <;> omega))) | (go_roundw; (case rel => exact ⟨i + 1, by omega, by go_num, bel_trans (bel_trans hbx hFwg) hFwh⟩); (case measure => (simp [intOf] <;> omega))) | (refine ⟨?_, by simp [intOf] <;> omega⟩; (repeat apply Exists.intro); refine ⟨?rel, ?fr⟩; (case fr => ((repeat' apply And.intro) <;> rfl)); (case rel => exact ⟨i + 1, by omega, by go_num, bel_trans (bel_trans hbx hFwg) hFwh⟩)))
        · have hask : askS D (nth Lo i) = true := by unfold askS; rw [HM.out, hev]; rfl
          obtain ⟨f1, f2, f3, f4, f5, f6, f7, f8⟩ := ask_facts HN.out hask
          have HASK := Lib.hid hask
          have HEV := Lib.hid hev
          have F4 := Lib.hid f4
          clear hask hev f1 f2 f4
          go_wp2_with (go_at_call 38; refine (ref2_Even _ _).mono ?_; rintro e w' ⟨rfl, rfl⟩; rw [HEV.out])
          obtain ⟨vo, hvo⟩ : ∃ vo, vo = votesS D (nth Lo i) := ⟨_, rfl⟩
          obtain ⟨di, hdi⟩ : ∃ di, di = directS D (nth Lo i) := ⟨_, rfl⟩
          have hx : voB D (nth Lo i) = vo ∧ diB D (nth Lo i) = di ∧ asE D (nth Lo i) = 0 := by rw [hvo, hdi]; simp [voB, diB, asE, HASK.out]
          have HX := Lib.hid hx
          have HV := Lib.hid hvo.symm
          have HDI := Lib.hid hdi.symm
          clear hx hvo hdi
          refine wp_region_fam (by kernel_rfl) (by kernel_rfl) (fun ι F hne hF hcl => ?_)
          have hcF0 := fun n o => (bcell (hF n)).1 (w.heap.size) o (by first | (simp; done) | (simp; omega) | omega)
          have hcF1 := fun n o => (bcell (hF n)).1 (lb) o (by first | (simp; done) | (simp; omega) | omega)
          have HF := Lib.hid hF; clear hF
          have HC := Lib.hid hcl; clear hcl
          repeat (any_goals (first
           | go_big_quiet_step (first | (go_at_call 39; exact Calls.fam HC.out (ref14_VotesAt _ _ _ D _ vo _ (HL.out.up (by (repeat (first | (with_reducible exact Below.refl _ _) | (with_reducible assumption) | (with_reducible apply bel_alloc) | (with_reducible apply bel_drew) | (with_reducible apply bel_drewN) | (with_reducible refine bel_trans ?_ (by with_reducible assumption)) | (with_reducible refine bel_trans ?_ (HF.out _)) | (with_reducible refine bel_set ?_ (by simp) _) | (with_reducible refine bel_set ?_ (by simp; omega) _) | (with_reducible refine bel_set ?_ (by omega) _))))) f3 f5 f6 f7 f8 HV.out)) | (go_at_call 40; exact Calls.fam HC.out (ref14_DirectAt _ _ _ D _ di _ (HL.out.up (by (repeat (first | (with_reducible exact Below.refl _ _) | (with_reducible assumption) | (with_reducible apply bel_alloc) | (with_reducible apply bel_drew) | (with_reducible apply bel_drewN) | (with_reducible refine bel_trans ?_ (by with_reducible assumption)) | (with_reducible refine bel_trans ?_ (HF.out _)) | (with_reducible refine bel_set ?_ (by simp) _) | (with_reducible refine bel_set ?_ (by simp; omega) _) | (with_reducible refine bel_set ?_ (by omega) _))))) f3 F4.out f7 f8 HDI.out)))
           | (refine wpQuiet_guard _ _ _ rfl rfl ?_; (fail_if_success (intro b' hb; have h2 := hb.symm; have : b' = true := h2.trans (by with_reducible rfl))); (fail_if_success (intro b' hb; have h2 := hb.symm; have : b' = false := h2.trans (by with_reducible rfl))); intro b' hb; simp only [hb]; cases b' <;> (try simp only [Bool.not_eq_true', Bool.not_eq_false', decide_eq_true_eq, decide_eq_false_iff_not, Int.not_lt, Int.not_le, Bool.and_eq_true, Bool.or_eq_true, Bool.or_eq_false_iff, beq_iff_eq, beq_eq_false_iff_ne, Int.natCast_pos] at hb))))
          all_goals (refine wpQuiet_nil ?_; intro nq)
          have hFwf := HF.out nq
          clear HF HC hne
          generalize F nq = wf at *
          have hc0 := fun o => (bcell hFwf).1 w.heap.size o hg0
          have hc1 := fun o => (bcell hFwf).1 lb o hlb
          have hg1 : w.heap.size < wf.heap.size := Nat.lt_of_lt_of_le hg0 hFwf.size
          have hlb1 : lb < wf.heap.size := Nat.lt_of_lt_of_le hlb hFwf.size
          clear hg0 hlb
          cases di
          all_goals
            go_wp2_with fail
            refine wp_region_fam (by kernel_rfl) (by kernel_rfl) (fun ι F hne hF hcl => ?_)
            have hcF0 := fun n o => (bcell (hF n)).1 (w.heap.size) o (by first | (simp; done) | (simp; omega) | omega)
            have hcF1 := fun n o => (bcell (hF n)).1 (lb) o (by first | (simp; done) | (simp; omega) | omega)
            have HF := Lib.hid hF; clear hF
            have HC := Lib.hid hcl; clear hcl
            repeat (any_goals (first
             | go_big_quiet_step (first | (go_at_call 41; exact Calls.fam HC.out (anchor_VotesAt _ _ _ D _ vo 0 _ (HL.out.up (by (repeat (first | (with_reducible exact Below.refl _ _) | (with_reducible assumption) | (with_reducible apply bel_alloc) | (with_reducible apply bel_drew) | (with_reducible apply bel_drewN) | (with_reducible refine bel_trans ?_ (by with_reducible assumption)) | (with_reducible refine bel_trans ?_ (HF.out _)) | (with_reducible refine bel_set ?_ (by simp) _) | (with_reducible refine bel_set ?_ (by simp; omega) _) | (with_reducible refine bel_set ?_ (by omega) _))))) hcap hcb HX.out.1 HX.out.2.2)))
             | (refine wpQuiet_guard _ _ _ rfl rfl ?_; (fail_if_success (intro b' hb; have h2 := hb.symm; have : b' = true := h2.trans (by with_reducible rfl))); (fail_if_success (intro b' hb; have h2 := hb.symm; have : b' = false := h2.trans (by with_reducible rfl))); intro b' hb; simp only [hb]; cases b' <;> (try simp only [Bool.not_eq_true', Bool.not_eq_false', decide_eq_true_eq, decide_eq_false_iff_not, Int.not_lt, Int.not_le, Bool.and_eq_true, Bool.or_eq_true, Bool.or_eq_false_iff, beq_iff_eq, beq_eq_false_iff_ne, Int.natCast_pos] at hb))))
            all_goals (refine wpQuiet_nil ?_; intro nq)
            have hFwg := HF.out nq
            clear HF HC hne
            generalize F nq = wg at *
            have hc0g := fun o => (bcell hFwg).1 w.heap.size o (by assumption)
            have hc1g := fun o => (bcell hFwg).1 lb o (by assumption)
            have hgg : w.heap.size < wg.heap.size := Nat.lt_of_lt_of_le (by assumption) hFwg.size
            have hlbg : lb < wg.heap.size := Nat.lt_of_lt_of_le (by assumption) hFwg.size
            go_wp2_with fail
            refine wp_region_fam (by kernel_rfl) (by kernel_rfl) (fun ι F hne hF hcl => ?_)
            have hcF0 := fun n o => (bcell (hF n)).1 (w.heap.size) o (by first | (simp; done) | (simp; omega) | omega)
            have hcF1 := fun n o => (bcell (hF n)).1 (lb) o (by first | (simp; done) | (simp; omega) | omega)
            have HF := Lib.hid hF; clear hF
            have HC := Lib.hid hcl; clear hcl
            repeat (any_goals (first
             | go_big_quiet_step (first | (go_at_call 42; exact Calls.fam HC.out (anchor_DirectAt _ _ _ D _ _ 0 _ (HL.out.up (by (repeat (first | (with_reducible exact Below.refl _ _) | (with_reducible assumption) | (with_reducible apply bel_alloc) | (with_reducible apply bel_drew) | (with_reducible apply bel_drewN) | (with_reducible refine bel_trans ?_ (by with_reducible assumption)) | (with_reducible refine bel_trans ?_ (HF.out _)) | (with_reducible refine bel_set ?_ (by simp) _) | (with_reducible refine bel_set ?_ (by simp; omega) _) | (with_reducible refine bel_set ?_ (by omega) _))))) hcap hcb HX.out.2.1 HX.out.2.2)))
             | (refine wpQuiet_guard _ _ _ rfl rfl ?_; (fail_if_success (intro b' hb; have h2 := hb.symm; have : b' = true := h2.trans (by with_reducible rfl))); (fail_if_success (intro b' hb; have h2 := hb.symm; have : b' = false := h2.trans (by with_reducible rfl))); intro b' hb; simp only [hb]; cases b' <;> (try simp only [Bool.not_eq_true', Bool.not_eq_false', decide_eq_true_eq, decide_eq_false_iff_not, Int.not_lt, Int.not_le, Bool.and_eq_true, Bool.or_eq_true, Bool.or_eq_false_iff, beq_iff_eq, beq_eq_false_iff_ne, Int.natCast_pos] at hb))))
            all_goals (refine wpQuiet_nil ?_; intro nq)
            have hFwh := HF.out nq
            clear HF HC hne
            generalize F nq = wh at *
            go_wp2_with (go_at_call 43; refine (law16_num _ _).mono ?_; rintro e w' ⟨rfl, rfl⟩)
            (first | (go_round; (case rel => exact ⟨i + 1, by omega, by go_num, bel_trans (bel_trans (bel_trans hbx hFwf) hFwg) hFwh⟩); (case measure => (simp [intOf] <;> omega))) | (go_roundw; (case rel => exact ⟨i + 1, by omega, by go_num, bel_trans (bel_trans (bel_trans hbx hFwf) hFwg) hFwh⟩); (case measure => (simp [intOf] <;> omega))) | (refine ⟨?_, by simp [intOf] <;> omega⟩; (repeat apply Exists.intro); refine ⟨?rel, ?fr⟩; (case fr => ((repeat' apply And.intro) <;> rfl)); (case rel => exact ⟨i + 1, by omega, by go_num, bel_trans (bel_trans (bel_trans hbx hFwf) hFwg) hFwh⟩)))
      · go_wp2_with (go_at_call 44; refine (law16_wakes _).mono ?_; rintro e w9 ⟨rfl, hb9⟩)
        go_ret
        exact ⟨rfl, bel_trans hbw hb9⟩
end Go.Proofs.Ythpljlffjbodpaa
