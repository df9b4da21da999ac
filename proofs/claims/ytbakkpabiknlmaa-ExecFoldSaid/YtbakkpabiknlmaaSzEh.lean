/- Exec at the reference: what may be. Held batches: which may be; where one stands. -/
import Derived.Test.YtbakkpabiknlmaaSzEg
import Derived.Test.YtbakkpabiknlmaaSzEd
import Derived.Test.YtbakkpabiknlmaaSzPc
namespace Go.Proofs.Ytbakkpabiknlmaa
open Go.RowKit
set_option linter.unusedSimpArgs false
set_option linter.unusedVariables false

theorem IntsR.take {w : World} {A : Option Addr} {n k : Nat} {l : List Int} (h : IntsR w A n l) (hk : k ≤ n) : IntsR w A k (l.take k) := by
  obtain ⟨h1, h2, h3⟩ := h
  refine ⟨by simp [h1]; omega, by omega, fun hn => ?_⟩
  obtain ⟨b, off, e, hb, hc⟩ := h3 (by omega)
  refine ⟨b, off, e, hb, fun j hj => ?_⟩
  rw [hc j (by omega)]
  simp [nth, List.getElem?_take, hj]
set_option maxRecDepth 100000 in
set_option maxHeartbeats 4000000 in
theorem ref22_Exec (pA qA sA : Option Addr) (pn pc qn qc sn sc : Nat) (p : List PairD) (q : List AcctD) (s : List Int) (c : Int) (y : Bool) (w : World) (hp : PairsR w pA pn p) (hq : AcctsR w qA qn q) (hs : IntsR w sA sn s) (hsc : sn ≤ sc) (hn : sn ≤ 65536) (hy : exB p q s c = y) :
    Calls Try.prog 5 #[.agg #[.slice pA pn pc, .slice qA qn qc, .slice sA sn sc, .int .i64 c]] w fun e w' => e = .returned (.bool y) ∧ Below w.heap.size w w' := by
  have HP := Lib.hid hp
  have HQ := Lib.hid hq
  have HS := Lib.hid hs
  have HN := Lib.hid hs.1
  have HY := Lib.hid hy
  obtain ⟨ym, hm⟩ : ∃ ym, mayT p q = ym := ⟨_, rfl⟩
  obtain ⟨yd, hd⟩ : ∃ yd, betS s 1 65536 = yd := ⟨_, rfl⟩
  have HMT := Lib.hid hm
  have HDT := Lib.hid hd
  clear hp hq hs hy hm hd
  have h6d : decide ((65536 : Int) < (sn : Int)) = false := by simp; omega
  have hno : ¬ (ym = true ∧ yd = true ∧ 0 ≤ c ∧ c ≤ (sn : Int)) → y = false := fun h => by
    rw [← HY.out]
    exact (exB_no (fun g => h ⟨by rw [← HMT.out]; exact mayT_iff.2 g.1, by rw [← HDT.out]; exact betD_iff.2 g.2.1.1, g.2.2.1, by have := g.2.2.2; rw [HN.out] at this; exact this⟩)).symm
  have HNO := Lib.hid hno
  clear hno
  go_enter Try.func5, Try.ntmps5
  cases ym
  case' true =>
    cases yd
    case' true =>
      by_cases h0 : 0 ≤ c
      case' neg => have h0d : decide (c < 0) = true := by simp; omega
      case' pos =>
        have h0d : decide (c < 0) = false := by simp; omega
        by_cases h1 : c ≤ (sn : Int)
        case' neg => have h1d : decide ((sn : Int) < c) = true := by simp; omega
        case' pos =>
          have h1d : decide ((sn : Int) < c) = false := by simp; omega
          have HOK : Hid (MayT p q ∧ WithinI s 1 65536 ∧ 0 ≤ c ∧ c ≤ (s.length : Int)) := Lib.hid ⟨mayT_iff.1 HMT.out, betD_iff.1 HDT.out, h0, by rw [HN.out]; exact h1⟩
          go_wp2_with (first | (go_at_call 22; refine (ref22_May pA pn pc p qA qn qc q _ _ (HP.out.up (by (repeat (first | (with_reducible exact Below.refl _ _) | (with_reducible assumption) | (with_reducible apply bel_alloc) | (with_reducible apply bel_drew) | (with_reducible apply bel_drewN) | (with_reducible refine bel_trans ?_ (by with_reducible assumption)) | (with_reducible refine bel_trans ?_ (HF.out _)) | (with_reducible refine bel_set ?_ (by simp) _) | (with_reducible refine bel_set ?_ (by simp; omega) _) | (with_reducible refine bel_set ?_ (by omega) _))))) (HQ.out.up (by (repeat (first | (with_reducible exact Below.refl _ _) | (with_reducible assumption) | (with_reducible apply bel_alloc) | (with_reducible apply bel_drew) | (with_reducible apply bel_drewN) | (with_reducible refine bel_trans ?_ (by with_reducible assumption)) | (with_reducible refine bel_trans ?_ (HF.out _)) | (with_reducible refine bel_set ?_ (by simp) _) | (with_reducible refine bel_set ?_ (by simp; omega) _) | (with_reducible refine bel_set ?_ (by omega) _))))) HMT.out).mono ?_; rintro e w1 ⟨rfl, hb1⟩; have hBx : BoxR w1 w.heap.size [.slice pA pn pc, .slice qA qn qc, .slice sA sn sc, .int .i64 c] := (BoxR.new w [.slice pA pn pc, .slice qA qn qc, .slice sA sn sc, .int .i64 c] 28).up hb1; have hbw1 : Below w.heap.size w w1 := (by (repeat (first | (with_reducible exact Below.refl _ _) | (with_reducible assumption) | (with_reducible apply bel_alloc) | (with_reducible apply bel_drew) | (with_reducible apply bel_drewN) | (with_reducible refine bel_trans ?_ (by with_reducible assumption)) | (with_reducible refine bel_trans ?_ (HF.out _)) | (with_reducible refine bel_set ?_ (by simp) _) | (with_reducible refine bel_set ?_ (by simp; omega) _) | (with_reducible refine bel_set ?_ (by omega) _)))); have d_0 := (hBx).2 0 _ rfl; have d_1 := (hBx).2 1 _ rfl; have d_2 := (hBx).2 2 _ rfl; have d_3 := (hBx).2 3 _ rfl; have hgg := hBx.1; have HBX := Lib.hid hBx; clear hBx) | (go_at_call 7; refine (ref0_Digests sA sn sc s _ (HS.out.up hbw1)).mono ?_; rintro e w2 ⟨rfl, rfl⟩; rw [HDT.out]))
          go_loopw [3] (fun ix wr => ∃ k : Nat, k ≤ sn ∧ ix = .int .i64 k ∧ Hid ((s.take k).Nodup) ∧ Hid (BoxR wr w.heap.size [.slice pA pn pc, .slice qA qn qc, .slice sA sn sc, .int .i64 c]) ∧ Below w.heap.size w wr) (fun ix _ => sn - (intOf ix).toNat)
          case atStart => exact ⟨0, Nat.zero_le _, rfl, Lib.hid (by simp), HBX, hbw1⟩
          case round =>
            clear hbw1 HBX d_0 d_1 d_2 d_3 hgg hb1
            obtain ⟨k, hk, rfl, HU, HB, hbw⟩ := hrel
            (obtain ⟨wk, hwk⟩ : ∃ x, x = wr := ⟨_, rfl⟩); subst hwk
            have b_0 := (HB.out).2 0 _ rfl; have b_1 := (HB.out).2 1 _ rfl; have b_2 := (HB.out).2 2 _ rfl; have b_3 := (HB.out).2 3 _ rfl
            have hg0 := HB.out.1
            by_cases hlt : k < sn
            · obtain ⟨b, off, rfl, hb, hc⟩ := (HS.out.up hbw).2.2 (by omega)
              have hck := hc k hlt
              clear hc
              obtain ⟨x, hx⟩ : ∃ x, nth s k = x := ⟨_, rfl⟩
              rw [hx] at hck
              have HX := Lib.hid hx
              have HKL : Hid (k < s.length) := Lib.hid (by rw [HN.out]; exact hlt)
              obtain ⟨z, hz⟩ : ∃ z, inS (s.take k) x = z := ⟨_, rfl⟩
              have HZ := Lib.hid hz
              have HTK := Lib.hid ((HS.out.up hbw).take hk)
              have hksc : k ≤ sc := by omega
              clear hx hz
              by_cases hz0 : z < 0
              · have hz0d : decide (0 ≤ z) = false := by simp; omega
                have HNI : Hid (x ∉ s.take k) := Lib.hid (inS_neg.1 (by rw [HZ.out]; exact hz0))
                go_wp2_with fail
                refine wp_region_fam (by kernel_rfl) (by kernel_rfl) (fun ι F hne hF hcl => ?_)
                have hcF0 := fun n o => (bcell (hF n)).1 (w.heap.size) o (by first | (simp; done) | (simp; omega) | omega)
                have hcF1 := fun n o => (bcell (hF n)).1 (b) o (by first | (simp; done) | (simp; omega) | omega)
                have HF := Lib.hid hF; clear hF
                have HC := Lib.hid hcl; clear hcl
                repeat (any_goals (first
                 | go_big_quiet_step (first | (go_at_call 23; exact Calls.fam_same ((ref0_In _ k _ (s.take k) x _ (HTK.out.up (HF.out _))).mono (fun e w' h => by rw [HZ.out] at h; exact h))))
                 | (refine wpQuiet_guard _ _ _ rfl rfl ?_; (fail_if_success (intro b' hb; have h2 := hb.symm; have : b' = true := h2.trans (by with_reducible rfl))); (fail_if_success (intro b' hb; have h2 := hb.symm; have : b' = false := h2.trans (by with_reducible rfl))); intro b' hb; simp only [hb]; cases b' <;> (try simp only [Bool.not_eq_true', Bool.not_eq_false', decide_eq_true_eq, decide_eq_false_iff_not, Int.not_lt, Int.not_le, Bool.and_eq_true, Bool.or_eq_true, Bool.or_eq_false_iff, beq_iff_eq, beq_eq_false_iff_ne, Int.natCast_pos] at hb))))
                all_goals (refine wpQuiet_nil ?_; intro nq)
                all_goals (try (exfalso; omega))
                have hFwf := HF.out nq
                clear HF HC hne
                generalize F nq = wf at *
                go_wp2_with fail
                (first | (go_round; (case rel => exact ⟨k + 1, by omega, by go_num, Lib.hid (take_succ_nodup HKL.out HX.out HU.out HNI.out), Lib.hid (HB.out.up hFwf), bel_trans hbw hFwf⟩); (case measure => (simp [intOf] <;> omega))) | (go_roundw; (case rel => exact ⟨k + 1, by omega, by go_num, Lib.hid (take_succ_nodup HKL.out HX.out HU.out HNI.out), Lib.hid (HB.out.up hFwf), bel_trans hbw hFwf⟩); (case measure => (simp [intOf] <;> omega))) | (refine ⟨?_, by simp [intOf] <;> omega⟩; (repeat apply Exists.intro); refine ⟨?rel, ?fr⟩; (case fr => ((repeat' apply And.intro) <;> rfl)); (case rel => exact ⟨k + 1, by omega, by go_num, Lib.hid (take_succ_nodup HKL.out HX.out HU.out HNI.out), Lib.hid (HB.out.up hFwf), bel_trans hbw hFwf⟩)))
              · have hz0d : decide (0 ≤ z) = true := by simp; omega
                have HNI : Hid (x ∈ s.take k) := Lib.hid (by
                  have h9 : ¬ inS (s.take k) x < 0 := by rw [HZ.out]; exact hz0
                  exact Classical.not_not.1 (fun h => h9 (inS_neg.2 h)))
                go_wp2_with fail
                refine wp_region_fam (by kernel_rfl) (by kernel_rfl) (fun ι F hne hF hcl => ?_)
                have hcF0 := fun n o => (bcell (hF n)).1 (w.heap.size) o (by first | (simp; done) | (simp; omega) | omega)
                have hcF1 := fun n o => (bcell (hF n)).1 (b) o (by first | (simp; done) | (simp; omega) | omega)
                have HF := Lib.hid hF; clear hF
                have HC := Lib.hid hcl; clear hcl
                repeat (any_goals (first
                 | go_big_quiet_step (first | (go_at_call 23; exact Calls.fam_same ((ref0_In _ k _ (s.take k) x _ (HTK.out.up (HF.out _))).mono (fun e w' h => by rw [HZ.out] at h; exact h))))
                 | (refine wpQuiet_guard _ _ _ rfl rfl ?_; (fail_if_success (intro b' hb; have h2 := hb.symm; have : b' = true := h2.trans (by with_reducible rfl))); (fail_if_success (intro b' hb; have h2 := hb.symm; have : b' = false := h2.trans (by with_reducible rfl))); intro b' hb; simp only [hb]; cases b' <;> (try simp only [Bool.not_eq_true', Bool.not_eq_false', decide_eq_true_eq, decide_eq_false_iff_not, Int.not_lt, Int.not_le, Bool.and_eq_true, Bool.or_eq_true, Bool.or_eq_false_iff, beq_iff_eq, beq_eq_false_iff_ne, Int.natCast_pos] at hb))))
                all_goals (refine wpQuiet_nil ?_; intro nq)
                all_goals (try (exfalso; omega))
                have hFwf := HF.out nq
                clear HF HC hne
                generalize F nq = wf at *
                go_wp2_with fail
                go_ret
                exact ⟨ret_bool (by rw [← HY.out]; exact exB_no fun h => nodup_not HKL.out HX.out HNI.out h.2.1.2), by (repeat (first | (with_reducible exact Below.refl _ _) | (with_reducible assumption) | (with_reducible apply bel_alloc) | (with_reducible apply bel_drew) | (with_reducible apply bel_drewN) | (with_reducible refine bel_trans ?_ (by with_reducible assumption)) | (with_reducible refine bel_trans ?_ (HF.out _)) | (with_reducible refine bel_set ?_ (by simp) _) | (with_reducible refine bel_set ?_ (by simp; omega) _) | (with_reducible refine bel_set ?_ (by omega) _)))⟩
            · obtain rfl : k = sn := by omega
              have hu := HU.out
              rw [List.take_of_length_le (by rw [HN.out]; omega)] at hu
              have hyes : y = true := by
                rw [← HY.out]
                exact exB_iff.2 ⟨HOK.out.1, ⟨HOK.out.2.1, hu⟩, HOK.out.2.2.1, HOK.out.2.2.2⟩
              subst hyes
              clear hu
              go_wp2_with fail
              go_ret
              exact ⟨rfl, by (repeat (first | (with_reducible exact Below.refl _ _) | (with_reducible assumption) | (with_reducible apply bel_alloc) | (with_reducible apply bel_drew) | (with_reducible apply bel_drewN) | (with_reducible refine bel_trans ?_ (by with_reducible assumption)) | (with_reducible refine bel_trans ?_ (HF.out _)) | (with_reducible refine bel_set ?_ (by simp) _) | (with_reducible refine bel_set ?_ (by simp; omega) _) | (with_reducible refine bel_set ?_ (by omega) _)))⟩
  all_goals
    have hyf : y = false := HNO.out (by simp; try omega)
    subst hyf
    go_wp2_with (first | (go_at_call 22; refine (ref22_May pA pn pc p qA qn qc q _ _ (HP.out.up (by (repeat (first | (with_reducible exact Below.refl _ _) | (with_reducible assumption) | (with_reducible apply bel_alloc) | (with_reducible apply bel_drew) | (with_reducible apply bel_drewN) | (with_reducible refine bel_trans ?_ (by with_reducible assumption)) | (with_reducible refine bel_trans ?_ (HF.out _)) | (with_reducible refine bel_set ?_ (by simp) _) | (with_reducible refine bel_set ?_ (by simp; omega) _) | (with_reducible refine bel_set ?_ (by omega) _))))) (HQ.out.up (by (repeat (first | (with_reducible exact Below.refl _ _) | (with_reducible assumption) | (with_reducible apply bel_alloc) | (with_reducible apply bel_drew) | (with_reducible apply bel_drewN) | (with_reducible refine bel_trans ?_ (by with_reducible assumption)) | (with_reducible refine bel_trans ?_ (HF.out _)) | (with_reducible refine bel_set ?_ (by simp) _) | (with_reducible refine bel_set ?_ (by simp; omega) _) | (with_reducible refine bel_set ?_ (by omega) _))))) HMT.out).mono ?_; rintro e w1 ⟨rfl, hb1⟩; have hBx : BoxR w1 w.heap.size [.slice pA pn pc, .slice qA qn qc, .slice sA sn sc, .int .i64 c] := (BoxR.new w [.slice pA pn pc, .slice qA qn qc, .slice sA sn sc, .int .i64 c] 28).up hb1; have hbw1 : Below w.heap.size w w1 := (by (repeat (first | (with_reducible exact Below.refl _ _) | (with_reducible assumption) | (with_reducible apply bel_alloc) | (with_reducible apply bel_drew) | (with_reducible apply bel_drewN) | (with_reducible refine bel_trans ?_ (by with_reducible assumption)) | (with_reducible refine bel_trans ?_ (HF.out _)) | (with_reducible refine bel_set ?_ (by simp) _) | (with_reducible refine bel_set ?_ (by simp; omega) _) | (with_reducible refine bel_set ?_ (by omega) _)))); have d_0 := (hBx).2 0 _ rfl; have d_1 := (hBx).2 1 _ rfl; have d_2 := (hBx).2 2 _ rfl; have d_3 := (hBx).2 3 _ rfl; have hgg := hBx.1; clear hBx) | (go_at_call 7; refine (ref0_Digests sA sn sc s _ (HS.out.up hbw1)).mono ?_; rintro e w2 ⟨rfl, rfl⟩; rw [HDT.out]))
    go_ret
    exact ⟨rfl, by (repeat (first | (with_reducible exact Below.refl _ _) | (with_reducible assumption) | (with_reducible apply bel_alloc) | (with_reducible apply bel_drew) | (with_reducible apply bel_drewN) | (with_reducible refine bel_trans ?_ (by with_reducible assumption)) | (with_reducible refine bel_trans ?_ (HF.out _)) | (with_reducible refine bel_set ?_ (by simp) _) | (with_reducible refine bel_set ?_ (by simp; omega) _) | (with_reducible refine bel_set ?_ (by omega) _)))⟩
end Go.Proofs.Ytbakkpabiknlmaa
