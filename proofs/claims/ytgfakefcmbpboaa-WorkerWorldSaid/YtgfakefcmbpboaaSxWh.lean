/- What a worker may be, at the reference. -/
import Derived.Test.YtgfakefcmbpboaaSxWf
namespace Go.Proofs.Ytgfakefcmbpboaa
open Go.RowKit
set_option linter.unusedSimpArgs false
set_option linter.unusedVariables false

noncomputable def nodB (l : List Int) : Bool := dec l.Nodup
theorem nodB_iff {l : List Int} : nodB l = true ↔ l.Nodup := dec_iff
set_option maxRecDepth 100000 in
set_option maxHeartbeats 4000000 in
theorem ref13_unlike (sA : Option Addr) (sn sc : Nat) (s : List Int) (y : Bool) (w : World) (hs : IntsR w sA sn s) (hsc : sn ≤ sc) (hy : nodB s = y) :
    Calls Try.prog 34 #[.slice sA sn sc] w fun e w' => e = .returned (.bool y) ∧ Below w.heap.size w w' := by
  have HS := Lib.hid hs
  have HN := Lib.hid hs.1
  have hsn : sn ≤ 9223372036854775807 := hs.2.1
  have HY := Lib.hid hy
  clear hs hy
  go_enter Try.func34, Try.ntmps34
  go_wp2_with fail
  go_loopw [3] (fun ix wr => ∃ k : Nat, k ≤ sn ∧ ix = .int .i64 k ∧ Hid ((s.take k).Nodup) ∧ Below w.heap.size w wr) (fun ix _ => sn - (intOf ix).toNat)
  case atStart => exact ⟨0, Nat.zero_le _, rfl, Lib.hid (by simp), Below.refl _ _⟩
  case round =>
    obtain ⟨k, hk, rfl, HU, hbw⟩ := hrel
    (obtain ⟨wk, hwk⟩ : ∃ x, x = wr := ⟨_, rfl⟩); subst hwk
    by_cases hlt : k < sn
    · obtain ⟨b, off, rfl, hb, hc⟩ := (HS.out.up hbw).2.2 (by omega)
      have hck := hc k hlt
      clear hc
      obtain ⟨x, hx⟩ : ∃ x, nth s k = x := ⟨_, rfl⟩
      rw [hx] at hck
      have HX := Lib.hid hx
      have HKL : Hid (k < s.length) := Lib.hid (by rw [HN.out]; exact hlt)
      obtain ⟨z, hz⟩ : ∃ z, inS (s.take k) x = z := ⟨_, rfl⟩
      have HZ := Lib.hid hz
      have HTK := Lib.hid ((HS.out.up hbw).take hk)
      have hksc : k ≤ sc := by omega
      clear hx hz
      by_cases hz0 : z < 0
      · have hz0d : decide (0 ≤ z) = false := by simp; omega
        have HNI : Hid (x ∉ s.take k) := Lib.hid (inS_neg.1 (by rw [HZ.out]; exact hz0))
        go_wp2_with fail
        refine wp_region_fam (by kernel_rfl) (by kernel_rfl) (fun ι F hne hF hcl => ?_)
        have hcF0 := fun n o => (bcell (hF n)).1 (b) o (by first | (simp; done) | (simp; omega) | omega)
        have HF := Lib.hid hF; clear hF
        have HC := Lib.hid hcl; clear hcl
        repeat (any_goals (first
         | go_big_quiet_step (first | (go_at_call 12; exact Calls.fam_same ((ref0_In _ k _ (s.take k) x _ (HTK.out.up (HF.out _))).mono (fun e w' h => by rw [HZ.out] at h; exact h))))
         | (refine wpQuiet_guard _ _ _ rfl rfl ?_; (fail_if_success (intro b' hb; have h2 := hb.symm; have : b' = true := h2.trans (by with_reducible rfl))); (fail_if_success (intro b' hb; have h2 := hb.symm; have : b' = false := h2.trans (by with_reducible rfl))); intro b' hb; simp only [hb]; cases b' <;> (try simp only [Bool.not_eq_true', Bool.not_eq_false', decide_eq_true_eq, decide_eq_false_iff_not, Int.not_lt, Int.not_le, Bool.and_eq_true, Bool.or_eq_true, Bool.or_eq_false_iff, beq_iff_eq, beq_eq_false_iff_ne, Int.natCast_pos] at hb))))
        all_goals (refine wpQuiet_nil ?_; intro nq)
        all_goals (try (exfalso; omega))
        have hFwf := HF.out nq
        clear HF HC hne
        generalize F nq = wf at *
        go_wp2_with fail
        (first | (go_round; (case rel => exact ⟨k + 1, by omega, by go_num, Lib.hid (take_succ_nodup HKL.out HX.out HU.out HNI.out), bel_trans hbw hFwf⟩); (case measure => (simp [intOf] <;> omega))) | (go_roundw; (case rel => exact ⟨k + 1, by omega, by go_num, Lib.hid (take_succ_nodup HKL.out HX.out HU.out HNI.out), bel_trans hbw hFwf⟩); (case measure => (simp [intOf] <;> omega))) | (refine ⟨?_, by simp [intOf] <;> omega⟩; (repeat apply Exists.intro); refine ⟨?rel, ?fr⟩; (case fr => ((repeat' apply And.intro) <;> rfl)); (case rel => exact ⟨k + 1, by omega, by go_num, Lib.hid (take_succ_nodup HKL.out HX.out HU.out HNI.out), bel_trans hbw hFwf⟩)))
      · have hz0d : decide (0 ≤ z) = true := by simp; omega
        have HNI : Hid (x ∈ s.take k) := Lib.hid (by
          have h9 : ¬ inS (s.take k) x < 0 := by rw [HZ.out]; exact hz0
          exact Classical.not_not.1 (fun h => h9 (inS_neg.2 h)))
        go_wp2_with fail
        refine wp_region_fam (by kernel_rfl) (by kernel_rfl) (fun ι F hne hF hcl => ?_)
        have hcF0 := fun n o => (bcell (hF n)).1 (b) o (by first | (simp; done) | (simp; omega) | omega)
        have HF := Lib.hid hF; clear hF
        have HC := Lib.hid hcl; clear hcl
        repeat (any_goals (first
         | go_big_quiet_step (first | (go_at_call 12; exact Calls.fam_same ((ref0_In _ k _ (s.take k) x _ (HTK.out.up (HF.out _))).mono (fun e w' h => by rw [HZ.out] at h; exact h))))
         | (refine wpQuiet_guard _ _ _ rfl rfl ?_; (fail_if_success (intro b' hb; have h2 := hb.symm; have : b' = true := h2.trans (by with_reducible rfl))); (fail_if_success (intro b' hb; have h2 := hb.symm; have : b' = false := h2.trans (by with_reducible rfl))); intro b' hb; simp only [hb]; cases b' <;> (try simp only [Bool.not_eq_true', Bool.not_eq_false', decide_eq_true_eq, decide_eq_false_iff_not, Int.not_lt, Int.not_le, Bool.and_eq_true, Bool.or_eq_true, Bool.or_eq_false_iff, beq_iff_eq, beq_eq_false_iff_ne, Int.natCast_pos] at hb))))
        all_goals (refine wpQuiet_nil ?_; intro nq)
        all_goals (try (exfalso; omega))
        have hFwf := HF.out nq
        clear HF HC hne
        generalize F nq = wf at *
        go_wp2_with fail
        go_ret
        exact ⟨ret_bool (by rw [← HY.out]; exact dec_false fun h => nodup_not HKL.out HX.out HNI.out h), bel_trans hbw hFwf⟩
    · obtain rfl : k = sn := by omega
      have hu := HU.out
      rw [List.take_of_length_le (by rw [HN.out]; omega)] at hu
      have hyes : y = true := by rw [← HY.out]; exact nodB_iff.2 hu
      subst hyes
      clear hu
      go_wp2_with fail
      go_ret
      exact ⟨rfl, hbw⟩
theorem refx_Txs (A : Option Addr) (n c : Nat) (l : List TxD) (y : Bool) (w : World) (hl : TxsR w A n l) (hy : txsB l = y) : Calls Try.prog 30 #[.slice A n c] w fun e w' => e = .returned (.bool y) ∧ Below w.heap.size w w' :=
  (ref4_Txs A n c l w hl).mono fun e w' ⟨z, h1, h2, h3⟩ => ⟨by
    rw [h1, show z = y from by rw [← hy, Bool.eq_iff_iff, h2, txsB_iff, hl.1]], h3⟩
set_option maxRecDepth 100000 in
set_option maxHeartbeats 16000000 in
theorem ref13_May (P : WorkP) (D : WorkD) (y : Bool) (w : World) (h : WorkR w P D) (hy : mayW D = y) : Calls Try.prog 18 #[P.val D] w fun e w' => e = .returned (.bool y) ∧ Below w.heap.size w w' := by
  obtain ⟨⟨oA, on, oc⟩, ⟨tA, tn, tc⟩, ⟨eA, en, ec⟩, ⟨rA, rn, rc⟩⟩ := P
  have HO : Hid (TxsR w oA on D.op) := Lib.hid h.op
  have HT : Hid (WaitsR w tA tn D.wa) := Lib.hid h.wa
  have HE : Hid (HeldsR w eA en D.he) := Lib.hid h.he
  have HR : Hid (IntsR w rA rn D.re) := Lib.hid h.re
  have hon : on ≤ 9223372036854775807 := h.op.2.2.1
  have hen : en ≤ 9223372036854775807 := h.he.2.1
  obtain ⟨ys, hs⟩ : ∃ z, isS D.nodes = z := ⟨_, rfl⟩
  obtain ⟨y5, h5⟩ : ∃ z, numB D.age 0 = z := ⟨_, rfl⟩
  obtain ⟨y6, h6⟩ : ∃ z, numB D.clock 0 = z := ⟨_, rfl⟩
  obtain ⟨yt, ht⟩ : ∃ z, txsB D.op = z := ⟨_, rfl⟩
  obtain ⟨yw, hw⟩ : ∃ z, wtB D.wa D.nodes = z := ⟨_, rfl⟩
  obtain ⟨yh, hh⟩ : ∃ z, hdB D.he = z := ⟨_, rfl⟩
  obtain ⟨yd, hd⟩ : ∃ z, betS D.re 1 65536 = z := ⟨_, rfl⟩
  obtain ⟨yn, hn⟩ : ∃ z, nodB D.re = z := ⟨_, rfl⟩
  have hrc : rn ≤ rc := h.rc
  obtain ⟨nodes, hnd⟩ : ∃ z, D.nodes = z := ⟨_, rfl⟩
  obtain ⟨id, hid⟩ : ∃ z, D.id = z := ⟨_, rfl⟩
  obtain ⟨next, hnx⟩ : ∃ z, D.next = z := ⟨_, rfl⟩
  obtain ⟨age, hag⟩ : ∃ z, D.age = z := ⟨_, rfl⟩
  obtain ⟨clock, hck⟩ : ∃ z, D.clock = z := ⟨_, rfl⟩
  have hY : y = true ↔ (ys = true ∧ 1 ≤ id ∧ id ≤ nodes ∧ (1 ≤ next ∧ next ≤ 1099511627776) ∧ y5 = true ∧ y6 = true ∧ on ≤ 64 ∧ en ≤ 1024 ∧ yt = true ∧ yw = true ∧ yh = true ∧ yd = true ∧ yn = true) := by
    rw [← hy, mayW_iff]; unfold MayW; rw [hs, numB_iff, h5, h6, ht, hw, hh, seenB_iff, hid, hnd, hnx, HO.out.1, HE.out.1, ← hd, ← hn, nodB_iff, betS, dec_iff]; exact Iff.rfl
  have HY := Lib.hid hY
  rw [hnd] at hs hw
  rw [hag] at h5
  rw [hck] at h6
  have HS := Lib.hid hs
  have H5 := Lib.hid h5
  have H6 := Lib.hid h6
  have HTX := Lib.hid ht
  have HWT := Lib.hid hw
  have HHD := Lib.hid hh
  have HDG := Lib.hid hd
  have HND := Lib.hid hn
  show Calls Try.prog 18 #[.agg #[.int .i64 D.id, .int .i64 D.nodes, .int .i64 D.next, .slice oA on oc, .int .i64 D.age, .int .i64 D.clock, .slice tA tn tc, .slice eA en ec, .slice rA rn rc]] w _
  rw [hid, hnd, hnx, hag, hck]
  clear h hy hs h5 h6 ht hw hh hd hn hY hnd hid hnx hag hck
  go_enter Try.func18, Try.ntmps18
  have hA : BoxR (w.alloc (.cells #[.int .i64 id, .int .i64 nodes, .int .i64 next, .slice oA on oc, .int .i64 age, .int .i64 clock, .slice tA tn tc, .slice eA en ec, .slice rA rn rc] 27)) w.heap.size [.int .i64 id, .int .i64 nodes, .int .i64 next, .slice oA on oc, .int .i64 age, .int .i64 clock, .slice tA tn tc, .slice eA en ec, .slice rA rn rc] := BoxR.new w [.int .i64 id, .int .i64 nodes, .int .i64 next, .slice oA on oc, .int .i64 age, .int .i64 clock, .slice tA tn tc, .slice eA en ec, .slice rA rn rc] 27
  have HA0 := Lib.hid hA
  clear hA
  cases ys
  rotate_left
  by_cases q1 : 1 ≤ id
  rotate_left
  have b1 : decide (id < 1) = true := by simp; omega
  rotate_right
  have b1 : decide (id < 1) = false := by simp; omega
  by_cases q2 : id ≤ nodes
  rotate_left
  have b2 : decide (nodes < id) = true := by simp; omega
  rotate_right
  have b2 : decide (nodes < id) = false := by simp; omega
  by_cases q3 : 1 ≤ next
  rotate_left
  have b3 : decide (next < 1) = true := by simp; omega
  rotate_right
  have b3 : decide (next < 1) = false := by simp; omega
  by_cases q4 : next ≤ 1099511627776
  rotate_left
  have b4 : decide (1099511627776 < next) = true := by simp; omega
  rotate_right
  have b4 : decide (1099511627776 < next) = false := by simp; omega
  by_cases q5 : on ≤ 64
  rotate_left
  have b5 : decide ((64 : Int) < (on : Int)) = true := by simp; omega
  rotate_right
  have b5 : decide ((64 : Int) < (on : Int)) = false := by simp; omega
  cases yt
  rotate_left
  cases y5
  rotate_left
  cases y6
  rotate_left
  by_cases q9 : en ≤ 1024
  rotate_left
  have b9 : decide ((1024 : Int) < (en : Int)) = true := by simp; omega
  rotate_right
  have b9 : decide ((1024 : Int) < (en : Int)) = false := by simp; omega
  cases yh
  rotate_left
  cases yd
  rotate_left
  cases yn
  rotate_left
  focus
    go_wp2_with (first | (go_at_call 29; (with_reducible refine (refm_May nodes _ _ HS.out).mono ?_); rintro e w' ⟨rfl, rfl⟩) | (go_at_call 31; (with_reducible refine (ref0_Num age _ _ H5.out).mono ?_); rintro e w' ⟨rfl, rfl⟩) | (go_at_call 31; (with_reducible refine (ref0_Num clock _ _ H6.out).mono ?_); rintro e w' ⟨rfl, rfl⟩) | (go_at_call 30; (with_reducible refine (refx_Txs oA on oc D.op _ _ (HO.out.up (by (repeat (first | (with_reducible exact Below.refl _ _) | (with_reducible assumption) | (with_reducible apply bel_alloc) | (with_reducible apply bel_drew) | (with_reducible apply bel_drewN) | (with_reducible refine bel_trans ?_ (by with_reducible assumption)) | (with_reducible refine bel_trans ?_ (HF.out _)) | (with_reducible refine bel_set ?_ (by simp) _) | (with_reducible refine bel_set ?_ (by simp; omega) _) | (with_reducible refine bel_set ?_ (by omega) _))))) HTX.out).mono ?_); rintro e w1 ⟨rfl, hbw1⟩; have hBw1 := (HA0.out).up hbw1; have w1_0 := (hBw1).2 0 _ rfl; have w1_1 := (hBw1).2 1 _ rfl; have w1_2 := (hBw1).2 2 _ rfl; have w1_3 := (hBw1).2 3 _ rfl; have w1_4 := (hBw1).2 4 _ rfl; have w1_5 := (hBw1).2 5 _ rfl; have w1_6 := (hBw1).2 6 _ rfl; have w1_7 := (hBw1).2 7 _ rfl; have w1_8 := (hBw1).2 8 _ rfl; have hgw1 := hBw1.1; have HBw1 := Lib.hid hBw1; clear hBw1) | (go_at_call 32; (with_reducible refine (ref13_Held eA en ec D.he _ _ (HE.out.up (by (repeat (first | (with_reducible exact Below.refl _ _) | (with_reducible assumption) | (with_reducible apply bel_alloc) | (with_reducible apply bel_drew) | (with_reducible apply bel_drewN) | (with_reducible refine bel_trans ?_ (by with_reducible assumption)) | (with_reducible refine bel_trans ?_ (HF.out _)) | (with_reducible refine bel_set ?_ (by simp) _) | (with_reducible refine bel_set ?_ (by simp; omega) _) | (with_reducible refine bel_set ?_ (by omega) _))))) HHD.out).mono ?_); rintro e w2 ⟨rfl, hbw2⟩; have hBw2 := (HBw1.out).up hbw2; have w2_0 := (hBw2).2 0 _ rfl; have w2_1 := (hBw2).2 1 _ rfl; have w2_2 := (hBw2).2 2 _ rfl; have w2_3 := (hBw2).2 3 _ rfl; have w2_4 := (hBw2).2 4 _ rfl; have w2_5 := (hBw2).2 5 _ rfl; have w2_6 := (hBw2).2 6 _ rfl; have w2_7 := (hBw2).2 7 _ rfl; have w2_8 := (hBw2).2 8 _ rfl; have hgw2 := hBw2.1; have HBw2 := Lib.hid hBw2; clear hBw2) | (go_at_call 33; (with_reducible refine (refd_Digests rA rn rc D.re _ _ (HR.out.up (by (repeat (first | (with_reducible exact Below.refl _ _) | (with_reducible assumption) | (with_reducible apply bel_alloc) | (with_reducible apply bel_drew) | (with_reducible apply bel_drewN) | (with_reducible refine bel_trans ?_ (by with_reducible assumption)) | (with_reducible refine bel_trans ?_ (HF.out _)) | (with_reducible refine bel_set ?_ (by simp) _) | (with_reducible refine bel_set ?_ (by simp; omega) _) | (with_reducible refine bel_set ?_ (by omega) _))))) HDG.out).mono ?_); rintro e w' ⟨rfl, rfl⟩) | (go_at_call 34; (with_reducible refine (ref13_unlike rA rn rc D.re _ _ (HR.out.up (by (repeat (first | (with_reducible exact Below.refl _ _) | (with_reducible assumption) | (with_reducible apply bel_alloc) | (with_reducible apply bel_drew) | (with_reducible apply bel_drewN) | (with_reducible refine bel_trans ?_ (by with_reducible assumption)) | (with_reducible refine bel_trans ?_ (HF.out _)) | (with_reducible refine bel_set ?_ (by simp) _) | (with_reducible refine bel_set ?_ (by simp; omega) _) | (with_reducible refine bel_set ?_ (by omega) _))))) hrc HND.out).mono ?_); rintro e w3 ⟨rfl, hbw3⟩; have hBw3 := (HBw2.out).up hbw3; have w3_0 := (hBw3).2 0 _ rfl; have w3_1 := (hBw3).2 1 _ rfl; have w3_2 := (hBw3).2 2 _ rfl; have w3_3 := (hBw3).2 3 _ rfl; have w3_4 := (hBw3).2 4 _ rfl; have w3_5 := (hBw3).2 5 _ rfl; have w3_6 := (hBw3).2 6 _ rfl; have w3_7 := (hBw3).2 7 _ rfl; have w3_8 := (hBw3).2 8 _ rfl; have hgw3 := hBw3.1; have HBw3 := Lib.hid hBw3; clear hBw3))
    have hbz3 : Below w.heap.size w w3 := by (repeat (first | (with_reducible exact Below.refl _ _) | (with_reducible assumption) | (with_reducible apply bel_alloc) | (with_reducible apply bel_drew) | (with_reducible apply bel_drewN) | (with_reducible refine bel_trans ?_ (by with_reducible assumption)) | (with_reducible refine bel_trans ?_ (HF.out _)) | (with_reducible refine bel_set ?_ (by simp) _) | (with_reducible refine bel_set ?_ (by simp; omega) _) | (with_reducible refine bel_set ?_ (by omega) _)))
    have hfin : yw = true → y = true := fun e => HY.out.2 ⟨by trivial, by assumption, by assumption, ⟨by assumption, by assumption⟩, by trivial, by trivial, by assumption, by assumption, by trivial, e, by trivial, by trivial, by trivial⟩
    have hnon : yw = false → false = y := fun e => no_y HY.out (by rintro ⟨g1, g2, g3, g4, g5, g6, g7, g8, g9, g10, g11, g12, g13⟩; rw [e] at g10; cases g10)
    have HFIN := Lib.hid hfin
    have HNON := Lib.hid hnon
    have HTN := Lib.hid HT.out.1
    have htn : tn ≤ 9223372036854775807 := HT.out.2.1
    clear hfin hnon hbw1 hbw2 hbw3 HBw1 HBw2 HA0
    (try clear w1_0 w1_1 w1_2 w1_3 w1_4 w1_5 w1_6 w1_7 w1_8 w2_0 w2_1 w2_2 w2_3 w2_4 w2_5 w2_6 w2_7 w2_8 w3_0 w3_1 w3_2 w3_3 w3_4 w3_5 w3_6 w3_7 w3_8)
    go_loopw [3] (fun ix wr => ∃ k : Nat, k ≤ tn ∧ ix = .int .i64 k ∧ Hid (∀ j, j < k → WaitOk D.wa nodes j) ∧ Hid (BoxR wr w.heap.size [.int .i64 id, .int .i64 nodes, .int .i64 next, .slice oA on oc, .int .i64 age, .int .i64 clock, .slice tA tn tc, .slice eA en ec, .slice rA rn rc]) ∧ Below w.heap.size w wr) (fun ix _ => tn - (intOf ix).toNat)
    case atStart => exact ⟨0, Nat.zero_le _, rfl, Lib.hid (fun j hj => absurd hj (by omega)), HBw3, hbz3⟩
    case round =>
      clear hbz3 HBw3 hgw1 hgw2 hgw3
      obtain ⟨k, hk, rfl, HG, HB, hbw⟩ := hrel
      (obtain ⟨wk, hwk⟩ : ∃ x, x = wr := ⟨_, rfl⟩); subst hwk
      have hg0 := HB.out.1
      have q_0 := (HB.out).2 0 _ rfl; have q_1 := (HB.out).2 1 _ rfl; have q_2 := (HB.out).2 2 _ rfl; have q_3 := (HB.out).2 3 _ rfl; have q_4 := (HB.out).2 4 _ rfl; have q_5 := (HB.out).2 5 _ rfl; have q_6 := (HB.out).2 6 _ rfl; have q_7 := (HB.out).2 7 _ rfl; have q_8 := (HB.out).2 8 _ rfl
      by_cases hlt : k < tn
      · obtain ⟨b, off, rfl, hb, hc⟩ := (HT.out.up hbw).2.2 (by omega)
        obtain ⟨B, m, d, ⟨c0, c1⟩, hak⟩ := hc k hlt
        have hbad : ¬ WaitOk D.wa nodes k → false = y := fun h => HNON.out (by
          cases hm : yw
          · rfl
          · exact absurd (wtB_iff.1 (HWT.out.trans hm) k (by rw [HTN.out]; exact hlt)) h)
        have HBAD := Lib.hid hbad
        obtain ⟨p, hp⟩ : ∃ p, p = wth D.wa k := ⟨_, rfl⟩
        rw [← hp] at c0 hak
        have HP := Lib.hid hp
        obtain ⟨o, ho⟩ : ∃ o, o = (wth D.wa (k - 1)).di := ⟨_, rfl⟩
        have hd : 0 < k → wk.cell? ⟨b, off + (k - 1) * 2, none⟩ = some (.int .i64 o) := fun h => by rw [ho]; obtain ⟨_, _, _, ⟨q, _⟩, _⟩ := hc (k - 1) (by omega); exact q
        have HO9 := Lib.hid ho
        have HD := Lib.hid hd
        clear hc hd ho hp hbad
        have hA : BoxR (wk.alloc (.cells #[.int .i64 p.di, .slice B m d] 84)) wk.heap.size [.int .i64 p.di, .slice B m d] := BoxR.new wk [.int .i64 p.di, .slice B m d] 84
        have hba : Below wk.heap.size wk (wk.alloc (.cells #[.int .i64 p.di, .slice B m d] 84)) := by (repeat (first | (with_reducible exact Below.refl _ _) | (with_reducible assumption) | (with_reducible apply bel_alloc) | (with_reducible apply bel_drew) | (with_reducible apply bel_drewN) | (with_reducible refine bel_trans ?_ (by with_reducible assumption)) | (with_reducible refine bel_trans ?_ (HF.out _)) | (with_reducible refine bel_set ?_ (by simp) _) | (with_reducible refine bel_set ?_ (by simp; omega) _) | (with_reducible refine bel_set ?_ (by omega) _)))
        have a_0 := (hA).2 0 _ rfl; have a_1 := (hA).2 1 _ rfl
        have HAK := Lib.hid (hak.up hba)
        clear hak hA
        cases h1 : digS p.di
        · have H1 := Lib.hid h1
          clear h1
          go_wp2_with fail
          refine wp_region_fam (by kernel_rfl) (by kernel_rfl) (fun ι F hne hF hcl => ?_)
          have hcF0 := fun n o => (bcell (hF n)).1 (w.heap.size) o (by first | (simp; done) | (simp; omega) | omega)
          have hcF1 := fun n o => (bcell (hF n)).1 (wk.heap.size) o (by first | (simp; done) | (simp; omega) | omega)
          have hcF2 := fun n o => (bcell (hF n)).1 (b) o (by first | (simp; done) | (simp; omega) | omega)
          have HF := Lib.hid hF; clear hF
          have HC := Lib.hid hcl; clear hcl
          repeat (any_goals (first
           | go_big_quiet_step (first | (go_at_call 35; exact Calls.fam_same (refd_Digest p.di false _ H1.out)))
           | (refine wpQuiet_guard _ _ _ rfl rfl ?_; (fail_if_success (intro b' hb; have h2 := hb.symm; have : b' = true := h2.trans (by with_reducible rfl))); (fail_if_success (intro b' hb; have h2 := hb.symm; have : b' = false := h2.trans (by with_reducible rfl))); intro b' hb; simp only [hb]; cases b' <;> (try simp only [Bool.not_eq_true', Bool.not_eq_false', decide_eq_true_eq, decide_eq_false_iff_not, Int.not_lt, Int.not_le, Bool.and_eq_true, Bool.or_eq_true, Bool.or_eq_false_iff, beq_iff_eq, beq_eq_false_iff_ne, Int.natCast_pos] at hb))))
          all_goals (refine wpQuiet_nil ?_; intro nq)
          all_goals (try (exfalso; omega))
          have hFwf := HF.out nq
          clear HF HC hne
          generalize F nq = wf at *
          have hbf : Below w.heap.size w wf := bel_trans hbw (bel_trans hba hFwf)
          go_wp2_with fail
          go_ret
          exact ⟨ret_bool (HBAD.out (fun g => (by have := g.1; rw [← HP.out, H1.out] at this; cases this))), hbf⟩
        have H1 := Lib.hid h1
        clear h1
        cases h3 : risS p.ak
        case' true => cases h4 : betS p.ak 1 nodes
        all_goals
          have H3 := Lib.hid h3
          clear h3
          (try have H4 := Lib.hid h4)
          (try clear h4)
          rcases Nat.eq_zero_or_pos k with hk0 | hk0
          case' inl =>
            subst hk0
            rw [Nat.zero_mul, Nat.add_zero] at c0 c1
          case' inr =>
            have d0 := HD.out hk0
            have hk1 : (0 : Int) < (k : Int) := by omega
            by_cases h2 : o < p.di
            case' neg => have h2b : decide (p.di ≤ o) = true := by simp; omega
            case' pos => have h2b : decide (p.di ≤ o) = false := by simp; omega
          all_goals
            (try have H2 := Lib.hid h2)
            (try clear h2)
            go_wp2_with fail
            refine wp_region_fam (by kernel_rfl) (by kernel_rfl) (fun ι F hne hF hcl => ?_)
            have hcF0 := fun n o => (bcell (hF n)).1 (w.heap.size) o (by first | (simp; done) | (simp; omega) | omega)
            have hcF1 := fun n o => (bcell (hF n)).1 (wk.heap.size) o (by first | (simp; done) | (simp; omega) | omega)
            have hcF2 := fun n o => (bcell (hF n)).1 (b) o (by first | (simp; done) | (simp; omega) | omega)
            have HF := Lib.hid hF; clear hF
            have HC := Lib.hid hcl; clear hcl
            repeat (any_goals (first
             | go_big_quiet_step (first | (go_at_call 35; exact Calls.fam_same (refd_Digest p.di true _ H1.out)) | (go_at_call 36; exact Calls.fam HC.out (refr_Rising B m d p.ak _ _ (HAK.out.up (HF.out _)) H3.out)) | (go_at_call 37; exact Calls.fam_same (refb_Between B m d p.ak 1 nodes _ _ (HAK.out.up (HF.out _)) H4.out)))
             | (refine wpQuiet_guard _ _ _ rfl rfl ?_; (fail_if_success (intro b' hb; have h2 := hb.symm; have : b' = true := h2.trans (by with_reducible rfl))); (fail_if_success (intro b' hb; have h2 := hb.symm; have : b' = false := h2.trans (by with_reducible rfl))); intro b' hb; simp only [hb]; cases b' <;> (try simp only [Bool.not_eq_true', Bool.not_eq_false', decide_eq_true_eq, decide_eq_false_iff_not, Int.not_lt, Int.not_le, Bool.and_eq_true, Bool.or_eq_true, Bool.or_eq_false_iff, beq_iff_eq, beq_eq_false_iff_ne, Int.natCast_pos] at hb))))
            all_goals (refine wpQuiet_nil ?_; intro nq)
            all_goals (try (exfalso; omega))
            have hFwf := HF.out nq
            clear HF HC hne
            generalize F nq = wf at *
            have hbf : Below w.heap.size w wf := bel_trans hbw (bel_trans hba hFwf)
            have hBf := Lib.hid ((HB.out.up hba).up hFwf)
            go_wp2_with fail
            first
              | (go_ret; exact ⟨ret_bool (HBAD.out (fun g => (by have g1 := cris_bet _ _ _ |>.1 g.2.1; have g2 := g.2.2; rw [← HP.out] at g1 g2; first | (have g4 := g1.1; rw [H3.out] at g4; cases g4; done) | (have g4 := g1.2; rw [H4.out] at g4; cases g4; done) | (have g3 := g2 hk0; rw [← HO9.out] at g3; have h9 := H2.out; omega)))), hbf⟩)
              | (first | (go_round; (case rel => exact ⟨1, by omega, rfl, Lib.hid (fun j hj => by ((obtain rfl : j = 0 := by omega); exact ⟨by rw [← HP.out]; exact H1.out, by rw [← HP.out]; exact (cris_bet _ _ _).2 ⟨H3.out, H4.out⟩, fun h => absurd h (by omega)⟩)), hBf, hbf⟩); (case measure => (simp [intOf] <;> omega))) | (go_roundw; (case rel => exact ⟨1, by omega, rfl, Lib.hid (fun j hj => by ((obtain rfl : j = 0 := by omega); exact ⟨by rw [← HP.out]; exact H1.out, by rw [← HP.out]; exact (cris_bet _ _ _).2 ⟨H3.out, H4.out⟩, fun h => absurd h (by omega)⟩)), hBf, hbf⟩); (case measure => (simp [intOf] <;> omega))) | (refine ⟨?_, by simp [intOf] <;> omega⟩; (repeat apply Exists.intro); refine ⟨?rel, ?fr⟩; (case fr => ((repeat' apply And.intro) <;> rfl)); (case rel => exact ⟨1, by omega, rfl, Lib.hid (fun j hj => by ((obtain rfl : j = 0 := by omega); exact ⟨by rw [← HP.out]; exact H1.out, by rw [← HP.out]; exact (cris_bet _ _ _).2 ⟨H3.out, H4.out⟩, fun h => absurd h (by omega)⟩)), hBf, hbf⟩)))
              | (first | (go_round; (case rel => exact ⟨k + 1, by omega, by go_num, Lib.hid (fun j hj => by (rcases Nat.lt_or_ge j k with h | h; exact HG.out j h; (obtain rfl : j = k := by omega); exact ⟨by rw [← HP.out]; exact H1.out, by rw [← HP.out]; exact (cris_bet _ _ _).2 ⟨H3.out, H4.out⟩, fun _ => by rw [← HP.out, ← HO9.out]; exact H2.out⟩)), hBf, hbf⟩); (case measure => (simp [intOf] <;> omega))) | (go_roundw; (case rel => exact ⟨k + 1, by omega, by go_num, Lib.hid (fun j hj => by (rcases Nat.lt_or_ge j k with h | h; exact HG.out j h; (obtain rfl : j = k := by omega); exact ⟨by rw [← HP.out]; exact H1.out, by rw [← HP.out]; exact (cris_bet _ _ _).2 ⟨H3.out, H4.out⟩, fun _ => by rw [← HP.out, ← HO9.out]; exact H2.out⟩)), hBf, hbf⟩); (case measure => (simp [intOf] <;> omega))) | (refine ⟨?_, by simp [intOf] <;> omega⟩; (repeat apply Exists.intro); refine ⟨?rel, ?fr⟩; (case fr => ((repeat' apply And.intro) <;> rfl)); (case rel => exact ⟨k + 1, by omega, by go_num, Lib.hid (fun j hj => by (rcases Nat.lt_or_ge j k with h | h; exact HG.out j h; (obtain rfl : j = k := by omega); exact ⟨by rw [← HP.out]; exact H1.out, by rw [← HP.out]; exact (cris_bet _ _ _).2 ⟨H3.out, H4.out⟩, fun _ => by rw [← HP.out, ← HO9.out]; exact H2.out⟩)), hBf, hbf⟩)))
      · obtain rfl : k = tn := by omega
        have hyes : y = true := HFIN.out (HWT.out.symm.trans (wtB_iff.2 (fun j hj => HG.out j (by rw [HTN.out] at hj; exact hj))))
        subst hyes
        go_wp2_with fail
        go_ret
        exact ⟨rfl, hbw⟩
  all_goals
    go_wp2_with (first | (go_at_call 29; (with_reducible refine (refm_May nodes _ _ HS.out).mono ?_); rintro e w' ⟨rfl, rfl⟩) | (go_at_call 31; (with_reducible refine (ref0_Num age _ _ H5.out).mono ?_); rintro e w' ⟨rfl, rfl⟩) | (go_at_call 31; (with_reducible refine (ref0_Num clock _ _ H6.out).mono ?_); rintro e w' ⟨rfl, rfl⟩) | (go_at_call 30; (with_reducible refine (refx_Txs oA on oc D.op _ _ (HO.out.up (by (repeat (first | (with_reducible exact Below.refl _ _) | (with_reducible assumption) | (with_reducible apply bel_alloc) | (with_reducible apply bel_drew) | (with_reducible apply bel_drewN) | (with_reducible refine bel_trans ?_ (by with_reducible assumption)) | (with_reducible refine bel_trans ?_ (HF.out _)) | (with_reducible refine bel_set ?_ (by simp) _) | (with_reducible refine bel_set ?_ (by simp; omega) _) | (with_reducible refine bel_set ?_ (by omega) _))))) HTX.out).mono ?_); rintro e w1 ⟨rfl, hbw1⟩; have hBw1 := (HA0.out).up hbw1; have w1_0 := (hBw1).2 0 _ rfl; have w1_1 := (hBw1).2 1 _ rfl; have w1_2 := (hBw1).2 2 _ rfl; have w1_3 := (hBw1).2 3 _ rfl; have w1_4 := (hBw1).2 4 _ rfl; have w1_5 := (hBw1).2 5 _ rfl; have w1_6 := (hBw1).2 6 _ rfl; have w1_7 := (hBw1).2 7 _ rfl; have w1_8 := (hBw1).2 8 _ rfl; have hgw1 := hBw1.1; have HBw1 := Lib.hid hBw1; clear hBw1) | (go_at_call 32; (with_reducible refine (ref13_Held eA en ec D.he _ _ (HE.out.up (by (repeat (first | (with_reducible exact Below.refl _ _) | (with_reducible assumption) | (with_reducible apply bel_alloc) | (with_reducible apply bel_drew) | (with_reducible apply bel_drewN) | (with_reducible refine bel_trans ?_ (by with_reducible assumption)) | (with_reducible refine bel_trans ?_ (HF.out _)) | (with_reducible refine bel_set ?_ (by simp) _) | (with_reducible refine bel_set ?_ (by simp; omega) _) | (with_reducible refine bel_set ?_ (by omega) _))))) HHD.out).mono ?_); rintro e w2 ⟨rfl, hbw2⟩; have hBw2 := (HBw1.out).up hbw2; have w2_0 := (hBw2).2 0 _ rfl; have w2_1 := (hBw2).2 1 _ rfl; have w2_2 := (hBw2).2 2 _ rfl; have w2_3 := (hBw2).2 3 _ rfl; have w2_4 := (hBw2).2 4 _ rfl; have w2_5 := (hBw2).2 5 _ rfl; have w2_6 := (hBw2).2 6 _ rfl; have w2_7 := (hBw2).2 7 _ rfl; have w2_8 := (hBw2).2 8 _ rfl; have hgw2 := hBw2.1; have HBw2 := Lib.hid hBw2; clear hBw2) | (go_at_call 33; (with_reducible refine (refd_Digests rA rn rc D.re _ _ (HR.out.up (by (repeat (first | (with_reducible exact Below.refl _ _) | (with_reducible assumption) | (with_reducible apply bel_alloc) | (with_reducible apply bel_drew) | (with_reducible apply bel_drewN) | (with_reducible refine bel_trans ?_ (by with_reducible assumption)) | (with_reducible refine bel_trans ?_ (HF.out _)) | (with_reducible refine bel_set ?_ (by simp) _) | (with_reducible refine bel_set ?_ (by simp; omega) _) | (with_reducible refine bel_set ?_ (by omega) _))))) HDG.out).mono ?_); rintro e w' ⟨rfl, rfl⟩) | (go_at_call 34; (with_reducible refine (ref13_unlike rA rn rc D.re _ _ (HR.out.up (by (repeat (first | (with_reducible exact Below.refl _ _) | (with_reducible assumption) | (with_reducible apply bel_alloc) | (with_reducible apply bel_drew) | (with_reducible apply bel_drewN) | (with_reducible refine bel_trans ?_ (by with_reducible assumption)) | (with_reducible refine bel_trans ?_ (HF.out _)) | (with_reducible refine bel_set ?_ (by simp) _) | (with_reducible refine bel_set ?_ (by simp; omega) _) | (with_reducible refine bel_set ?_ (by omega) _))))) hrc HND.out).mono ?_); rintro e w3 ⟨rfl, hbw3⟩; have hBw3 := (HBw2.out).up hbw3; have w3_0 := (hBw3).2 0 _ rfl; have w3_1 := (hBw3).2 1 _ rfl; have w3_2 := (hBw3).2 2 _ rfl; have w3_3 := (hBw3).2 3 _ rfl; have w3_4 := (hBw3).2 4 _ rfl; have w3_5 := (hBw3).2 5 _ rfl; have w3_6 := (hBw3).2 6 _ rfl; have w3_7 := (hBw3).2 7 _ rfl; have w3_8 := (hBw3).2 8 _ rfl; have hgw3 := hBw3.1; have HBw3 := Lib.hid hBw3; clear hBw3))
    go_ret
    first
    | exact ⟨ret_bool (no_y HY.out (by rintro ⟨g1, g2, g3, g4, g5, g6, g7, g8, g9, g10, g11, g12, g13⟩; first | omega | (cases g1; done) | (exact g1.elim) | (cases g5; done) | (cases g6; done) | (cases g9; done) | (cases g10; done) | (cases g11; done) | (cases g12; done) | (cases g13; done))), by (repeat (first | (with_reducible exact Below.refl _ _) | (with_reducible assumption) | (with_reducible apply bel_alloc) | (with_reducible apply bel_drew) | (with_reducible apply bel_drewN) | (with_reducible refine bel_trans ?_ (by with_reducible assumption)) | (with_reducible refine bel_trans ?_ (HF.out _)) | (with_reducible refine bel_set ?_ (by simp) _) | (with_reducible refine bel_set ?_ (by simp; omega) _) | (with_reducible refine bel_set ?_ (by omega) _)))⟩
end Go.Proofs.Ytgfakefcmbpboaa
