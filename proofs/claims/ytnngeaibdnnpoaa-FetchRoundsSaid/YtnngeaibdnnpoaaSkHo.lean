/- Fetch: droverref21.asks. -/
import Derived.Test.YtnngeaibdnnpoaaSkHm
import Derived.Deep.RegionHeld3
namespace Go.Proofs.Ytnngeaibdnnpoaa
open Go.RowKit
set_option linter.unusedSimpArgs false
set_option linter.unusedVariables false

set_option maxRecDepth 100000 in
set_option maxHeartbeats 8000000 in
theorem ref21_asks (id nodes : Int) (fA : Option Addr) (fn fc : Nat) (A : Option Addr) (n c : Nat) (rows : List FRowD) (w : World) (hl : RowsR w A n rows) (hn : n ≤ 64) (h1 : 1 ≤ id) (h2 : id ≤ nodes) (h4 : nodes ≤ 16) (hr : ∀ j, j < n → 0 ≤ (qth rows j).tr ∧ (qth rows j).tr ≤ 1099511627776) :
    Calls Try.prog 77 #[.agg #[.int .i64 id, .int .i64 nodes, .slice fA fn fc], .slice A n c] w fun e w' => ∃ v, e = .returned v ∧ OwnMs w' (w.heap.size + 1) v (fL id nodes rows) ∧ Below w.heap.size w w' := by
  have HL := Lib.hid hl
  have HR := Lib.hid hr
  have HN := Lib.hid hl.1
  clear hl hr
  go_enter Try.func77, Try.ntmps77
  go_wp2_with fail
  have hb0 : Below w.heap.size w (w.alloc (.cells #[.int .i64 id, .int .i64 nodes, .slice fA fn fc] 24)) := bel_alloc (Below.refl _ _)
  have HB0 := Lib.hid (BoxR.new w [.int .i64 id, .int .i64 nodes, .slice fA fn fc] 24)
  go_loopw [5, 6] (fun s5 tx wr => ∃ t : Nat, (t : Int) ≤ nodes ∧ tx = .int .i64 ((t : Int) + 1) ∧ Hid (nodes = 1 → t = 0) ∧ Hid (OwnMs wr (w.heap.size + 1) s5 (fN id nodes rows (2 * t))) ∧ Hid (BoxR wr w.heap.size [.int .i64 id, .int .i64 nodes, .slice fA fn fc]) ∧ Below w.heap.size w wr) (fun _ tx _ => 20 - (intOf tx).toNat)
  case atStart => exact ⟨0, by omega, rfl, Lib.hid (fun _ => rfl), Lib.hid (OwnMs.nil _ _), HB0, hb0⟩
  case round =>
    clear HB0 hb0
    obtain ⟨t, ht, rfl, HT1, HO, HBX, hbw⟩ := hrel
    (obtain ⟨wt, hwt⟩ : ∃ x, x = wr := ⟨_, rfl⟩); subst hwt
    have xl := HBX.out.1
    have x_0 := (HBX.out).2 0 _ rfl; have x_1 := (HBX.out).2 1 _ rfl; have x_2 := (HBX.out).2 2 _ rfl
    by_cases hn2 : 2 ≤ nodes
    case neg =>
      have q2 : decide (1 < nodes) = false := by simp; omega
      have q1 : decide ((t : Int) + 1 ≤ nodes) = true := by have := HT1.out (by omega); simp; omega
      go_wp2_with fail
      go_ret
      exact ⟨_, rfl, by unfold fL; rw [if_pos (by omega)]; have h9 := HO.out; rw [HT1.out (by omega)] at h9; exact h9, hbw⟩
    case pos =>
    have q2 : decide (1 < nodes) = true := by simp; omega
    by_cases htn : (t : Int) < nodes
    case neg =>
      have q1 : decide ((t : Int) + 1 ≤ nodes) = false := by simp; omega
      go_wp2_with fail
      go_ret
      exact ⟨_, rfl, by unfold fL; rw [if_neg (by omega), show nodes.toNat = t by omega]; exact HO.out, hbw⟩
    case pos =>
    have q1 : decide ((t : Int) + 1 ≤ nodes) = true := by simp; omega
    go_wp2_with fail
    clear q1 q2 xl x_0 x_1 x_2
    go_loopw [5, 7] (fun s5 kx wr => ∃ q : Nat, q ≤ 2 ∧ kx = .int .i64 (7 + (q : Int)) ∧ Hid (OwnMs wr (w.heap.size + 1) s5 (fN id nodes rows (2 * t + q))) ∧ Hid (BoxR wr w.heap.size [.int .i64 id, .int .i64 nodes, .slice fA fn fc]) ∧ Below w.heap.size w wr) (fun _ kx _ => 9 - (intOf kx).toNat)
    case atStart => exact ⟨0, by omega, rfl, HO, HBX, hbw⟩
    case round =>
      clear HO HBX hbw
      obtain ⟨q, hq, rfl, HO, HBX, hbw⟩ := hrel
      (obtain ⟨ws, hws⟩ : ∃ x, x = wr := ⟨_, rfl⟩); subst hws
      by_cases hq2 : q < 2
      case neg =>
        obtain rfl : q = 2 := by omega
        have HNX : Hid (fN id nodes rows (2 * (t + 1)) = fN id nodes rows (2 * t + 2)) := Lib.hid rfl
        go_wp2_with fail
        (first | (go_round; (case rel => exact ⟨t + 1, by omega, by go_num, Lib.hid (fun h => absurd h (by omega)), HO, HBX, hbw⟩); (case measure => (simp [intOf] <;> omega))) | (go_roundw; (case rel => exact ⟨t + 1, by omega, by go_num, Lib.hid (fun h => absurd h (by omega)), HO, HBX, hbw⟩); (case measure => (simp [intOf] <;> omega))) | (refine ⟨?_, by simp [intOf] <;> omega⟩; (repeat apply Exists.intro); refine ⟨?rel, ?fr⟩; (case fr => ((repeat' apply And.intro) <;> rfl)); (case rel => exact ⟨t + 1, by omega, by go_num, Lib.hid (fun h => absurd h (by omega)), HO, HBX, hbw⟩)))
      case pos =>
      obtain ⟨sz, hsz⟩ : ∃ s, 2 * t + q = s := ⟨_, rfl⟩
      obtain ⟨tz, htz⟩ : ∃ z, (t : Int) + 1 = z := ⟨_, rfl⟩
      obtain ⟨kz, hkz⟩ : ∃ z, 7 + (q : Int) = z := ⟨_, rfl⟩
      rw [hsz] at HO
      have HT : Hid (((sz / 2 : Nat) : Int) + 1 = tz ∧ 7 + ((sz % 2 : Nat) : Int) = kz ∧ 2 * t + (q + 1) = sz + 1) := Lib.hid ⟨by omega, by omega, by omega⟩
      have HKZ := Lib.hid (And.intro htz hkz)
      have hk8 : decide (kz ≤ 8) = true := by simp; omega
      have hkz7 : 7 ≤ kz := by omega
      have hkz8 : kz ≤ 8 := by omega
      have hs32 : sz < 32 := by omega
      rw [htz, hkz]
      have xl := HBX.out.1
      have x_0 := (HBX.out).2 0 _ rfl; have x_1 := (HBX.out).2 1 _ rfl; have x_2 := (HBX.out).2 2 _ rfl
      clear htz hkz hsz
      go_wp2_with fail
      clear hk8
      go_loopw [8, 9] (fun s8 jx wr => ∃ j : Nat, j ≤ n ∧ jx = .int .i64 j ∧ Hid (OwnI wr ws.heap.size s8 (dsel id nodes kz tz (rows.take j))) ∧ Below ws.heap.size ws wr) (fun _ jx _ => n - (intOf jx).toNat)
      case atStart => exact ⟨0, Nat.zero_le _, rfl, Lib.hid (by simpa [dsel] using OwnI.nil ws ws.heap.size), Below.refl _ _⟩
      case round =>
        clear xl x_0 x_1 x_2
        obtain ⟨j, hj, rfl, HP, hb⟩ := hrel
        (obtain ⟨wj, hwj⟩ : ∃ x, x = wr := ⟨_, rfl⟩); subst hwj
        have hbj := bel_trans hbw hb
        have hX := HBX.out.up hb
        have xl := hX.1
        have x_0 := (hX).2 0 _ rfl; have x_1 := (hX).2 1 _ rfl; have x_2 := (hX).2 2 _ rfl
        clear hX
        by_cases hlt : j < n
        · skip
          obtain ⟨b, off, rfl, hbl, hc⟩ := (HL.out.up hbj).at (by omega)
          obtain ⟨c0, c1, c2, c3⟩ := hc j hlt
          clear hc
          have hrt := HR.out j hlt
          obtain ⟨rk, hrk⟩ : ∃ z, (qth rows j).ki = z := ⟨_, rfl⟩
          obtain ⟨rd, hrd⟩ : ∃ z, (qth rows j).di = z := ⟨_, rfl⟩
          obtain ⟨rt, hrt2⟩ : ∃ z, (qth rows j).tr = z := ⟨_, rfl⟩
          rw [hrk] at c0
          rw [hrd] at c1
          rw [hrt2] at c3 hrt
          have HRT := Lib.hid hrt
          have hsn := dsel_snoc id nodes kz tz rows j (by rw [HN.out]; exact hlt)
          rw [hrk, hrd, hrt2] at hsn
          have HSN := Lib.hid hsn
          clear hsn hrk hrd hrt2 hrt
          obtain ⟨y, hy⟩ : ∃ z, peerI id nodes rt = z := ⟨_, rfl⟩
          have HY := Lib.hid hy
          clear hy
          by_cases e1 : rk = kz
          · have d1 : (rk == kz) = true := by simp [e1]
            have E1 := Lib.hid e1
            clear e1
            by_cases e2 : y = tz
            · have d2 : (y == tz) = true := by simp [e2]
              have E2 := Lib.hid e2
              clear e2
              go_wp2_with fail
              refine wp_region_fam (by kernel_rfl) (by kernel_rfl) (fun ι F hne hF hcl => ?_)
              have hcF0 := fun n o => (bcell (hF n)).1 (b) o (by first | (simp; done) | (simp; omega) | omega)
              have hcF1 := fun n o => (bcell (hF n)).1 (w.heap.size) o (by first | (simp; done) | (simp; omega) | omega)
              have HF := Lib.hid hF; clear hF
              have HC := Lib.hid hcl; clear hcl
              repeat (any_goals (first
               | go_big_quiet_step (first | (go_at_call 91; exact Calls.fam HC.out (ref21_peer id nodes rt fA fn fc y _ h1 h2 hn2 h4 HRT.out.1 HRT.out.2 HY.out)))
               | (refine wpQuiet_guard _ _ _ rfl rfl ?_; (fail_if_success (intro b' hb; have h2 := hb.symm; have : b' = true := h2.trans (by with_reducible rfl))); (fail_if_success (intro b' hb; have h2 := hb.symm; have : b' = false := h2.trans (by with_reducible rfl))); intro b' hb; simp only [hb]; cases b' <;> (try simp only [Bool.not_eq_true', Bool.not_eq_false', decide_eq_true_eq, decide_eq_false_iff_not, Int.not_lt, Int.not_le, Bool.and_eq_true, Bool.or_eq_true, Bool.or_eq_false_iff, beq_iff_eq, beq_eq_false_iff_ne, Int.natCast_pos] at hb))))
              all_goals (refine wpQuiet_nil ?_; intro nq)
              all_goals (try (exfalso; omega))
              have hFwf := HF.out nq
              clear HF HC hne
              generalize F nq = wf at *
              have c1f := (bcell hFwf).1 b (off + j * 4 + 1) hbl
              rw [c1] at c1f
              have hblf := Nat.lt_of_lt_of_le hbl hFwf.size
              go_wp2_with (at_builtin; refine wpList_app1 rfl (.tmp 50) (.tmp 56) rfl ws.heap.size _ _ rfl (HP.out.up (bel_trans hFwf (bel_alloc (Below.refl _ _)))) _ rd rfl (cell0_alloc _ _ _) (by have h9 := dsel_len id nodes kz tz (rows.take j); have h8 := List.length_take_le j rows; omega) (le_alloc (Nat.le_trans hb.size hFwf.size)) ?_; intro v1 w1 hown1 hg1 hb1 hat1)
              (first | (go_round; (case rel => exact ⟨j + 1, by omega, by go_num, Lib.hid (by rw [HSN.out, if_pos ⟨E1.out, by rw [HY.out]; exact E2.out⟩]; exact hown1), Below.trans (bel_trans hb (bel_trans hFwf (bel_alloc (Below.refl _ _)))) hb1⟩); (case measure => (simp [intOf] <;> omega))) | (go_roundw; (case rel => exact ⟨j + 1, by omega, by go_num, Lib.hid (by rw [HSN.out, if_pos ⟨E1.out, by rw [HY.out]; exact E2.out⟩]; exact hown1), Below.trans (bel_trans hb (bel_trans hFwf (bel_alloc (Below.refl _ _)))) hb1⟩); (case measure => (simp [intOf] <;> omega))) | (refine ⟨?_, by simp [intOf] <;> omega⟩; (repeat apply Exists.intro); refine ⟨?rel, ?fr⟩; (case fr => ((repeat' apply And.intro) <;> rfl)); (case rel => exact ⟨j + 1, by omega, by go_num, Lib.hid (by rw [HSN.out, if_pos ⟨E1.out, by rw [HY.out]; exact E2.out⟩]; exact hown1), Below.trans (bel_trans hb (bel_trans hFwf (bel_alloc (Below.refl _ _)))) hb1⟩)))
            · have d2 : (y == tz) = false := by simp [e2]
              have E2 := Lib.hid e2
              clear e2
              go_wp2_with fail
              refine wp_region_fam (by kernel_rfl) (by kernel_rfl) (fun ι F hne hF hcl => ?_)
              have hcF0 := fun n o => (bcell (hF n)).1 (b) o (by first | (simp; done) | (simp; omega) | omega)
              have hcF1 := fun n o => (bcell (hF n)).1 (w.heap.size) o (by first | (simp; done) | (simp; omega) | omega)
              have HF := Lib.hid hF; clear hF
              have HC := Lib.hid hcl; clear hcl
              repeat (any_goals (first
               | go_big_quiet_step (first | (go_at_call 91; exact Calls.fam HC.out (ref21_peer id nodes rt fA fn fc y _ h1 h2 hn2 h4 HRT.out.1 HRT.out.2 HY.out)))
               | (refine wpQuiet_guard _ _ _ rfl rfl ?_; (fail_if_success (intro b' hb; have h2 := hb.symm; have : b' = true := h2.trans (by with_reducible rfl))); (fail_if_success (intro b' hb; have h2 := hb.symm; have : b' = false := h2.trans (by with_reducible rfl))); intro b' hb; simp only [hb]; cases b' <;> (try simp only [Bool.not_eq_true', Bool.not_eq_false', decide_eq_true_eq, decide_eq_false_iff_not, Int.not_lt, Int.not_le, Bool.and_eq_true, Bool.or_eq_true, Bool.or_eq_false_iff, beq_iff_eq, beq_eq_false_iff_ne, Int.natCast_pos] at hb))))
              all_goals (refine wpQuiet_nil ?_; intro nq)
              all_goals (try (exfalso; omega))
              have hFwf := HF.out nq
              clear HF HC hne
              generalize F nq = wf at *
              have c1f := (bcell hFwf).1 b (off + j * 4 + 1) hbl
              rw [c1] at c1f
              have hblf := Nat.lt_of_lt_of_le hbl hFwf.size
              go_wp2_with fail
              (first | (go_round; (case rel => exact ⟨j + 1, by omega, by go_num, Lib.hid (by rw [HSN.out, if_neg (fun h => E2.out (by rw [← HY.out]; exact h.2)), List.append_nil]; exact HP.out.up hFwf), bel_trans hb hFwf⟩); (case measure => (simp [intOf] <;> omega))) | (go_roundw; (case rel => exact ⟨j + 1, by omega, by go_num, Lib.hid (by rw [HSN.out, if_neg (fun h => E2.out (by rw [← HY.out]; exact h.2)), List.append_nil]; exact HP.out.up hFwf), bel_trans hb hFwf⟩); (case measure => (simp [intOf] <;> omega))) | (refine ⟨?_, by simp [intOf] <;> omega⟩; (repeat apply Exists.intro); refine ⟨?rel, ?fr⟩; (case fr => ((repeat' apply And.intro) <;> rfl)); (case rel => exact ⟨j + 1, by omega, by go_num, Lib.hid (by rw [HSN.out, if_neg (fun h => E2.out (by rw [← HY.out]; exact h.2)), List.append_nil]; exact HP.out.up hFwf), bel_trans hb hFwf⟩)))
          · have d1 : (rk == kz) = false := by simp [e1]
            have E1 := Lib.hid e1
            clear e1
            go_wp2_with fail
            refine wp_region_fam (by kernel_rfl) (by kernel_rfl) (fun ι F hne hF hcl => ?_)
            have hcF0 := fun n o => (bcell (hF n)).1 (b) o (by first | (simp; done) | (simp; omega) | omega)
            have hcF1 := fun n o => (bcell (hF n)).1 (w.heap.size) o (by first | (simp; done) | (simp; omega) | omega)
            have HF := Lib.hid hF; clear hF
            have HC := Lib.hid hcl; clear hcl
            repeat (any_goals (first
             | go_big_quiet_step (first | (go_at_call 91; exact Calls.fam HC.out (ref21_peer id nodes rt fA fn fc y _ h1 h2 hn2 h4 HRT.out.1 HRT.out.2 HY.out)))
             | (refine wpQuiet_guard _ _ _ rfl rfl ?_; (fail_if_success (intro b' hb; have h2 := hb.symm; have : b' = true := h2.trans (by with_reducible rfl))); (fail_if_success (intro b' hb; have h2 := hb.symm; have : b' = false := h2.trans (by with_reducible rfl))); intro b' hb; simp only [hb]; cases b' <;> (try simp only [Bool.not_eq_true', Bool.not_eq_false', decide_eq_true_eq, decide_eq_false_iff_not, Int.not_lt, Int.not_le, Bool.and_eq_true, Bool.or_eq_true, Bool.or_eq_false_iff, beq_iff_eq, beq_eq_false_iff_ne, Int.natCast_pos] at hb))))
            all_goals (refine wpQuiet_nil ?_; intro nq)
            all_goals (try (exfalso; omega))
            have hFwf := HF.out nq
            clear HF HC hne
            generalize F nq = wf at *
            have c1f := (bcell hFwf).1 b (off + j * 4 + 1) hbl
            rw [c1] at c1f
            have hblf := Nat.lt_of_lt_of_le hbl hFwf.size
            go_wp2_with fail
            (first | (go_round; (case rel => exact ⟨j + 1, by omega, by go_num, Lib.hid (by rw [HSN.out, if_neg (fun h => E1.out h.1), List.append_nil]; exact HP.out.up hFwf), bel_trans hb hFwf⟩); (case measure => (simp [intOf] <;> omega))) | (go_roundw; (case rel => exact ⟨j + 1, by omega, by go_num, Lib.hid (by rw [HSN.out, if_neg (fun h => E1.out h.1), List.append_nil]; exact HP.out.up hFwf), bel_trans hb hFwf⟩); (case measure => (simp [intOf] <;> omega))) | (refine ⟨?_, by simp [intOf] <;> omega⟩; (repeat apply Exists.intro); refine ⟨?rel, ?fr⟩; (case fr => ((repeat' apply And.intro) <;> rfl)); (case rel => exact ⟨j + 1, by omega, by go_num, Lib.hid (by rw [HSN.out, if_neg (fun h => E1.out h.1), List.append_nil]; exact HP.out.up hFwf), bel_trans hb hFwf⟩)))
        · skip
          obtain rfl : n = j := by omega
          have hp := HP.out
          rw [List.take_of_length_le (by rw [HN.out]; exact Nat.le_refl _)] at hp
          have hDl := dsel_len id nodes kz tz rows
          rw [HN.out] at hDl
          obtain ⟨D, hD⟩ : ∃ D, dsel id nodes kz tz rows = D := ⟨_, rfl⟩
          rw [hD] at hp hDl
          obtain ⟨m, hm⟩ : ∃ m, D.length = m := ⟨_, rfl⟩
          have hFS : fS id nodes rows kz tz = chM kz id tz D ((m + 15) / 16) := by unfold fS; rw [hD, hm]
          have HFS := Lib.hid hFS
          rw [hm] at hDl
          clear hD hFS HP
          have hp2 := hp
          unfold OwnI at hp2
          rw [hm] at hp2
          obtain ⟨pA, pc, rfl, hrv, -, hpc, -⟩ := own_row hp2 (by omega)
          have HPD : Hid (wj.ownsRow 0 3 1 (.slice pA m pc) m (D.map (Value.int .i64))) := Lib.hid (own_mono hp2 (Nat.zero_le _))
          clear hp2
          obtain ⟨pA', pc', e9, hpi⟩ := nmI hp hm (by omega)
          injection e9 with e91 e92 e93
          subst e91
          clear e92 e93 hp hrv
          have HPI0 := Lib.hid hpi
          clear hpi
          have HM := Lib.hid hm
          clear hm
          obtain ⟨pb, po, hpA⟩ : ∃ pb po : Nat, 0 < m → pA = some ⟨pb, po, none⟩ := by
            by_cases hm0 : 0 < m
            · obtain ⟨b9, o9, e9, -⟩ := HPI0.out.2.2 hm0
              exact ⟨b9, o9, fun _ => e9⟩
            · exact ⟨0, 0, fun h => absurd h hm0⟩
          have HPA := Lib.hid hpA
          clear hpA
          obtain ⟨K9, hK9⟩ : ∃ K, (m + 15) / 16 = K := ⟨_, rfl⟩
          have hK5 : K9 ≤ 4 := by omega
          have HK9 := Lib.hid hK9
          clear hK9
          have hm64 : m ≤ 64 := Nat.le_trans hDl hn
          clear hDl
          go_wp2_with fail
          have HO9 := Lib.hid (HO.out.up hb)
          have HXB9 := Lib.hid (HBX.out.up hb)
          clear HO HBX hb xl x_0 x_1 x_2 hbw
          go_loopw [5, 8] (fun s5 s8 wr => ∃ (j : Nat) (dA : Option Addr) (dc : Nat), j ≤ K9 ∧ s8 = .slice dA (m - j * 16) dc ∧ m - j * 16 ≤ dc ∧ Hid (j * 16 < m → dA = some ⟨pb, po + j * 16, none⟩) ∧ Hid (OwnMs wr (w.heap.size + 1) s5 (fN id nodes rows sz ++ chM kz id tz D j)) ∧ Hid (wr.ownsRow 0 3 1 (.slice pA m pc) m (D.map (Value.int .i64))) ∧ Hid (BoxR wr w.heap.size [.int .i64 id, .int .i64 nodes, .slice fA fn fc]) ∧ Below w.heap.size w wr) (fun _ s8 _ => match s8 with | .slice _ q _ => q | _ => 0)
          case atStart => exact ⟨0, pA, pc, Nat.zero_le _, by simp, by omega, Lib.hid (fun h => by rw [Nat.zero_mul, Nat.add_zero]; exact HPA.out (by omega)), Lib.hid (by simpa [chM] using HO9.out), HPD, HXB9, hbj⟩
          case round =>
            clear HO9 HPD HXB9 hbj
            obtain ⟨j, dA, dc, hj, rfl, hdc, HDA, HOM, HPD, HXB, hbwm⟩ := hrel
            (obtain ⟨wm, hwm⟩ : ∃ x, x = wr := ⟨_, rfl⟩); subst hwm
            have xl := HXB.out.1
            have x_0 := (HXB.out).2 0 _ rfl; have x_1 := (HXB.out).2 1 _ rfl; have x_2 := (HXB.out).2 2 _ rfl
            obtain ⟨r, hr⟩ : ∃ r, m - j * 16 = r := ⟨_, rfl⟩
            rw [hr] at hdc ⊢
            have HRR := Lib.hid hr
            clear hr
            by_cases hlt : 0 < r
            · skip
              have hjm : j * 16 < m := by have := HRR.out; omega
              have hpe := HPA.out (by omega)
              subst hpe
              have hde := HDA.out hjm
              subst hde
              have hrI : decide ((0 : Int) < (r : Int)) = true := by simp; omega
              have hrN : decide (0 < r) = true := by simp; omega
              go_upto_region 15 with fail
              go_cut [10] from 61 to 63 (fun s10 wx => ∃ e : Nat, Hid (e = min 16 r) ∧ s10 = .int .i64 e ∧ wm = wx)
              case first =>
                go_wp2_with fail
                all_goals go_meet
                all_goals first | exact ⟨r, Lib.hid (by omega), rfl, rfl⟩ | exact ⟨16, Lib.hid (by omega), rfl, rfl⟩
              case rest =>
              obtain ⟨e16, HE, hq1, hq2⟩ := hcut
              subst hq1
              subst hq2
              have he17 : e16 ≤ 16 := by have := HE.out; omega
              have her : e16 ≤ r := by have := HE.out; omega
              have he0 : 0 < e16 := by have := HE.out; omega
              have hedc : e16 ≤ dc := by omega
              have HPI : Hid (IntsR wm (some ⟨pb, po + j * 16, none⟩) e16 ((D.drop (j * 16)).take 16)) := Lib.hid (by have h8 := IntsR.piece (w := wm) (b := pb) (off := po) (m := m) (d := D) (i := j) (by obtain ⟨A', c', e', h'⟩ := nmI (show OwnI wm 0 (.slice (some ⟨pb, po, none⟩) m pc) D from by have h9 := HPD.out; rw [← HM.out] at h9 ⊢; exact h9) HM.out (by omega); injection e' with e1 e2 e3; subst e1; exact h') hjm; rw [HRR.out, ← HE.out] at h8; exact h8)
              obtain ⟨ps, hO⟩ := HOM.out
              have hwm1 : w.heap.size + 1 ≤ wm.heap.size := xl
              have HLN : Hid ((fN id nodes rows sz ++ chM kz id tz D j).length ≤ 1000) := Lib.hid (by have h9 := fN_len id nodes rows (by rw [HN.out]; exact hn) sz; rw [List.length_append]; simp [chM]; omega)
              have hS10 : ∀ {X Y : World}, Below wm.heap.size wm X → Below (w.heap.size + 1) X Y → Y.cell? ⟨w.heap.size, 0, none⟩ = some (.int .i64 id) := fun hX hY => (hY.cell (p := ⟨w.heap.size, 0, none⟩) (Nat.lt_succ_self _)).trans ((HXB.out.up hX).2 0 _ rfl)
              have BX10 : ∀ {X Y : World}, BoxR X w.heap.size [.int .i64 id, .int .i64 nodes, .slice fA fn fc] → Below (w.heap.size + 1) X Y → BoxR Y w.heap.size [.int .i64 id, .int .i64 nodes, .slice fA fn fc] := fun hX hY => ⟨Nat.lt_of_lt_of_le hX.1 hY.size, fun r u hu => (hY.cell (p := ⟨w.heap.size, r, none⟩) (Nat.lt_succ_self _)).trans (hX.2 r u hu)⟩
              clear xl x_0 x_1 x_2
              go_upto_region 16 with fail
              obtain ⟨S, hSd⟩ : ∃ S : World → Prop, S = fun Q => Q.cell? ⟨w.heap.size, 0, none⟩ = some (.int .i64 id) := ⟨_, rfl⟩
              have hS1 : ∀ Q, S Q → Q.cell? ⟨w.heap.size, 0, none⟩ = some (.int .i64 id) := fun Q h => by rw [hSd] at h; exact h
              have hS2 : ∀ Q, Q.cell? ⟨w.heap.size, 0, none⟩ = some (.int .i64 id) → S Q := fun Q h => by rw [hSd]; exact h
              have hS : ∀ Q, Below wm.heap.size wm Q → S Q := fun Q hQ => by rw [hSd]; exact (HXB.out.up hQ).2 0 _ rfl
              clear hSd
              go_cut [5] from 64 to 75 (fun s5 wx => Hid (OwnMs wx (w.heap.size + 1) s5 (fN id nodes rows sz ++ chM kz id tz D (j + 1))) ∧ Hid (wx.ownsRow 0 3 1 (.slice (some ⟨pb, po, none⟩) m pc) m (D.map (Value.int .i64))) ∧ Hid (BoxR wx w.heap.size [.int .i64 id, .int .i64 nodes, .slice fA fn fc]) ∧ Below w.heap.size w wx)
              case first =>
                refine wp_region_held_drew (S := S) (by kernel_rfl) (hS _ (bel_drew (Below.refl _ _))) (fun hHeld => ?_)
                have hbd : Below wm.heap.size wm wm.drew := bel_drew (Below.refl _ _)
                generalize wm.drew = Z at *
                (refine wpAnyH_tk 0 (some 64) (v := ?_) rfl rfl ?_ ?_; rotate_left; (focus (intro wq hSw; clear hSw; go_simp; all_goals (with_reducible rfl))); simp only [Act.put, List.setIfInBounds_toArray, List.set_cons_zero, List.set_cons_succ])
                (refine wpAnyH_tk 1 (some 65) (v := ?_) rfl rfl ?_ ?_; rotate_left; (focus (intro wq hSw; clear hSw; go_simp; all_goals (with_reducible rfl))); simp only [Act.put, List.setIfInBounds_toArray, List.set_cons_zero, List.set_cons_succ])
                (refine wpAnyH_tk 2 (some 66) (v := ?_) rfl rfl ?_ ?_; rotate_left; (focus (intro wq hSw; clear hSw; go_simp; all_goals (with_reducible rfl))); simp only [Act.put, List.setIfInBounds_toArray, List.set_cons_zero, List.set_cons_succ])
                (refine wpAnyH_tk 3 (some 67) (v := ?_) rfl rfl ?_ ?_; rotate_left; (focus (intro wq hSw; have q1 := hS1 wq hSw; clear hSw; go_simp; all_goals (with_reducible rfl))); simp only [Act.put, List.setIfInBounds_toArray, List.set_cons_zero, List.set_cons_succ])
                (refine wpAnyH_tk 4 (some 68) (v := ?_) rfl rfl ?_ ?_; rotate_left; (focus (intro wq hSw; clear hSw; go_simp; all_goals (with_reducible rfl))); simp only [Act.put, List.setIfInBounds_toArray, List.set_cons_zero, List.set_cons_succ])
                (refine wpAnyH_tk 5 (some 69) (v := ?_) rfl rfl ?_ ?_; rotate_left; (focus (intro wq hSw; clear hSw; go_simp; all_goals (with_reducible rfl))); simp only [Act.put, List.setIfInBounds_toArray, List.set_cons_zero, List.set_cons_succ])
                (refine wpAnyH_tk 6 (some 70) (v := ?_) rfl rfl ?_ ?_; rotate_left; (focus (intro wq hSw; clear hSw; go_simp; all_goals (with_reducible rfl))); simp only [Act.put, List.setIfInBounds_toArray, List.set_cons_zero, List.set_cons_succ])
                (refine wpAnyH_tk 7 (some 71) (v := ?_) rfl rfl ?_ ?_; rotate_left; (focus (intro wq hSw; clear hSw; go_simp; all_goals (with_reducible rfl))); simp only [Act.put, List.setIfInBounds_toArray, List.set_cons_zero, List.set_cons_succ])
                refine wpAnyH_ready (rs := [8]) (by kernel_rfl) (by simp) ?_
                refine AllReadyH.cons (o := _) rfl (fun K hK => ?_) AllReadyH.nil
                go_simp
                (go_at_call 53; refine (ref0_CopyNumbers _ _ _ _ _ (HPI.out.up hbd) (by omega)).mono ?_; rintro e w7 ⟨v7, rfl, ho7, hb7⟩)
                obtain ⟨sl, hsl⟩ : ∃ sl : SlP, v7 = .slice sl.A sl.n sl.c := by (obtain ⟨A7, c7, e7, -⟩ := ho7.ints (by simp; omega); exact ⟨⟨A7, _, c7⟩, e7⟩)
                subst hsl
                have hbb := bel_trans hbd hb7
                have hsz7 := hbd.size
                refine hK.out _ _ (hS _ hbb) (fun hHeld => ?_)
                clear hK K
                (try simp only [Act.put, List.setIfInBounds_toArray, List.set_cons_zero, List.set_cons_succ])
                (refine wpAnyH_tk 9 (some 73) (v := ?_) rfl rfl ?_ ?_; rotate_left; (focus (intro wq hSw; clear hSw; go_simp; all_goals (with_reducible rfl))); simp only [Act.put, List.setIfInBounds_toArray, List.set_cons_zero, List.set_cons_succ])
                refine wpAnyH_ready (rs := [10]) (by kernel_rfl) (by simp) ?_
                refine AllReadyH.cons (o := _) rfl (fun K hK => ?_) AllReadyH.nil
                go_simp
                obtain ⟨g4, hg4⟩ : ∃ g, g = w7.heap.size := ⟨_, rfl⟩
                obtain ⟨ZB, hZB⟩ : ∃ Zr : World, Zr = w7.alloc (.cells #[.int .i64 kz, .int .i64 id, .int .i64 tz, .int .i64 0, .int .i64 0, .int .i64 0, .slice none 0 0, .int .i64 0, .int .i64 0, .slice none 0 0, .slice none 0 0, .int .i64 0, .int .i64 0, .slice none 0 0, .slice none 0 0, .int .i64 0, .slice none 0 0, .slice sl.A sl.n sl.c] 44) := ⟨_, rfl⟩
                rw [← hg4, ← hZB]
                have hza : Blk ZB g4 44 [.int .i64 kz, .int .i64 id, .int .i64 tz, .int .i64 0, .int .i64 0, .int .i64 0, .slice none 0 0, .int .i64 0, .int .i64 0, .slice none 0 0, .slice none 0 0, .int .i64 0, .int .i64 0, .slice none 0 0, .slice none 0 0, .int .i64 0, .slice none 0 0, .slice sl.A sl.n sl.c] := by rw [hZB, hg4]; exact Blk.new _ 44 [.int .i64 kz, .int .i64 id, .int .i64 tz, .int .i64 0, .int .i64 0, .int .i64 0, .slice none 0 0, .int .i64 0, .int .i64 0, .slice none 0 0, .slice none 0 0, .int .i64 0, .int .i64 0, .slice none 0 0, .slice none 0 0, .int .i64 0, .slice none 0 0, .slice sl.A sl.n sl.c]
                have hbz : Below w7.heap.size w7 ZB := by rw [hZB]; exact bel_alloc (Below.refl _ _)
                have hbbz := bel_trans hbb hbz
                clear hg4 hZB
                refine hK.out _ _ (hS _ hbbz) (fun hHeld => ?_)
                clear hK K
                (try simp only [Act.put, List.setIfInBounds_toArray, List.set_cons_zero, List.set_cons_succ])
                refine wpAnyH_ready (rs := [11]) (by kernel_rfl) (by simp) ?_
                refine AllReadyH.cons (o := _) rfl (fun K hK => ?_) AllReadyH.nil
                have hownZ := hO.up hbbz
                refine step_appM rfl (.tmp 64) (.tmp 74) rfl rfl (w.heap.size + 1) _ ps (fN id nodes rows sz ++ chM kz id tz D j) (by simp [Act.eval, Act.put]) hownZ g4 (fMk kz id tz ((D.drop (j * 16)).take 16)) (fMp sl) (by simp [Act.eval, Act.put]) hza.box (fOwn kz id tz ((ho7.up hbz).mono (by omega))) (by have h9 := HLN.out; omega) (Nat.le_trans hwm1 hbbz.size) ?_
                intro v10 w10 hown10 hg10 hb10
                show K (Act.put _ (some 75) _) _
                refine hK.out _ _ (hS2 _ (hS10 hbbz hb10)) (fun hHeld => ?_)
                clear hK K
                (try simp only [Act.put, List.setIfInBounds_toArray, List.set_cons_zero, List.set_cons_succ])
                (refine wpAnyH_tk 12 (some 5) (v := ?_) rfl rfl ?_ ?_; rotate_left; (focus (intro wq hSw; clear hSw; go_simp; all_goals (with_reducible rfl))); simp only [Act.put, List.setIfInBounds_toArray, List.set_cons_zero, List.set_cons_succ])
                refine wpAnyH_done (by kernel_rfl) ?_ _
                go_wp2_with fail
                go_meet
                have hOR := hownZ.1
                exact ⟨Lib.hid ⟨_, by rw [chM_succ, ← List.append_assoc]; exact hown10⟩, Lib.hid (own_farT (own_up HPD.out hbbz) hOR (by decide) hg10), Lib.hid (BX10 (HXB.out.up hbbz) hb10), Below.trans (bel_trans hbwm hbbz) (hb10.mono (Nat.le_succ _))⟩
              case rest =>
              obtain ⟨HOM2, HPD2, HXB2, hbw2⟩ := hcut
              obtain ⟨wy, hwy⟩ : ∃ x, x = wc := ⟨_, rfl⟩
              subst hwy
              clear hS hS1 hS2
              by_cases hdd : dc = e16
              · subst hdd
                go_wp2_with fail
                (first | (go_round; (case rel => exact ⟨j + 1, some ⟨pb, po + j * 16, none⟩, 0, by (have h8 := HK9.out); omega, (by rw [show m - (j + 1) * 16 = 0 by (have h8 := HRR.out); (have h7 := HE.out); omega]), by (have h8 := HRR.out); (have h7 := HE.out); omega, Lib.hid (fun h => absurd h (by (have h8 := HRR.out); (have h7 := HE.out); omega)), HOM2, HPD2, HXB2, hbw2⟩); (case measure => (simp [intOf] <;> omega))) | (go_roundw; (case rel => exact ⟨j + 1, some ⟨pb, po + j * 16, none⟩, 0, by (have h8 := HK9.out); omega, (by rw [show m - (j + 1) * 16 = 0 by (have h8 := HRR.out); (have h7 := HE.out); omega]), by (have h8 := HRR.out); (have h7 := HE.out); omega, Lib.hid (fun h => absurd h (by (have h8 := HRR.out); (have h7 := HE.out); omega)), HOM2, HPD2, HXB2, hbw2⟩); (case measure => (simp [intOf] <;> omega))) | (refine ⟨?_, by simp [intOf] <;> omega⟩; (repeat apply Exists.intro); refine ⟨?rel, ?fr⟩; (case fr => ((repeat' apply And.intro) <;> rfl)); (case rel => exact ⟨j + 1, some ⟨pb, po + j * 16, none⟩, 0, by (have h8 := HK9.out); omega, (by rw [show m - (j + 1) * 16 = 0 by (have h8 := HRR.out); (have h7 := HE.out); omega]), by (have h8 := HRR.out); (have h7 := HE.out); omega, Lib.hid (fun h => absurd h (by (have h8 := HRR.out); (have h7 := HE.out); omega)), HOM2, HPD2, HXB2, hbw2⟩)))
              · skip
                go_wp2_with fail
                (first | (go_round; (case rel => exact ⟨j + 1, some ⟨pb, po + j * 16 + e16, none⟩, dc - e16, by (have h8 := HK9.out); omega, (by rw [show m - (j + 1) * 16 = r - e16 by (have h8 := HRR.out); (have h7 := HE.out); omega]), by (have h8 := HRR.out); (have h7 := HE.out); omega, Lib.hid (fun h => by rw [show po + j * 16 + e16 = po + (j + 1) * 16 by (have h8 := HRR.out); (have h7 := HE.out); omega]), HOM2, HPD2, HXB2, hbw2⟩); (case measure => (simp [intOf] <;> omega))) | (go_roundw; (case rel => exact ⟨j + 1, some ⟨pb, po + j * 16 + e16, none⟩, dc - e16, by (have h8 := HK9.out); omega, (by rw [show m - (j + 1) * 16 = r - e16 by (have h8 := HRR.out); (have h7 := HE.out); omega]), by (have h8 := HRR.out); (have h7 := HE.out); omega, Lib.hid (fun h => by rw [show po + j * 16 + e16 = po + (j + 1) * 16 by (have h8 := HRR.out); (have h7 := HE.out); omega]), HOM2, HPD2, HXB2, hbw2⟩); (case measure => (simp [intOf] <;> omega))) | (refine ⟨?_, by simp [intOf] <;> omega⟩; (repeat apply Exists.intro); refine ⟨?rel, ?fr⟩; (case fr => ((repeat' apply And.intro) <;> rfl)); (case rel => exact ⟨j + 1, some ⟨pb, po + j * 16 + e16, none⟩, dc - e16, by (have h8 := HK9.out); omega, (by rw [show m - (j + 1) * 16 = r - e16 by (have h8 := HRR.out); (have h7 := HE.out); omega]), by (have h8 := HRR.out); (have h7 := HE.out); omega, Lib.hid (fun h => by rw [show po + j * 16 + e16 = po + (j + 1) * 16 by (have h8 := HRR.out); (have h7 := HE.out); omega]), HOM2, HPD2, HXB2, hbw2⟩)))
            · skip
              obtain rfl : r = 0 := by omega
              obtain rfl : K9 = j := by (have h8 := HRR.out); (have h7 := HK9.out); omega
              rw [← HK9.out] at HOM
              have HNX : Hid (OwnMs wm (w.heap.size + 1) _ (fN id nodes rows (2 * t + (q + 1)))) := Lib.hid (by rw [HT.out.2.2, fN, HT.out.1, HT.out.2.1, HFS.out]; exact HOM.out)
              go_wp2_with fail
              (first | (go_round; (case rel => exact ⟨q + 1, by omega, by rw [show kz + 1 = 7 + ((q + 1 : Nat) : Int) by (have h8 := HKZ.out); omega], HNX, HXB, hbwm⟩); (case measure => (simp [intOf] <;> omega))) | (go_roundw; (case rel => exact ⟨q + 1, by omega, by rw [show kz + 1 = 7 + ((q + 1 : Nat) : Int) by (have h8 := HKZ.out); omega], HNX, HXB, hbwm⟩); (case measure => (simp [intOf] <;> omega))) | (refine ⟨?_, by simp [intOf] <;> omega⟩; (repeat apply Exists.intro); refine ⟨?rel, ?fr⟩; (case fr => ((repeat' apply And.intro) <;> rfl)); (case rel => exact ⟨q + 1, by omega, by rw [show kz + 1 = 7 + ((q + 1 : Nat) : Int) by (have h8 := HKZ.out); omega], HNX, HXB, hbwm⟩)))
end Go.Proofs.Ytnngeaibdnnpoaa
