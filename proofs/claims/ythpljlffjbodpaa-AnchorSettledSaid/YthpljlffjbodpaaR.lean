/- The law PathReaches: the walk. -/
import Derived.Test.YthpljlffjbodpaaQ
namespace Go.Proofs.Ythpljlffjbodpaa
open Go.RowKit
set_option linter.unusedSimpArgs false
set_option linter.unusedVariables false

theorem reach_bad {D : DagD} (h : mayS D = false) (a b : Int) : reachB D a b = false ∧ reachE D a b = 1 := by simp [reachB, reachE, h]
theorem reach_none {D : DagD} (h : mayS D = true) {a b : Int} (hn : findS D.certs a < 0 ∨ findS D.certs b < 0) : reachB D a b = false ∧ reachE D a b = 3 := by
  constructor
  · simp only [reachB, h, Bool.true_and]
    rcases hn with q | q
    · rw [decide_eq_false (Int.not_le.2 q)]; simp
    · rw [decide_eq_false (Int.not_le.2 q)]; simp
  · unfold reachE; rw [if_pos h, if_neg (by omega)]
theorem reach_ok {D : DagD} (h : mayS D = true) {a b : Int} {i j : Nat} (ha : findS D.certs a = (i : Int)) (hb : findS D.certs b = (j : Int)) : reachB D a b = marksS D.certs D.low i j ∧ reachE D a b = 0 := by
  have hi := findS_lt (l := D.certs) (x := a) (by omega)
  have hj := findS_lt (l := D.certs) (x := b) (by omega)
  rw [ha] at hi; rw [hb] at hj
  constructor
  · simp [reachB, h, ha, hb, reach_eq (mayS_iff.1 h) (i := i) (j := j) (by omega) (by omega)]
  · simp [reachE, h, ha, hb]
theorem may_facts {D : DagD} (h : mayS D = true) : -9223372036854775808 ≤ D.low ∧ D.low ≤ 1099511627776 ∧ D.certs.length ≤ 65536 ∧ ∀ k, k < D.certs.length → 1 ≤ (cth D.certs k).h.ro ∧ (cth D.certs k).h.ro ≤ 1099511627776 := by
  have hok := mayS_iff.1 h
  exact ⟨by have := hok.2.1; omega, hok.2.2.1, hok.2.2.2.1, fun k hk => mayS_ro h hk⟩
set_option maxRecDepth 100000 in
set_option maxHeartbeats 1000000 in
theorem law_PathReaches (A : Option Addr) (n c : Nat) (D : DagD) (iA : Option Addr) (im ic : Nat) (Is : List Int) (lA : Option Addr) (lm lc : Nat) (w : World) (hl : CertsR w A n D.certs) (hi : IntsR w iA im Is) :
    Calls Try.prog 3 #[.agg #[.int .i64 D.nodes, .int .i64 D.low, .slice A n c, .slice iA im ic, .slice lA lm lc]] w fun e w' => e = .returned (.bool true) ∧ Below w.heap.size w w' := by
  have HL := Lib.hid hl
  have HI := Lib.hid hi
  have him : im ≤ 9223372036854775807 := hi.2.1
  have hN := hl.1
  have HN := Lib.hid hN
  clear hl hi hN
  go_enter Try.func3, Try.ntmps3
  go_wp2_with (go_at_call 15; refine (law15_heavy _ _ _ _ _ D.certs _ _ _ _ _ _ _ (HL.out.up (by (repeat (first | (with_reducible exact Below.refl _ _) | (with_reducible assumption) | (with_reducible apply bel_alloc) | (with_reducible apply bel_drew) | (with_reducible apply bel_drewN) | (with_reducible refine bel_trans ?_ (by with_reducible assumption)) | (with_reducible refine bel_trans ?_ (HF.out _)) | (with_reducible refine bel_set ?_ (by simp) _) | (with_reducible refine bel_set ?_ (by simp; omega) _) | (with_reducible refine bel_set ?_ (by omega) _)))))).mono ?_; rintro e w1 ⟨⟨x, rfl⟩, hb1⟩; have hz_w1 : w.heap.size + 1 ≤ w1.heap.size := (by have hq := (hb1).size; (try simp at hq); omega); have hc0_w1 := fun o => (bcell hb1).1 (w.heap.size) o (by first | (simp; done) | (simp; omega) | omega))
  all_goals first
    | (go_ret; exact ⟨rfl, by (repeat (first | (with_reducible exact Below.refl _ _) | (with_reducible assumption) | (with_reducible apply bel_alloc) | (with_reducible apply bel_drew) | (with_reducible apply bel_drewN) | (with_reducible refine bel_trans ?_ (by with_reducible assumption)) | (with_reducible refine bel_trans ?_ (HF.out _)) | (with_reducible refine bel_set ?_ (by simp) _) | (with_reducible refine bel_set ?_ (by simp; omega) _) | (with_reducible refine bel_set ?_ (by omega) _)))⟩)
    | skip
  refine (ref14_May A n c D _ (HL.out.up (by (repeat (first | (with_reducible exact Below.refl _ _) | (with_reducible assumption) | (with_reducible apply bel_alloc) | (with_reducible apply bel_drew) | (with_reducible apply bel_drewN) | (with_reducible refine bel_trans ?_ (by with_reducible assumption)) | (with_reducible refine bel_trans ?_ (HF.out _)) | (with_reducible refine bel_set ?_ (by simp) _) | (with_reducible refine bel_set ?_ (by simp; omega) _) | (with_reducible refine bel_set ?_ (by omega) _)))))).mono ?_
  rintro e w2 ⟨rfl, hb2⟩
  rw [may_eq]
  have hB0 : BoxR w2 w.heap.size [.int .i64 D.nodes, .int .i64 D.low, .slice A n c, .slice iA im ic, .slice lA lm lc] := ((BoxR.new w [.int .i64 D.nodes, .int .i64 D.low, .slice A n c, .slice iA im ic, .slice lA lm lc] 27).up hb1).up hb2
  have hbw2 : Below w.heap.size w w2 := by (repeat (first | (with_reducible exact Below.refl _ _) | (with_reducible assumption) | (with_reducible apply bel_alloc) | (with_reducible apply bel_drew) | (with_reducible apply bel_drewN) | (with_reducible refine bel_trans ?_ (by with_reducible assumption)) | (with_reducible refine bel_trans ?_ (HF.out _)) | (with_reducible refine bel_set ?_ (by simp) _) | (with_reducible refine bel_set ?_ (by simp; omega) _) | (with_reducible refine bel_set ?_ (by omega) _)))
  have hsz2 : w.heap.size + 1 ≤ w2.heap.size := hB0.1
  cases hm : mayS D
  · have HM := Lib.hid hm; clear hm
    go_wp2_with fail
    go_loopw [4] (fun ix wr => ∃ i : Nat, i ≤ im ∧ ix = .int .i64 i ∧ Below w.heap.size w wr ∧ BoxR wr w.heap.size [.int .i64 D.nodes, .int .i64 D.low, .slice A n c, .slice iA im ic, .slice lA lm lc]) (fun ix _ => im - (intOf ix).toNat)
    case atStart => exact ⟨0, Nat.zero_le _, rfl, hbw2, hB0⟩
    case round =>
      clear hB0 hbw2 hsz2
      obtain ⟨i, hi, rfl, hbw, hB⟩ := hrel
      have b_0 := (hB).2 0 _ rfl; have b_1 := (hB).2 1 _ rfl; have b_2 := (hB).2 2 _ rfl; have b_3 := (hB).2 3 _ rfl; have b_4 := (hB).2 4 _ rfl
      by_cases hlt : i < im
      · go_wp2_with fail
        go_loopw [5] (fun ix wr => ∃ k : Nat, k ≤ im ∧ ix = .int .i64 k ∧ Below w.heap.size w wr ∧ BoxR wr w.heap.size [.int .i64 D.nodes, .int .i64 D.low, .slice A n c, .slice iA im ic, .slice lA lm lc]) (fun ix _ => im - (intOf ix).toNat)
        case atStart => exact ⟨0, Nat.zero_le _, rfl, hbw, hB⟩
        case round =>
          clear hB hbw b_0 b_1 b_2 b_3 b_4
          obtain ⟨k, hk, rfl, hbw, hB⟩ := hrel
          have b_0 := (hB).2 0 _ rfl; have b_1 := (hB).2 1 _ rfl; have b_2 := (hB).2 2 _ rfl; have b_3 := (hB).2 3 _ rfl; have b_4 := (hB).2 4 _ rfl
          by_cases hlt2 : k < im
          · obtain ⟨b2, off2, rfl, hb2', hcc⟩ := (HI.out.up hbw).2.2 (Nat.lt_of_le_of_lt (Nat.zero_le k) hlt2)
            have hci := hcc i hlt
            have hck := hcc k hlt2
            clear hcc
            have hbx : b2 < wr.heap.size := by assumption
            go_wp2_with fail
            refine wp_region_fam (by kernel_rfl) (by kernel_rfl) (fun ι F hne hF hcl => ?_)
            have hcF0 := fun n o => (bcell (hF n)).1 (b2) o (by first | (simp; done) | (simp; omega) | omega)
            have byF := fun n => (hB).up (w' := F n) (by (repeat (first | (with_reducible exact Below.refl _ _) | (with_reducible assumption) | (with_reducible apply bel_alloc) | (with_reducible apply bel_drew) | (with_reducible apply bel_drewN) | (with_reducible refine bel_trans ?_ (by with_reducible assumption)) | (with_reducible refine bel_trans ?_ (hF _)) | (with_reducible refine bel_set ?_ (by simp) _) | (with_reducible refine bel_set ?_ (by simp; omega) _) | (with_reducible refine bel_set ?_ (by omega) _))))
            have byF_0 := fun n => (byF n).2 0 _ rfl
            have byF_1 := fun n => (byF n).2 1 _ rfl
            have byF_2 := fun n => (byF n).2 2 _ rfl
            have byF_3 := fun n => (byF n).2 3 _ rfl
            have byF_4 := fun n => (byF n).2 4 _ rfl
            clear byF
            have HF := Lib.hid hF; clear hF
            have HC := Lib.hid hcl; clear hcl
            repeat (any_goals (first
             | go_big_quiet_step (first | (fail))
             | (refine wpQuiet_guard _ _ _ rfl rfl ?_; (fail_if_success (intro b' hb; have h2 := hb.symm; have : b' = true := h2.trans (by with_reducible rfl))); (fail_if_success (intro b' hb; have h2 := hb.symm; have : b' = false := h2.trans (by with_reducible rfl))); intro b' hb; simp only [hb]; cases b' <;> (try simp only [Bool.not_eq_true', Bool.not_eq_false', decide_eq_true_eq, decide_eq_false_iff_not, Int.not_lt, Int.not_le, Bool.and_eq_true, Bool.or_eq_true, Bool.or_eq_false_iff, beq_iff_eq, beq_eq_false_iff_ne, Int.natCast_pos] at hb))))
            all_goals (refine wpQuiet_nil ?_; intro nq)
            have hFn := HF.out nq
            have hbF : Below w.heap.size w (F nq) := bel_trans hbw hFn
            have hBz := hB.up hFn
            clear hB b_0 b_1 b_2 b_3 b_4
            have bz_0 := (hBz).2 0 _ rfl; have bz_1 := (hBz).2 1 _ rfl; have bz_2 := (hBz).2 2 _ rfl; have bz_3 := (hBz).2 3 _ rfl; have bz_4 := (hBz).2 4 _ rfl
            have hr := reach_bad HM.out (nth Is i) (nth Is k)
            go_wp2_with fail
            refine (path_Reach _ _ _ D _ _ _ (HL.out.up (by (repeat (first | (with_reducible exact Below.refl _ _) | (with_reducible assumption) | (with_reducible apply bel_alloc) | (with_reducible apply bel_drew) | (with_reducible apply bel_drewN) | (with_reducible refine bel_trans ?_ (by with_reducible assumption)) | (with_reducible refine bel_trans ?_ (HF.out _)) | (with_reducible refine bel_set ?_ (by simp) _) | (with_reducible refine bel_set ?_ (by simp; omega) _) | (with_reducible refine bel_set ?_ (by omega) _)))))).mono ?_
            rintro e w7 ⟨rfl, hb7⟩
            rw [hr.1, hr.2]
            have hB7 := hBz.up hb7
            go_wp2_with (go_at_call 20; refine (law15_num _ _).mono ?_; rintro e w' ⟨rfl, rfl⟩)
            (first | (go_round; (case rel => exact ⟨k + 1, by omega, by go_num, by (repeat (first | (with_reducible exact Below.refl _ _) | (with_reducible assumption) | (with_reducible apply bel_alloc) | (with_reducible apply bel_drew) | (with_reducible apply bel_drewN) | (with_reducible refine bel_trans ?_ (by with_reducible assumption)) | (with_reducible refine bel_trans ?_ (HF.out _)) | (with_reducible refine bel_set ?_ (by simp) _) | (with_reducible refine bel_set ?_ (by simp; omega) _) | (with_reducible refine bel_set ?_ (by omega) _))), hB7⟩); (case measure => (simp [intOf] <;> omega))) | (go_roundw; (case rel => exact ⟨k + 1, by omega, by go_num, by (repeat (first | (with_reducible exact Below.refl _ _) | (with_reducible assumption) | (with_reducible apply bel_alloc) | (with_reducible apply bel_drew) | (with_reducible apply bel_drewN) | (with_reducible refine bel_trans ?_ (by with_reducible assumption)) | (with_reducible refine bel_trans ?_ (HF.out _)) | (with_reducible refine bel_set ?_ (by simp) _) | (with_reducible refine bel_set ?_ (by simp; omega) _) | (with_reducible refine bel_set ?_ (by omega) _))), hB7⟩); (case measure => (simp [intOf] <;> omega))) | (refine ⟨?_, by simp [intOf] <;> omega⟩; (repeat apply Exists.intro); refine ⟨?rel, ?fr⟩; (case fr => ((repeat' apply And.intro) <;> rfl)); (case rel => exact ⟨k + 1, by omega, by go_num, by (repeat (first | (with_reducible exact Below.refl _ _) | (with_reducible assumption) | (with_reducible apply bel_alloc) | (with_reducible apply bel_drew) | (with_reducible apply bel_drewN) | (with_reducible refine bel_trans ?_ (by with_reducible assumption)) | (with_reducible refine bel_trans ?_ (HF.out _)) | (with_reducible refine bel_set ?_ (by simp) _) | (with_reducible refine bel_set ?_ (by simp; omega) _) | (with_reducible refine bel_set ?_ (by omega) _))), hB7⟩)))
          · go_wp2_with fail
            (first | (go_round; (case rel => exact ⟨i + 1, by omega, by go_num, hbw, hB⟩); (case measure => (simp [intOf] <;> omega))) | (go_roundw; (case rel => exact ⟨i + 1, by omega, by go_num, hbw, hB⟩); (case measure => (simp [intOf] <;> omega))) | (refine ⟨?_, by simp [intOf] <;> omega⟩; (repeat apply Exists.intro); refine ⟨?rel, ?fr⟩; (case fr => ((repeat' apply And.intro) <;> rfl)); (case rel => exact ⟨i + 1, by omega, by go_num, hbw, hB⟩)))
      · go_wp2_with (go_at_call 21; refine (law15_wakes _).mono ?_; rintro e w3 ⟨rfl, hb3⟩)
        go_ret
        exact ⟨rfl, by (repeat (first | (with_reducible exact Below.refl _ _) | (with_reducible assumption) | (with_reducible apply bel_alloc) | (with_reducible apply bel_drew) | (with_reducible apply bel_drewN) | (with_reducible refine bel_trans ?_ (by with_reducible assumption)) | (with_reducible refine bel_trans ?_ (HF.out _)) | (with_reducible refine bel_set ?_ (by simp) _) | (with_reducible refine bel_set ?_ (by simp; omega) _) | (with_reducible refine bel_set ?_ (by omega) _)))⟩
  · have HM := Lib.hid hm; clear hm
    go_wp2_with fail
    go_loopw [4] (fun ix wr => ∃ i : Nat, i ≤ im ∧ ix = .int .i64 i ∧ Below w.heap.size w wr ∧ BoxR wr w.heap.size [.int .i64 D.nodes, .int .i64 D.low, .slice A n c, .slice iA im ic, .slice lA lm lc]) (fun ix _ => im - (intOf ix).toNat)
    case atStart => exact ⟨0, Nat.zero_le _, rfl, hbw2, hB0⟩
    case round =>
      clear hB0 hbw2 hsz2
      obtain ⟨i, hi, rfl, hbw, hB⟩ := hrel
      have b_0 := (hB).2 0 _ rfl; have b_1 := (hB).2 1 _ rfl; have b_2 := (hB).2 2 _ rfl; have b_3 := (hB).2 3 _ rfl; have b_4 := (hB).2 4 _ rfl
      by_cases hlt : i < im
      · go_wp2_with fail
        go_loopw [5] (fun ix wr => ∃ k : Nat, k ≤ im ∧ ix = .int .i64 k ∧ Below w.heap.size w wr ∧ BoxR wr w.heap.size [.int .i64 D.nodes, .int .i64 D.low, .slice A n c, .slice iA im ic, .slice lA lm lc]) (fun ix _ => im - (intOf ix).toNat)
        case atStart => exact ⟨0, Nat.zero_le _, rfl, hbw, hB⟩
        case round =>
          clear hB hbw b_0 b_1 b_2 b_3 b_4
          obtain ⟨k, hk, rfl, hbw, hB⟩ := hrel
          have b_0 := (hB).2 0 _ rfl; have b_1 := (hB).2 1 _ rfl; have b_2 := (hB).2 2 _ rfl; have b_3 := (hB).2 3 _ rfl; have b_4 := (hB).2 4 _ rfl
          by_cases hlt2 : k < im
          · obtain ⟨b2, off2, rfl, hb2', hcc⟩ := (HI.out.up hbw).2.2 (Nat.lt_of_le_of_lt (Nat.zero_le k) hlt2)
            have hci := hcc i hlt
            have hck := hcc k hlt2
            clear hcc
            have hbx : b2 < wr.heap.size := by assumption
            go_wp2_with fail
            refine wp_region_fam (by kernel_rfl) (by kernel_rfl) (fun ι F hne hF hcl => ?_)
            have hcF0 := fun n o => (bcell (hF n)).1 (b2) o (by first | (simp; done) | (simp; omega) | omega)
            have byF := fun n => (hB).up (w' := F n) (by (repeat (first | (with_reducible exact Below.refl _ _) | (with_reducible assumption) | (with_reducible apply bel_alloc) | (with_reducible apply bel_drew) | (with_reducible apply bel_drewN) | (with_reducible refine bel_trans ?_ (by with_reducible assumption)) | (with_reducible refine bel_trans ?_ (hF _)) | (with_reducible refine bel_set ?_ (by simp) _) | (with_reducible refine bel_set ?_ (by simp; omega) _) | (with_reducible refine bel_set ?_ (by omega) _))))
            have byF_0 := fun n => (byF n).2 0 _ rfl
            have byF_1 := fun n => (byF n).2 1 _ rfl
            have byF_2 := fun n => (byF n).2 2 _ rfl
            have byF_3 := fun n => (byF n).2 3 _ rfl
            have byF_4 := fun n => (byF n).2 4 _ rfl
            clear byF
            have HF := Lib.hid hF; clear hF
            have HC := Lib.hid hcl; clear hcl
            repeat (any_goals (first
             | go_big_quiet_step (first | (fail))
             | (refine wpQuiet_guard _ _ _ rfl rfl ?_; (fail_if_success (intro b' hb; have h2 := hb.symm; have : b' = true := h2.trans (by with_reducible rfl))); (fail_if_success (intro b' hb; have h2 := hb.symm; have : b' = false := h2.trans (by with_reducible rfl))); intro b' hb; simp only [hb]; cases b' <;> (try simp only [Bool.not_eq_true', Bool.not_eq_false', decide_eq_true_eq, decide_eq_false_iff_not, Int.not_lt, Int.not_le, Bool.and_eq_true, Bool.or_eq_true, Bool.or_eq_false_iff, beq_iff_eq, beq_eq_false_iff_ne, Int.natCast_pos] at hb))))
            all_goals (refine wpQuiet_nil ?_; intro nq)
            have hFn := HF.out nq
            have hbF : Below w.heap.size w (F nq) := bel_trans hbw hFn
            have hBz := hB.up hFn
            clear hB b_0 b_1 b_2 b_3 b_4
            have bz_0 := (hBz).2 0 _ rfl; have bz_1 := (hBz).2 1 _ rfl; have bz_2 := (hBz).2 2 _ rfl; have bz_3 := (hBz).2 3 _ rfl; have bz_4 := (hBz).2 4 _ rfl
            rcases findS_cases D.certs (nth Is i) with ⟨ea, _⟩ | ⟨ia, _, ea, _⟩
            · have hr := reach_none HM.out (a := nth Is i) (b := nth Is k) (.inl (by omega))
              have EA := Lib.hid ea; clear ea
              go_wp2_with fail
              refine (ref14_Find _ _ _ D.certs _ _ _ _ (HL.out.up (by (repeat (first | (with_reducible exact Below.refl _ _) | (with_reducible assumption) | (with_reducible apply bel_alloc) | (with_reducible apply bel_drew) | (with_reducible apply bel_drewN) | (with_reducible refine bel_trans ?_ (by with_reducible assumption)) | (with_reducible refine bel_trans ?_ (HF.out _)) | (with_reducible refine bel_set ?_ (by simp) _) | (with_reducible refine bel_set ?_ (by simp; omega) _) | (with_reducible refine bel_set ?_ (by omega) _)))))).mono ?_
              rintro e w4 ⟨rfl, hb_w4⟩
              rw [EA.out]
              have hB4 := hBz.up hb_w4
              have bu_0 := (hB4).2 0 _ rfl; have bu_1 := (hB4).2 1 _ rfl; have bu_2 := (hB4).2 2 _ rfl; have bu_3 := (hB4).2 3 _ rfl; have bu_4 := (hB4).2 4 _ rfl
              go_wp2_with fail
              refine (path_Reach _ _ _ D _ _ _ (HL.out.up (by (repeat (first | (with_reducible exact Below.refl _ _) | (with_reducible assumption) | (with_reducible apply bel_alloc) | (with_reducible apply bel_drew) | (with_reducible apply bel_drewN) | (with_reducible refine bel_trans ?_ (by with_reducible assumption)) | (with_reducible refine bel_trans ?_ (HF.out _)) | (with_reducible refine bel_set ?_ (by simp) _) | (with_reducible refine bel_set ?_ (by simp; omega) _) | (with_reducible refine bel_set ?_ (by omega) _)))))).mono ?_
              rintro e w7 ⟨rfl, hb7⟩
              rw [hr.1, hr.2]
              have hB7 := hB4.up hb7
              go_wp2_with (go_at_call 20; refine (law15_num _ _).mono ?_; rintro e w' ⟨rfl, rfl⟩)
              (first | (go_round; (case rel => exact ⟨k + 1, by omega, by go_num, by (repeat (first | (with_reducible exact Below.refl _ _) | (with_reducible assumption) | (with_reducible apply bel_alloc) | (with_reducible apply bel_drew) | (with_reducible apply bel_drewN) | (with_reducible refine bel_trans ?_ (by with_reducible assumption)) | (with_reducible refine bel_trans ?_ (HF.out _)) | (with_reducible refine bel_set ?_ (by simp) _) | (with_reducible refine bel_set ?_ (by simp; omega) _) | (with_reducible refine bel_set ?_ (by omega) _))), hB7⟩); (case measure => (simp [intOf] <;> omega))) | (go_roundw; (case rel => exact ⟨k + 1, by omega, by go_num, by (repeat (first | (with_reducible exact Below.refl _ _) | (with_reducible assumption) | (with_reducible apply bel_alloc) | (with_reducible apply bel_drew) | (with_reducible apply bel_drewN) | (with_reducible refine bel_trans ?_ (by with_reducible assumption)) | (with_reducible refine bel_trans ?_ (HF.out _)) | (with_reducible refine bel_set ?_ (by simp) _) | (with_reducible refine bel_set ?_ (by simp; omega) _) | (with_reducible refine bel_set ?_ (by omega) _))), hB7⟩); (case measure => (simp [intOf] <;> omega))) | (refine ⟨?_, by simp [intOf] <;> omega⟩; (repeat apply Exists.intro); refine ⟨?rel, ?fr⟩; (case fr => ((repeat' apply And.intro) <;> rfl)); (case rel => exact ⟨k + 1, by omega, by go_num, by (repeat (first | (with_reducible exact Below.refl _ _) | (with_reducible assumption) | (with_reducible apply bel_alloc) | (with_reducible apply bel_drew) | (with_reducible apply bel_drewN) | (with_reducible refine bel_trans ?_ (by with_reducible assumption)) | (with_reducible refine bel_trans ?_ (HF.out _)) | (with_reducible refine bel_set ?_ (by simp) _) | (with_reducible refine bel_set ?_ (by simp; omega) _) | (with_reducible refine bel_set ?_ (by omega) _))), hB7⟩)))
            · rcases findS_cases D.certs (nth Is k) with ⟨eb, _⟩ | ⟨ib, _, eb, _⟩
              · have hr := reach_none HM.out (a := nth Is i) (b := nth Is k) (.inr (by omega))
                have EA := Lib.hid ea; clear ea
                have EB := Lib.hid eb; clear eb
                go_wp2_with fail
                refine (ref14_Find _ _ _ D.certs _ _ _ _ (HL.out.up (by (repeat (first | (with_reducible exact Below.refl _ _) | (with_reducible assumption) | (with_reducible apply bel_alloc) | (with_reducible apply bel_drew) | (with_reducible apply bel_drewN) | (with_reducible refine bel_trans ?_ (by with_reducible assumption)) | (with_reducible refine bel_trans ?_ (HF.out _)) | (with_reducible refine bel_set ?_ (by simp) _) | (with_reducible refine bel_set ?_ (by simp; omega) _) | (with_reducible refine bel_set ?_ (by omega) _)))))).mono ?_
                rintro e w4 ⟨rfl, hb_w4⟩
                rw [EA.out]
                have hB4 := hBz.up hb_w4
                have bu_0 := (hB4).2 0 _ rfl; have bu_1 := (hB4).2 1 _ rfl; have bu_2 := (hB4).2 2 _ rfl; have bu_3 := (hB4).2 3 _ rfl; have bu_4 := (hB4).2 4 _ rfl
                go_wp2_with fail
                refine (ref14_Find _ _ _ D.certs _ _ _ _ (HL.out.up (by (repeat (first | (with_reducible exact Below.refl _ _) | (with_reducible assumption) | (with_reducible apply bel_alloc) | (with_reducible apply bel_drew) | (with_reducible apply bel_drewN) | (with_reducible refine bel_trans ?_ (by with_reducible assumption)) | (with_reducible refine bel_trans ?_ (HF.out _)) | (with_reducible refine bel_set ?_ (by simp) _) | (with_reducible refine bel_set ?_ (by simp; omega) _) | (with_reducible refine bel_set ?_ (by omega) _)))))).mono ?_
                rintro e w5 ⟨rfl, hb_w5⟩
                rw [EB.out]
                have hB5 := hB4.up hb_w5
                have bv_0 := (hB5).2 0 _ rfl; have bv_1 := (hB5).2 1 _ rfl; have bv_2 := (hB5).2 2 _ rfl; have bv_3 := (hB5).2 3 _ rfl; have bv_4 := (hB5).2 4 _ rfl
                go_wp2_with fail
                refine (path_Reach _ _ _ D _ _ _ (HL.out.up (by (repeat (first | (with_reducible exact Below.refl _ _) | (with_reducible assumption) | (with_reducible apply bel_alloc) | (with_reducible apply bel_drew) | (with_reducible apply bel_drewN) | (with_reducible refine bel_trans ?_ (by with_reducible assumption)) | (with_reducible refine bel_trans ?_ (HF.out _)) | (with_reducible refine bel_set ?_ (by simp) _) | (with_reducible refine bel_set ?_ (by simp; omega) _) | (with_reducible refine bel_set ?_ (by omega) _)))))).mono ?_
                rintro e w7 ⟨rfl, hb7⟩
                rw [hr.1, hr.2]
                have hB7 := hB5.up hb7
                go_wp2_with (go_at_call 20; refine (law15_num _ _).mono ?_; rintro e w' ⟨rfl, rfl⟩)
                (first | (go_round; (case rel => exact ⟨k + 1, by omega, by go_num, by (repeat (first | (with_reducible exact Below.refl _ _) | (with_reducible assumption) | (with_reducible apply bel_alloc) | (with_reducible apply bel_drew) | (with_reducible apply bel_drewN) | (with_reducible refine bel_trans ?_ (by with_reducible assumption)) | (with_reducible refine bel_trans ?_ (HF.out _)) | (with_reducible refine bel_set ?_ (by simp) _) | (with_reducible refine bel_set ?_ (by simp; omega) _) | (with_reducible refine bel_set ?_ (by omega) _))), hB7⟩); (case measure => (simp [intOf] <;> omega))) | (go_roundw; (case rel => exact ⟨k + 1, by omega, by go_num, by (repeat (first | (with_reducible exact Below.refl _ _) | (with_reducible assumption) | (with_reducible apply bel_alloc) | (with_reducible apply bel_drew) | (with_reducible apply bel_drewN) | (with_reducible refine bel_trans ?_ (by with_reducible assumption)) | (with_reducible refine bel_trans ?_ (HF.out _)) | (with_reducible refine bel_set ?_ (by simp) _) | (with_reducible refine bel_set ?_ (by simp; omega) _) | (with_reducible refine bel_set ?_ (by omega) _))), hB7⟩); (case measure => (simp [intOf] <;> omega))) | (refine ⟨?_, by simp [intOf] <;> omega⟩; (repeat apply Exists.intro); refine ⟨?rel, ?fr⟩; (case fr => ((repeat' apply And.intro) <;> rfl)); (case rel => exact ⟨k + 1, by omega, by go_num, by (repeat (first | (with_reducible exact Below.refl _ _) | (with_reducible assumption) | (with_reducible apply bel_alloc) | (with_reducible apply bel_drew) | (with_reducible apply bel_drewN) | (with_reducible refine bel_trans ?_ (by with_reducible assumption)) | (with_reducible refine bel_trans ?_ (HF.out _)) | (with_reducible refine bel_set ?_ (by simp) _) | (with_reducible refine bel_set ?_ (by simp; omega) _) | (with_reducible refine bel_set ?_ (by omega) _))), hB7⟩)))
              · have hr := reach_ok HM.out ea eb
                have EA := Lib.hid ea; clear ea
                have EB := Lib.hid eb; clear eb
                go_wp2_with fail
                refine (ref14_Find _ _ _ D.certs _ _ _ _ (HL.out.up (by (repeat (first | (with_reducible exact Below.refl _ _) | (with_reducible assumption) | (with_reducible apply bel_alloc) | (with_reducible apply bel_drew) | (with_reducible apply bel_drewN) | (with_reducible refine bel_trans ?_ (by with_reducible assumption)) | (with_reducible refine bel_trans ?_ (HF.out _)) | (with_reducible refine bel_set ?_ (by simp) _) | (with_reducible refine bel_set ?_ (by simp; omega) _) | (with_reducible refine bel_set ?_ (by omega) _)))))).mono ?_
                rintro e w4 ⟨rfl, hb_w4⟩
                rw [EA.out]
                have hB4 := hBz.up hb_w4
                have bu_0 := (hB4).2 0 _ rfl; have bu_1 := (hB4).2 1 _ rfl; have bu_2 := (hB4).2 2 _ rfl; have bu_3 := (hB4).2 3 _ rfl; have bu_4 := (hB4).2 4 _ rfl
                go_wp2_with fail
                refine (ref14_Find _ _ _ D.certs _ _ _ _ (HL.out.up (by (repeat (first | (with_reducible exact Below.refl _ _) | (with_reducible assumption) | (with_reducible apply bel_alloc) | (with_reducible apply bel_drew) | (with_reducible apply bel_drewN) | (with_reducible refine bel_trans ?_ (by with_reducible assumption)) | (with_reducible refine bel_trans ?_ (HF.out _)) | (with_reducible refine bel_set ?_ (by simp) _) | (with_reducible refine bel_set ?_ (by simp; omega) _) | (with_reducible refine bel_set ?_ (by omega) _)))))).mono ?_
                rintro e w5 ⟨rfl, hb_w5⟩
                rw [EB.out]
                have hB5 := hB4.up hb_w5
                have bv_0 := (hB5).2 0 _ rfl; have bv_1 := (hB5).2 1 _ rfl; have bv_2 := (hB5).2 2 _ rfl; have bv_3 := (hB5).2 3 _ rfl; have bv_4 := (hB5).2 4 _ rfl
                go_wp2_with fail
                refine (ref14_Reach _ _ _ D.certs _ _ _ _ ia ib EA.out EB.out _ (HL.out.up (by (repeat (first | (with_reducible exact Below.refl _ _) | (with_reducible assumption) | (with_reducible apply bel_alloc) | (with_reducible apply bel_drew) | (with_reducible apply bel_drewN) | (with_reducible refine bel_trans ?_ (by with_reducible assumption)) | (with_reducible refine bel_trans ?_ (HF.out _)) | (with_reducible refine bel_set ?_ (by simp) _) | (with_reducible refine bel_set ?_ (by simp; omega) _) | (with_reducible refine bel_set ?_ (by omega) _))))) (by have := (may_facts HM.out).2.2.1; rw [HN.out] at this; exact this) (fun k hk => (may_facts HM.out).2.2.2 k (by rw [HN.out]; exact hk)) (may_facts HM.out).1 (may_facts HM.out).2.1).mono ?_
                rintro e w6 ⟨rfl, hb_w6⟩
                have hB6 := hB5.up hb_w6
                have bw_0 := (hB6).2 0 _ rfl; have bw_1 := (hB6).2 1 _ rfl; have bw_2 := (hB6).2 2 _ rfl; have bw_3 := (hB6).2 3 _ rfl; have bw_4 := (hB6).2 4 _ rfl
                go_wp2_with fail
                refine (path_Reach _ _ _ D _ _ _ (HL.out.up (by (repeat (first | (with_reducible exact Below.refl _ _) | (with_reducible assumption) | (with_reducible apply bel_alloc) | (with_reducible apply bel_drew) | (with_reducible apply bel_drewN) | (with_reducible refine bel_trans ?_ (by with_reducible assumption)) | (with_reducible refine bel_trans ?_ (HF.out _)) | (with_reducible refine bel_set ?_ (by simp) _) | (with_reducible refine bel_set ?_ (by simp; omega) _) | (with_reducible refine bel_set ?_ (by omega) _)))))).mono ?_
                rintro e w7 ⟨rfl, hb7⟩
                rw [hr.1, hr.2]
                have hB7 := hB6.up hb7
                go_wp2_with (go_at_call 20; refine (law15_num _ _).mono ?_; rintro e w' ⟨rfl, rfl⟩)
                (first | (go_round; (case rel => exact ⟨k + 1, by omega, by go_num, by (repeat (first | (with_reducible exact Below.refl _ _) | (with_reducible assumption) | (with_reducible apply bel_alloc) | (with_reducible apply bel_drew) | (with_reducible apply bel_drewN) | (with_reducible refine bel_trans ?_ (by with_reducible assumption)) | (with_reducible refine bel_trans ?_ (HF.out _)) | (with_reducible refine bel_set ?_ (by simp) _) | (with_reducible refine bel_set ?_ (by simp; omega) _) | (with_reducible refine bel_set ?_ (by omega) _))), hB7⟩); (case measure => (simp [intOf] <;> omega))) | (go_roundw; (case rel => exact ⟨k + 1, by omega, by go_num, by (repeat (first | (with_reducible exact Below.refl _ _) | (with_reducible assumption) | (with_reducible apply bel_alloc) | (with_reducible apply bel_drew) | (with_reducible apply bel_drewN) | (with_reducible refine bel_trans ?_ (by with_reducible assumption)) | (with_reducible refine bel_trans ?_ (HF.out _)) | (with_reducible refine bel_set ?_ (by simp) _) | (with_reducible refine bel_set ?_ (by simp; omega) _) | (with_reducible refine bel_set ?_ (by omega) _))), hB7⟩); (case measure => (simp [intOf] <;> omega))) | (refine ⟨?_, by simp [intOf] <;> omega⟩; (repeat apply Exists.intro); refine ⟨?rel, ?fr⟩; (case fr => ((repeat' apply And.intro) <;> rfl)); (case rel => exact ⟨k + 1, by omega, by go_num, by (repeat (first | (with_reducible exact Below.refl _ _) | (with_reducible assumption) | (with_reducible apply bel_alloc) | (with_reducible apply bel_drew) | (with_reducible apply bel_drewN) | (with_reducible refine bel_trans ?_ (by with_reducible assumption)) | (with_reducible refine bel_trans ?_ (HF.out _)) | (with_reducible refine bel_set ?_ (by simp) _) | (with_reducible refine bel_set ?_ (by simp; omega) _) | (with_reducible refine bel_set ?_ (by omega) _))), hB7⟩)))
          · go_wp2_with fail
            (first | (go_round; (case rel => exact ⟨i + 1, by omega, by go_num, hbw, hB⟩); (case measure => (simp [intOf] <;> omega))) | (go_roundw; (case rel => exact ⟨i + 1, by omega, by go_num, hbw, hB⟩); (case measure => (simp [intOf] <;> omega))) | (refine ⟨?_, by simp [intOf] <;> omega⟩; (repeat apply Exists.intro); refine ⟨?rel, ?fr⟩; (case fr => ((repeat' apply And.intro) <;> rfl)); (case rel => exact ⟨i + 1, by omega, by go_num, hbw, hB⟩)))
      · go_wp2_with (go_at_call 21; refine (law15_wakes _).mono ?_; rintro e w3 ⟨rfl, hb3⟩)
        go_ret
        exact ⟨rfl, by (repeat (first | (with_reducible exact Below.refl _ _) | (with_reducible assumption) | (with_reducible apply bel_alloc) | (with_reducible apply bel_drew) | (with_reducible apply bel_drewN) | (with_reducible refine bel_trans ?_ (by with_reducible assumption)) | (with_reducible refine bel_trans ?_ (HF.out _)) | (with_reducible refine bel_set ?_ (by simp) _) | (with_reducible refine bel_set ?_ (by simp; omega) _) | (with_reducible refine bel_set ?_ (by omega) _)))⟩
end Go.Proofs.Ythpljlffjbodpaa
