/- The law PathLows: the walk. -/
import Derived.Test.YthpljlffjbodpaaPa
import Derived.Test.YthpljlffjbodpaaR
namespace Go.Proofs.Ythpljlffjbodpaa
open Go.RowKit
set_option linter.unusedSimpArgs false
set_option linter.unusedVariables false

theorem ref14_FindAt (A : Option Addr) (n c : Nat) (l : List CertD) (nodes low x y : Int) (w : World) (hl : CertsR w A n l) (hy : findS l x = y) :
    Calls Try.prog 17 #[.agg #[.int .i64 nodes, .int .i64 low, .slice A n c], .int .i64 x] w fun e w' => e = .returned (.int .i64 y) ∧ Below w.heap.size w w' := hy ▸ ref14_Find A n c l nodes low x w hl
set_option maxRecDepth 100000 in
set_option maxHeartbeats 1000000 in
theorem law_PathLows (A : Option Addr) (n c : Nat) (D : DagD) (iA : Option Addr) (im ic : Nat) (Is : List Int) (lA : Option Addr) (lm lc : Nat) (Lo : List Int) (w : World) (hl : CertsR w A n D.certs) (hi : IntsR w iA im Is) (hL : IntsR w lA lm Lo) :
    Calls Try.prog 6 #[.agg #[.int .i64 D.nodes, .int .i64 D.low, .slice A n c, .slice iA im ic, .slice lA lm lc]] w fun e w' => e = .returned (.bool true) ∧ Below w.heap.size w w' := by
  have HL := Lib.hid hl
  have hN := hl.1
  have HN := Lib.hid hN
  clear hl hi hN hL
  go_enter Try.func6, Try.ntmps6
  go_wp2_with fail
  refine (law15_heavy _ _ _ _ _ D.certs _ _ _ _ _ _ _ (HL.out.up (by (repeat (first | (with_reducible exact Below.refl _ _) | (with_reducible assumption) | (with_reducible apply bel_alloc) | (with_reducible apply bel_drew) | (with_reducible apply bel_drewN) | (with_reducible refine bel_trans ?_ (by with_reducible assumption)) | (with_reducible refine bel_trans ?_ (HF.out _)) | (with_reducible refine bel_set ?_ (by simp) _) | (with_reducible refine bel_set ?_ (by simp; omega) _) | (with_reducible refine bel_set ?_ (by omega) _)))))).mono ?_
  rintro e w1 ⟨⟨x, rfl⟩, hb1⟩
  have hz_w1 : w.heap.size + 1 ≤ w1.heap.size := (by have hq := (hb1).size; (try simp at hq); omega); have hc0_w1 := fun o => (bcell hb1).1 (w.heap.size) o (by first | (simp; done) | (simp; omega) | omega)
  cases x
  case true =>
    go_wp2_with fail
    go_ret
    exact ⟨rfl, by (repeat (first | (with_reducible exact Below.refl _ _) | (with_reducible assumption) | (with_reducible apply bel_alloc) | (with_reducible apply bel_drew) | (with_reducible apply bel_drewN) | (with_reducible refine bel_trans ?_ (by with_reducible assumption)) | (with_reducible refine bel_trans ?_ (HF.out _)) | (with_reducible refine bel_set ?_ (by simp) _) | (with_reducible refine bel_set ?_ (by simp; omega) _) | (with_reducible refine bel_set ?_ (by omega) _)))⟩
  case false =>
    go_wp2_with fail
    refine (ref14_May A n c D _ (HL.out.up (by (repeat (first | (with_reducible exact Below.refl _ _) | (with_reducible assumption) | (with_reducible apply bel_alloc) | (with_reducible apply bel_drew) | (with_reducible apply bel_drewN) | (with_reducible refine bel_trans ?_ (by with_reducible assumption)) | (with_reducible refine bel_trans ?_ (HF.out _)) | (with_reducible refine bel_set ?_ (by simp) _) | (with_reducible refine bel_set ?_ (by simp; omega) _) | (with_reducible refine bel_set ?_ (by omega) _)))))).mono ?_
    rintro e w2 ⟨rfl, hb2⟩
    rw [may_eq]
    have hB0 : BoxR w2 w.heap.size [.int .i64 D.nodes, .int .i64 D.low, .slice A n c, .slice iA im ic, .slice lA lm lc] := ((BoxR.new w [.int .i64 D.nodes, .int .i64 D.low, .slice A n c, .slice iA im ic, .slice lA lm lc] 27).up hb1).up hb2
    have hbw2 : Below w.heap.size w w2 := by (repeat (first | (with_reducible exact Below.refl _ _) | (with_reducible assumption) | (with_reducible apply bel_alloc) | (with_reducible apply bel_drew) | (with_reducible apply bel_drewN) | (with_reducible refine bel_trans ?_ (by with_reducible assumption)) | (with_reducible refine bel_trans ?_ (HF.out _)) | (with_reducible refine bel_set ?_ (by simp) _) | (with_reducible refine bel_set ?_ (by simp; omega) _) | (with_reducible refine bel_set ?_ (by omega) _)))
    clear hc0_w1 hz_w1
    cases hm : mayS D
    · go_wp2_with fail
      go_ret
      exact ⟨rfl, hbw2⟩
    · have hok := mayS_iff.1 hm
      have hd0 : 0 ≤ D.low := hok.2.1
      have hd1 : D.low ≤ 1099511627776 := hok.2.2.1
      have hn : n ≤ 65536 := by have := hok.2.2.2.1; rw [HN.out] at this; exact this
      have HOK := Lib.hid hok; clear hok
      have HM := Lib.hid hm; clear hm
      go_wp2_with fail
      go_loopw [3] (fun ix wr => ∃ i : Nat, i ≤ n ∧ i ≤ 12 ∧ ix = .int .i64 i ∧ Below w2.heap.size w2 wr) (fun ix _ => n - (intOf ix).toNat)
      case atStart => exact ⟨0, Nat.zero_le _, by omega, rfl, Below.refl _ _⟩
      case round =>
        obtain ⟨i, hi, h12, rfl, hbx⟩ := hrel
        (obtain ⟨wi, hwi⟩ : ∃ x, x = wr := ⟨_, rfl⟩); subst hwi
        have hB := hB0.up hbx
        have b_0 := (hB).2 0 _ rfl; have b_1 := (hB).2 1 _ rfl; have b_2 := (hB).2 2 _ rfl; have b_3 := (hB).2 3 _ rfl; have b_4 := (hB).2 4 _ rfl
        by_cases hlt : i < n
        · by_cases hlt2 : i < 12
          · obtain ⟨b, off, rfl, hb, hc⟩ := HL.out.2.2 (by omega)
            obtain ⟨p, hat, hcr⟩ := hc i hlt
            have hbw : Below w.heap.size w wi := bel_trans hbw2 hbx
            obtain ⟨c0, c1, c2, c3, c4, c5⟩ := hat.up hbw hb
            obtain ⟨⟨⟨bA, bn, bc⟩, ⟨pA, pn, pc⟩⟩, ⟨sA, sn, sc⟩⟩ := p
            dsimp only at c0 c1 c2 c3 c4 c5
            have hin : i < D.certs.length := by rw [HN.out]; exact hlt
            have hro := mayS_ro HM.out hin
            have hr1 : 1 ≤ (cth D.certs i).h.ro := hro.1
            have hr2 : (cth D.certs i).h.ro ≤ 1099511627776 := hro.2
            have hlt0 : w.heap.size < wi.heap.size := hB.1
            have hlo := lows_ok HOK.out hin
            have hea := HOK.out.dist.find hin
            have hq := fun low => below_ok HM.out low hea
            have HQ := Lib.hid hq
            have HEA := Lib.hid hea
            have HCC := Lib.hid hc
            clear hc hat hcr hro hq hea
            go_wp2_with fail
            refine (path_Below _ _ _ D _ _ _ (HL.out.up (by (repeat (first | (with_reducible exact Below.refl _ _) | (with_reducible assumption) | (with_reducible apply bel_alloc) | (with_reducible apply bel_drew) | (with_reducible apply bel_drewN) | (with_reducible refine bel_trans ?_ (by with_reducible assumption)) | (with_reducible refine bel_trans ?_ (HF.out _)) | (with_reducible refine bel_set ?_ (by simp) _) | (with_reducible refine bel_set ?_ (by simp; omega) _) | (with_reducible refine bel_set ?_ (by omega) _)))))).mono ?_
            rintro e w3 ⟨v, rfl, hown, hb3⟩
            rw [(HQ.out 0).2]
            rw [(HQ.out _).1] at hown
            have hA3 := (BoxR.new wi [.int .i64 (cth D.certs i).h.au, .int .i64 (cth D.certs i).h.ro, .slice bA bn bc, .slice pA pn pc, .int .i64 (cth D.certs i).di, .slice sA sn sc] 49).up hb3
            have hB3 := (hB.up (w' := wi.alloc _) (by (repeat (first | (with_reducible exact Below.refl _ _) | (with_reducible assumption) | (with_reducible apply bel_alloc) | (with_reducible apply bel_drew) | (with_reducible apply bel_drewN) | (with_reducible refine bel_trans ?_ (by with_reducible assumption)) | (with_reducible refine bel_trans ?_ (HF.out _)) | (with_reducible refine bel_set ?_ (by simp) _) | (with_reducible refine bel_set ?_ (by simp; omega) _) | (with_reducible refine bel_set ?_ (by omega) _))))).up hb3
            obtain ⟨all, hall⟩ : ∃ all, all = belowS D.certs D.low D.low i := ⟨_, rfl⟩
            rw [← hall] at hown hlo
            have HALL := Lib.hid hall; clear hall
            obtain ⟨m, hm⟩ : ∃ m, all.length = m + 1 := ⟨all.length - 1, by have := hlo.pos; omega⟩
            have hmn : m + 1 ≤ n := by have := hlo.len; rw [HN.out, hm] at this; exact this
            obtain ⟨aA, ac, rfl, hint, _⟩ := hown.ints (by omega)
            rw [hm] at hint ⊢
            have hlast := hlo.last
            rw [hm, Nat.add_sub_cancel] at hlast
            have HLO := Lib.hid hlo
            have HMM := Lib.hid hm
            have HINT := Lib.hid hint
            clear hlo hm hint hown c0 c1 c2 c3 c4 c5
            obtain ⟨ab, aoff, rfl, hab, hac⟩ := HINT.out.2.2 (by omega)
            have hlc := hac m (by omega)
            have hne : (nth all m != (cth D.certs i).di) = false := by simp [hlast]
            have hne0 : (((m : Int) + 1) == 0) = false := by simp; omega
            have HAC := Lib.hid hac
            clear hac hlast b_0 b_1 b_2 b_3 b_4
            have b_0 := (hB3).2 0 _ rfl; have b_1 := (hB3).2 1 _ rfl; have b_2 := (hB3).2 2 _ rfl; have b_3 := (hB3).2 3 _ rfl; have b_4 := (hB3).2 4 _ rfl
            have a_0 := (hA3).2 0 _ rfl; have a_1 := (hA3).2 1 _ rfl; have a_2 := (hA3).2 2 _ rfl; have a_3 := (hA3).2 3 _ rfl; have a_4 := (hA3).2 4 _ rfl; have a_5 := (hA3).2 5 _ rfl
            have hgw : wi.heap.size < w3.heap.size := hA3.1
            have hgw2 : w.heap.size < w3.heap.size := hB3.1
            go_wp2_with fail
            refine wp_region_fam (by kernel_rfl) (by kernel_rfl) (fun ι F hne hF hcl => ?_)
            have hcF0 := fun n o => (bcell (hF n)).1 (ab) o (by first | (simp; done) | (simp; omega) | omega)
            have hcF1 := fun n o => (bcell (hF n)).1 (wi.heap.size) o (by first | (simp; done) | (simp; omega) | omega)
            have hcF2 := fun n o => (bcell (hF n)).1 (w.heap.size) o (by first | (simp; done) | (simp; omega) | omega)
            have HF := Lib.hid hF; clear hF
            have HC := Lib.hid hcl; clear hcl
            repeat (any_goals (first
             | go_big_quiet_step (first | (go_at_call 20; exact Calls.fam_same (law15_num _ _)))
             | (refine wpQuiet_guard _ _ _ rfl rfl ?_; (fail_if_success (intro b' hb; have h2 := hb.symm; have : b' = true := h2.trans (by with_reducible rfl))); (fail_if_success (intro b' hb; have h2 := hb.symm; have : b' = false := h2.trans (by with_reducible rfl))); intro b' hb; simp only [hb]; cases b' <;> (try simp only [Bool.not_eq_true', Bool.not_eq_false', decide_eq_true_eq, decide_eq_false_iff_not, Int.not_lt, Int.not_le, Bool.and_eq_true, Bool.or_eq_true, Bool.or_eq_false_iff, beq_iff_eq, beq_eq_false_iff_ne, Int.natCast_pos] at hb))))
            all_goals (refine wpQuiet_nil ?_; intro nq)
            have hFwf := HF.out nq
            clear HF HC hne
            generalize F nq = wf at *
            clear hcF0 hcF1 hcF2 hne0 hlc hne
            have hB4 := hB3.up hFwf
            have hA4 := hA3.up hFwf
            have hab4 : ab < wf.heap.size := Nat.lt_of_lt_of_le hab hFwf.size
            clear b_0 b_1 b_2 b_3 b_4 a_0 a_1 a_2 a_3 a_4 a_5
            have b_0 := (hB4).2 0 _ rfl; have b_1 := (hB4).2 1 _ rfl; have b_2 := (hB4).2 2 _ rfl; have b_3 := (hB4).2 3 _ rfl; have b_4 := (hB4).2 4 _ rfl
            have a_0 := (hA4).2 0 _ rfl; have a_1 := (hA4).2 1 _ rfl; have a_2 := (hA4).2 2 _ rfl; have a_3 := (hA4).2 3 _ rfl; have a_4 := (hA4).2 4 _ rfl; have a_5 := (hA4).2 5 _ rfl
            have hb3' := hb3
            have hbF : Below w2.heap.size w2 wf := bel_trans (bel_trans (bel_alloc hbx) hb3) hFwf
            have hbwF : Below w.heap.size w wf := bel_trans hbw2 hbF
            go_wp2_with fail
            go_loopw [7] (fun ix wr => ∃ low : Int, D.low ≤ low ∧ low ≤ D.low + 30 ∧ ix = .int .i64 low ∧ Below wf.heap.size wf wr) (fun ix _ => (D.low + 30 - intOf ix).toNat)
            case atStart => exact ⟨D.low, Int.le_refl _, by omega, rfl, Below.refl _ _⟩
            case round =>
              clear b_0 b_1 b_2 b_3 b_4 a_0 a_1 a_2 a_3 a_4 a_5
              obtain ⟨low, hlo1, hlo2, rfl, hby⟩ := hrel
              (obtain ⟨wx, hwx⟩ : ∃ x, x = wr := ⟨_, rfl⟩); subst hwx
              have hB5 := hB4.up hby
              have hA5 := hA4.up hby
              have b_0 := (hB5).2 0 _ rfl; have b_1 := (hB5).2 1 _ rfl; have b_2 := (hB5).2 2 _ rfl; have b_3 := (hB5).2 3 _ rfl; have b_4 := (hB5).2 4 _ rfl
              have a_0 := (hA5).2 0 _ rfl; have a_1 := (hA5).2 1 _ rfl; have a_2 := (hA5).2 2 _ rfl; have a_3 := (hA5).2 3 _ rfl; have a_4 := (hA5).2 4 _ rfl; have a_5 := (hA5).2 5 _ rfl
              have hbw5 : Below w.heap.size w wx := bel_trans hbwF hby
              by_cases hc1 : low ≤ (cth D.certs i).h.ro
              · by_cases hc2 : low < D.low + 30
                · go_wp2_with fail
                  refine (path_Below _ _ _ D _ _ _ (HL.out.up hbw5)).mono ?_
                  rintro e w5 ⟨v, rfl, hown5, hb5⟩
                  rw [(HQ.out 0).2]
                  rw [(HQ.out _).1, lows_up HOK.out i hlo1, ← HALL.out] at hown5
                  obtain ⟨l, hl⟩ : ∃ l, l = all.filter (upB D.certs low) := ⟨_, rfl⟩
                  have hll : l.length ≤ m + 1 := by rw [hl, ← HMM.out]; exact List.length_filter_le _ _
                  rw [← hl] at hown5
                  have HLL := Lib.hid hl; clear hl
                  obtain ⟨xA, xc, rfl, hintl, _⟩ := hown5.ints (by omega)
                  obtain ⟨n2, hn2⟩ : ∃ n2, n2 = l.length := ⟨_, rfl⟩
                  rw [← hn2] at hintl hll ⊢
                  have HN2 := Lib.hid hn2; clear hn2
                  have HIL := Lib.hid hintl
                  clear hintl hown5 b_0 b_1 b_2 b_3 b_4 a_0 a_1 a_2 a_3 a_4 a_5
                  have hB6 := hB5.up hb5
                  have hA6 := hA5.up hb5
                  have hb46 : Below wf.heap.size wf w5 := bel_trans hby hb5
                  go_wp2_with (go_at_call 20; refine (law15_num _ _).mono ?_; rintro e w' ⟨rfl, rfl⟩)
                  go_loopw [10, 11] (fun ia ik wr => ∃ k : Nat, k ≤ m + 1 ∧ ia = .int .i64 (cntB (upB D.certs low) all k : Nat) ∧ ik = .int .i64 k ∧ Below w5.heap.size w5 wr) (fun _ ik _ => m + 1 - (intOf ik).toNat)
                  case atStart => exact ⟨0, Nat.zero_le _, by rw [cntB_zero]; rfl, rfl, Below.refl _ _⟩
                  case round =>
                    obtain ⟨k, hk, rfl, rfl, hbz⟩ := hrel
                    (obtain ⟨wy, hwy⟩ : ∃ x, x = wr := ⟨_, rfl⟩); subst hwy
                    have hB7 := hB6.up hbz
                    have hA7 := hA6.up hbz
                    have hbw7 : Below w.heap.size w wy := bel_trans (bel_trans hbwF hb46) hbz
                    have hb37 : Below w3.heap.size w3 wy := bel_trans (bel_trans hFwf hb46) hbz
                    have b_0 := (hB7).2 0 _ rfl; have b_1 := (hB7).2 1 _ rfl; have b_2 := (hB7).2 2 _ rfl; have b_3 := (hB7).2 3 _ rfl; have b_4 := (hB7).2 4 _ rfl
                    have a_0 := (hA7).2 0 _ rfl; have a_1 := (hA7).2 1 _ rfl; have a_2 := (hA7).2 2 _ rfl; have a_3 := (hA7).2 3 _ rfl; have a_4 := (hA7).2 4 _ rfl; have a_5 := (hA7).2 5 _ rfl
                    have hab7 : ab < wy.heap.size := Nat.lt_of_lt_of_le hab hb37.size
                    have hg7 : w.heap.size < wy.heap.size := hB7.1
                    have hg8 : b < wy.heap.size := Nat.lt_of_lt_of_le hb hbw7.size
                    by_cases hkm : k < m + 1
                    · obtain ⟨q, hq⟩ : ∃ q, q = cntB (upB D.certs low) all k := ⟨_, rfl⟩
                      have hqk : q ≤ k := by rw [hq]; exact cntB_le _ _ _
                      rw [← hq]
                      have HQQ := Lib.hid hq; clear hq
                      obtain ⟨j, hj, hfj, hprev⟩ := HLO.out.find k (by rw [HMM.out]; exact hkm)
                      have HFJ := Lib.hid hfj; clear hfj
                      have HPR := Lib.hid hprev; clear hprev
                      have hjn : j < n := by rw [← HN.out]; exact hj
                      have hcell : ∀ X, Below w3.heap.size w3 X → ∀ k, k < m + 1 → X.cell? ⟨ab, aoff + k, none⟩ = some (.int .i64 (nth all k)) := fun X hX k hk => (hX.cell (p := ⟨ab, aoff + k, none⟩) hab).trans (HAC.out k hk)
                      have HCL := Lib.hid hcell; clear hcell
                      have hk7 := HCL.out wy hb37 k hkm
                      go_wp2_with fail
                      refine wp_region_fam (by kernel_rfl) (by kernel_rfl) (fun ι F hne hF hcl => ?_)
                      have hcF0 := fun n o => (bcell (hF n)).1 (ab) o (by first | (simp; done) | (simp; omega) | omega)
                      have hcF1 := fun n o => (bcell (hF n)).1 (w.heap.size) o (by first | (simp; done) | (simp; omega) | omega)
                      have HF := Lib.hid hF; clear hF
                      have HC := Lib.hid hcl; clear hcl
                      repeat (any_goals (first
                       | go_big_quiet_step (first | (go_at_call 17; exact Calls.fam HC.out (ref14_FindAt _ _ _ D.certs _ _ _ (j : Int) _ (HL.out.up (by (repeat (first | (with_reducible exact Below.refl _ _) | (with_reducible assumption) | (with_reducible apply bel_alloc) | (with_reducible apply bel_drew) | (with_reducible apply bel_drewN) | (with_reducible refine bel_trans ?_ (by with_reducible assumption)) | (with_reducible refine bel_trans ?_ (HF.out _)) | (with_reducible refine bel_set ?_ (by simp) _) | (with_reducible refine bel_set ?_ (by simp; omega) _) | (with_reducible refine bel_set ?_ (by omega) _))))) HFJ.out)))
                       | (refine wpQuiet_guard _ _ _ rfl rfl ?_; (fail_if_success (intro b' hb; have h2 := hb.symm; have : b' = true := h2.trans (by with_reducible rfl))); (fail_if_success (intro b' hb; have h2 := hb.symm; have : b' = false := h2.trans (by with_reducible rfl))); intro b' hb; simp only [hb]; cases b' <;> (try simp only [Bool.not_eq_true', Bool.not_eq_false', decide_eq_true_eq, decide_eq_false_iff_not, Int.not_lt, Int.not_le, Bool.and_eq_true, Bool.or_eq_true, Bool.or_eq_false_iff, beq_iff_eq, beq_eq_false_iff_ne, Int.natCast_pos] at hb))))
                      all_goals (refine wpQuiet_nil ?_; intro nq)
                      have hFwq := HF.out nq
                      clear HF HC hne
                      generalize F nq = wq at *
                      clear hcF0 hcF1 hk7 b_0 b_1 b_2 b_3 b_4 a_0 a_1 a_2 a_3 a_4 a_5
                      have hB8 := hB7.up hFwq
                      have hbw8 : Below w.heap.size w wq := bel_trans hbw7 hFwq
                      have hb38 : Below w3.heap.size w3 wq := bel_trans hb37 hFwq
                      have b_0 := (hB8).2 0 _ rfl; have b_1 := (hB8).2 1 _ rfl; have b_2 := (hB8).2 2 _ rfl; have b_3 := (hB8).2 3 _ rfl; have b_4 := (hB8).2 4 _ rfl
                      have hk8 := HCL.out wq hb38 k hkm
                      have hk8' := HCL.out wq hb38 (k - 1) (by omega)
                      have hab8 : ab < wq.heap.size := Nat.lt_of_lt_of_le hab hb38.size
                      have hg9 : w.heap.size < wq.heap.size := hB8.1
                      have hj0 : decide ((j : Int) < 0) = false := by simp
                      by_cases h0 : 0 < k
                      case' pos =>
                        obtain ⟨j', hjj, hfj'⟩ := HPR.out h0
                        have HFJ2 := Lib.hid hfj'; clear hfj'
                        have hge1 : decide ((j : Int) ≤ (j' : Int)) = false := by simp; omega
                        have hge2 : decide (j ≤ j') = false := by simp; omega
                        go_wp2_with fail
                        refine wp_region_fam (by kernel_rfl) (by kernel_rfl) (fun ι F hne hF hcl => ?_)
                        have hcF0 := fun n o => (bcell (hF n)).1 (ab) o (by first | (simp; done) | (simp; omega) | omega)
                        have hcF1 := fun n o => (bcell (hF n)).1 (w.heap.size) o (by first | (simp; done) | (simp; omega) | omega)
                        have HF := Lib.hid hF; clear hF
                        have HC := Lib.hid hcl; clear hcl
                        repeat (any_goals (first
                         | go_big_quiet_step (first | (go_at_call 17; exact Calls.fam HC.out (ref14_FindAt _ _ _ D.certs _ _ _ (j' : Int) _ (HL.out.up (by (repeat (first | (with_reducible exact Below.refl _ _) | (with_reducible assumption) | (with_reducible apply bel_alloc) | (with_reducible apply bel_drew) | (with_reducible apply bel_drewN) | (with_reducible refine bel_trans ?_ (by with_reducible assumption)) | (with_reducible refine bel_trans ?_ (HF.out _)) | (with_reducible refine bel_set ?_ (by simp) _) | (with_reducible refine bel_set ?_ (by simp; omega) _) | (with_reducible refine bel_set ?_ (by omega) _))))) HFJ2.out)))
                         | (refine wpQuiet_guard _ _ _ rfl rfl ?_; (fail_if_success (intro b' hb; have h2 := hb.symm; have : b' = true := h2.trans (by with_reducible rfl))); (fail_if_success (intro b' hb; have h2 := hb.symm; have : b' = false := h2.trans (by with_reducible rfl))); intro b' hb; simp only [hb]; cases b' <;> (try simp only [Bool.not_eq_true', Bool.not_eq_false', decide_eq_true_eq, decide_eq_false_iff_not, Int.not_lt, Int.not_le, Bool.and_eq_true, Bool.or_eq_true, Bool.or_eq_false_iff, beq_iff_eq, beq_eq_false_iff_ne, Int.natCast_pos] at hb))))
                        all_goals (refine wpQuiet_nil ?_; intro nq)
                        have hFws := HF.out nq
                        clear HF HC hne
                        generalize F nq = ws at *
                        clear hcF0 hcF1 hge1 hge2
                      case' neg =>
                        have hk0 : decide (0 < k) = false := by simpa using h0
                        have hk1 : decide ((0 : Int) < (k : Int)) = false := by simpa using h0
                        go_wp2_with fail
                        refine wp_region_fam (by kernel_rfl) (by kernel_rfl) (fun ι F hne hF hcl => ?_)
                        have hcF0 := fun n o => (bcell (hF n)).1 (ab) o (by first | (simp; done) | (simp; omega) | omega)
                        have hcF1 := fun n o => (bcell (hF n)).1 (w.heap.size) o (by first | (simp; done) | (simp; omega) | omega)
                        have HF := Lib.hid hF; clear hF
                        have HC := Lib.hid hcl; clear hcl
                        repeat (any_goals (first
                         | go_big_quiet_step (first | (fail))
                         | (refine wpQuiet_guard _ _ _ rfl rfl ?_; (fail_if_success (intro b' hb; have h2 := hb.symm; have : b' = true := h2.trans (by with_reducible rfl))); (fail_if_success (intro b' hb; have h2 := hb.symm; have : b' = false := h2.trans (by with_reducible rfl))); intro b' hb; simp only [hb]; cases b' <;> (try simp only [Bool.not_eq_true', Bool.not_eq_false', decide_eq_true_eq, decide_eq_false_iff_not, Int.not_lt, Int.not_le, Bool.and_eq_true, Bool.or_eq_true, Bool.or_eq_false_iff, beq_iff_eq, beq_eq_false_iff_ne, Int.natCast_pos] at hb))))
                        all_goals (refine wpQuiet_nil ?_; intro nq)
                        have hFws := HF.out nq
                        clear HF HC hne
                        generalize F nq = ws at *
                        clear hcF0 hcF1 hk0 hk1
                      all_goals
                        clear hk8 hk8' b_0 b_1 b_2 b_3 b_4 hj0
                        have hB9 := hB8.up hFws
                        have hbw9 : Below w.heap.size w ws := bel_trans hbw8 hFws
                        have hb39 : Below w3.heap.size w3 ws := bel_trans hb38 hFws
                        have b_0 := (hB9).2 0 _ rfl; have b_1 := (hB9).2 1 _ rfl; have b_2 := (hB9).2 2 _ rfl; have b_3 := (hB9).2 3 _ rfl; have b_4 := (hB9).2 4 _ rfl
                        have hk9 := HCL.out ws hb39 k hkm
                        have hab9 : ab < ws.heap.size := Nat.lt_of_lt_of_le hab hb39.size
                        have hcj : ws.cell? ⟨b, off + j * 6 + 1, none⟩ = some (.int .i64 (cth D.certs j).h.ro) := by
                          obtain ⟨pj, hpj, _⟩ := HCC.out j hjn
                          exact (hpj.up hbw9 hb).2.1
                        have hb59 : Below w5.heap.size w5 ws := bel_trans (bel_trans hbz hFwq) hFws
                        by_cases hlow : (cth D.certs j).h.ro ≤ low
                        · go_wp2_with fail
                          (first | (go_round; (case rel => exact ⟨k + 1, by omega, by rw [cntB_no (by rw [HMM.out]; exact hkm) (by rw [upB_of HFJ.out]; simpa using hlow), ← HQQ.out], by go_num, hb59⟩); (case measure => (simp [intOf] <;> omega))) | (go_roundw; (case rel => exact ⟨k + 1, by omega, by rw [cntB_no (by rw [HMM.out]; exact hkm) (by rw [upB_of HFJ.out]; simpa using hlow), ← HQQ.out], by go_num, hb59⟩); (case measure => (simp [intOf] <;> omega))) | (refine ⟨?_, by simp [intOf] <;> omega⟩; (repeat apply Exists.intro); refine ⟨?rel, ?fr⟩; (case fr => ((repeat' apply And.intro) <;> rfl)); (case rel => exact ⟨k + 1, by omega, by rw [cntB_no (by rw [HMM.out]; exact hkm) (by rw [upB_of HFJ.out]; simpa using hlow), ← HQQ.out], by go_num, hb59⟩)))
                        · have hup : upB D.certs low (nth all k) = true := by rw [upB_of HFJ.out]; simp; omega
                          obtain ⟨hat1, hat2⟩ := cntB_at (l := all) (k := k) (by rw [HMM.out]; exact hkm) hup
                          rw [← HLL.out, ← HQQ.out] at hat1 hat2
                          rw [← HN2.out] at hat1
                          obtain ⟨lb, loff, rfl, hlb, hlc⟩ := (HIL.out.up hb59).2.2 (by omega)
                          have hlq := hlc q hat1
                          rw [hat2] at hlq
                          have HUP := Lib.hid hup
                          have hqn1 : decide (n2 ≤ q) = false := by simp; omega
                          have hqn2 : decide ((n2 : Int) ≤ (q : Int)) = false := by simp; omega
                          clear hlc hat2 hup
                          go_wp2_with fail
                          refine wp_region_fam (by kernel_rfl) (by kernel_rfl) (fun ι F hne hF hcl => ?_)
                          have hcF0 := fun n o => (bcell (hF n)).1 (ab) o (by first | (simp; done) | (simp; omega) | omega)
                          have hcF1 := fun n o => (bcell (hF n)).1 (lb) o (by first | (simp; done) | (simp; omega) | omega)
                          have HF := Lib.hid hF; clear hF
                          have HC := Lib.hid hcl; clear hcl
                          repeat (any_goals (first
                           | go_big_quiet_step (first | (fail))
                           | (refine wpQuiet_guard _ _ _ rfl rfl ?_; (fail_if_success (intro b' hb; have h2 := hb.symm; have : b' = true := h2.trans (by with_reducible rfl))); (fail_if_success (intro b' hb; have h2 := hb.symm; have : b' = false := h2.trans (by with_reducible rfl))); intro b' hb; simp only [hb]; cases b' <;> (try simp only [Bool.not_eq_true', Bool.not_eq_false', decide_eq_true_eq, decide_eq_false_iff_not, Int.not_lt, Int.not_le, Bool.and_eq_true, Bool.or_eq_true, Bool.or_eq_false_iff, beq_iff_eq, beq_eq_false_iff_ne, Int.natCast_pos] at hb))))
                          all_goals (refine wpQuiet_nil ?_; intro nq)
                          have hFwt := HF.out nq
                          clear HF HC hne
                          generalize F nq = wt at *
                          go_wp2_with fail
                          (first | (go_round; (case rel => exact ⟨k + 1, by omega, by rw [cntB_yes (by rw [HMM.out]; exact hkm) HUP.out, ← HQQ.out]; go_num, by go_num, bel_trans hb59 hFwt⟩); (case measure => (simp [intOf] <;> omega))) | (go_roundw; (case rel => exact ⟨k + 1, by omega, by rw [cntB_yes (by rw [HMM.out]; exact hkm) HUP.out, ← HQQ.out]; go_num, by go_num, bel_trans hb59 hFwt⟩); (case measure => (simp [intOf] <;> omega))) | (refine ⟨?_, by simp [intOf] <;> omega⟩; (repeat apply Exists.intro); refine ⟨?rel, ?fr⟩; (case fr => ((repeat' apply And.intro) <;> rfl)); (case rel => exact ⟨k + 1, by omega, by rw [cntB_yes (by rw [HMM.out]; exact hkm) HUP.out, ← HQQ.out]; go_num, by go_num, bel_trans hb59 hFwt⟩)))
                    · obtain rfl : k = m + 1 := by omega
                      have hcq : cntB (upB D.certs low) all (m + 1) = n2 := by rw [← HMM.out, cntB_all, ← HLL.out, ← HN2.out]
                      rw [hcq]
                      clear hcq
                      go_wp2_with fail
                      (first | (go_round; (case rel => exact ⟨low + 1, by omega, by omega, rfl, bel_trans hb46 hbz⟩); (case measure => (simp [intOf] <;> omega))) | (go_roundw; (case rel => exact ⟨low + 1, by omega, by omega, rfl, bel_trans hb46 hbz⟩); (case measure => (simp [intOf] <;> omega))) | (refine ⟨?_, by simp [intOf] <;> omega⟩; (repeat apply Exists.intro); refine ⟨?rel, ?fr⟩; (case fr => ((repeat' apply And.intro) <;> rfl)); (case rel => exact ⟨low + 1, by omega, by omega, rfl, bel_trans hb46 hbz⟩)))
                · go_wp2_with fail
                  (first | (go_round; (case rel => exact ⟨i + 1, by omega, by omega, by go_num, bel_trans hbF hby⟩); (case measure => (simp [intOf] <;> omega))) | (go_roundw; (case rel => exact ⟨i + 1, by omega, by omega, by go_num, bel_trans hbF hby⟩); (case measure => (simp [intOf] <;> omega))) | (refine ⟨?_, by simp [intOf] <;> omega⟩; (repeat apply Exists.intro); refine ⟨?rel, ?fr⟩; (case fr => ((repeat' apply And.intro) <;> rfl)); (case rel => exact ⟨i + 1, by omega, by omega, by go_num, bel_trans hbF hby⟩)))
              · go_wp2_with fail
                (first | (go_round; (case rel => exact ⟨i + 1, by omega, by omega, by go_num, bel_trans hbF hby⟩); (case measure => (simp [intOf] <;> omega))) | (go_roundw; (case rel => exact ⟨i + 1, by omega, by omega, by go_num, bel_trans hbF hby⟩); (case measure => (simp [intOf] <;> omega))) | (refine ⟨?_, by simp [intOf] <;> omega⟩; (repeat apply Exists.intro); refine ⟨?rel, ?fr⟩; (case fr => ((repeat' apply And.intro) <;> rfl)); (case rel => exact ⟨i + 1, by omega, by omega, by go_num, bel_trans hbF hby⟩)))
          · go_wp2_with (go_at_call 21; refine (law15_wakes _).mono ?_; rintro e w3 ⟨rfl, hb3⟩)
            go_ret
            exact ⟨rfl, bel_trans (bel_trans hbw2 hbx) hb3⟩
        · go_wp2_with (go_at_call 21; refine (law15_wakes _).mono ?_; rintro e w3 ⟨rfl, hb3⟩)
          go_ret
          exact ⟨rfl, bel_trans (bel_trans hbw2 hbx) hb3⟩
end Go.Proofs.Ythpljlffjbodpaa
