/- The law AnchorChains: the walk. -/
import Derived.Test.YthpljlffjbodpaaCm
import Derived.Test.YthpljlffjbodpaaLb
namespace Go.Proofs.Ythpljlffjbodpaa
open Go.RowKit
set_option linter.unusedSimpArgs false
set_option linter.unusedVariables false

theorem ch_may {D : DagD} {af rr : Int} (h : mayS D = false) : chB D af rr = [] ∧ chE D af rr = 1 := by simp [chB, chE, askS, h]
theorem ch_ev {D : DagD} {af rr : Int} (h : evenS rr = false) : chB D af rr = [] ∧ chE D af rr = 1 := by simp [chB, chE, askS, h]
theorem ch_ok {D : DagD} {af rr : Int} (h : ¬ (0 ≤ af ∧ af % 2 = 0 ∧ af < rr)) : chB D af rr = [] ∧ chE D af rr = 1 := by
  have : chOk af rr = false := by rw [Bool.eq_false_iff]; exact fun g => h (chOk_iff.1 g)
  simp [chB, chE, this]
theorem ch_none {D : DagD} {af rr : Int} (hm : mayS D = true) (he : evenS rr = true) (h : 0 ≤ af ∧ af % 2 = 0 ∧ af < rr) (hz : anchS D rr = 0) : chB D af rr = [] ∧ chE D af rr = 3 := by
  simp [chB, chE, askS, hm, he, chOk_iff.2 h, hz]
theorem ch_some {D : DagD} {af rr : Int} (hm : mayS D = true) (he : evenS rr = true) (h : 0 ≤ af ∧ af % 2 = 0 ∧ af < rr) (hz : ¬ anchS D rr = 0) : chB D af rr = (chainL D af rr).reverse ∧ chE D af rr = 0 := by
  simp [chB, chE, askS, hm, he, chOk_iff.2 h, hz]
set_option maxRecDepth 100000 in
set_option maxHeartbeats 8000000 in
theorem law_AnchorChains (A : Option Addr) (n c : Nat) (D : DagD) (iA : Option Addr) (im ic : Nat) (Is : List Int) (lA : Option Addr) (lm lc : Nat) (Lo : List Int) (w : World) (hl : CertsR w A n D.certs) (hi : IntsR w iA im Is) (hL : IntsR w lA lm Lo) (hS : Small D.certs) :
    Calls Try.prog 12 #[.agg #[.int .i64 D.nodes, .int .i64 D.low, .slice A n c, .slice iA im ic, .slice lA lm lc]] w fun e w' => e = .returned (.bool true) ∧ Below w.heap.size w w' := by
  have HL := Lib.hid hl
  have HN := Lib.hid hl.1
  have HO := Lib.hid hL
  have HS := Lib.hid hS
  clear hl hi hL hS
  go_enter Try.func12, Try.ntmps12
  go_wp2_with fail
  refine (law16_heavy' _ _ _ _ _ D.certs _ _ _ _ _ _ _ (HL.out.up (by (repeat (first | (with_reducible exact Below.refl _ _) | (with_reducible assumption) | (with_reducible apply bel_alloc) | (with_reducible apply bel_drew) | (with_reducible apply bel_drewN) | (with_reducible refine bel_trans ?_ (by with_reducible assumption)) | (with_reducible refine bel_trans ?_ (HF.out _)) | (with_reducible refine bel_set ?_ (by simp) _) | (with_reducible refine bel_set ?_ (by simp; omega) _) | (with_reducible refine bel_set ?_ (by omega) _))))) HS.out).mono ?_
  rintro e w1 ⟨⟨x, rfl, hx⟩, hb1⟩
  have hz_w1 : w.heap.size + 1 ≤ w1.heap.size := (by have hq := (hb1).size; (try simp at hq); omega); have hc0_w1 := fun o => (bcell hb1).1 (w.heap.size) o (by first | (simp; done) | (simp; omega) | omega)
  cases x
  case true =>
    clear hx
    go_wp2_with fail
    go_ret
    exact ⟨rfl, by (repeat (first | (with_reducible exact Below.refl _ _) | (with_reducible assumption) | (with_reducible apply bel_alloc) | (with_reducible apply bel_drew) | (with_reducible apply bel_drewN) | (with_reducible refine bel_trans ?_ (by with_reducible assumption)) | (with_reducible refine bel_trans ?_ (HF.out _)) | (with_reducible refine bel_set ?_ (by simp) _) | (with_reducible refine bel_set ?_ (by simp; omega) _) | (with_reducible refine bel_set ?_ (by omega) _)))⟩
  case false =>
    obtain ⟨hLi, him, hlm⟩ := hx rfl
    have HLI := Lib.hid hLi
    clear hx hLi
    go_wp2_with fail
    refine (ref14_May A n c D _ (HL.out.up (by (repeat (first | (with_reducible exact Below.refl _ _) | (with_reducible assumption) | (with_reducible apply bel_alloc) | (with_reducible apply bel_drew) | (with_reducible apply bel_drewN) | (with_reducible refine bel_trans ?_ (by with_reducible assumption)) | (with_reducible refine bel_trans ?_ (HF.out _)) | (with_reducible refine bel_set ?_ (by simp) _) | (with_reducible refine bel_set ?_ (by simp; omega) _) | (with_reducible refine bel_set ?_ (by omega) _)))))).mono ?_
    rintro e w2 ⟨rfl, hb2⟩
    rw [may_eq]
    have hB2 : BoxR w2 w.heap.size [.int .i64 D.nodes, .int .i64 D.low, .slice A n c, .slice iA im ic, .slice lA lm lc] := ((BoxR.new w [.int .i64 D.nodes, .int .i64 D.low, .slice A n c, .slice iA im ic, .slice lA lm lc] 27).up hb1).up hb2
    have hbw2 : Below w.heap.size w w2 := by (repeat (first | (with_reducible exact Below.refl _ _) | (with_reducible assumption) | (with_reducible apply bel_alloc) | (with_reducible apply bel_drew) | (with_reducible apply bel_drewN) | (with_reducible refine bel_trans ?_ (by with_reducible assumption)) | (with_reducible refine bel_trans ?_ (HF.out _)) | (with_reducible refine bel_set ?_ (by simp) _) | (with_reducible refine bel_set ?_ (by simp; omega) _) | (with_reducible refine bel_set ?_ (by omega) _)))
    clear hc0_w1 hz_w1
    have b_0 := (hB2).2 0 _ rfl; have b_1 := (hB2).2 1 _ rfl; have b_2 := (hB2).2 2 _ rfl; have b_3 := (hB2).2 3 _ rfl; have b_4 := (hB2).2 4 _ rfl
    obtain ⟨mb, hmb⟩ : ∃ mb, mb = mayS D := ⟨_, rfl⟩
    rw [← hmb]
    have HMB := Lib.hid hmb; clear hmb
    go_wp2_with fail
    refine (ref0_CopyDag A n c D _ (HL.out.up hbw2) HLI.out).mono ?_
    rintro e w3 ⟨dA, dc, rfl, hD3, hb3⟩
    have HD := Lib.hid hD3
    have hB3 := hB2.up hb3
    have hbw3 : Below w.heap.size w w3 := bel_trans hbw2 hb3
    have hdn : BoxR (w3.alloc (.cells #[.int .i64 D.nodes, .int .i64 D.low, .slice dA n dc] 24)) w3.heap.size [.int .i64 D.nodes, .int .i64 D.low, .slice dA n dc] := BoxR.new w3 [.int .i64 D.nodes, .int .i64 D.low, .slice dA n dc] 24
    clear hD3 b_0 b_1 b_2 b_3 b_4
    go_wp2_with fail
    go_loopw [5] (fun ix wr => ∃ i : Nat, i ≤ lm ∧ ix = .int .i64 i ∧ Below w3.heap.size w3 wr ∧ BoxR wr w3.heap.size [.int .i64 D.nodes, .int .i64 D.low, .slice dA n dc]) (fun ix _ => lm - (intOf ix).toNat)
    case atStart => exact ⟨0, Nat.zero_le _, rfl, by (repeat (first | (with_reducible exact Below.refl _ _) | (with_reducible assumption) | (with_reducible apply bel_alloc) | (with_reducible apply bel_drew) | (with_reducible apply bel_drewN) | (with_reducible refine bel_trans ?_ (by with_reducible assumption)) | (with_reducible refine bel_trans ?_ (HF.out _)) | (with_reducible refine bel_set ?_ (by simp) _) | (with_reducible refine bel_set ?_ (by simp; omega) _) | (with_reducible refine bel_set ?_ (by omega) _))), hdn⟩
    case round =>
      clear hdn
      obtain ⟨i, hi, rfl, hbx, hdx⟩ := hrel
      (obtain ⟨wi, hwi⟩ : ∃ x, x = wr := ⟨_, rfl⟩); subst hwi
      have hBi := hB3.up hbx
      have b_0 := (hBi).2 0 _ rfl; have b_1 := (hBi).2 1 _ rfl; have b_2 := (hBi).2 2 _ rfl; have b_3 := (hBi).2 3 _ rfl; have b_4 := (hBi).2 4 _ rfl
      by_cases hlt : i < lm
      · go_wp2_with fail
        go_loopw [6] (fun ix wr => ∃ k : Nat, k ≤ lm ∧ ix = .int .i64 k ∧ Below w3.heap.size w3 wr ∧ BoxR wr w3.heap.size [.int .i64 D.nodes, .int .i64 D.low, .slice dA n dc]) (fun ix _ => lm - (intOf ix).toNat)
        case atStart => exact ⟨0, Nat.zero_le _, rfl, hbx, hdx⟩
        case round =>
          clear hBi b_0 b_1 b_2 b_3 b_4 hbx hdx
          obtain ⟨k, hk, rfl, hby, hdy⟩ := hrel
          (obtain ⟨wk, hwk⟩ : ∃ x, x = wr := ⟨_, rfl⟩); subst hwk
          have hBk := hB3.up hby
          have hbwk : Below w.heap.size w wk := bel_trans hbw3 hby
          by_cases hlt2 : k < lm
          · obtain ⟨lb, loff, rfl, hlb, hlc⟩ := HO.out.2.2 (by omega)
            have hcells : ∀ X, Below wk.heap.size wk X → X.cell? ⟨w.heap.size, 0, none⟩ = some (.int .i64 D.nodes) ∧ X.cell? ⟨w.heap.size, 1, none⟩ = some (.int .i64 D.low) ∧ X.cell? ⟨w.heap.size, 2, none⟩ = some (.slice A n c) ∧ X.cell? ⟨w.heap.size, 3, none⟩ = some (.slice iA im ic) ∧ X.cell? ⟨w.heap.size, 4, none⟩ = some (.slice (some ⟨lb, loff, none⟩) lm lc) ∧ X.cell? ⟨lb, loff + i, none⟩ = some (.int .i64 (nth Lo i)) ∧ X.cell? ⟨lb, loff + k, none⟩ = some (.int .i64 (nth Lo k)) ∧
                X.cell? ⟨w3.heap.size, 0, none⟩ = some (.int .i64 D.nodes) ∧ X.cell? ⟨w3.heap.size, 1, none⟩ = some (.int .i64 D.low) ∧ X.cell? ⟨w3.heap.size, 2, none⟩ = some (.slice dA n dc) := fun X hX => by
              have hbX := bel_trans hbwk hX
              exact ⟨(hBk.up hX).2 0 _ rfl, (hBk.up hX).2 1 _ rfl, (hBk.up hX).2 2 _ rfl, (hBk.up hX).2 3 _ rfl, (hBk.up hX).2 4 _ rfl, (hbX.cell (p := ⟨lb, loff + i, none⟩) hlb).trans (hlc i hlt), (hbX.cell (p := ⟨lb, loff + k, none⟩) hlb).trans (hlc k hlt2), (hdy.up hX).2 0 _ rfl, (hdy.up hX).2 1 _ rfl, (hdy.up hX).2 2 _ rfl⟩
            have HC := Lib.hid hcells
            clear hcells hlc
            obtain ⟨af, haf⟩ : ∃ af, af = nth Lo i := ⟨_, rfl⟩
            obtain ⟨rr, hrr⟩ : ∃ rr, rr = nth Lo k := ⟨_, rfl⟩
            rw [← haf, ← hrr] at HC
            clear haf hrr
            have hww : w3.heap.size < wk.heap.size := hdy.1
            have hg0 : w.heap.size < wk.heap.size := hBk.1
            have hlbk : lb < wk.heap.size := Nat.lt_of_lt_of_le hlb hbwk.size
            obtain ⟨k0, k1, k2, k3, k4, k5, k6, k7, k8, k9⟩ := HC.out wk (Below.refl _ _)
            go_wp2_with fail
            refine wp_region_fam (by kernel_rfl) (by kernel_rfl) (fun ι F hne hF hcl => ?_)
            have hcF0 := fun n o => (bcell (hF n)).1 (w.heap.size) o (by first | (simp; done) | (simp; omega) | omega)
            have hcF1 := fun n o => (bcell (hF n)).1 (lb) o (by first | (simp; done) | (simp; omega) | omega)
            have HF := Lib.hid hF; clear hF
            have HC := Lib.hid hcl; clear hcl
            repeat (any_goals (first
             | go_big_quiet_step (first | (fail))
             | (refine wpQuiet_guard _ _ _ rfl rfl ?_; (fail_if_success (intro b' hb; have h2 := hb.symm; have : b' = true := h2.trans (by with_reducible rfl))); (fail_if_success (intro b' hb; have h2 := hb.symm; have : b' = false := h2.trans (by with_reducible rfl))); intro b' hb; simp only [hb]; cases b' <;> (try simp only [Bool.not_eq_true', Bool.not_eq_false', decide_eq_true_eq, decide_eq_false_iff_not, Int.not_lt, Int.not_le, Bool.and_eq_true, Bool.or_eq_true, Bool.or_eq_false_iff, beq_iff_eq, beq_eq_false_iff_ne, Int.natCast_pos] at hb))))
            all_goals (refine wpQuiet_nil ?_; intro nq)
            have hFwz := HF.out nq
            clear HF HC hne
            generalize F nq = wz at *
            clear k0 k1 k2 k3 k4 k5 k6 k7 k8 k9 hcF0 hcF1
            obtain ⟨k0, k1, k2, k3, k4, k5, k6, k7, k8, k9⟩ := HC.out wz hFwz
            cases mb
            case' false =>
              have hres := ch_may (af := af) (rr := rr) HMB.out.symm
              have hwant : IntsR wz none ([] : List Int).length [] := IntsR.nil _ _
              obtain ⟨wy, hwy⟩ : ∃ x, x = wz := ⟨_, rfl⟩
              subst hwy
              have hbz : Below wk.heap.size wk wy := hFwz
              have HRES := Lib.hid hres
              have HW := Lib.hid hwant
              clear hres hwant
              go_wp2_with fail
            case' true =>
              cases hev : evenS rr
              case' false =>
                have hres := ch_ev (D := D) (af := af) hev
                have HEV := Lib.hid hev
                clear hev
                have hwant : IntsR wz none ([] : List Int).length [] := IntsR.nil _ _
                obtain ⟨wy, hwy⟩ : ∃ x, x = wz := ⟨_, rfl⟩
                subst hwy
                have hbz : Below wk.heap.size wk wy := hFwz
                have HRES := Lib.hid hres
                have HW := Lib.hid hwant
                clear hres hwant
                go_wp2_with (go_at_call 38; refine (ref2_Even _ _).mono ?_; rintro e w' ⟨rfl, rfl⟩; rw [HEV.out])
              case' true =>
                obtain ⟨f7, f8, f9⟩ := evenS_iff.1 hev
                have HEV := Lib.hid hev
                by_cases c1 : 0 ≤ af
                case' neg =>
                  have hres := ch_ok (D := D) (af := af) (rr := rr) (fun g => c1 g.1)
                  have c1' : af < 0 := by omega
                  clear hev
                  have hwant : IntsR wz none ([] : List Int).length [] := IntsR.nil _ _
                  obtain ⟨wy, hwy⟩ : ∃ x, x = wz := ⟨_, rfl⟩
                  subst hwy
                  have hbz : Below wk.heap.size wk wy := hFwz
                  have HRES := Lib.hid hres
                  have HW := Lib.hid hwant
                  clear hres hwant
                  go_wp2_with (go_at_call 38; refine (ref2_Even _ _).mono ?_; rintro e w' ⟨rfl, rfl⟩; rw [HEV.out])
                case' pos =>
                  by_cases c2 : af % 2 = 0
                  case' neg =>
                    have hres := ch_ok (D := D) (af := af) (rr := rr) (fun g => c2 g.2.1)
                    have c2' : ¬ af.tmod 2 = 0 := by rw [Int.tmod_eq_emod_of_nonneg (by omega)]; exact c2
                    clear hev
                    have hwant : IntsR wz none ([] : List Int).length [] := IntsR.nil _ _
                    obtain ⟨wy, hwy⟩ : ∃ x, x = wz := ⟨_, rfl⟩
                    subst hwy
                    have hbz : Below wk.heap.size wk wy := hFwz
                    have HRES := Lib.hid hres
                    have HW := Lib.hid hwant
                    clear hres hwant
                    go_wp2_with (go_at_call 38; refine (ref2_Even _ _).mono ?_; rintro e w' ⟨rfl, rfl⟩; rw [HEV.out])
                  case' pos =>
                    have c2' : af.tmod 2 = 0 := by rw [Int.tmod_eq_emod_of_nonneg (by omega)]; exact c2
                    by_cases c3 : af < rr
                    case' neg =>
                      have hres := ch_ok (D := D) (af := af) (rr := rr) (fun g => c3 g.2.2)
                      clear hev
                      have hwant : IntsR wz none ([] : List Int).length [] := IntsR.nil _ _
                      obtain ⟨wy, hwy⟩ : ∃ x, x = wz := ⟨_, rfl⟩
                      subst hwy
                      have hbz : Below wk.heap.size wk wy := hFwz
                      have HRES := Lib.hid hres
                      have HW := Lib.hid hwant
                      clear hres hwant
                      go_wp2_with (go_at_call 38; refine (ref2_Even _ _).mono ?_; rintro e w' ⟨rfl, rfl⟩; rw [HEV.out])
                    case' pos =>
                      have hmay := HMB.out.symm
                      have hok := mayS_iff.1 hmay
                      have hii := isS_iff.1 hok.1
                      have f5 := hii.1
                      have f6 := hii.2.1
                      have HOK := Lib.hid hok
                      clear hok hii
                      by_cases hz : anchS D rr = 0
                      case' pos =>
                        have hres := ch_none hmay hev ⟨c1, c2, c3⟩ hz
                        have HZ := Lib.hid hz
                        have HRES := Lib.hid hres
                        clear hev hmay hz hres
                        go_wp2_with (go_at_call 38; refine (ref2_Even _ _).mono ?_; rintro e w' ⟨rfl, rfl⟩; rw [HEV.out])
                        refine (ref14_Anchor A n c D rr _ (HL.out.up (bel_trans hbwk hFwz)) f5 f6 f7 f8).mono ?_
                        rintro e wy ⟨rfl, hba⟩
                        rw [HZ.out]
                        have hbz : Below wk.heap.size wk wy := bel_trans hFwz hba
                        have hwant : IntsR wy none ([] : List Int).length [] := IntsR.nil _ _
                        have HW := Lib.hid hwant
                        clear k0 k1 k2 k3 k4 k5 k6 k7 k8 k9 hwant
                        obtain ⟨k0, k1, k2, k3, k4, k5, k6, k7, k8, k9⟩ := HC.out wy hbz
                        go_wp2_with fail
                      case' neg =>
                        have hres := ch_some hmay hev ⟨c1, c2, c3⟩ hz
                        obtain ⟨WL, hWL⟩ : ∃ WL, WL = (chainL D af rr).reverse := ⟨_, rfl⟩
                        rw [← hWL] at hres
                        obtain ⟨jj, hjj, ejj, edj, erj⟩ := anch_at HOK.out hz
                        obtain ⟨b, off, rfl⟩ : ∃ b off, A = some ⟨b, off, none⟩ := by
                          obtain ⟨b, off, e, _⟩ := HL.out.2.2 (by rw [← HN.out]; omega)
                          exact ⟨b, off, e⟩
                        have hpos : 0 < anchS D rr := by rw [edj]; have := certS_bd (HOK.out.2.2.2.2 jj hjj).1; omega
                        obtain ⟨an, han⟩ : ∃ an, an = anchS D rr := ⟨_, rfl⟩
                        rw [← han] at hpos
                        have hpb : decide (0 < an) = true := by simpa using hpos
                        have hwl : WL.length ≤ 9223372036854775807 := by rw [hWL, List.length_reverse]; unfold chainL; have := backL_len D af rr.toNat rr (findS D.certs (anchS D rr)).toNat; simp only [List.length_cons]; omega
                        have HZ := Lib.hid hz
                        have HRES := Lib.hid hres
                        have HAN := Lib.hid han
                        have HWL := Lib.hid hWL
                        clear hev hmay hz hres hjj ejj edj erj han hWL
                        go_wp2_with (go_at_call 38; refine (ref2_Even _ _).mono ?_; rintro e w' ⟨rfl, rfl⟩; rw [HEV.out])
                        refine (ref14_Anchor _ n c D rr _ (HL.out.up (bel_trans hbwk hFwz)) f5 f6 f7 f8).mono ?_
                        rintro e wa ⟨rfl, hba⟩
                        rw [← HAN.out]
                        have hbza : Below wk.heap.size wk wa := bel_trans hFwz hba
                        clear k0 k1 k2 k3 k4 k5 k6 k7 k8 k9
                        obtain ⟨k0, k1, k2, k3, k4, k5, k6, k7, k8, k9⟩ := HC.out wa hbza
                        go_wp2_with fail
                        refine (ref14_Chain b off n c D af rr _ (HL.out.up (bel_trans hbwk hbza)) HOK.out c1 c3 HEV.out HZ.out).mono ?_
                        rintro e wy ⟨v, rfl, hownb, hbb⟩
                        rw [← HWL.out] at hownb
                        obtain ⟨yA, yc, rfl, hwant, _⟩ := hownb.ints hwl
                        have hbz : Below wk.heap.size wk wy := bel_trans hbza hbb
                        have HW := Lib.hid hwant
                        clear k0 k1 k2 k3 k4 k5 k6 k7 k8 k9 hwant hownb
                        obtain ⟨k0, k1, k2, k3, k4, k5, k6, k7, k8, k9⟩ := HC.out wy hbz
                        go_wp2_with fail
            all_goals
              refine (anchor_Chain _ _ _ D af rr _ (HD.out.up (bel_trans hby hbz))).mono ?_
              rintro e w5 ⟨v, rfl, hown, hb5, hlen⟩
              rw [HRES.out.2]
              rw [HRES.out.1] at hown hlen
              obtain ⟨xA, xc, rfl, hint, _⟩ := hown.ints (by omega)
              have hb5k : Below wk.heap.size wk w5 := bel_trans hbz hb5
              have HINT := Lib.hid hint
              have HOWN := Lib.hid hown
              clear hint hown k0 k1 k2 k3 k4 k5 k6 k7 k8 k9
              obtain ⟨k0, k1, k2, k3, k4, k5, k6, k7, k8, k9⟩ := HC.out w5 hb5k
              go_wp2_with (go_at_call 43; refine (law16_num _ _).mono ?_; rintro e w' ⟨rfl, rfl⟩)
              refine (ref0_EqNumbers_same _ _ _ _ _ _ _ _ HINT.out (HW.out.up hb5)).mono ?_
              rintro e w6 ⟨rfl, hb6⟩
              clear k0 k1 k2 k3 k4 k5 k6 k7 k8 k9
              obtain ⟨k0, k1, k2, k3, k4, k5, k6, k7, k8, k9⟩ := HC.out w6 (bel_trans hb5k hb6)
              go_wp2_with fail
              refine (ref0_EqDag dA n dc _ c D _ (HD.out.up (bel_trans (bel_trans hby hb5k) hb6)) (HL.out.up (bel_trans (bel_trans hbwk hb5k) hb6))).mono ?_
              rintro e w7 ⟨rfl, hb7⟩
              have hb7k : Below wk.heap.size wk w7 := bel_trans (bel_trans hb5k hb6) hb7
              have hB7 : wy.heap.size ≤ w7.heap.size := Nat.le_trans hb5.size (Nat.le_trans hb6.size hb7.size)
              clear k0 k1 k2 k3 k4 k5 k6 k7 k8 k9
              go_wp2_with fail
              refine (law0_Numbers _ _ wy.heap.size _ ((HOWN.out.up hb6).up hb7) (by omega) hB7).mono ?_
              rintro e w8 ⟨rfl, hb8⟩
              have hwz8 : w3.heap.size < wy.heap.size := Nat.lt_of_lt_of_le hww hbz.size
              have hfin : Below w3.heap.size w3 w8 := Below.trans (bel_trans hby hb7k) (hb8.mono (Nat.le_of_lt hwz8))
              have hdfin := (hdy.up hb7k).below hb8 hwz8
              go_wp2_with fail
              (first | (go_round; (case rel => exact ⟨k + 1, by omega, by go_num, hfin, hdfin⟩); (case measure => (simp [intOf] <;> omega))) | (go_roundw; (case rel => exact ⟨k + 1, by omega, by go_num, hfin, hdfin⟩); (case measure => (simp [intOf] <;> omega))) | (refine ⟨?_, by simp [intOf] <;> omega⟩; (repeat apply Exists.intro); refine ⟨?rel, ?fr⟩; (case fr => ((repeat' apply And.intro) <;> rfl)); (case rel => exact ⟨k + 1, by omega, by go_num, hfin, hdfin⟩)))
          · have b_0 := (hBk).2 0 _ rfl; have b_1 := (hBk).2 1 _ rfl; have b_2 := (hBk).2 2 _ rfl; have b_3 := (hBk).2 3 _ rfl; have b_4 := (hBk).2 4 _ rfl
            go_wp2_with fail
            (first | (go_round; (case rel => exact ⟨i + 1, by omega, by go_num, hby, hdy⟩); (case measure => (simp [intOf] <;> omega))) | (go_roundw; (case rel => exact ⟨i + 1, by omega, by go_num, hby, hdy⟩); (case measure => (simp [intOf] <;> omega))) | (refine ⟨?_, by simp [intOf] <;> omega⟩; (repeat apply Exists.intro); refine ⟨?rel, ?fr⟩; (case fr => ((repeat' apply And.intro) <;> rfl)); (case rel => exact ⟨i + 1, by omega, by go_num, hby, hdy⟩)))
      · go_wp2_with (go_at_call 44; refine (law16_wakes _).mono ?_; rintro e w4 ⟨rfl, hb4⟩)
        go_ret
        exact ⟨rfl, bel_trans (bel_trans hbw3 hbx) hb4⟩
end Go.Proofs.Ythpljlffjbodpaa
