/- The law PathBelows: the walk. -/
import Derived.Test.YthpljlffjbodpaaS
import Derived.Test.YthpljlffjbodpaaCb
import Derived.Test.YthpljlffjbodpaaR
namespace Go.Proofs.Ythpljlffjbodpaa
open Go.RowKit
set_option linter.unusedSimpArgs false
set_option linter.unusedVariables false

set_option maxRecDepth 100000 in
set_option maxHeartbeats 1000000 in
theorem law_PathBelows (A : Option Addr) (n c : Nat) (D : DagD) (iA : Option Addr) (im ic : Nat) (Is : List Int) (lA : Option Addr) (lm lc : Nat) (Lo : List Int) (w : World) (hl : CertsR w A n D.certs) (hi : IntsR w iA im Is) (hL : IntsR w lA lm Lo) (hS : Small D.certs) :
    Calls Try.prog 4 #[.agg #[.int .i64 D.nodes, .int .i64 D.low, .slice A n c, .slice iA im ic, .slice lA lm lc]] w fun e w' => e = .returned (.bool true) ∧ Below w.heap.size w w' := by
  have HL := Lib.hid hl
  have HN := Lib.hid hl.1
  have HI := Lib.hid hi
  have HO := Lib.hid hL
  have HS := Lib.hid hS
  clear hl hi hL hS
  go_enter Try.func4, Try.ntmps4
  go_wp2_with fail
  refine (law15_heavy' _ _ _ _ _ D.certs _ _ _ _ _ _ _ (HL.out.up (by (repeat (first | (with_reducible exact Below.refl _ _) | (with_reducible assumption) | (with_reducible apply bel_alloc) | (with_reducible apply bel_drew) | (with_reducible apply bel_drewN) | (with_reducible refine bel_trans ?_ (by with_reducible assumption)) | (with_reducible refine bel_trans ?_ (HF.out _)) | (with_reducible refine bel_set ?_ (by simp) _) | (with_reducible refine bel_set ?_ (by simp; omega) _) | (with_reducible refine bel_set ?_ (by omega) _))))) HS.out).mono ?_
  rintro e w1 ⟨⟨x, rfl, hx⟩, hb1⟩
  have hz_w1 : w.heap.size + 1 ≤ w1.heap.size := (by have hq := (hb1).size; (try simp at hq); omega); have hc0_w1 := fun o => (bcell hb1).1 (w.heap.size) o (by first | (simp; done) | (simp; omega) | omega)
  cases x
  case true =>
    clear hx
    go_wp2_with fail
    go_ret
    exact ⟨rfl, by (repeat (first | (with_reducible exact Below.refl _ _) | (with_reducible assumption) | (with_reducible apply bel_alloc) | (with_reducible apply bel_drew) | (with_reducible apply bel_drewN) | (with_reducible refine bel_trans ?_ (by with_reducible assumption)) | (with_reducible refine bel_trans ?_ (HF.out _)) | (with_reducible refine bel_set ?_ (by simp) _) | (with_reducible refine bel_set ?_ (by simp; omega) _) | (with_reducible refine bel_set ?_ (by omega) _)))⟩
  case false =>
    obtain ⟨hLi, him, hlm⟩ := hx rfl
    have HLI := Lib.hid hLi
    clear hx hLi
    go_wp2_with fail
    refine (ref14_May A n c D _ (HL.out.up (by (repeat (first | (with_reducible exact Below.refl _ _) | (with_reducible assumption) | (with_reducible apply bel_alloc) | (with_reducible apply bel_drew) | (with_reducible apply bel_drewN) | (with_reducible refine bel_trans ?_ (by with_reducible assumption)) | (with_reducible refine bel_trans ?_ (HF.out _)) | (with_reducible refine bel_set ?_ (by simp) _) | (with_reducible refine bel_set ?_ (by simp; omega) _) | (with_reducible refine bel_set ?_ (by omega) _)))))).mono ?_
    rintro e w2 ⟨rfl, hb2⟩
    rw [may_eq]
    have hB2 : BoxR w2 w.heap.size [.int .i64 D.nodes, .int .i64 D.low, .slice A n c, .slice iA im ic, .slice lA lm lc] := ((BoxR.new w [.int .i64 D.nodes, .int .i64 D.low, .slice A n c, .slice iA im ic, .slice lA lm lc] 27).up hb1).up hb2
    have hbw2 : Below w.heap.size w w2 := by (repeat (first | (with_reducible exact Below.refl _ _) | (with_reducible assumption) | (with_reducible apply bel_alloc) | (with_reducible apply bel_drew) | (with_reducible apply bel_drewN) | (with_reducible refine bel_trans ?_ (by with_reducible assumption)) | (with_reducible refine bel_trans ?_ (HF.out _)) | (with_reducible refine bel_set ?_ (by simp) _) | (with_reducible refine bel_set ?_ (by simp; omega) _) | (with_reducible refine bel_set ?_ (by omega) _)))
    clear hc0_w1 hz_w1
    have b_0 := (hB2).2 0 _ rfl; have b_1 := (hB2).2 1 _ rfl; have b_2 := (hB2).2 2 _ rfl; have b_3 := (hB2).2 3 _ rfl; have b_4 := (hB2).2 4 _ rfl
    obtain ⟨mb, hmb⟩ : ∃ mb, mb = mayS D := ⟨_, rfl⟩
    rw [← hmb]
    have HMB := Lib.hid hmb; clear hmb
    go_wp2_with fail
    refine (ref0_CopyDag A n c D _ (HL.out.up hbw2) HLI.out).mono ?_
    rintro e w3 ⟨dA, dc, rfl, hD3, hb3⟩
    have HD := Lib.hid hD3
    have hB3 := hB2.up hb3
    have hbw3 : Below w.heap.size w w3 := bel_trans hbw2 hb3
    have hdn : BoxR (w3.alloc (.cells #[.int .i64 D.nodes, .int .i64 D.low, .slice dA n dc] 24)) w3.heap.size [.int .i64 D.nodes, .int .i64 D.low, .slice dA n dc] := BoxR.new w3 [.int .i64 D.nodes, .int .i64 D.low, .slice dA n dc] 24
    clear hD3 b_0 b_1 b_2 b_3 b_4
    go_wp2_with fail
    go_loopw [5] (fun ix wr => ∃ i : Nat, i ≤ im ∧ ix = .int .i64 i ∧ Below w3.heap.size w3 wr ∧ BoxR wr w3.heap.size [.int .i64 D.nodes, .int .i64 D.low, .slice dA n dc]) (fun ix _ => im - (intOf ix).toNat)
    case atStart => exact ⟨0, Nat.zero_le _, rfl, by (repeat (first | (with_reducible exact Below.refl _ _) | (with_reducible assumption) | (with_reducible apply bel_alloc) | (with_reducible apply bel_drew) | (with_reducible apply bel_drewN) | (with_reducible refine bel_trans ?_ (by with_reducible assumption)) | (with_reducible refine bel_trans ?_ (HF.out _)) | (with_reducible refine bel_set ?_ (by simp) _) | (with_reducible refine bel_set ?_ (by simp; omega) _) | (with_reducible refine bel_set ?_ (by omega) _))), hdn⟩
    case round =>
      clear hdn
      obtain ⟨i, hi, rfl, hbx, hdx⟩ := hrel
      (obtain ⟨wi, hwi⟩ : ∃ x, x = wr := ⟨_, rfl⟩); subst hwi
      have hBi := hB3.up hbx
      have b_0 := (hBi).2 0 _ rfl; have b_1 := (hBi).2 1 _ rfl; have b_2 := (hBi).2 2 _ rfl; have b_3 := (hBi).2 3 _ rfl; have b_4 := (hBi).2 4 _ rfl
      by_cases hlt : i < im
      · go_wp2_with fail
        go_loopw [6] (fun ix wr => ∃ k : Nat, k ≤ lm ∧ ix = .int .i64 k ∧ Below w3.heap.size w3 wr ∧ BoxR wr w3.heap.size [.int .i64 D.nodes, .int .i64 D.low, .slice dA n dc]) (fun ix _ => lm - (intOf ix).toNat)
        case atStart => exact ⟨0, Nat.zero_le _, rfl, hbx, hdx⟩
        case round =>
          clear hBi b_0 b_1 b_2 b_3 b_4 hbx hdx
          obtain ⟨k, hk, rfl, hby, hdy⟩ := hrel
          (obtain ⟨wk, hwk⟩ : ∃ x, x = wr := ⟨_, rfl⟩); subst hwk
          have hBk := hB3.up hby
          have hbwk : Below w.heap.size w wk := bel_trans hbw3 hby
          have b_0 := (hBk).2 0 _ rfl; have b_1 := (hBk).2 1 _ rfl; have b_2 := (hBk).2 2 _ rfl; have b_3 := (hBk).2 3 _ rfl; have b_4 := (hBk).2 4 _ rfl
          by_cases hlt2 : k < lm
          · obtain ⟨ib, ioff, rfl, hib, hic⟩ := HI.out.2.2 (by omega)
            obtain ⟨lb, loff, rfl, hlb, hlc⟩ := HO.out.2.2 (by omega)
            have hcells : ∀ X, Below wk.heap.size wk X → X.cell? ⟨w.heap.size, 0, none⟩ = some (.int .i64 D.nodes) ∧ X.cell? ⟨w.heap.size, 1, none⟩ = some (.int .i64 D.low) ∧ X.cell? ⟨w.heap.size, 2, none⟩ = some (.slice A n c) ∧ X.cell? ⟨w.heap.size, 3, none⟩ = some (.slice (some ⟨ib, ioff, none⟩) im ic) ∧ X.cell? ⟨w.heap.size, 4, none⟩ = some (.slice (some ⟨lb, loff, none⟩) lm lc) ∧ X.cell? ⟨ib, ioff + i, none⟩ = some (.int .i64 (nth Is i)) ∧ X.cell? ⟨lb, loff + k, none⟩ = some (.int .i64 (nth Lo k)) ∧
                X.cell? ⟨w3.heap.size, 0, none⟩ = some (.int .i64 D.nodes) ∧ X.cell? ⟨w3.heap.size, 1, none⟩ = some (.int .i64 D.low) ∧ X.cell? ⟨w3.heap.size, 2, none⟩ = some (.slice dA n dc) := fun X hX => by
              have hbX := bel_trans hbwk hX
              exact ⟨(hBk.up hX).2 0 _ rfl, (hBk.up hX).2 1 _ rfl, (hBk.up hX).2 2 _ rfl, (hBk.up hX).2 3 _ rfl, (hBk.up hX).2 4 _ rfl, (hbX.cell (p := ⟨ib, ioff + i, none⟩) hib).trans (hic i hlt), (hbX.cell (p := ⟨lb, loff + k, none⟩) hlb).trans (hlc k hlt2), (hdy.up hX).2 0 _ rfl, (hdy.up hX).2 1 _ rfl, (hdy.up hX).2 2 _ rfl⟩
            have HC := Lib.hid hcells
            clear hcells hic hlc
            have hww : w3.heap.size < wk.heap.size := hdy.1
            cases mb
            case' false =>
              have hres := below_bad HMB.out.symm (nth Is i) (nth Lo k)
              have HRES := Lib.hid hres
              have hwant : IntsR wk none ([] : List Int).length [] := IntsR.nil _ _
              have hwl : ([] : List Int).length ≤ 65536 := by simp
              have HW := Lib.hid hwant
              clear hwant hres
              go_wp2_with fail
              clear b_0 b_1 b_2 b_3 b_4
              obtain ⟨wz, hwz⟩ : ∃ x, x = wk := ⟨_, rfl⟩
              have hbz : Below wk.heap.size wk wz := hwz ▸ Below.refl _ _
              rw [← hwz] at HW ⊢
              clear hwz
            case' true =>
              have hbwi : ib < wk.heap.size := Nat.lt_of_lt_of_le hib hbwk.size
              have hq5 := (HC.out wk (Below.refl _ _)).2.2.2.2.2.1
              have hg0 : w.heap.size < wk.heap.size := hBk.1
              rcases findS_cases D.certs (nth Is i) with ⟨ea, _⟩ | ⟨j, hj, ea, _⟩
              case' inl =>
                have hres := below_none HMB.out.symm (a := nth Is i) (nth Lo k) (by omega)
                have HRES := Lib.hid hres
                have EA := Lib.hid ea
                clear ea hres
                go_wp2_with fail
                refine wp_region_fam (by kernel_rfl) (by kernel_rfl) (fun ι F hne hF hcl => ?_)
                have hcF0 := fun n o => (bcell (hF n)).1 (w.heap.size) o (by first | (simp; done) | (simp; omega) | omega)
                have hcF1 := fun n o => (bcell (hF n)).1 (ib) o (by first | (simp; done) | (simp; omega) | omega)
                have HF := Lib.hid hF; clear hF
                have HC := Lib.hid hcl; clear hcl
                repeat (any_goals (first
                 | go_big_quiet_step (first | (go_at_call 17; exact Calls.fam HC.out (ref14_FindAt' _ _ _ D.certs _ _ _ (-1) _ (HL.out.up (by (repeat (first | (with_reducible exact Below.refl _ _) | (with_reducible assumption) | (with_reducible apply bel_alloc) | (with_reducible apply bel_drew) | (with_reducible apply bel_drewN) | (with_reducible refine bel_trans ?_ (by with_reducible assumption)) | (with_reducible refine bel_trans ?_ (HF.out _)) | (with_reducible refine bel_set ?_ (by simp) _) | (with_reducible refine bel_set ?_ (by simp; omega) _) | (with_reducible refine bel_set ?_ (by omega) _))))) EA.out)))
                 | (refine wpQuiet_guard _ _ _ rfl rfl ?_; (fail_if_success (intro b' hb; have h2 := hb.symm; have : b' = true := h2.trans (by with_reducible rfl))); (fail_if_success (intro b' hb; have h2 := hb.symm; have : b' = false := h2.trans (by with_reducible rfl))); intro b' hb; simp only [hb]; cases b' <;> (try simp only [Bool.not_eq_true', Bool.not_eq_false', decide_eq_true_eq, decide_eq_false_iff_not, Int.not_lt, Int.not_le, Bool.and_eq_true, Bool.or_eq_true, Bool.or_eq_false_iff, beq_iff_eq, beq_eq_false_iff_ne, Int.natCast_pos] at hb))))
                all_goals (refine wpQuiet_nil ?_; intro nq)
                have hFwz := HF.out nq
                clear HF HC hne
                generalize F nq = wz at *
                have hbz : Below wk.heap.size wk wz := hFwz
                have hwant : IntsR wz none ([] : List Int).length [] := IntsR.nil _ _
                have hwl : ([] : List Int).length ≤ 65536 := by simp
                have HW := Lib.hid hwant
                clear hwant b_0 b_1 b_2 b_3 b_4 hcF0 hcF1 hq5
                go_wp2_with fail
              case' inr =>
                have hres := below_ok HMB.out.symm (a := nth Is i) (nth Lo k) ea
                have hfa := may_facts HMB.out.symm
                have HRES := Lib.hid hres
                have EA := Lib.hid ea
                have HFA := Lib.hid hfa
                clear ea hres hfa
                go_wp2_with fail
                refine wp_region_fam (by kernel_rfl) (by kernel_rfl) (fun ι F hne hF hcl => ?_)
                have hcF0 := fun n o => (bcell (hF n)).1 (w.heap.size) o (by first | (simp; done) | (simp; omega) | omega)
                have hcF1 := fun n o => (bcell (hF n)).1 (ib) o (by first | (simp; done) | (simp; omega) | omega)
                have HF := Lib.hid hF; clear hF
                have HC := Lib.hid hcl; clear hcl
                repeat (any_goals (first
                 | go_big_quiet_step (first | (go_at_call 17; exact Calls.fam HC.out (ref14_FindAt' _ _ _ D.certs _ _ _ (j : Int) _ (HL.out.up (by (repeat (first | (with_reducible exact Below.refl _ _) | (with_reducible assumption) | (with_reducible apply bel_alloc) | (with_reducible apply bel_drew) | (with_reducible apply bel_drewN) | (with_reducible refine bel_trans ?_ (by with_reducible assumption)) | (with_reducible refine bel_trans ?_ (HF.out _)) | (with_reducible refine bel_set ?_ (by simp) _) | (with_reducible refine bel_set ?_ (by simp; omega) _) | (with_reducible refine bel_set ?_ (by omega) _))))) EA.out)))
                 | (refine wpQuiet_guard _ _ _ rfl rfl ?_; (fail_if_success (intro b' hb; have h2 := hb.symm; have : b' = true := h2.trans (by with_reducible rfl))); (fail_if_success (intro b' hb; have h2 := hb.symm; have : b' = false := h2.trans (by with_reducible rfl))); intro b' hb; simp only [hb]; cases b' <;> (try simp only [Bool.not_eq_true', Bool.not_eq_false', decide_eq_true_eq, decide_eq_false_iff_not, Int.not_lt, Int.not_le, Bool.and_eq_true, Bool.or_eq_true, Bool.or_eq_false_iff, beq_iff_eq, beq_eq_false_iff_ne, Int.natCast_pos] at hb))))
                all_goals (refine wpQuiet_nil ?_; intro nq)
                have hFwq := HF.out nq
                clear HF HC hne
                generalize F nq = wq at *
                clear b_0 b_1 b_2 b_3 b_4 hcF0 hcF1 hq5
                go_wp2_with fail
                go_region_held3 (fun X => X.cell? ⟨w.heap.size, 0, none⟩ = some (.int .i64 D.nodes) ∧ X.cell? ⟨w.heap.size, 1, none⟩ = some (.int .i64 D.low) ∧ X.cell? ⟨w.heap.size, 2, none⟩ = some (.slice A n c) ∧ X.cell? ⟨w.heap.size, 3, none⟩ = some (.slice (some ⟨ib, ioff, none⟩) im ic) ∧ X.cell? ⟨w.heap.size, 4, none⟩ = some (.slice (some ⟨lb, loff, none⟩) lm lc) ∧ X.cell? ⟨ib, ioff + i, none⟩ = some (.int .i64 (nth Is i)) ∧ X.cell? ⟨lb, loff + k, none⟩ = some (.int .i64 (nth Lo k)) ∧ X.cell? ⟨w3.heap.size, 0, none⟩ = some (.int .i64 D.nodes) ∧ X.cell? ⟨w3.heap.size, 1, none⟩ = some (.int .i64 D.low) ∧ X.cell? ⟨w3.heap.size, 2, none⟩ = some (.slice dA n dc))
                  (exact HC.out _ (by (repeat (first | (with_reducible exact Below.refl _ _) | (with_reducible assumption) | (with_reducible apply bel_alloc) | (with_reducible apply bel_drew) | (with_reducible apply bel_drewN) | (with_reducible refine bel_trans ?_ (by with_reducible assumption)) | (with_reducible refine bel_trans ?_ (HF.out _)) | (with_reducible refine bel_set ?_ (by simp) _) | (with_reducible refine bel_set ?_ (by simp; omega) _) | (with_reducible refine bel_set ?_ (by omega) _)))))
                  ((go_at_call 23; refine (ref14_Below A n c D.certs D.nodes D.low (nth Is i) (nth Lo k) j EA.out _ (HL.out.up (by (repeat (first | (with_reducible exact Below.refl _ _) | (with_reducible assumption) | (with_reducible apply bel_alloc) | (with_reducible apply bel_drew) | (with_reducible apply bel_drewN) | (with_reducible refine bel_trans ?_ (by with_reducible assumption)) | (with_reducible refine bel_trans ?_ (HF.out _)) | (with_reducible refine bel_set ?_ (by simp) _) | (with_reducible refine bel_set ?_ (by simp; omega) _) | (with_reducible refine bel_set ?_ (by omega) _))))) (by have q := HFA.out.2.2.1; rw [HN.out] at q; exact q) (fun k hk => HFA.out.2.2.2 k (by rw [HN.out]; exact hk)) HFA.out.1 HFA.out.2.1).mono ?_; rintro e wz ⟨v, rfl, hownz, hbzz⟩; obtain ⟨zA, zc, rfl, hwant, _⟩ := hownz.ints (by have q := belowS_len D.certs D.low (nth Lo k) j; have q2 := HFA.out.2.2.1; omega); have hbz : Below wk.heap.size wk wz := (by (repeat (first | (with_reducible exact Below.refl _ _) | (with_reducible assumption) | (with_reducible apply bel_alloc) | (with_reducible apply bel_drew) | (with_reducible apply bel_drewN) | (with_reducible refine bel_trans ?_ (by with_reducible assumption)) | (with_reducible refine bel_trans ?_ (HF.out _)) | (with_reducible refine bel_set ?_ (by simp) _) | (with_reducible refine bel_set ?_ (by simp; omega) _) | (with_reducible refine bel_set ?_ (by omega) _))))))
                have hwl : (belowS D.certs D.low (nth Lo k) j).length ≤ 65536 := by have q := belowS_len D.certs D.low (nth Lo k) j; have q2 := HFA.out.2.2.1; omega
                have HW := Lib.hid hwant
                clear hwant hownz hFwq hbzz
                go_wp2_with fail
            all_goals
              go_region_held3 (fun X => X.cell? ⟨w.heap.size, 0, none⟩ = some (.int .i64 D.nodes) ∧ X.cell? ⟨w.heap.size, 1, none⟩ = some (.int .i64 D.low) ∧ X.cell? ⟨w.heap.size, 2, none⟩ = some (.slice A n c) ∧ X.cell? ⟨w.heap.size, 3, none⟩ = some (.slice (some ⟨ib, ioff, none⟩) im ic) ∧ X.cell? ⟨w.heap.size, 4, none⟩ = some (.slice (some ⟨lb, loff, none⟩) lm lc) ∧ X.cell? ⟨ib, ioff + i, none⟩ = some (.int .i64 (nth Is i)) ∧ X.cell? ⟨lb, loff + k, none⟩ = some (.int .i64 (nth Lo k)) ∧ X.cell? ⟨w3.heap.size, 0, none⟩ = some (.int .i64 D.nodes) ∧ X.cell? ⟨w3.heap.size, 1, none⟩ = some (.int .i64 D.low) ∧ X.cell? ⟨w3.heap.size, 2, none⟩ = some (.slice dA n dc))
                (exact HC.out _ (by (repeat (first | (with_reducible exact Below.refl _ _) | (with_reducible assumption) | (with_reducible apply bel_alloc) | (with_reducible apply bel_drew) | (with_reducible apply bel_drewN) | (with_reducible refine bel_trans ?_ (by with_reducible assumption)) | (with_reducible refine bel_trans ?_ (HF.out _)) | (with_reducible refine bel_set ?_ (by simp) _) | (with_reducible refine bel_set ?_ (by simp; omega) _) | (with_reducible refine bel_set ?_ (by omega) _)))))
                ((go_at_call 24; refine (path_Below _ _ _ D _ _ _ (HD.out.up (by (repeat (first | (with_reducible exact Below.refl _ _) | (with_reducible assumption) | (with_reducible apply bel_alloc) | (with_reducible apply bel_drew) | (with_reducible apply bel_drewN) | (with_reducible refine bel_trans ?_ (by with_reducible assumption)) | (with_reducible refine bel_trans ?_ (HF.out _)) | (with_reducible refine bel_set ?_ (by simp) _) | (with_reducible refine bel_set ?_ (by simp; omega) _) | (with_reducible refine bel_set ?_ (by omega) _)))))).mono ?_; rintro e w5 ⟨v, rfl, hown, hb5⟩; rw [HRES.out.2]; rw [HRES.out.1] at hown; obtain ⟨xA, xc, rfl, hint, _⟩ := hown.ints (by omega); have hb5k : Below wk.heap.size wk w5 := (by (repeat (first | (with_reducible exact Below.refl _ _) | (with_reducible assumption) | (with_reducible apply bel_alloc) | (with_reducible apply bel_drew) | (with_reducible apply bel_drewN) | (with_reducible refine bel_trans ?_ (by with_reducible assumption)) | (with_reducible refine bel_trans ?_ (HF.out _)) | (with_reducible refine bel_set ?_ (by simp) _) | (with_reducible refine bel_set ?_ (by simp; omega) _) | (with_reducible refine bel_set ?_ (by omega) _))))))
              have hb5z : Below wz.heap.size wz w5 := bel_trans (bel_drew (Below.refl _ _)) hb5
              have hown5 : OwnI w5 wz.heap.size _ _ := hown
              clear hb5 hown
              have HINT := Lib.hid hint
              have HOWN := Lib.hid hown5
              clear hint hown5
              go_wp2_with (go_at_call 20; refine (law15_num _ _).mono ?_; rintro e w' ⟨rfl, rfl⟩)
              refine (ref0_EqNumbers_same _ _ _ _ _ _ _ _ HINT.out (HW.out.up hb5z)).mono ?_
              rintro e w6 ⟨rfl, hb6⟩
              obtain ⟨k0, k1, k2, k3, k4, k5, k6, k7, k8, k9⟩ := HC.out w6 (bel_trans hb5k hb6)
              go_wp2_with fail
              refine (ref0_EqDag dA n dc A c D _ (HD.out.up (bel_trans (bel_trans hby hb5k) hb6)) (HL.out.up (bel_trans (bel_trans hbwk hb5k) hb6))).mono ?_
              rintro e w7 ⟨rfl, hb7⟩
              have hb7k : Below wk.heap.size wk w7 := bel_trans (bel_trans hb5k hb6) hb7
              have hB7 : wz.heap.size ≤ w7.heap.size := Nat.le_trans hb5z.size (Nat.le_trans hb6.size hb7.size)
              clear k0 k1 k2 k3 k4 k5 k6 k7 k8 k9
              go_wp2_with fail
              refine (law0_Numbers _ _ wz.heap.size _ ((HOWN.out.up hb6).up hb7) (by omega) hB7).mono ?_
              rintro e w8 ⟨rfl, hb8⟩
              have hwz8 : w3.heap.size < wz.heap.size := Nat.lt_of_lt_of_le hww hbz.size
              have hfin : Below w3.heap.size w3 w8 := Below.trans (bel_trans hby hb7k) (hb8.mono (Nat.le_of_lt hwz8))
              have hdfin := (hdy.up hb7k).below hb8 hwz8
              go_wp2_with fail
              (first | (go_round; (case rel => exact ⟨k + 1, by omega, by go_num, hfin, hdfin⟩); (case measure => (simp [intOf] <;> omega))) | (go_roundw; (case rel => exact ⟨k + 1, by omega, by go_num, hfin, hdfin⟩); (case measure => (simp [intOf] <;> omega))) | (refine ⟨?_, by simp [intOf] <;> omega⟩; (repeat apply Exists.intro); refine ⟨?rel, ?fr⟩; (case fr => ((repeat' apply And.intro) <;> rfl)); (case rel => exact ⟨k + 1, by omega, by go_num, hfin, hdfin⟩)))
          · go_wp2_with fail
            (first | (go_round; (case rel => exact ⟨i + 1, by omega, by go_num, hby, hdy⟩); (case measure => (simp [intOf] <;> omega))) | (go_roundw; (case rel => exact ⟨i + 1, by omega, by go_num, hby, hdy⟩); (case measure => (simp [intOf] <;> omega))) | (refine ⟨?_, by simp [intOf] <;> omega⟩; (repeat apply Exists.intro); refine ⟨?rel, ?fr⟩; (case fr => ((repeat' apply And.intro) <;> rfl)); (case rel => exact ⟨i + 1, by omega, by go_num, hby, hdy⟩)))
      · go_wp2_with (go_at_call 21; refine (law15_wakes _).mono ?_; rintro e w4 ⟨rfl, hb4⟩)
        go_ret
        exact ⟨rfl, bel_trans (bel_trans hbw3 hbx) hb4⟩
end Go.Proofs.Ythpljlffjbodpaa
