/- The law OrderExact: the walk. -/
import Derived.Test.YthpljlffjbodpaaOc
namespace Go.Proofs.Ythpljlffjbodpaa
open Go.RowKit
set_option linter.unusedSimpArgs false
set_option linter.unusedVariables false

set_option maxRecDepth 100000 in
set_option maxHeartbeats 1000000 in
theorem law_OrderExact (A : Option Addr) (n c : Nat) (D : DagD) (iA : Option Addr) (im ic : Nat) (Is : List Int) (lA : Option Addr) (lm lc : Nat) (Lo : List Int) (w : World) (hl : CertsR w A n D.certs) (hi : IntsR w iA im Is) (hL : IntsR w lA lm Lo) (hS : Small D.certs) :
    Calls Try.prog 7 #[.agg #[.int .i64 D.nodes, .int .i64 D.low, .slice A n c, .slice iA im ic, .slice lA lm lc]] w fun e w' => e = .returned (.bool true) ∧ Below w.heap.size w w' := by
  have HL := Lib.hid hl
  have HN := Lib.hid hl.1
  have HI := Lib.hid hi
  have HO := Lib.hid hL
  have HS := Lib.hid hS
  have HLO := Lib.hid hL.1
  clear hl hi hL hS
  go_enter Try.func7, Try.ntmps7
  go_wp2_with fail
  refine (law17_heavy' _ _ _ _ _ D.certs _ _ _ _ _ _ _ (HL.out.up (by (repeat (first | (with_reducible exact Below.refl _ _) | (with_reducible assumption) | (with_reducible apply bel_alloc) | (with_reducible apply bel_drew) | (with_reducible apply bel_drewN) | (with_reducible refine bel_trans ?_ (by with_reducible assumption)) | (with_reducible refine bel_trans ?_ (HF.out _)) | (with_reducible refine bel_set ?_ (by simp) _) | (with_reducible refine bel_set ?_ (by simp; omega) _) | (with_reducible refine bel_set ?_ (by omega) _))))) HS.out).mono ?_
  rintro e w1 ⟨⟨x, rfl, hx⟩, hb1⟩
  have hz_w1 : w.heap.size + 1 ≤ w1.heap.size := (by have hq := (hb1).size; (try simp at hq); omega); have hc0_w1 := fun o => (bcell hb1).1 (w.heap.size) o (by first | (simp; done) | (simp; omega) | omega)
  cases x
  case true =>
    clear hx
    go_wp2_with fail
    go_ret
    exact ⟨rfl, by (repeat (first | (with_reducible exact Below.refl _ _) | (with_reducible assumption) | (with_reducible apply bel_alloc) | (with_reducible apply bel_drew) | (with_reducible apply bel_drewN) | (with_reducible refine bel_trans ?_ (by with_reducible assumption)) | (with_reducible refine bel_trans ?_ (HF.out _)) | (with_reducible refine bel_set ?_ (by simp) _) | (with_reducible refine bel_set ?_ (by simp; omega) _) | (with_reducible refine bel_set ?_ (by omega) _)))⟩
  case false =>
    obtain ⟨hLi, him, hlm⟩ := hx rfl
    have HLI := Lib.hid hLi
    clear hx hLi
    go_wp2_with fail
    refine (ref14_May A n c D _ (HL.out.up (by (repeat (first | (with_reducible exact Below.refl _ _) | (with_reducible assumption) | (with_reducible apply bel_alloc) | (with_reducible apply bel_drew) | (with_reducible apply bel_drewN) | (with_reducible refine bel_trans ?_ (by with_reducible assumption)) | (with_reducible refine bel_trans ?_ (HF.out _)) | (with_reducible refine bel_set ?_ (by simp) _) | (with_reducible refine bel_set ?_ (by simp; omega) _) | (with_reducible refine bel_set ?_ (by omega) _)))))).mono ?_
    rintro e w2 ⟨rfl, hb2⟩
    rw [may_eq]
    have hB2 : BoxR w2 w.heap.size [.int .i64 D.nodes, .int .i64 D.low, .slice A n c, .slice iA im ic, .slice lA lm lc] := ((BoxR.new w [.int .i64 D.nodes, .int .i64 D.low, .slice A n c, .slice iA im ic, .slice lA lm lc] 52).up hb1).up hb2
    have hbw2 : Below w.heap.size w w2 := by (repeat (first | (with_reducible exact Below.refl _ _) | (with_reducible assumption) | (with_reducible apply bel_alloc) | (with_reducible apply bel_drew) | (with_reducible apply bel_drewN) | (with_reducible refine bel_trans ?_ (by with_reducible assumption)) | (with_reducible refine bel_trans ?_ (HF.out _)) | (with_reducible refine bel_set ?_ (by simp) _) | (with_reducible refine bel_set ?_ (by simp; omega) _) | (with_reducible refine bel_set ?_ (by omega) _)))
    clear hc0_w1 hz_w1
    have b_0 := (hB2).2 0 _ rfl; have b_1 := (hB2).2 1 _ rfl; have b_2 := (hB2).2 2 _ rfl; have b_3 := (hB2).2 3 _ rfl; have b_4 := (hB2).2 4 _ rfl
    cases hm : mayS D
    · have hbad : ¬ (mayS D = true ∧ risS Lo = true) := by rw [hm]; simp
      have HBAD := Lib.hid hbad
      have hbx2 := hbw2
      have hBx2 := hB2
      clear hbad
      go_wp2_with fail
      refine (ref0_CopyDag A n c D _ (HL.out.up hbx2) HLI.out).mono ?_
      rintro e w3 ⟨dA, dc, rfl, hD3, hb3⟩
      have HD := Lib.hid hD3
      have hB3 := hBx2.up hb3
      have hbw3 : Below w.heap.size w w3 := bel_trans hbx2 hb3
      have hg3 : w.heap.size < w3.heap.size := hB3.1
      clear hD3 b_0 b_1 b_2 b_3 b_4
      have b_0 := (hB3).2 0 _ rfl; have b_1 := (hB3).2 1 _ rfl; have b_2 := (hB3).2 2 _ rfl; have b_3 := (hB3).2 3 _ rfl; have b_4 := (hB3).2 4 _ rfl
      go_wp2_with fail
      refine (ref0_CopyNumbers lA lm lc Lo _ (HO.out.up (by (repeat (first | (with_reducible exact Below.refl _ _) | (with_reducible assumption) | (with_reducible apply bel_alloc) | (with_reducible apply bel_drew) | (with_reducible apply bel_drewN) | (with_reducible refine bel_trans ?_ (by with_reducible assumption)) | (with_reducible refine bel_trans ?_ (HF.out _)) | (with_reducible refine bel_set ?_ (by simp) _) | (with_reducible refine bel_set ?_ (by simp; omega) _) | (with_reducible refine bel_set ?_ (by omega) _))))) (by omega)).mono ?_
      rintro e w4 ⟨v4, rfl, hown4, hb4⟩
      obtain ⟨eA, ec, rfl, hE, _⟩ := hown4.ints (by rw [HLO.out]; omega)
      rw [HLO.out] at hE ⊢
      have HE := Lib.hid hE
      have hdn : BoxR w4 w3.heap.size [.int .i64 D.nodes, .int .i64 D.low, .slice dA n dc] := (BoxR.new w3 [.int .i64 D.nodes, .int .i64 D.low, .slice dA n dc] 24).up hb4
      have hB4 := (hB3.up (w' := w3.alloc (.cells #[.int .i64 D.nodes, .int .i64 D.low, .slice dA n dc] 24)) (by (repeat (first | (with_reducible exact Below.refl _ _) | (with_reducible assumption) | (with_reducible apply bel_alloc) | (with_reducible apply bel_drew) | (with_reducible apply bel_drewN) | (with_reducible refine bel_trans ?_ (by with_reducible assumption)) | (with_reducible refine bel_trans ?_ (HF.out _)) | (with_reducible refine bel_set ?_ (by simp) _) | (with_reducible refine bel_set ?_ (by simp; omega) _) | (with_reducible refine bel_set ?_ (by omega) _))))).up hb4
      have hb34 : Below w3.heap.size w3 w4 := bel_trans (by (repeat (first | (with_reducible exact Below.refl _ _) | (with_reducible assumption) | (with_reducible apply bel_alloc) | (with_reducible apply bel_drew) | (with_reducible apply bel_drewN) | (with_reducible refine bel_trans ?_ (by with_reducible assumption)) | (with_reducible refine bel_trans ?_ (HF.out _)) | (with_reducible refine bel_set ?_ (by simp) _) | (with_reducible refine bel_set ?_ (by simp; omega) _) | (with_reducible refine bel_set ?_ (by omega) _)))) hb4
      have hbw4 : Below w.heap.size w w4 := bel_trans hbw3 hb34
      have HD4 := Lib.hid (HD.out.up hb34)
      clear hE hown4 b_0 b_1 b_2 b_3 b_4 HD hb4
      go_wp2_with fail
      go_loopw [6] (fun ix wr => ∃ i : Nat, i ≤ im ∧ ix = .int .i64 i ∧ Below w4.heap.size w4 wr ∧ BoxR wr w3.heap.size [.int .i64 D.nodes, .int .i64 D.low, .slice dA n dc]) (fun ix _ => im - (intOf ix).toNat)
      case atStart => exact ⟨0, Nat.zero_le _, rfl, Below.refl _ _, hdn⟩
      case round =>
        clear hdn
        obtain ⟨i, hi, rfl, hby, hdy⟩ := hrel
        (obtain ⟨wk, hwk⟩ : ∃ x, x = wr := ⟨_, rfl⟩); subst hwk
        have hBk := hB4.up hby
        have hbwk : Below w.heap.size w wk := bel_trans hbw4 hby
        have b_0 := (hBk).2 0 _ rfl; have b_1 := (hBk).2 1 _ rfl; have b_2 := (hBk).2 2 _ rfl; have b_3 := (hBk).2 3 _ rfl; have b_4 := (hBk).2 4 _ rfl
        by_cases hlt : i < im
        · obtain ⟨ib, ioff, rfl, hib, hic⟩ := HI.out.2.2 (by omega)
          have hcells : ∀ X, Below wk.heap.size wk X → X.cell? ⟨w.heap.size, 0, none⟩ = some (.int .i64 D.nodes) ∧ X.cell? ⟨w.heap.size, 1, none⟩ = some (.int .i64 D.low) ∧ X.cell? ⟨w.heap.size, 2, none⟩ = some (.slice A n c) ∧ X.cell? ⟨w.heap.size, 3, none⟩ = some (.slice (some ⟨ib, ioff, none⟩) im ic) ∧ X.cell? ⟨w.heap.size, 4, none⟩ = some (.slice lA lm lc) ∧ X.cell? ⟨ib, ioff + i, none⟩ = some (.int .i64 (nth Is i)) ∧ X.cell? ⟨w3.heap.size, 0, none⟩ = some (.int .i64 D.nodes) ∧ X.cell? ⟨w3.heap.size, 1, none⟩ = some (.int .i64 D.low) ∧ X.cell? ⟨w3.heap.size, 2, none⟩ = some (.slice dA n dc) := fun X hX => by
            have hbX := bel_trans hbwk hX
            exact ⟨(hBk.up hX).2 0 _ rfl, (hBk.up hX).2 1 _ rfl, (hBk.up hX).2 2 _ rfl, (hBk.up hX).2 3 _ rfl, (hBk.up hX).2 4 _ rfl, (hbX.cell (p := ⟨ib, ioff + i, none⟩) hib).trans (hic i hlt), (hdy.up hX).2 0 _ rfl, (hdy.up hX).2 1 _ rfl, (hdy.up hX).2 2 _ rfl⟩
          have HC := Lib.hid hcells
          have hww : w3.heap.size < wk.heap.size := hdy.1
          clear hcells hic
          have hq := order_bad (D := D) (done := Lo) (nth Is i) HBAD.out
          have HQB := Lib.hid hq.1
          have HQE := Lib.hid hq.2
          have hwant : IntsR wk none ([] : List Int).length [] := IntsR.nil _ _
          have HW := Lib.hid hwant
          have hwl : ([] : List Int).length ≤ 65536 := by simp
          clear hwant hq
          go_wp2_with fail
          clear b_0 b_1 b_2 b_3 b_4
          obtain ⟨wz, hwz⟩ : ∃ x, x = wk := ⟨_, rfl⟩
          have hbz : Below wk.heap.size wk wz := hwz ▸ Below.refl _ _
          rw [← hwz] at HW ⊢
          clear hwz
          go_region_held3 (fun X => X.cell? ⟨w.heap.size, 0, none⟩ = some (.int .i64 D.nodes) ∧ X.cell? ⟨w.heap.size, 1, none⟩ = some (.int .i64 D.low) ∧ X.cell? ⟨w.heap.size, 2, none⟩ = some (.slice A n c) ∧ X.cell? ⟨w.heap.size, 3, none⟩ = some (.slice (some ⟨ib, ioff, none⟩) im ic) ∧ X.cell? ⟨w.heap.size, 4, none⟩ = some (.slice lA lm lc) ∧ X.cell? ⟨ib, ioff + i, none⟩ = some (.int .i64 (nth Is i)) ∧ X.cell? ⟨w3.heap.size, 0, none⟩ = some (.int .i64 D.nodes) ∧ X.cell? ⟨w3.heap.size, 1, none⟩ = some (.int .i64 D.low) ∧ X.cell? ⟨w3.heap.size, 2, none⟩ = some (.slice dA n dc))
            (exact HC.out _ (by (repeat (first | (with_reducible exact Below.refl _ _) | (with_reducible assumption) | (with_reducible apply bel_alloc) | (with_reducible apply bel_drew) | (with_reducible apply bel_drewN) | (with_reducible refine bel_trans ?_ (by with_reducible assumption)) | (with_reducible refine bel_trans ?_ (HF.out _)) | (with_reducible refine bel_set ?_ (by simp) _) | (with_reducible refine bel_set ?_ (by simp; omega) _) | (with_reducible refine bel_set ?_ (by omega) _)))))
            ((go_at_call 33; refine (order_Order _ _ _ D _ _ _ _ Lo _ (HD4.out.up (by (repeat (first | (with_reducible exact Below.refl _ _) | (with_reducible assumption) | (with_reducible apply bel_alloc) | (with_reducible apply bel_drew) | (with_reducible apply bel_drewN) | (with_reducible refine bel_trans ?_ (by with_reducible assumption)) | (with_reducible refine bel_trans ?_ (HF.out _)) | (with_reducible refine bel_set ?_ (by simp) _) | (with_reducible refine bel_set ?_ (by simp; omega) _) | (with_reducible refine bel_set ?_ (by omega) _))))) (HE.out.up (by (repeat (first | (with_reducible exact Below.refl _ _) | (with_reducible assumption) | (with_reducible apply bel_alloc) | (with_reducible apply bel_drew) | (with_reducible apply bel_drewN) | (with_reducible refine bel_trans ?_ (by with_reducible assumption)) | (with_reducible refine bel_trans ?_ (HF.out _)) | (with_reducible refine bel_set ?_ (by simp) _) | (with_reducible refine bel_set ?_ (by simp; omega) _) | (with_reducible refine bel_set ?_ (by omega) _))))) (by omega)).mono ?_; rintro e w5 ⟨v, rfl, hown, hb5⟩; rw [HQE.out]; rw [HQB.out] at hown; obtain ⟨xA, xc, rfl, hint, _⟩ := hown.ints (by omega); have hb5k : Below wk.heap.size wk w5 := (by (repeat (first | (with_reducible exact Below.refl _ _) | (with_reducible assumption) | (with_reducible apply bel_alloc) | (with_reducible apply bel_drew) | (with_reducible apply bel_drewN) | (with_reducible refine bel_trans ?_ (by with_reducible assumption)) | (with_reducible refine bel_trans ?_ (HF.out _)) | (with_reducible refine bel_set ?_ (by simp) _) | (with_reducible refine bel_set ?_ (by simp; omega) _) | (with_reducible refine bel_set ?_ (by omega) _))))))
          have hb5z : Below wz.heap.size wz w5 := bel_trans (bel_drew (Below.refl _ _)) hb5
          have hown5 : OwnI w5 wz.heap.size _ _ := hown
          clear hb5 hown
          have HINT := Lib.hid hint
          have HOWN := Lib.hid hown5
          clear hint hown5
          go_wp2_with (go_at_call 34; refine (law17_num _ _).mono ?_; rintro e w' ⟨rfl, rfl⟩)
          refine (ref0_EqNumbers_same _ _ _ _ _ _ _ _ HINT.out (HW.out.up hb5z)).mono ?_
          rintro e w6 ⟨rfl, hb6⟩
          have hb6k := bel_trans hb5k hb6
          obtain ⟨k0, k1, k2, k3, k4, k5, k6, k7, k8⟩ := HC.out w6 hb6k
          go_wp2_with fail
          refine (ref0_EqDag dA n dc A c D _ (HD4.out.up (bel_trans hby hb6k)) (HL.out.up (bel_trans hbwk hb6k))).mono ?_
          rintro e w7 ⟨rfl, hb7⟩
          have hb7k : Below wk.heap.size wk w7 := bel_trans hb6k hb7
          clear k0 k1 k2 k3 k4 k5 k6 k7 k8
          obtain ⟨k0, k1, k2, k3, k4, k5, k6, k7, k8⟩ := HC.out w7 hb7k
          go_wp2_with fail
          refine (ref0_EqNumbers_same eA lm ec Lo lA lm lc _ (HE.out.up (bel_trans hby hb7k)) (HO.out.up (bel_trans hbwk hb7k))).mono ?_
          rintro e w8 ⟨rfl, hb8⟩
          have hb8k : Below wk.heap.size wk w8 := bel_trans hb7k hb8
          have hB8 : wz.heap.size ≤ w8.heap.size := Nat.le_trans hb5z.size (Nat.le_trans hb6.size (Nat.le_trans hb7.size hb8.size))
          clear k0 k1 k2 k3 k4 k5 k6 k7 k8
          go_wp2_with fail
          refine (law0_Numbers _ _ wz.heap.size _ (((HOWN.out.up hb6).up hb7).up hb8) (by omega) hB8).mono ?_
          rintro e w9 ⟨rfl, hb9⟩
          have hwz9 : w4.heap.size ≤ wz.heap.size := Nat.le_trans hby.size hbz.size
          have hwz3 : w3.heap.size < wz.heap.size := Nat.lt_of_lt_of_le hww hbz.size
          have hfin : Below w4.heap.size w4 w9 := Below.trans (bel_trans hby hb8k) (hb9.mono hwz9)
          have hdfin := (hdy.up hb8k).below hb9 hwz3
          go_wp2_with fail
          (first | (go_round; (case rel => exact ⟨i + 1, by omega, by go_num, hfin, hdfin⟩); (case measure => (simp [intOf] <;> omega))) | (go_roundw; (case rel => exact ⟨i + 1, by omega, by go_num, hfin, hdfin⟩); (case measure => (simp [intOf] <;> omega))) | (refine ⟨?_, by simp [intOf] <;> omega⟩; (repeat apply Exists.intro); refine ⟨?rel, ?fr⟩; (case fr => ((repeat' apply And.intro) <;> rfl)); (case rel => exact ⟨i + 1, by omega, by go_num, hfin, hdfin⟩)))
        · go_wp2_with (go_at_call 35; refine (law17_wakes _).mono ?_; rintro e w9 ⟨rfl, hb9⟩)
          go_ret
          exact ⟨rfl, bel_trans hbwk hb9⟩
    · have HM := Lib.hid hm
      clear hm
      go_wp2_with fail
      refine (ref0_Rising lA lm lc Lo _ (HO.out.up hbw2)).mono ?_
      rintro e wy ⟨rfl, hby2⟩
      have hbx2 : Below w.heap.size w wy := bel_trans hbw2 hby2
      have hBx2 := hB2.up hby2
      clear b_0 b_1 b_2 b_3 b_4
      have b_0 := (hBx2).2 0 _ rfl; have b_1 := (hBx2).2 1 _ rfl; have b_2 := (hBx2).2 2 _ rfl; have b_3 := (hBx2).2 3 _ rfl; have b_4 := (hBx2).2 4 _ rfl
      cases hr : risS Lo
      · have hbad : ¬ (mayS D = true ∧ risS Lo = true) := by rw [hr]; simp
        have HBAD := Lib.hid hbad
        clear hbad hr
        go_wp2_with fail
        refine (ref0_CopyDag A n c D _ (HL.out.up hbx2) HLI.out).mono ?_
        rintro e w3 ⟨dA, dc, rfl, hD3, hb3⟩
        have HD := Lib.hid hD3
        have hB3 := hBx2.up hb3
        have hbw3 : Below w.heap.size w w3 := bel_trans hbx2 hb3
        have hg3 : w.heap.size < w3.heap.size := hB3.1
        clear hD3 b_0 b_1 b_2 b_3 b_4
        have b_0 := (hB3).2 0 _ rfl; have b_1 := (hB3).2 1 _ rfl; have b_2 := (hB3).2 2 _ rfl; have b_3 := (hB3).2 3 _ rfl; have b_4 := (hB3).2 4 _ rfl
        go_wp2_with fail
        refine (ref0_CopyNumbers lA lm lc Lo _ (HO.out.up (by (repeat (first | (with_reducible exact Below.refl _ _) | (with_reducible assumption) | (with_reducible apply bel_alloc) | (with_reducible apply bel_drew) | (with_reducible apply bel_drewN) | (with_reducible refine bel_trans ?_ (by with_reducible assumption)) | (with_reducible refine bel_trans ?_ (HF.out _)) | (with_reducible refine bel_set ?_ (by simp) _) | (with_reducible refine bel_set ?_ (by simp; omega) _) | (with_reducible refine bel_set ?_ (by omega) _))))) (by omega)).mono ?_
        rintro e w4 ⟨v4, rfl, hown4, hb4⟩
        obtain ⟨eA, ec, rfl, hE, _⟩ := hown4.ints (by rw [HLO.out]; omega)
        rw [HLO.out] at hE ⊢
        have HE := Lib.hid hE
        have hdn : BoxR w4 w3.heap.size [.int .i64 D.nodes, .int .i64 D.low, .slice dA n dc] := (BoxR.new w3 [.int .i64 D.nodes, .int .i64 D.low, .slice dA n dc] 24).up hb4
        have hB4 := (hB3.up (w' := w3.alloc (.cells #[.int .i64 D.nodes, .int .i64 D.low, .slice dA n dc] 24)) (by (repeat (first | (with_reducible exact Below.refl _ _) | (with_reducible assumption) | (with_reducible apply bel_alloc) | (with_reducible apply bel_drew) | (with_reducible apply bel_drewN) | (with_reducible refine bel_trans ?_ (by with_reducible assumption)) | (with_reducible refine bel_trans ?_ (HF.out _)) | (with_reducible refine bel_set ?_ (by simp) _) | (with_reducible refine bel_set ?_ (by simp; omega) _) | (with_reducible refine bel_set ?_ (by omega) _))))).up hb4
        have hb34 : Below w3.heap.size w3 w4 := bel_trans (by (repeat (first | (with_reducible exact Below.refl _ _) | (with_reducible assumption) | (with_reducible apply bel_alloc) | (with_reducible apply bel_drew) | (with_reducible apply bel_drewN) | (with_reducible refine bel_trans ?_ (by with_reducible assumption)) | (with_reducible refine bel_trans ?_ (HF.out _)) | (with_reducible refine bel_set ?_ (by simp) _) | (with_reducible refine bel_set ?_ (by simp; omega) _) | (with_reducible refine bel_set ?_ (by omega) _)))) hb4
        have hbw4 : Below w.heap.size w w4 := bel_trans hbw3 hb34
        have HD4 := Lib.hid (HD.out.up hb34)
        clear hE hown4 b_0 b_1 b_2 b_3 b_4 HD hb4
        go_wp2_with fail
        go_loopw [6] (fun ix wr => ∃ i : Nat, i ≤ im ∧ ix = .int .i64 i ∧ Below w4.heap.size w4 wr ∧ BoxR wr w3.heap.size [.int .i64 D.nodes, .int .i64 D.low, .slice dA n dc]) (fun ix _ => im - (intOf ix).toNat)
        case atStart => exact ⟨0, Nat.zero_le _, rfl, Below.refl _ _, hdn⟩
        case round =>
          clear hdn
          obtain ⟨i, hi, rfl, hby, hdy⟩ := hrel
          (obtain ⟨wk, hwk⟩ : ∃ x, x = wr := ⟨_, rfl⟩); subst hwk
          have hBk := hB4.up hby
          have hbwk : Below w.heap.size w wk := bel_trans hbw4 hby
          have b_0 := (hBk).2 0 _ rfl; have b_1 := (hBk).2 1 _ rfl; have b_2 := (hBk).2 2 _ rfl; have b_3 := (hBk).2 3 _ rfl; have b_4 := (hBk).2 4 _ rfl
          by_cases hlt : i < im
          · obtain ⟨ib, ioff, rfl, hib, hic⟩ := HI.out.2.2 (by omega)
            have hcells : ∀ X, Below wk.heap.size wk X → X.cell? ⟨w.heap.size, 0, none⟩ = some (.int .i64 D.nodes) ∧ X.cell? ⟨w.heap.size, 1, none⟩ = some (.int .i64 D.low) ∧ X.cell? ⟨w.heap.size, 2, none⟩ = some (.slice A n c) ∧ X.cell? ⟨w.heap.size, 3, none⟩ = some (.slice (some ⟨ib, ioff, none⟩) im ic) ∧ X.cell? ⟨w.heap.size, 4, none⟩ = some (.slice lA lm lc) ∧ X.cell? ⟨ib, ioff + i, none⟩ = some (.int .i64 (nth Is i)) ∧ X.cell? ⟨w3.heap.size, 0, none⟩ = some (.int .i64 D.nodes) ∧ X.cell? ⟨w3.heap.size, 1, none⟩ = some (.int .i64 D.low) ∧ X.cell? ⟨w3.heap.size, 2, none⟩ = some (.slice dA n dc) := fun X hX => by
              have hbX := bel_trans hbwk hX
              exact ⟨(hBk.up hX).2 0 _ rfl, (hBk.up hX).2 1 _ rfl, (hBk.up hX).2 2 _ rfl, (hBk.up hX).2 3 _ rfl, (hBk.up hX).2 4 _ rfl, (hbX.cell (p := ⟨ib, ioff + i, none⟩) hib).trans (hic i hlt), (hdy.up hX).2 0 _ rfl, (hdy.up hX).2 1 _ rfl, (hdy.up hX).2 2 _ rfl⟩
            have HC := Lib.hid hcells
            have hww : w3.heap.size < wk.heap.size := hdy.1
            clear hcells hic
            have hq := order_bad (D := D) (done := Lo) (nth Is i) HBAD.out
            have HQB := Lib.hid hq.1
            have HQE := Lib.hid hq.2
            have hwant : IntsR wk none ([] : List Int).length [] := IntsR.nil _ _
            have HW := Lib.hid hwant
            have hwl : ([] : List Int).length ≤ 65536 := by simp
            clear hwant hq
            go_wp2_with fail
            clear b_0 b_1 b_2 b_3 b_4
            obtain ⟨wz, hwz⟩ : ∃ x, x = wk := ⟨_, rfl⟩
            have hbz : Below wk.heap.size wk wz := hwz ▸ Below.refl _ _
            rw [← hwz] at HW ⊢
            clear hwz
            go_region_held3 (fun X => X.cell? ⟨w.heap.size, 0, none⟩ = some (.int .i64 D.nodes) ∧ X.cell? ⟨w.heap.size, 1, none⟩ = some (.int .i64 D.low) ∧ X.cell? ⟨w.heap.size, 2, none⟩ = some (.slice A n c) ∧ X.cell? ⟨w.heap.size, 3, none⟩ = some (.slice (some ⟨ib, ioff, none⟩) im ic) ∧ X.cell? ⟨w.heap.size, 4, none⟩ = some (.slice lA lm lc) ∧ X.cell? ⟨ib, ioff + i, none⟩ = some (.int .i64 (nth Is i)) ∧ X.cell? ⟨w3.heap.size, 0, none⟩ = some (.int .i64 D.nodes) ∧ X.cell? ⟨w3.heap.size, 1, none⟩ = some (.int .i64 D.low) ∧ X.cell? ⟨w3.heap.size, 2, none⟩ = some (.slice dA n dc))
              (exact HC.out _ (by (repeat (first | (with_reducible exact Below.refl _ _) | (with_reducible assumption) | (with_reducible apply bel_alloc) | (with_reducible apply bel_drew) | (with_reducible apply bel_drewN) | (with_reducible refine bel_trans ?_ (by with_reducible assumption)) | (with_reducible refine bel_trans ?_ (HF.out _)) | (with_reducible refine bel_set ?_ (by simp) _) | (with_reducible refine bel_set ?_ (by simp; omega) _) | (with_reducible refine bel_set ?_ (by omega) _)))))
              ((go_at_call 33; refine (order_Order _ _ _ D _ _ _ _ Lo _ (HD4.out.up (by (repeat (first | (with_reducible exact Below.refl _ _) | (with_reducible assumption) | (with_reducible apply bel_alloc) | (with_reducible apply bel_drew) | (with_reducible apply bel_drewN) | (with_reducible refine bel_trans ?_ (by with_reducible assumption)) | (with_reducible refine bel_trans ?_ (HF.out _)) | (with_reducible refine bel_set ?_ (by simp) _) | (with_reducible refine bel_set ?_ (by simp; omega) _) | (with_reducible refine bel_set ?_ (by omega) _))))) (HE.out.up (by (repeat (first | (with_reducible exact Below.refl _ _) | (with_reducible assumption) | (with_reducible apply bel_alloc) | (with_reducible apply bel_drew) | (with_reducible apply bel_drewN) | (with_reducible refine bel_trans ?_ (by with_reducible assumption)) | (with_reducible refine bel_trans ?_ (HF.out _)) | (with_reducible refine bel_set ?_ (by simp) _) | (with_reducible refine bel_set ?_ (by simp; omega) _) | (with_reducible refine bel_set ?_ (by omega) _))))) (by omega)).mono ?_; rintro e w5 ⟨v, rfl, hown, hb5⟩; rw [HQE.out]; rw [HQB.out] at hown; obtain ⟨xA, xc, rfl, hint, _⟩ := hown.ints (by omega); have hb5k : Below wk.heap.size wk w5 := (by (repeat (first | (with_reducible exact Below.refl _ _) | (with_reducible assumption) | (with_reducible apply bel_alloc) | (with_reducible apply bel_drew) | (with_reducible apply bel_drewN) | (with_reducible refine bel_trans ?_ (by with_reducible assumption)) | (with_reducible refine bel_trans ?_ (HF.out _)) | (with_reducible refine bel_set ?_ (by simp) _) | (with_reducible refine bel_set ?_ (by simp; omega) _) | (with_reducible refine bel_set ?_ (by omega) _))))))
            have hb5z : Below wz.heap.size wz w5 := bel_trans (bel_drew (Below.refl _ _)) hb5
            have hown5 : OwnI w5 wz.heap.size _ _ := hown
            clear hb5 hown
            have HINT := Lib.hid hint
            have HOWN := Lib.hid hown5
            clear hint hown5
            go_wp2_with (go_at_call 34; refine (law17_num _ _).mono ?_; rintro e w' ⟨rfl, rfl⟩)
            refine (ref0_EqNumbers_same _ _ _ _ _ _ _ _ HINT.out (HW.out.up hb5z)).mono ?_
            rintro e w6 ⟨rfl, hb6⟩
            have hb6k := bel_trans hb5k hb6
            obtain ⟨k0, k1, k2, k3, k4, k5, k6, k7, k8⟩ := HC.out w6 hb6k
            go_wp2_with fail
            refine (ref0_EqDag dA n dc A c D _ (HD4.out.up (bel_trans hby hb6k)) (HL.out.up (bel_trans hbwk hb6k))).mono ?_
            rintro e w7 ⟨rfl, hb7⟩
            have hb7k : Below wk.heap.size wk w7 := bel_trans hb6k hb7
            clear k0 k1 k2 k3 k4 k5 k6 k7 k8
            obtain ⟨k0, k1, k2, k3, k4, k5, k6, k7, k8⟩ := HC.out w7 hb7k
            go_wp2_with fail
            refine (ref0_EqNumbers_same eA lm ec Lo lA lm lc _ (HE.out.up (bel_trans hby hb7k)) (HO.out.up (bel_trans hbwk hb7k))).mono ?_
            rintro e w8 ⟨rfl, hb8⟩
            have hb8k : Below wk.heap.size wk w8 := bel_trans hb7k hb8
            have hB8 : wz.heap.size ≤ w8.heap.size := Nat.le_trans hb5z.size (Nat.le_trans hb6.size (Nat.le_trans hb7.size hb8.size))
            clear k0 k1 k2 k3 k4 k5 k6 k7 k8
            go_wp2_with fail
            refine (law0_Numbers _ _ wz.heap.size _ (((HOWN.out.up hb6).up hb7).up hb8) (by omega) hB8).mono ?_
            rintro e w9 ⟨rfl, hb9⟩
            have hwz9 : w4.heap.size ≤ wz.heap.size := Nat.le_trans hby.size hbz.size
            have hwz3 : w3.heap.size < wz.heap.size := Nat.lt_of_lt_of_le hww hbz.size
            have hfin : Below w4.heap.size w4 w9 := Below.trans (bel_trans hby hb8k) (hb9.mono hwz9)
            have hdfin := (hdy.up hb8k).below hb9 hwz3
            go_wp2_with fail
            (first | (go_round; (case rel => exact ⟨i + 1, by omega, by go_num, hfin, hdfin⟩); (case measure => (simp [intOf] <;> omega))) | (go_roundw; (case rel => exact ⟨i + 1, by omega, by go_num, hfin, hdfin⟩); (case measure => (simp [intOf] <;> omega))) | (refine ⟨?_, by simp [intOf] <;> omega⟩; (repeat apply Exists.intro); refine ⟨?rel, ?fr⟩; (case fr => ((repeat' apply And.intro) <;> rfl)); (case rel => exact ⟨i + 1, by omega, by go_num, hfin, hdfin⟩)))
          · go_wp2_with (go_at_call 35; refine (law17_wakes _).mono ?_; rintro e w9 ⟨rfl, hb9⟩)
            go_ret
            exact ⟨rfl, bel_trans hbwk hb9⟩
      · have HR := Lib.hid hr
        clear hr
        go_wp2_with fail
        refine (ref0_CopyDag A n c D _ (HL.out.up hbx2) HLI.out).mono ?_
        rintro e w3 ⟨dA, dc, rfl, hD3, hb3⟩
        have HD := Lib.hid hD3
        have hB3 := hBx2.up hb3
        have hbw3 : Below w.heap.size w w3 := bel_trans hbx2 hb3
        have hg3 : w.heap.size < w3.heap.size := hB3.1
        clear hD3 b_0 b_1 b_2 b_3 b_4
        have b_0 := (hB3).2 0 _ rfl; have b_1 := (hB3).2 1 _ rfl; have b_2 := (hB3).2 2 _ rfl; have b_3 := (hB3).2 3 _ rfl; have b_4 := (hB3).2 4 _ rfl
        go_wp2_with fail
        refine (ref0_CopyNumbers lA lm lc Lo _ (HO.out.up (by (repeat (first | (with_reducible exact Below.refl _ _) | (with_reducible assumption) | (with_reducible apply bel_alloc) | (with_reducible apply bel_drew) | (with_reducible apply bel_drewN) | (with_reducible refine bel_trans ?_ (by with_reducible assumption)) | (with_reducible refine bel_trans ?_ (HF.out _)) | (with_reducible refine bel_set ?_ (by simp) _) | (with_reducible refine bel_set ?_ (by simp; omega) _) | (with_reducible refine bel_set ?_ (by omega) _))))) (by omega)).mono ?_
        rintro e w4 ⟨v4, rfl, hown4, hb4⟩
        obtain ⟨eA, ec, rfl, hE, _⟩ := hown4.ints (by rw [HLO.out]; omega)
        rw [HLO.out] at hE ⊢
        have HE := Lib.hid hE
        have hdn : BoxR w4 w3.heap.size [.int .i64 D.nodes, .int .i64 D.low, .slice dA n dc] := (BoxR.new w3 [.int .i64 D.nodes, .int .i64 D.low, .slice dA n dc] 24).up hb4
        have hB4 := (hB3.up (w' := w3.alloc (.cells #[.int .i64 D.nodes, .int .i64 D.low, .slice dA n dc] 24)) (by (repeat (first | (with_reducible exact Below.refl _ _) | (with_reducible assumption) | (with_reducible apply bel_alloc) | (with_reducible apply bel_drew) | (with_reducible apply bel_drewN) | (with_reducible refine bel_trans ?_ (by with_reducible assumption)) | (with_reducible refine bel_trans ?_ (HF.out _)) | (with_reducible refine bel_set ?_ (by simp) _) | (with_reducible refine bel_set ?_ (by simp; omega) _) | (with_reducible refine bel_set ?_ (by omega) _))))).up hb4
        have hb34 : Below w3.heap.size w3 w4 := bel_trans (by (repeat (first | (with_reducible exact Below.refl _ _) | (with_reducible assumption) | (with_reducible apply bel_alloc) | (with_reducible apply bel_drew) | (with_reducible apply bel_drewN) | (with_reducible refine bel_trans ?_ (by with_reducible assumption)) | (with_reducible refine bel_trans ?_ (HF.out _)) | (with_reducible refine bel_set ?_ (by simp) _) | (with_reducible refine bel_set ?_ (by simp; omega) _) | (with_reducible refine bel_set ?_ (by omega) _)))) hb4
        have hbw4 : Below w.heap.size w w4 := bel_trans hbw3 hb34
        have HD4 := Lib.hid (HD.out.up hb34)
        clear hE hown4 b_0 b_1 b_2 b_3 b_4 HD hb4
        go_wp2_with fail
        go_loopw [6] (fun ix wr => ∃ i : Nat, i ≤ im ∧ ix = .int .i64 i ∧ Below w4.heap.size w4 wr ∧ BoxR wr w3.heap.size [.int .i64 D.nodes, .int .i64 D.low, .slice dA n dc]) (fun ix _ => im - (intOf ix).toNat)
        case atStart => exact ⟨0, Nat.zero_le _, rfl, Below.refl _ _, hdn⟩
        case round =>
          clear hdn
          obtain ⟨i, hi, rfl, hby, hdy⟩ := hrel
          (obtain ⟨wk, hwk⟩ : ∃ x, x = wr := ⟨_, rfl⟩); subst hwk
          have hBk := hB4.up hby
          have hbwk : Below w.heap.size w wk := bel_trans hbw4 hby
          have b_0 := (hBk).2 0 _ rfl; have b_1 := (hBk).2 1 _ rfl; have b_2 := (hBk).2 2 _ rfl; have b_3 := (hBk).2 3 _ rfl; have b_4 := (hBk).2 4 _ rfl
          by_cases hlt : i < im
          · obtain ⟨ib, ioff, rfl, hib, hic⟩ := HI.out.2.2 (by omega)
            have hcells : ∀ X, Below wk.heap.size wk X → X.cell? ⟨w.heap.size, 0, none⟩ = some (.int .i64 D.nodes) ∧ X.cell? ⟨w.heap.size, 1, none⟩ = some (.int .i64 D.low) ∧ X.cell? ⟨w.heap.size, 2, none⟩ = some (.slice A n c) ∧ X.cell? ⟨w.heap.size, 3, none⟩ = some (.slice (some ⟨ib, ioff, none⟩) im ic) ∧ X.cell? ⟨w.heap.size, 4, none⟩ = some (.slice lA lm lc) ∧ X.cell? ⟨ib, ioff + i, none⟩ = some (.int .i64 (nth Is i)) ∧ X.cell? ⟨w3.heap.size, 0, none⟩ = some (.int .i64 D.nodes) ∧ X.cell? ⟨w3.heap.size, 1, none⟩ = some (.int .i64 D.low) ∧ X.cell? ⟨w3.heap.size, 2, none⟩ = some (.slice dA n dc) := fun X hX => by
              have hbX := bel_trans hbwk hX
              exact ⟨(hBk.up hX).2 0 _ rfl, (hBk.up hX).2 1 _ rfl, (hBk.up hX).2 2 _ rfl, (hBk.up hX).2 3 _ rfl, (hBk.up hX).2 4 _ rfl, (hbX.cell (p := ⟨ib, ioff + i, none⟩) hib).trans (hic i hlt), (hdy.up hX).2 0 _ rfl, (hdy.up hX).2 1 _ rfl, (hdy.up hX).2 2 _ rfl⟩
            have HC := Lib.hid hcells
            have hww : w3.heap.size < wk.heap.size := hdy.1
            clear hcells hic
            go_wp2_with fail
            clear b_0 b_1 b_2 b_3 b_4
            go_region_held3 (fun X => X.cell? ⟨w.heap.size, 0, none⟩ = some (.int .i64 D.nodes) ∧ X.cell? ⟨w.heap.size, 1, none⟩ = some (.int .i64 D.low) ∧ X.cell? ⟨w.heap.size, 2, none⟩ = some (.slice A n c) ∧ X.cell? ⟨w.heap.size, 3, none⟩ = some (.slice (some ⟨ib, ioff, none⟩) im ic) ∧ X.cell? ⟨w.heap.size, 4, none⟩ = some (.slice lA lm lc) ∧ X.cell? ⟨ib, ioff + i, none⟩ = some (.int .i64 (nth Is i)) ∧ X.cell? ⟨w3.heap.size, 0, none⟩ = some (.int .i64 D.nodes) ∧ X.cell? ⟨w3.heap.size, 1, none⟩ = some (.int .i64 D.low) ∧ X.cell? ⟨w3.heap.size, 2, none⟩ = some (.slice dA n dc))
              (exact HC.out _ (by (repeat (first | (with_reducible exact Below.refl _ _) | (with_reducible assumption) | (with_reducible apply bel_alloc) | (with_reducible apply bel_drew) | (with_reducible apply bel_drewN) | (with_reducible refine bel_trans ?_ (by with_reducible assumption)) | (with_reducible refine bel_trans ?_ (HF.out _)) | (with_reducible refine bel_set ?_ (by simp) _) | (with_reducible refine bel_set ?_ (by simp; omega) _) | (with_reducible refine bel_set ?_ (by omega) _)))))
              ((go_at_call 32; refine (ref14_Order A n c D (nth Is i) lA lm lc Lo _ (HL.out.up (by (repeat (first | (with_reducible exact Below.refl _ _) | (with_reducible assumption) | (with_reducible apply bel_alloc) | (with_reducible apply bel_drew) | (with_reducible apply bel_drewN) | (with_reducible refine bel_trans ?_ (by with_reducible assumption)) | (with_reducible refine bel_trans ?_ (HF.out _)) | (with_reducible refine bel_set ?_ (by simp) _) | (with_reducible refine bel_set ?_ (by simp; omega) _) | (with_reducible refine bel_set ?_ (by omega) _))))) (HO.out.up (by (repeat (first | (with_reducible exact Below.refl _ _) | (with_reducible assumption) | (with_reducible apply bel_alloc) | (with_reducible apply bel_drew) | (with_reducible apply bel_drewN) | (with_reducible refine bel_trans ?_ (by with_reducible assumption)) | (with_reducible refine bel_trans ?_ (HF.out _)) | (with_reducible refine bel_set ?_ (by simp) _) | (with_reducible refine bel_set ?_ (by simp; omega) _) | (with_reducible refine bel_set ?_ (by omega) _))))) HM.out HR.out).mono ?_; rintro e wz ⟨v, rfl, hownz, hbzz⟩; obtain ⟨zA, zc, rfl, hwant, _⟩ := hownz.ints (by have := orderB_len D (nth Is i) Lo; omega); have hbz : Below wk.heap.size wk wz := (by (repeat (first | (with_reducible exact Below.refl _ _) | (with_reducible assumption) | (with_reducible apply bel_alloc) | (with_reducible apply bel_drew) | (with_reducible apply bel_drewN) | (with_reducible refine bel_trans ?_ (by with_reducible assumption)) | (with_reducible refine bel_trans ?_ (HF.out _)) | (with_reducible refine bel_set ?_ (by simp) _) | (with_reducible refine bel_set ?_ (by simp; omega) _) | (with_reducible refine bel_set ?_ (by omega) _))))))
            have HW := Lib.hid hwant
            have HQB := Lib.hid (rfl : orderB D (nth Is i) Lo = orderB D (nth Is i) Lo)
            have HQE := Lib.hid (rfl : orderE D (nth Is i) Lo = orderE D (nth Is i) Lo)
            have hwl := orderB_len D (nth Is i) Lo
            clear hwant hownz hbzz
            go_wp2_with fail
            go_region_held3 (fun X => X.cell? ⟨w.heap.size, 0, none⟩ = some (.int .i64 D.nodes) ∧ X.cell? ⟨w.heap.size, 1, none⟩ = some (.int .i64 D.low) ∧ X.cell? ⟨w.heap.size, 2, none⟩ = some (.slice A n c) ∧ X.cell? ⟨w.heap.size, 3, none⟩ = some (.slice (some ⟨ib, ioff, none⟩) im ic) ∧ X.cell? ⟨w.heap.size, 4, none⟩ = some (.slice lA lm lc) ∧ X.cell? ⟨ib, ioff + i, none⟩ = some (.int .i64 (nth Is i)) ∧ X.cell? ⟨w3.heap.size, 0, none⟩ = some (.int .i64 D.nodes) ∧ X.cell? ⟨w3.heap.size, 1, none⟩ = some (.int .i64 D.low) ∧ X.cell? ⟨w3.heap.size, 2, none⟩ = some (.slice dA n dc))
              (exact HC.out _ (by (repeat (first | (with_reducible exact Below.refl _ _) | (with_reducible assumption) | (with_reducible apply bel_alloc) | (with_reducible apply bel_drew) | (with_reducible apply bel_drewN) | (with_reducible refine bel_trans ?_ (by with_reducible assumption)) | (with_reducible refine bel_trans ?_ (HF.out _)) | (with_reducible refine bel_set ?_ (by simp) _) | (with_reducible refine bel_set ?_ (by simp; omega) _) | (with_reducible refine bel_set ?_ (by omega) _)))))
              ((go_at_call 33; refine (order_Order _ _ _ D _ _ _ _ Lo _ (HD4.out.up (by (repeat (first | (with_reducible exact Below.refl _ _) | (with_reducible assumption) | (with_reducible apply bel_alloc) | (with_reducible apply bel_drew) | (with_reducible apply bel_drewN) | (with_reducible refine bel_trans ?_ (by with_reducible assumption)) | (with_reducible refine bel_trans ?_ (HF.out _)) | (with_reducible refine bel_set ?_ (by simp) _) | (with_reducible refine bel_set ?_ (by simp; omega) _) | (with_reducible refine bel_set ?_ (by omega) _))))) (HE.out.up (by (repeat (first | (with_reducible exact Below.refl _ _) | (with_reducible assumption) | (with_reducible apply bel_alloc) | (with_reducible apply bel_drew) | (with_reducible apply bel_drewN) | (with_reducible refine bel_trans ?_ (by with_reducible assumption)) | (with_reducible refine bel_trans ?_ (HF.out _)) | (with_reducible refine bel_set ?_ (by simp) _) | (with_reducible refine bel_set ?_ (by simp; omega) _) | (with_reducible refine bel_set ?_ (by omega) _))))) (by omega)).mono ?_; rintro e w5 ⟨v, rfl, hown, hb5⟩; obtain ⟨xA, xc, rfl, hint, _⟩ := hown.ints (by omega); have hb5k : Below wk.heap.size wk w5 := (by (repeat (first | (with_reducible exact Below.refl _ _) | (with_reducible assumption) | (with_reducible apply bel_alloc) | (with_reducible apply bel_drew) | (with_reducible apply bel_drewN) | (with_reducible refine bel_trans ?_ (by with_reducible assumption)) | (with_reducible refine bel_trans ?_ (HF.out _)) | (with_reducible refine bel_set ?_ (by simp) _) | (with_reducible refine bel_set ?_ (by simp; omega) _) | (with_reducible refine bel_set ?_ (by omega) _))))))
            have hb5z : Below wz.heap.size wz w5 := bel_trans (bel_drew (Below.refl _ _)) hb5
            have hown5 : OwnI w5 wz.heap.size _ _ := hown
            clear hb5 hown
            have HINT := Lib.hid hint
            have HOWN := Lib.hid hown5
            clear hint hown5
            go_wp2_with (go_at_call 34; refine (law17_num _ _).mono ?_; rintro e w' ⟨rfl, rfl⟩)
            refine (ref0_EqNumbers_same _ _ _ _ _ _ _ _ HINT.out (HW.out.up hb5z)).mono ?_
            rintro e w6 ⟨rfl, hb6⟩
            have hb6k := bel_trans hb5k hb6
            obtain ⟨k0, k1, k2, k3, k4, k5, k6, k7, k8⟩ := HC.out w6 hb6k
            go_wp2_with fail
            refine (ref0_EqDag dA n dc A c D _ (HD4.out.up (bel_trans hby hb6k)) (HL.out.up (bel_trans hbwk hb6k))).mono ?_
            rintro e w7 ⟨rfl, hb7⟩
            have hb7k : Below wk.heap.size wk w7 := bel_trans hb6k hb7
            clear k0 k1 k2 k3 k4 k5 k6 k7 k8
            obtain ⟨k0, k1, k2, k3, k4, k5, k6, k7, k8⟩ := HC.out w7 hb7k
            go_wp2_with fail
            refine (ref0_EqNumbers_same eA lm ec Lo lA lm lc _ (HE.out.up (bel_trans hby hb7k)) (HO.out.up (bel_trans hbwk hb7k))).mono ?_
            rintro e w8 ⟨rfl, hb8⟩
            have hb8k : Below wk.heap.size wk w8 := bel_trans hb7k hb8
            have hB8 : wz.heap.size ≤ w8.heap.size := Nat.le_trans hb5z.size (Nat.le_trans hb6.size (Nat.le_trans hb7.size hb8.size))
            clear k0 k1 k2 k3 k4 k5 k6 k7 k8
            go_wp2_with fail
            refine (law0_Numbers _ _ wz.heap.size _ (((HOWN.out.up hb6).up hb7).up hb8) (by omega) hB8).mono ?_
            rintro e w9 ⟨rfl, hb9⟩
            have hwz9 : w4.heap.size ≤ wz.heap.size := Nat.le_trans hby.size hbz.size
            have hwz3 : w3.heap.size < wz.heap.size := Nat.lt_of_lt_of_le hww hbz.size
            have hfin : Below w4.heap.size w4 w9 := Below.trans (bel_trans hby hb8k) (hb9.mono hwz9)
            have hdfin := (hdy.up hb8k).below hb9 hwz3
            go_wp2_with fail
            (first | (go_round; (case rel => exact ⟨i + 1, by omega, by go_num, hfin, hdfin⟩); (case measure => (simp [intOf] <;> omega))) | (go_roundw; (case rel => exact ⟨i + 1, by omega, by go_num, hfin, hdfin⟩); (case measure => (simp [intOf] <;> omega))) | (refine ⟨?_, by simp [intOf] <;> omega⟩; (repeat apply Exists.intro); refine ⟨?rel, ?fr⟩; (case fr => ((repeat' apply And.intro) <;> rfl)); (case rel => exact ⟨i + 1, by omega, by go_num, hfin, hdfin⟩)))
          · go_wp2_with (go_at_call 35; refine (law17_wakes _).mono ?_; rintro e w9 ⟨rfl, hb9⟩)
            go_ret
            exact ⟨rfl, bel_trans hbwk hb9⟩
end Go.Proofs.Ythpljlffjbodpaa
