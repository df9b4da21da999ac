/- Add, at the program. -/
import Derived.Test.YtfkbilbgndekkaaKe
import Derived.Deep.Cut
import Derived.Deep.CutRange
namespace Go.Proofs.Ytfkbilbgndekkaa
open Go.RowKit
set_option linter.unusedSimpArgs false
set_option linter.unusedVariables false

theorem mayS_tiny {D : DagD} (h : mayS D = true) : Tiny D.certs := fun k hk => by
  have hc := ((mayS_iff.1 h).2.2.2.2 k hk).1
  have h1 := head_ba (certS_hd hc)
  have h2 := head_pa (certS_hd hc)
  have h3 := cert_si hc
  omega
theorem mayS_short {D : DagD} (h : mayS D = true) : Short D.certs := fun k hk => by
  have := mayS_tiny h k hk
  exact ⟨by omega, by omega, by omega⟩
theorem dag_box {w1 : World} {B g : Nat} {v : Value} {ps : List CertP} {l : List CertD} {a b c : Value} (hk : Blk w1 g 24 [a, b, c]) (ho : OwnD w1 B v ps l) (x y : Value) :
    Blk (((w1.setCell ⟨g, 0, none⟩ x).setCell ⟨g, 1, none⟩ y).setCell ⟨g, 2, none⟩ v) g 24 [x, y, v] ∧ OwnD (((w1.setCell ⟨g, 0, none⟩ x).setCell ⟨g, 1, none⟩ y).setCell ⟨g, 2, none⟩ v) B v ps l :=
  ⟨((hk.set_ 0 x).set_ 1 y).set_ 2 v, ((ho.setT hk).setT (hk.set_ 0 x)).setT ((hk.set_ 0 x).set_ 1 y)⟩
theorem dag_Put_no (A : Option Addr) (n c : Nat) (D : DagD) (C : CertD) (bA pA sA : Option Addr) (bn bc pn pc sn sc : Nat) (w : World) (hl : CertsR w A n D.certs) (hr : CertR w ⟨⟨⟨bA, bn, bc⟩, ⟨pA, pn, pc⟩⟩, ⟨sA, sn, sc⟩⟩ C) (hok : DagOk D) (hC : certS C D.nodes = true) (hcap : n ≤ c) (hcb : c ≤ 9223372036854775807) (y : Int) (hy : putE D C = y) (hy0 : y ≠ 0) :
    Calls Try.prog 84 #[.agg #[.int .i64 D.nodes, .int .i64 D.low, .slice A n c], .agg #[.int .i64 C.h.au, .int .i64 C.h.ro, .slice bA bn bc, .slice pA pn pc, .int .i64 C.di, .slice sA sn sc]] w fun e w' => e = .returned (.tuple #[.agg #[.int .i64 D.nodes, .int .i64 D.low, .slice A n c], .int .i64 y]) ∧ Below w.heap.size w w' := by
  unfold putE at hy
  by_cases h1 : C.h.ro ≤ D.low
  · rw [if_pos h1] at hy; subst hy
    exact dag_Put_old A n c D C bA pA sA bn bc pn pc sn sc w hl hr hok hC hcap hcb h1
  · rw [if_neg h1] at hy
    by_cases h2 : 0 ≤ atS D.certs C.h.ro C.h.au
    · rw [if_pos h2] at hy
      by_cases h3 : (cth D.certs (atS D.certs C.h.ro C.h.au).toNat).di = C.di
      · rw [if_pos h3] at hy; subst hy
        exact dag_Put_there A n c D C bA pA sA bn bc pn pc sn sc w hl hr hok hC hcap hcb h1 h2 h3
      · rw [if_neg h3] at hy; subst hy
        exact dag_Put_two A n c D C bA pA sA bn bc pn pc sn sc w hl hr hok hC hcap hcb h1 h2 h3
    · rw [if_neg h2] at hy
      by_cases h3 : 0 ≤ findS D.certs C.di
      · rw [if_pos h3] at hy; subst hy
        exact dag_Put_has A n c D C bA pA sA bn bc pn pc sn sc w hl hr hok hC hcap hcb h1 (by omega) h3
      · rw [if_neg h3] at hy
        by_cases h4 : lacksS D.certs D.low C.h = []
        · rw [if_pos h4] at hy; exact absurd hy.symm hy0
        · rw [if_neg h4] at hy; subst hy
          exact dag_Put_lack A n c D C bA pA sA bn bc pn pc sn sc w hl hr hok hC hcap hcb h1 (by omega) (by omega) h4
set_option maxRecDepth 100000 in
set_option maxHeartbeats 8000000 in
theorem dag_Add (A : Option Addr) (n c : Nat) (D : DagD) (C : CertD) (bA pA sA : Option Addr) (bn bc pn pc sn sc : Nat) (y : Int) (R : DagD) (w : World) (hl : CertsR w A n D.certs) (hr : CertR w ⟨⟨⟨bA, bn, bc⟩, ⟨pA, pn, pc⟩⟩, ⟨sA, sn, sc⟩⟩ C) (hy : addE D C = y) (hR : addD D C = R) :
    Calls Try.prog 43 #[.agg #[.int .i64 D.nodes, .int .i64 D.low, .slice A n c], .agg #[.int .i64 C.h.au, .int .i64 C.h.ro, .slice bA bn bc, .slice pA pn pc, .int .i64 C.di, .slice sA sn sc]] w fun e w' => ∃ v qs, e = .returned (.tuple #[.agg #[.int .i64 R.nodes, .int .i64 R.low, v], .int .i64 y]) ∧ OwnD w' w.heap.size v qs R.certs ∧ Below w.heap.size w w' := by
  have HL := Lib.hid hl
  have HR := Lib.hid hr
  have HN := Lib.hid hl.1
  cases hm : mayS D
  · have hyd : y = 1 ∧ R = ⟨0, 0, []⟩ := by
      have h1 : addE D C = 1 := by unfold addE; rw [if_neg (by rw [hm]; simp)]
      exact ⟨by rw [← hy, h1], by rw [← hR]; unfold addD; rw [if_neg (by rw [h1]; omega)]⟩
    have HYD := Lib.hid hyd
    have HM := Lib.hid hm
    clear hl hr hy hR hm hyd
    go_enter Try.func43, Try.ntmps43
    go_wp2_with fail
    obtain ⟨hX1, hX2, hX3, hbX, hzX⟩ := blk3 w 24 48 24 [.int .i64 D.nodes, .int .i64 D.low, .slice A n c] [.int .i64 C.h.au, .int .i64 C.h.ro, .slice bA bn bc, .slice pA pn pc, .int .i64 C.di, .slice sA sn sc] [.int .i64 0, .int .i64 0, .slice none 0 0]
    generalize (((w.alloc (.cells #[.int .i64 D.nodes, .int .i64 D.low, .slice A n c] 24)).alloc (.cells #[.int .i64 C.h.au, .int .i64 C.h.ro, .slice bA bn bc, .slice pA pn pc, .int .i64 C.di, .slice sA sn sc] 48)).alloc (.cells #[.int .i64 0, .int .i64 0, .slice none 0 0] 24)) = X at *
    refine (dag_May A n c D _ (HL.out.up hbX)).mono ?_
    rintro e w1 ⟨rfl, hb1⟩
    rw [HM.out]
    have hbw1 : Below w.heap.size w w1 := bel_trans hbX hb1
    have hY1 := hX1.up hb1
    have hY2 := hX2.up hb1
    have hY3 := hX3.up hb1
    have hz1 : w.heap.size + 3 ≤ w1.heap.size := Nat.le_trans hzX hb1.size
    clear hX1 hX2 hX3
    have d_0 := (hY1.box).2 0 _ rfl; have d_1 := (hY1.box).2 1 _ rfl; have d_2 := (hY1.box).2 2 _ rfl
    have e_0 := (hY2.box).2 0 _ rfl; have e_1 := (hY2.box).2 1 _ rfl; have e_2 := (hY2.box).2 2 _ rfl; have e_3 := (hY2.box).2 3 _ rfl; have e_4 := (hY2.box).2 4 _ rfl; have e_5 := (hY2.box).2 5 _ rfl
    have hY1l := hY1.lt
    have hY2l := hY2.lt
    have hY3l := hY3.lt
    have hY3f := hY3.frozen
    have hR := ((hY3.set_ 0 (.int .i64 0)).set_ 1 (.int .i64 0)).set_ 2 (.slice none 0 0)
    have r_0 := (hR.box).2 0 _ rfl; have r_1 := (hR.box).2 1 _ rfl; have r_2 := (hR.box).2 2 _ rfl
    have k_0 := (hY3.box).2 0 _ rfl; have k_1 := (hY3.box).2 1 _ rfl; have k_2 := (hY3.box).2 2 _ rfl
    clear hR
    go_wp2_with fail
    exact bodyPost_ret (v := .tuple #[.agg #[.int .i64 0, .int .i64 0, .slice none 0 0], .int .i64 1]) (by simp [results, Try.results43, go_sem, r_0, r_1, r_2]) rfl ⟨.slice none 0 0, [], by first | rw [HYD.out.1, HYD.out.2] | rw [HYD.out.2], by rw [HYD.out.2]; exact OwnD.nil _ _, by (repeat (first | (with_reducible exact Below.refl _ _) | (with_reducible assumption) | (with_reducible apply bel_alloc) | (with_reducible apply bel_drew) | (with_reducible apply bel_drewN) | (with_reducible refine bel_trans ?_ (by with_reducible assumption)) | (with_reducible refine bel_trans ?_ (HF.out _)) | ((with_reducible refine bel_set3 ?_ ?_); rotate_left; omega)))⟩
  · cases hc : certS C D.nodes
    · have hyd : y = 1 ∧ R = ⟨0, 0, []⟩ := by
        have h1 : addE D C = 1 := by unfold addE; rw [if_neg (by rw [hc]; simp)]
        exact ⟨by rw [← hy, h1], by rw [← hR]; unfold addD; rw [if_neg (by rw [h1]; omega)]⟩
      have HYD := Lib.hid hyd
      have HM := Lib.hid hm
      have HC := Lib.hid hc
      clear hl hr hy hR hm hyd hc
      go_enter Try.func43, Try.ntmps43
      go_wp2_with fail
      obtain ⟨hX1, hX2, hX3, hbX, hzX⟩ := blk3 w 24 48 24 [.int .i64 D.nodes, .int .i64 D.low, .slice A n c] [.int .i64 C.h.au, .int .i64 C.h.ro, .slice bA bn bc, .slice pA pn pc, .int .i64 C.di, .slice sA sn sc] [.int .i64 0, .int .i64 0, .slice none 0 0]
      generalize (((w.alloc (.cells #[.int .i64 D.nodes, .int .i64 D.low, .slice A n c] 24)).alloc (.cells #[.int .i64 C.h.au, .int .i64 C.h.ro, .slice bA bn bc, .slice pA pn pc, .int .i64 C.di, .slice sA sn sc] 48)).alloc (.cells #[.int .i64 0, .int .i64 0, .slice none 0 0] 24)) = X at *
      refine (dag_May A n c D _ (HL.out.up hbX)).mono ?_
      rintro e w1 ⟨rfl, hb1⟩
      rw [HM.out]
      have hbw1 : Below w.heap.size w w1 := bel_trans hbX hb1
      have hY1 := hX1.up hb1
      have hY2 := hX2.up hb1
      have hY3 := hX3.up hb1
      have hz1 : w.heap.size + 3 ≤ w1.heap.size := Nat.le_trans hzX hb1.size
      clear hX1 hX2 hX3
      have d_0 := (hY1.box).2 0 _ rfl; have d_1 := (hY1.box).2 1 _ rfl; have d_2 := (hY1.box).2 2 _ rfl
      have e_0 := (hY2.box).2 0 _ rfl; have e_1 := (hY2.box).2 1 _ rfl; have e_2 := (hY2.box).2 2 _ rfl; have e_3 := (hY2.box).2 3 _ rfl; have e_4 := (hY2.box).2 4 _ rfl; have e_5 := (hY2.box).2 5 _ rfl
      have hY1l := hY1.lt
      have hY2l := hY2.lt
      have hY3l := hY3.lt
      have hY3f := hY3.frozen
      go_wp2_with fail
      refine (header_MayCert' C _ _ _ _ _ _ _ _ _ _ _ (HR.out.up hbw1)).mono ?_
      rintro e w2 ⟨rfl, hb2⟩
      rw [HC.out]
      have hbw2 : Below w.heap.size w w2 := bel_trans hbw1 hb2
      have hW1 := hY1.up hb2
      have hW2 := hY2.up hb2
      have hW3 := hY3.up hb2
      have hz2 : w.heap.size + 3 ≤ w2.heap.size := Nat.le_trans hz1 hb2.size
      clear hY1 hY2 hY3 d_0 d_1 d_2 e_0 e_1 e_2 e_3 e_4 e_5 hY1l hY2l hY3l hY3f
      have d_0 := (hW1.box).2 0 _ rfl; have d_1 := (hW1.box).2 1 _ rfl; have d_2 := (hW1.box).2 2 _ rfl
      have e_0 := (hW2.box).2 0 _ rfl; have e_1 := (hW2.box).2 1 _ rfl; have e_2 := (hW2.box).2 2 _ rfl; have e_3 := (hW2.box).2 3 _ rfl; have e_4 := (hW2.box).2 4 _ rfl; have e_5 := (hW2.box).2 5 _ rfl
      have hY1l := hW1.lt
      have hY2l := hW2.lt
      have hY3l := hW3.lt
      have hY3f := hW3.frozen
      have hR := ((hW3.set_ 0 (.int .i64 0)).set_ 1 (.int .i64 0)).set_ 2 (.slice none 0 0)
      have r_0 := (hR.box).2 0 _ rfl; have r_1 := (hR.box).2 1 _ rfl; have r_2 := (hR.box).2 2 _ rfl
      have k_0 := (hW3.box).2 0 _ rfl; have k_1 := (hW3.box).2 1 _ rfl; have k_2 := (hW3.box).2 2 _ rfl
      clear hR
      go_wp2_with fail
      exact bodyPost_ret (v := .tuple #[.agg #[.int .i64 0, .int .i64 0, .slice none 0 0], .int .i64 1]) (by simp [results, Try.results43, go_sem, r_0, r_1, r_2]) rfl ⟨.slice none 0 0, [], by first | rw [HYD.out.1, HYD.out.2] | rw [HYD.out.2], by rw [HYD.out.2]; exact OwnD.nil _ _, by (repeat (first | (with_reducible exact Below.refl _ _) | (with_reducible assumption) | (with_reducible apply bel_alloc) | (with_reducible apply bel_drew) | (with_reducible apply bel_drewN) | (with_reducible refine bel_trans ?_ (by with_reducible assumption)) | (with_reducible refine bel_trans ?_ (HF.out _)) | ((with_reducible refine bel_set3 ?_ ?_); rotate_left; omega)))⟩
    · have hput : putE D C = y := by rw [← hy]; unfold addE; rw [if_pos ⟨hm, hc⟩]
      have hok := mayS_iff.1 hm
      have hn : n ≤ 65536 := by rw [← hl.1]; exact hok.2.2.2.1
      have hsh := mayS_short hm
      have hti := mayS_tiny hm
      by_cases hy0 : y = 0
      · have hyd : R = ⟨D.nodes, D.low, insC D.certs C⟩ := by rw [← hR]; unfold addD; rw [if_pos (by rw [hy, hy0])]
        subst hy0
        subst hyd
        have HPO := Lib.hid (put_ok hput)
        have HM := Lib.hid hm
        have HC := Lib.hid hc
        have HOK := Lib.hid hok
        have HSH := Lib.hid hsh
        have HTI := Lib.hid hti
        clear hl hr hy hR hm hc hput hok hsh hti
        go_enter Try.func43, Try.ntmps43
        go_wp2_with fail
        obtain ⟨hX1, hX2, hX3, hbX, hzX⟩ := blk3 w 24 48 24 [.int .i64 D.nodes, .int .i64 D.low, .slice A n c] [.int .i64 C.h.au, .int .i64 C.h.ro, .slice bA bn bc, .slice pA pn pc, .int .i64 C.di, .slice sA sn sc] [.int .i64 0, .int .i64 0, .slice none 0 0]
        generalize (((w.alloc (.cells #[.int .i64 D.nodes, .int .i64 D.low, .slice A n c] 24)).alloc (.cells #[.int .i64 C.h.au, .int .i64 C.h.ro, .slice bA bn bc, .slice pA pn pc, .int .i64 C.di, .slice sA sn sc] 48)).alloc (.cells #[.int .i64 0, .int .i64 0, .slice none 0 0] 24)) = X at *
        refine (dag_May A n c D _ (HL.out.up hbX)).mono ?_
        rintro e w1 ⟨rfl, hb1⟩
        rw [HM.out]
        have hbw1 : Below w.heap.size w w1 := bel_trans hbX hb1
        have hY1 := hX1.up hb1
        have hY2 := hX2.up hb1
        have hY3 := hX3.up hb1
        have hz1 : w.heap.size + 3 ≤ w1.heap.size := Nat.le_trans hzX hb1.size
        clear hX1 hX2 hX3
        have d_0 := (hY1.box).2 0 _ rfl; have d_1 := (hY1.box).2 1 _ rfl; have d_2 := (hY1.box).2 2 _ rfl
        have e_0 := (hY2.box).2 0 _ rfl; have e_1 := (hY2.box).2 1 _ rfl; have e_2 := (hY2.box).2 2 _ rfl; have e_3 := (hY2.box).2 3 _ rfl; have e_4 := (hY2.box).2 4 _ rfl; have e_5 := (hY2.box).2 5 _ rfl
        have hY1l := hY1.lt
        have hY2l := hY2.lt
        have hY3l := hY3.lt
        have hY3f := hY3.frozen
        go_wp2_with fail
        refine (header_MayCert' C _ _ _ _ _ _ _ _ _ _ _ (HR.out.up hbw1)).mono ?_
        rintro e w2 ⟨rfl, hb2⟩
        rw [HC.out]
        have hbw2 : Below w.heap.size w w2 := bel_trans hbw1 hb2
        have hW1 := hY1.up hb2
        have hW2 := hY2.up hb2
        have hW3 := hY3.up hb2
        have hz2 : w.heap.size + 3 ≤ w2.heap.size := Nat.le_trans hz1 hb2.size
        clear hY1 hY2 hY3 d_0 d_1 d_2 e_0 e_1 e_2 e_3 e_4 e_5 hY1l hY2l hY3l hY3f
        have d_0 := (hW1.box).2 0 _ rfl; have d_1 := (hW1.box).2 1 _ rfl; have d_2 := (hW1.box).2 2 _ rfl
        have e_0 := (hW2.box).2 0 _ rfl; have e_1 := (hW2.box).2 1 _ rfl; have e_2 := (hW2.box).2 2 _ rfl; have e_3 := (hW2.box).2 3 _ rfl; have e_4 := (hW2.box).2 4 _ rfl; have e_5 := (hW2.box).2 5 _ rfl
        have hY1l := hW1.lt
        have hY2l := hW2.lt
        have hY3l := hW3.lt
        have hY3f := hW3.frozen
        have HW1 := Lib.hid hW1
        have HW3 := Lib.hid hW3
        clear hW1 hW3
        go_wp2_with fail
        go_cut [6, 7] from 19 to 25 (fun s6 s7 wx => ∃ (g : Nat) (v4 : Value) (qs : List CertP), s6 = .pointer (some ⟨g, 0, none⟩) ∧ s7 = .int .i64 0 ∧ Blk wx g 24 [.int .i64 D.nodes, .int .i64 D.low, v4] ∧ OwnD wx (w.heap.size + 3) v4 qs (insC D.certs C) ∧ Below w2.heap.size w2 wx)
        case first =>
          go_region_with (first
            | (go_at_call 85; refine (dag_Own A n c D _ (HL.out.up (by (repeat (first | (with_reducible exact Below.refl _ _) | (with_reducible assumption) | (with_reducible apply bel_alloc) | (with_reducible apply bel_drew) | (with_reducible apply bel_drewN) | (with_reducible refine bel_trans ?_ (by with_reducible assumption)) | (with_reducible refine bel_trans ?_ (HF.out _)) | (with_reducible refine bel_set ?_ (by simp) _) | (with_reducible refine bel_set ?_ (by simp; omega) _) | (with_reducible refine bel_set ?_ (by omega) _))))) (by omega) HTI.out).mono ?_; rintro e w3 ⟨v3, ps, rfl, hown3, hb3⟩; obtain ⟨A3, c3, rfl, hc3, hnc3, hcc3⟩ := OwnD.certs hown3 HSH.out (by rw [HN.out]; omega); rw [HN.out] at hown3 hc3 hnc3; rw [HN.out]; have hz_w3 : w.heap.size + 3 ≤ w3.heap.size := (by have hq := (hb3).size; (try simp at hq); omega); have hc0_w3 := fun o => (bcell hb3).1 (w.heap.size) o (by first | (simp; done) | (simp; omega) | omega); have hc1_w3 := fun o => (bcell hb3).1 (w.heap.size + 1) o (by first | (simp; done) | (simp; omega) | omega); have hl0_w3 : w.heap.size < w3.heap.size := (by omega); have hl1_w3 : w.heap.size + 1 < w3.heap.size := (by omega); (try have hcA := fun o => (bcell hb3).1 w2.heap.size o (by first | (simp; done) | (simp; omega) | omega)); (try have hfA := fun o => (bcell hb3).2 w2.heap.size o (by first | (simp; done) | (simp; omega) | omega)); have hzA := hb3.size; (try simp at hzA))
            | (go_at_call 84; refine (dag_Put_ok (w.heap.size + 3) ps A3 n c3 D C bA pA sA bn bc pn pc sn sc _ (hc3.up (by (repeat (first | (with_reducible exact Below.refl _ _) | (with_reducible assumption) | (with_reducible apply bel_alloc) | (with_reducible apply bel_drew) | (with_reducible apply bel_drewN) | (with_reducible refine bel_trans ?_ (by with_reducible assumption)) | (with_reducible refine bel_trans ?_ (HF.out _)) | (with_reducible refine bel_set ?_ (by simp) _) | (with_reducible refine bel_set ?_ (by simp; omega) _) | (with_reducible refine bel_set ?_ (by omega) _))))) (HR.out.up (by (repeat (first | (with_reducible exact Below.refl _ _) | (with_reducible assumption) | (with_reducible apply bel_alloc) | (with_reducible apply bel_drew) | (with_reducible apply bel_drewN) | (with_reducible refine bel_trans ?_ (by with_reducible assumption)) | (with_reducible refine bel_trans ?_ (HF.out _)) | (with_reducible refine bel_set ?_ (by simp) _) | (with_reducible refine bel_set ?_ (by simp; omega) _) | (with_reducible refine bel_set ?_ (by omega) _))))) HOK.out HC.out hnc3 hcc3 (OwnD.mono (hown3.up (by (repeat (first | (with_reducible exact Below.refl _ _) | (with_reducible assumption) | (with_reducible apply bel_alloc) | (with_reducible apply bel_drew) | (with_reducible apply bel_drewN) | (with_reducible refine bel_trans ?_ (by with_reducible assumption)) | (with_reducible refine bel_trans ?_ (HF.out _)) | (with_reducible refine bel_set ?_ (by simp) _) | (with_reducible refine bel_set ?_ (by simp; omega) _) | (with_reducible refine bel_set ?_ (by omega) _))))) (by first | omega | (simp; done) | (simp; omega))) (by first | omega | (simp; done) | (simp; omega)) HPO.out.1 HPO.out.2.1 HPO.out.2.2.1 HPO.out.2.2.2).mono ?_; rintro e w4 ⟨v4, qs, rfl, hown4, hb4⟩; obtain ⟨A4, c4, rfl, _⟩ := own_row hown4.1 (by rw [insC_len, HN.out]; omega); (try have hcB := fun o => (bcell hb4).1 w2.heap.size o (by first | (simp; done) | (simp; omega) | omega)); (try have hfB := fun o => (bcell hb4).2 w2.heap.size o (by first | (simp; done) | (simp; omega) | omega)); (try have hcC := fun o => (bcell hb4).1 w3.heap.size o (by first | (simp; done) | (simp; omega) | omega)); (try have hfC := fun o => (bcell hb4).2 w3.heap.size o (by first | (simp; done) | (simp; omega) | omega)); have hzB := hb4.size; (try simp at hzB)))
          all_goals
            go_wp2_with fail
            go_meet
            first
              | exact ⟨_, _, qs, rfl, rfl, Blk.new w4 24 [.int .i64 D.nodes, .int .i64 D.low, .slice A4 (insC D.certs C).length c4], hown4.up (by (repeat (first | (with_reducible exact Below.refl _ _) | (with_reducible assumption) | (with_reducible apply bel_alloc) | (with_reducible apply bel_drew) | (with_reducible apply bel_drewN) | (with_reducible refine bel_trans ?_ (by with_reducible assumption)) | (with_reducible refine bel_trans ?_ (HF.out _)) | (with_reducible refine bel_set ?_ (by simp) _) | (with_reducible refine bel_set ?_ (by simp; omega) _) | (with_reducible refine bel_set ?_ (by omega) _)))), by (repeat (first | (with_reducible exact Below.refl _ _) | (with_reducible assumption) | (with_reducible apply bel_alloc) | (with_reducible apply bel_drew) | (with_reducible apply bel_drewN) | (with_reducible refine bel_trans ?_ (by with_reducible assumption)) | (with_reducible refine bel_trans ?_ (HF.out _)) | ((with_reducible refine bel_set3 ?_ ?_); rotate_left; omega)))⟩
              | exact ⟨_, _, qs, rfl, rfl, (dag_box (Blk.up (Blk.new w3 24 [.int .i64 0, .int .i64 0, .slice none 0 0]) hb4) hown4 _ _).1, (dag_box (Blk.up (Blk.new w3 24 [.int .i64 0, .int .i64 0, .slice none 0 0]) hb4) hown4 _ _).2, by (repeat (first | (with_reducible exact Below.refl _ _) | (with_reducible assumption) | (with_reducible apply bel_alloc) | (with_reducible apply bel_drew) | (with_reducible apply bel_drewN) | (with_reducible refine bel_trans ?_ (by with_reducible assumption)) | (with_reducible refine bel_trans ?_ (HF.out _)) | ((with_reducible refine bel_set3 ?_ ?_); rotate_left; omega)))⟩
              | exact ⟨_, _, qs, rfl, rfl, (dag_box (Blk.up (Blk.up (Blk.new w2.drew 24 [.int .i64 0, .int .i64 0, .slice none 0 0]) hb3) hb4) hown4 _ _).1, (dag_box (Blk.up (Blk.up (Blk.new w2.drew 24 [.int .i64 0, .int .i64 0, .slice none 0 0]) hb3) hb4) hown4 _ _).2, by (repeat (first | (with_reducible exact Below.refl _ _) | (with_reducible assumption) | (with_reducible apply bel_alloc) | (with_reducible apply bel_drew) | (with_reducible apply bel_drewN) | (with_reducible refine bel_trans ?_ (by with_reducible assumption)) | (with_reducible refine bel_trans ?_ (HF.out _)) | ((with_reducible refine bel_set3 ?_ ?_); rotate_left; omega)))⟩
        case rest =>
        obtain ⟨g, v4, qs, rfl, rfl, hg, ho, hbc⟩ := hcut
        obtain ⟨A4, c4, rfl, _⟩ := own_row ho.1 (by rw [insC_len, HN.out]; omega)
        have hK := HW3.out.up hbc
        have hgl := hg.lt
        have hkl := hK.lt
        have hkf := hK.frozen
        have hzc : w.heap.size + 3 ≤ wc.heap.size := Nat.le_trans hz2 hbc.size
        have hbwc : Below w.heap.size w wc := bel_trans hbw2 hbc
        have hR := ((hK.set_ 0 (.int .i64 D.nodes)).set_ 1 (.int .i64 D.low)).set_ 2 (.slice A4 (insC D.certs C).length c4)
        clear d_0 d_1 d_2 e_0 e_1 e_2 e_3 e_4 e_5
        have f_0 := (hg.box).2 0 _ rfl; have f_1 := (hg.box).2 1 _ rfl; have f_2 := (hg.box).2 2 _ rfl
        have k_0 := (hK.box).2 0 _ rfl; have k_1 := (hK.box).2 1 _ rfl; have k_2 := (hK.box).2 2 _ rfl
        have r_0 := (hR.box).2 0 _ rfl; have r_1 := (hR.box).2 1 _ rfl; have r_2 := (hR.box).2 2 _ rfl
        have HO := Lib.hid ho
        have HK := Lib.hid hK
        clear hR hg hK ho
        go_wp2_with fail
        exact bodyPost_ret (v := .tuple #[.agg #[.int .i64 D.nodes, .int .i64 D.low, .slice A4 (insC D.certs C).length c4], .int .i64 0]) (by simp [results, Try.results43, go_sem, r_0, r_1, r_2]) rfl ⟨_, qs, rfl, OwnD.mono (((HO.out.setT HK.out).setT (HK.out.set_ 0 _)).setT ((HK.out.set_ 0 _).set_ 1 _)) (by omega), by (repeat (first | (with_reducible exact Below.refl _ _) | (with_reducible assumption) | (with_reducible apply bel_alloc) | (with_reducible apply bel_drew) | (with_reducible apply bel_drewN) | (with_reducible refine bel_trans ?_ (by with_reducible assumption)) | (with_reducible refine bel_trans ?_ (HF.out _)) | ((with_reducible refine bel_set3 ?_ ?_); rotate_left; omega)))⟩
      · have hyd : R = ⟨0, 0, []⟩ := by rw [← hR]; unfold addD; rw [if_neg (by rw [hy]; exact hy0)]
        have HYD : Hid (y = y ∧ R = ⟨0, 0, []⟩) := Lib.hid ⟨rfl, hyd⟩
        have hyb : (y != 0) = true := by simpa using hy0
        have HPUT := Lib.hid hput
        have HY0 := Lib.hid hy0
        have HM := Lib.hid hm
        have HC := Lib.hid hc
        have HOK := Lib.hid hok
        have HSH := Lib.hid hsh
        have HTI := Lib.hid hti
        clear hl hr hy hR hm hc hput hok hsh hti hyd hy0
        go_enter Try.func43, Try.ntmps43
        go_wp2_with fail
        obtain ⟨hX1, hX2, hX3, hbX, hzX⟩ := blk3 w 24 48 24 [.int .i64 D.nodes, .int .i64 D.low, .slice A n c] [.int .i64 C.h.au, .int .i64 C.h.ro, .slice bA bn bc, .slice pA pn pc, .int .i64 C.di, .slice sA sn sc] [.int .i64 0, .int .i64 0, .slice none 0 0]
        generalize (((w.alloc (.cells #[.int .i64 D.nodes, .int .i64 D.low, .slice A n c] 24)).alloc (.cells #[.int .i64 C.h.au, .int .i64 C.h.ro, .slice bA bn bc, .slice pA pn pc, .int .i64 C.di, .slice sA sn sc] 48)).alloc (.cells #[.int .i64 0, .int .i64 0, .slice none 0 0] 24)) = X at *
        refine (dag_May A n c D _ (HL.out.up hbX)).mono ?_
        rintro e w1 ⟨rfl, hb1⟩
        rw [HM.out]
        have hbw1 : Below w.heap.size w w1 := bel_trans hbX hb1
        have hY1 := hX1.up hb1
        have hY2 := hX2.up hb1
        have hY3 := hX3.up hb1
        have hz1 : w.heap.size + 3 ≤ w1.heap.size := Nat.le_trans hzX hb1.size
        clear hX1 hX2 hX3
        have d_0 := (hY1.box).2 0 _ rfl; have d_1 := (hY1.box).2 1 _ rfl; have d_2 := (hY1.box).2 2 _ rfl
        have e_0 := (hY2.box).2 0 _ rfl; have e_1 := (hY2.box).2 1 _ rfl; have e_2 := (hY2.box).2 2 _ rfl; have e_3 := (hY2.box).2 3 _ rfl; have e_4 := (hY2.box).2 4 _ rfl; have e_5 := (hY2.box).2 5 _ rfl
        have hY1l := hY1.lt
        have hY2l := hY2.lt
        have hY3l := hY3.lt
        have hY3f := hY3.frozen
        go_wp2_with fail
        refine (header_MayCert' C _ _ _ _ _ _ _ _ _ _ _ (HR.out.up hbw1)).mono ?_
        rintro e w2 ⟨rfl, hb2⟩
        rw [HC.out]
        have hbw2 : Below w.heap.size w w2 := bel_trans hbw1 hb2
        have hW1 := hY1.up hb2
        have hW2 := hY2.up hb2
        have hW3 := hY3.up hb2
        have hz2 : w.heap.size + 3 ≤ w2.heap.size := Nat.le_trans hz1 hb2.size
        clear hY1 hY2 hY3 d_0 d_1 d_2 e_0 e_1 e_2 e_3 e_4 e_5 hY1l hY2l hY3l hY3f
        have d_0 := (hW1.box).2 0 _ rfl; have d_1 := (hW1.box).2 1 _ rfl; have d_2 := (hW1.box).2 2 _ rfl
        have e_0 := (hW2.box).2 0 _ rfl; have e_1 := (hW2.box).2 1 _ rfl; have e_2 := (hW2.box).2 2 _ rfl; have e_3 := (hW2.box).2 3 _ rfl; have e_4 := (hW2.box).2 4 _ rfl; have e_5 := (hW2.box).2 5 _ rfl
        have hY1l := hW1.lt
        have hY2l := hW2.lt
        have hY3l := hW3.lt
        have hY3f := hW3.frozen
        have HW1 := Lib.hid hW1
        have HW3 := Lib.hid hW3
        clear hW1 hW3
        go_wp2_with fail
        go_cut [6, 7] from 19 to 25 (fun s6 s7 wx => ∃ g : Nat, s6 = .pointer (some ⟨g, 0, none⟩) ∧ s7 = .int .i64 y ∧ Below w2.heap.size w2 wx)
        case first =>
          go_region_with (first
            | (go_at_call 85; refine (dag_Own A n c D _ (HL.out.up (by (repeat (first | (with_reducible exact Below.refl _ _) | (with_reducible assumption) | (with_reducible apply bel_alloc) | (with_reducible apply bel_drew) | (with_reducible apply bel_drewN) | (with_reducible refine bel_trans ?_ (by with_reducible assumption)) | (with_reducible refine bel_trans ?_ (HF.out _)) | (with_reducible refine bel_set ?_ (by simp) _) | (with_reducible refine bel_set ?_ (by simp; omega) _) | (with_reducible refine bel_set ?_ (by omega) _))))) (by omega) HTI.out).mono ?_; rintro e w3 ⟨v3, ps, rfl, hown3, hb3⟩; obtain ⟨A3, c3, rfl, hc3, hnc3, hcc3⟩ := OwnD.certs hown3 HSH.out (by rw [HN.out]; omega); rw [HN.out] at hown3 hc3 hnc3; rw [HN.out]; have hz_w3 : w.heap.size + 3 ≤ w3.heap.size := (by have hq := (hb3).size; (try simp at hq); omega); have hc0_w3 := fun o => (bcell hb3).1 (w.heap.size) o (by first | (simp; done) | (simp; omega) | omega); have hc1_w3 := fun o => (bcell hb3).1 (w.heap.size + 1) o (by first | (simp; done) | (simp; omega) | omega); have hl0_w3 : w.heap.size < w3.heap.size := (by omega); have hl1_w3 : w.heap.size + 1 < w3.heap.size := (by omega); (try have hcA := fun o => (bcell hb3).1 w2.heap.size o (by first | (simp; done) | (simp; omega) | omega)); (try have hfA := fun o => (bcell hb3).2 w2.heap.size o (by first | (simp; done) | (simp; omega) | omega)); have hzA := hb3.size; (try simp at hzA))
            | (go_at_call 84; refine (dag_Put_no A3 n c3 D C bA pA sA bn bc pn pc sn sc _ (hc3.up (by (repeat (first | (with_reducible exact Below.refl _ _) | (with_reducible assumption) | (with_reducible apply bel_alloc) | (with_reducible apply bel_drew) | (with_reducible apply bel_drewN) | (with_reducible refine bel_trans ?_ (by with_reducible assumption)) | (with_reducible refine bel_trans ?_ (HF.out _)) | (with_reducible refine bel_set ?_ (by simp) _) | (with_reducible refine bel_set ?_ (by simp; omega) _) | (with_reducible refine bel_set ?_ (by omega) _))))) (HR.out.up (by (repeat (first | (with_reducible exact Below.refl _ _) | (with_reducible assumption) | (with_reducible apply bel_alloc) | (with_reducible apply bel_drew) | (with_reducible apply bel_drewN) | (with_reducible refine bel_trans ?_ (by with_reducible assumption)) | (with_reducible refine bel_trans ?_ (HF.out _)) | (with_reducible refine bel_set ?_ (by simp) _) | (with_reducible refine bel_set ?_ (by simp; omega) _) | (with_reducible refine bel_set ?_ (by omega) _))))) HOK.out HC.out hnc3 hcc3 y HPUT.out HY0.out).mono ?_; rintro e w4 ⟨rfl, hb4⟩; (try have hcB := fun o => (bcell hb4).1 w2.heap.size o (by first | (simp; done) | (simp; omega) | omega)); (try have hfB := fun o => (bcell hb4).2 w2.heap.size o (by first | (simp; done) | (simp; omega) | omega)); (try have hcC := fun o => (bcell hb4).1 w3.heap.size o (by first | (simp; done) | (simp; omega) | omega)); (try have hfC := fun o => (bcell hb4).2 w3.heap.size o (by first | (simp; done) | (simp; omega) | omega)); have hzB := hb4.size; (try simp at hzB)))
          all_goals
            go_wp2_with fail
            go_meet
            exact ⟨_, rfl, rfl, by (repeat (first | (with_reducible exact Below.refl _ _) | (with_reducible assumption) | (with_reducible apply bel_alloc) | (with_reducible apply bel_drew) | (with_reducible apply bel_drewN) | (with_reducible refine bel_trans ?_ (by with_reducible assumption)) | (with_reducible refine bel_trans ?_ (HF.out _)) | ((with_reducible refine bel_set3 ?_ ?_); rotate_left; omega)))⟩
        case rest =>
        obtain ⟨g, rfl, rfl, hbc⟩ := hcut
        have hK := HW3.out.up hbc
        have hY3l := hK.lt
        have hY3f := hK.frozen
        have hzc : w.heap.size + 3 ≤ wc.heap.size := Nat.le_trans hz2 hbc.size
        have hbwc : Below w.heap.size w wc := bel_trans hbw2 hbc
        clear d_0 d_1 d_2 e_0 e_1 e_2 e_3 e_4 e_5
        have hR := ((hK.set_ 0 (.int .i64 0)).set_ 1 (.int .i64 0)).set_ 2 (.slice none 0 0)
        have r_0 := (hR.box).2 0 _ rfl; have r_1 := (hR.box).2 1 _ rfl; have r_2 := (hR.box).2 2 _ rfl
        have k_0 := (hK.box).2 0 _ rfl; have k_1 := (hK.box).2 1 _ rfl; have k_2 := (hK.box).2 2 _ rfl
        clear hR
        go_wp2_with fail
        exact bodyPost_ret (v := .tuple #[.agg #[.int .i64 0, .int .i64 0, .slice none 0 0], .int .i64 y]) (by simp [results, Try.results43, go_sem, r_0, r_1, r_2]) rfl ⟨.slice none 0 0, [], by first | rw [HYD.out.1, HYD.out.2] | rw [HYD.out.2], by rw [HYD.out.2]; exact OwnD.nil _ _, by (repeat (first | (with_reducible exact Below.refl _ _) | (with_reducible assumption) | (with_reducible apply bel_alloc) | (with_reducible apply bel_drew) | (with_reducible apply bel_drewN) | (with_reducible refine bel_trans ?_ (by with_reducible assumption)) | (with_reducible refine bel_trans ?_ (HF.out _)) | ((with_reducible refine bel_set3 ?_ ?_); rotate_left; omega)))⟩
end Go.Proofs.Ytfkbilbgndekkaa
