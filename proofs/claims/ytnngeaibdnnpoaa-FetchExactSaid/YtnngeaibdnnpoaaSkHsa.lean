/- Fetch: step, where what came is there, or not. -/
import Derived.Test.YtnngeaibdnnpoaaSkHs9
namespace Go.Proofs.Ytnngeaibdnnpoaa
open Go.RowKit
set_option linter.unusedSimpArgs false
set_option linter.unusedVariables false

set_option maxRecDepth 100000 in
set_option maxHeartbeats 8000000 in
theorem stepG_ok (id nodes : Int) (A : Option Addr) (n c : Nat) (rows : List FRowD) (dv ak ag : Int) (C : Option Addr) (m dd : Nat) (w : World) (hl : RowsR w A n rows) (hM : mayF ⟨id, nodes, rows⟩ = true) (hd : wiI dv 6 = 3) (hy : hereQ ak ag rows = true) :
    Calls Try.prog 24 #[.agg #[.int .i64 id, .int .i64 nodes, .slice A n c], .agg #[.int .i64 dv, .int .i64 ak, .int .i64 ag, .slice C m dd]] w fun e w' => StepR w' e ∧ Below w.heap.size w w' := by
  have hm := mayF_iff.1 hM
  have hn : n ≤ 64 := by rw [← hl.1]; exact hm.2.2.2.1
  have hn16 : nodes ≤ 16 := (isS_bd hm.1).2
  obtain ⟨RQ, hRQ⟩ : ∃ R, delQ ak ag rows = R := ⟨_, rfl⟩
  have hrl : RQ.length ≤ 64 := by rw [← hRQ, delQ_len hy]; have h9 : rows.length ≤ 64 := hm.2.2.2.1; omega
  have HRQ := Lib.hid hRQ
  have HY := Lib.hid hy
  have HL := Lib.hid hl
  have HM := Lib.hid hM
  have HN := Lib.hid hl.1
  have HW := Lib.hid hd
  obtain ⟨rn, hrn⟩ : ∃ m, RQ.length = m := ⟨_, rfl⟩
  rw [hrn] at hrl
  have HTL := Lib.hid hrn
  clear hl hM hm hd hrn hRQ hy
  go_enter Try.func24, Try.ntmps24
  go_upto_region 1 with fail
  refine wp_two (fun W0 hW0 => ?_)
  have hb0 : Below w.heap.size w W0 := by rw [hW0]; (repeat (first | (with_reducible exact Below.refl _ _) | (with_reducible assumption) | (with_reducible apply bel_alloc) | (with_reducible apply bel_drew) | (with_reducible apply bel_drewN) | (with_reducible refine bel_trans ?_ (by with_reducible assumption)) | (with_reducible refine bel_trans ?_ (HF.out _)) | (with_reducible refine bel_set ?_ (by simp) _) | (with_reducible refine bel_set ?_ (by simp; omega) _) | (with_reducible refine bel_set ?_ (by omega) _)))
  have hs0 : W0.heap.size = w.heap.size + 3 := by rw [hW0]; simp
  have HB0 : Hid (Blk W0 w.heap.size 24 [.int .i64 id, .int .i64 nodes, .slice A n c] ∧ Blk W0 (w.heap.size + 1) 62 [.int .i64 dv, .int .i64 ak, .int .i64 ag, .slice C m dd] ∧ Blk W0 (w.heap.size + 2) 24 [.int .i64 0, .int .i64 0, .slice none 0 0]) := Lib.hid (by
    rw [hW0]
    have h1 : Blk (w.alloc (.cells #[.int .i64 id, .int .i64 nodes, .slice A n c] 24)) w.heap.size 24 [.int .i64 id, .int .i64 nodes, .slice A n c] := Blk.new _ 24 [.int .i64 id, .int .i64 nodes, .slice A n c]
    have h2 : Blk ((w.alloc (.cells #[.int .i64 id, .int .i64 nodes, .slice A n c] 24)).alloc (.cells #[.int .i64 dv, .int .i64 ak, .int .i64 ag, .slice C m dd] 62)) (w.heap.size + 1) 62 [.int .i64 dv, .int .i64 ak, .int .i64 ag, .slice C m dd] := by simpa using Blk.new (w.alloc (.cells #[.int .i64 id, .int .i64 nodes, .slice A n c] 24)) 62 [.int .i64 dv, .int .i64 ak, .int .i64 ag, .slice C m dd]
    have h3 : Blk (((w.alloc (.cells #[.int .i64 id, .int .i64 nodes, .slice A n c] 24)).alloc (.cells #[.int .i64 dv, .int .i64 ak, .int .i64 ag, .slice C m dd] 62)).alloc (.cells #[.int .i64 0, .int .i64 0, .slice none 0 0] 24)) (w.heap.size + 2) 24 [.int .i64 0, .int .i64 0, .slice none 0 0] := by simpa using Blk.new ((w.alloc (.cells #[.int .i64 id, .int .i64 nodes, .slice A n c] 24)).alloc (.cells #[.int .i64 dv, .int .i64 ak, .int .i64 ag, .slice C m dd] 62)) 24 [.int .i64 0, .int .i64 0, .slice none 0 0]
    exact ⟨(h1.up (bel_alloc (Below.refl _ _))).up (bel_alloc (Below.refl _ _)), h2.up (bel_alloc (Below.refl _ _)), h3⟩)
  clear hW0
  have xl := HB0.out.1.lt
  have x_0 := (HB0.out.1.box).2 0 _ rfl; have x_1 := (HB0.out.1.box).2 1 _ rfl; have x_2 := (HB0.out.1.box).2 2 _ rfl
  go_upto_region 2 with (go_at_call 21; refine (ref0_CopyFetch id nodes A n c rows _ (HL.out.up hb0) (by omega)).mono ?_; rintro e w1 ⟨v1, rfl, hown1, hb1⟩; obtain ⟨iA, ic, rfl, hri⟩ := nmQ hown1 HN.out (by omega))
  refine wp_two (fun W1 hW1 => ?_)
  obtain ⟨g6, hg6⟩ : ∃ g, g = w1.heap.size := ⟨_, rfl⟩
  have h1W : Below w1.heap.size w1 W1 := by rw [hW1]; exact bel_alloc (Below.refl _ _)
  have h01 : Below W0.heap.size W0 W1 := bel_trans hb1 h1W
  have HI1 : Hid (Blk W1 g6 24 [.int .i64 id, .int .i64 nodes, .slice iA n ic]) := Lib.hid (by rw [hW1, hg6]; exact Blk.new w1 24 [.int .i64 id, .int .i64 nodes, .slice iA n ic])
  have HRI1 : Hid (RowsR W1 iA n rows) := Lib.hid (hri.up h1W)
  have HF1 := Lib.hid (HB0.out.1.up h01)
  have HA1 := Lib.hid (HB0.out.2.1.up h01)
  have HR1 := Lib.hid (HB0.out.2.2.up h01)
  have hbw1 := bel_trans hb0 h01
  have hg60 : w.heap.size + 3 ≤ g6 := by rw [hg6]; have := hb1.size; omega
  rw [← hg6]
  have HIO : Hid (∀ g, (Value.slice iA n ic).ownBlock = some g → g < g6) := Lib.hid (fun g e => by rw [hg6]; exact (own_lt hown1 g e).2)
  have HO1 : Hid (OwnQ W1 (w.heap.size + 3) (.slice iA n ic) rows) := Lib.hid ((hown1.mono (by omega)).up h1W)
  clear hW1 hg6 hown1 hri hb1 h1W h01 HB0 hb0 hs0 xl x_0 x_1 x_2
  have xl := HF1.out.lt
  have x_0 := (HF1.out.box).2 0 _ rfl; have x_1 := (HF1.out.box).2 1 _ rfl; have x_2 := (HF1.out.box).2 2 _ rfl
  go_upto_region 3 with (go_at_call 22; refine (ref21_May id nodes rows A n c true _ (HL.out.up hbw1) HM.out).mono ?_; rintro e w2 ⟨rfl, hb2⟩)
  clear xl x_0 x_1 x_2
  go_upto_region 7 with fail
  refine wp_two (fun W2 hW2 => ?_)
  obtain ⟨g8, hg8⟩ : ∃ g, g = w2.heap.size := ⟨_, rfl⟩
  have h2W : Below w2.heap.size w2 W2 := by rw [hW2]; (repeat (first | (with_reducible exact Below.refl _ _) | (with_reducible assumption) | (with_reducible apply bel_alloc) | (with_reducible apply bel_drew) | (with_reducible apply bel_drewN) | (with_reducible refine bel_trans ?_ (by with_reducible assumption)) | (with_reducible refine bel_trans ?_ (HF.out _)) | (with_reducible refine bel_set ?_ (by simp) _) | (with_reducible refine bel_set ?_ (by simp; omega) _) | (with_reducible refine bel_set ?_ (by omega) _)))
  have HW2 : Hid (Blk W2 g8 24 [.int .i64 0, .int .i64 0, .slice none 0 0]) := Lib.hid (by rw [hW2, hg8]; exact (Blk.new w2 24 [.int .i64 0, .int .i64 0, .slice none 0 0]).up (bel_alloc (Below.refl _ _)))
  have HX2 : Hid (Blk W2 (g8 + 1) 24 [.int .i64 0, .int .i64 0, .slice none 0 0]) := Lib.hid (by rw [hW2, hg8]; simpa using Blk.new (w2.alloc (.cells #[.int .i64 0, .int .i64 0, .slice none 0 0] 24)) 24 [.int .i64 0, .int .i64 0, .slice none 0 0])
  have hg86 : g6 < g8 := by rw [hg8]; exact Nat.lt_of_lt_of_le HI1.out.lt hb2.size
  have h12 : Below W1.heap.size W1 W2 := bel_trans hb2 h2W
  have HF2 := Lib.hid (HF1.out.up h12)
  have HA2 := Lib.hid (HA1.out.up h12)
  have HI2 := Lib.hid (HI1.out.up h12)
  have HO2 := Lib.hid (HO1.out.up h12)
  have HR2 := Lib.hid (HR1.out.up h12)
  have hbw2 := bel_trans hbw1 h12
  rw [← hg8]
  clear hW2 hg8 h2W h12 hb2 HF1 HA1 HI1 HRI1 HO1 HR1 hbw1
  have xl := HF2.out.lt
  have x_0 := (HF2.out.box).2 0 _ rfl; have x_1 := (HF2.out.box).2 1 _ rfl; have x_2 := (HF2.out.box).2 2 _ rfl
  have al := HA2.out.lt
  have a_0 := (HA2.out.box).2 0 _ rfl; have a_1 := (HA2.out.box).2 1 _ rfl; have a_2 := (HA2.out.box).2 2 _ rfl; have a_3 := (HA2.out.box).2 3 _ rfl
  have wl := HW2.out.lt
  have wf := HW2.out.frozen
  have q_0 := (HW2.out.box).2 0 _ rfl; have q_1 := (HW2.out.box).2 1 _ rfl; have q_2 := (HW2.out.box).2 2 _ rfl
  go_upto_region 14 with (go_at_call 16; refine (law0_Within dv 6 3 _ (by omega) (by omega) HW.out).mono ?_; rintro e w' ⟨rfl, rfl⟩)
  go_upto_region 15 with (go_at_call 48; refine (ref21_Got_ok id nodes ak ag A n c rows _ (HL.out.up hbw2) HM.out HY.out).mono ?_; rintro e w3 ⟨vr, rfl, hown3, hb3⟩; rw [HRQ.out] at hown3; obtain ⟨wA, wc, rfl, -⟩ := nmQ hown3 HTL.out (by omega); clear xl x_0 x_1 x_2 al a_0 a_1 a_2 a_3 wl wf q_0 q_1 q_2; have hq3 := HW2.out.up hb3; have wl := hq3.lt; have wf := hq3.frozen; have q_0 := (hq3.box).2 0 _ rfl; have q_1 := (hq3.box).2 1 _ rfl; have q_2 := (hq3.box).2 2 _ rfl; clear hq3)
  clear wl wf q_0 q_1 q_2
  refine wp_two (fun W3 hW3 => ?_)
  have hbw3 : Below w.heap.size w w3 := bel_trans hbw2 hb3
  have hgs : g8 + 2 ≤ W2.heap.size := HX2.out.lt
  have HW3 : Hid (Blk W3 g8 24 [.int .i64 id, .int .i64 nodes, .slice wA rn wc]) := Lib.hid (by rw [hW3]; exact (HW2.out.up hb3).put3 _ _ _)
  have HX3 : Hid (Blk W3 (g8 + 1) 24 [.int .i64 0, .int .i64 0, .slice none 0 0]) := Lib.hid (by rw [hW3]; exact (HX2.out.up hb3).far3 (by omega) _ _ _)
  have HF3 : Hid (Blk W3 w.heap.size 24 [.int .i64 id, .int .i64 nodes, .slice A n c]) := Lib.hid (by rw [hW3]; exact (HF2.out.up hb3).far3 (by omega) _ _ _)
  have HI3 : Hid (Blk W3 g6 24 [.int .i64 id, .int .i64 nodes, .slice iA n ic]) := Lib.hid (by rw [hW3]; exact (HI2.out.up hb3).far3 (by omega) _ _ _)
  have HR3 : Hid (Blk W3 (w.heap.size + 2) 24 [.int .i64 0, .int .i64 0, .slice none 0 0]) := Lib.hid (by rw [hW3]; exact (HR2.out.up hb3).far3 (by omega) _ _ _)
  have hne8 : (Value.slice iA n ic).ownBlock ≠ some g8 := fun e => by have := HIO.out _ e; omega
  have HO3 : Hid (OwnQ W3 (w.heap.size + 3) (.slice iA n ic) rows) := Lib.hid (by rw [hW3]; exact (((HO2.out.up hb3).setAp hne8).setAp hne8).setAp hne8)
  have HQ3 : Hid (OwnQ W3 (W2.heap.size + 2) (.slice wA rn wc) RQ) := Lib.hid (by rw [hW3]; exact ((hown3.set3 (by omega) _).set3 (by omega) _).set3 (by omega) _)
  have hbW3 : Below w.heap.size w W3 := by rw [hW3]; exact bel_set3 (bel_set3 (bel_set3 hbw3 (by omega)) (by omega)) (by omega)
  have HA3 : Hid (Blk W3 (w.heap.size + 1) 62 [.int .i64 dv, .int .i64 ak, .int .i64 ag, .slice C m dd]) := Lib.hid (by rw [hW3]; exact (HA2.out.up hb3).far3 (by omega) _ _ _)
  have HWO : Hid (∀ g, (Value.slice wA rn wc).ownBlock = some g → g < W3.heap.size) := Lib.hid (fun g e => (own_lt HQ3.out g e).2)
  clear hW3 hown3 hbw3 HF2 HA2 HI2 HO2 HR2 HW2 HX2 hne8
  have il := HI3.out.lt; have i_0 := (HI3.out.box).2 0 _ rfl; have i_1 := (HI3.out.box).2 1 _ rfl; have i_2 := (HI3.out.box).2 2 _ rfl
  have yl := HX3.out.lt; have yf := HX3.out.frozen; have y_0 := (HX3.out.box).2 0 _ rfl; have y_1 := (HX3.out.box).2 1 _ rfl; have y_2 := (HX3.out.box).2 2 _ rfl
  have al := HA3.out.lt; have a_0 := (HA3.out.box).2 0 _ rfl; have a_1 := (HA3.out.box).2 1 _ rfl; have a_2 := (HA3.out.box).2 2 _ rfl; have a_3 := (HA3.out.box).2 3 _ rfl
  go_upto_region 24 with (go_at_call 19; refine (fetch_Got_ok id nodes ak ag iA n ic rows _ (OwnQ.rowsR (HO3.out) HN.out (by omega)) HM.out HY.out).mono ?_; rintro e w4 ⟨vr4, rfl, hown4, hb4⟩; rw [HRQ.out] at hown4; obtain ⟨xA, xc, rfl, -⟩ := nmQ hown4 HTL.out (by omega); clear il i_0 i_1 i_2 yl yf y_0 y_1 y_2 al a_0 a_1 a_2 a_3; have hy4 := HX3.out.up hb4; have yl := hy4.lt; have yf := hy4.frozen; have y_0 := (hy4.box).2 0 _ rfl; have y_1 := (hy4.box).2 1 _ rfl; have y_2 := (hy4.box).2 2 _ rfl; clear hy4)
  clear yl yf y_0 y_1 y_2
  refine wp_two (fun W4 hW4 => ?_)
  have hs3 : g8 + 2 ≤ W3.heap.size := HX3.out.lt
  have hs36 : g6 < W3.heap.size := HI3.out.lt
  have hs30 : w.heap.size + 2 < W3.heap.size := HR3.out.lt
  have HX4 : Hid (Blk W4 (g8 + 1) 24 [.int .i64 id, .int .i64 nodes, .slice xA rn xc]) := Lib.hid (by rw [hW4]; exact (HX3.out.up hb4).put3 _ _ _)
  have HW4 : Hid (Blk W4 g8 24 [.int .i64 id, .int .i64 nodes, .slice wA rn wc]) := Lib.hid (by rw [hW4]; exact (HW3.out.up hb4).far3 (by omega) _ _ _)
  have HF4 : Hid (Blk W4 w.heap.size 24 [.int .i64 id, .int .i64 nodes, .slice A n c]) := Lib.hid (by rw [hW4]; exact (HF3.out.up hb4).far3 (by omega) _ _ _)
  have HI4 : Hid (Blk W4 g6 24 [.int .i64 id, .int .i64 nodes, .slice iA n ic]) := Lib.hid (by rw [hW4]; exact (HI3.out.up hb4).far3 (by omega) _ _ _)
  have HR4 : Hid (Blk W4 (w.heap.size + 2) 24 [.int .i64 0, .int .i64 0, .slice none 0 0]) := Lib.hid (by rw [hW4]; exact (HR3.out.up hb4).far3 (by omega) _ _ _)
  have hne8 : (Value.slice iA n ic).ownBlock ≠ some (g8 + 1) := fun e => by have := HIO.out _ e; omega
  have HO4 : Hid (OwnQ W4 (w.heap.size + 3) (.slice iA n ic) rows) := Lib.hid (by rw [hW4]; exact (((HO3.out.up hb4).setAp hne8).setAp hne8).setAp hne8)
  have HQ4 : Hid (OwnQ W4 (W2.heap.size + 2) (.slice wA rn wc) RQ) := Lib.hid (by rw [hW4]; exact (((HQ3.out.up hb4).set3 (by omega) _).set3 (by omega) _).set3 (by omega) _)
  have HXQ4 : Hid (OwnQ W4 (W3.heap.size + 2) (.slice xA rn xc) RQ) := Lib.hid (by rw [hW4]; exact ((hown4.set3 (by omega) _).set3 (by omega) _).set3 (by omega) _)
  have hbW4 : Below w.heap.size w W4 := by rw [hW4]; exact bel_set3 (bel_set3 (bel_set3 (bel_trans hbW3 hb4) (by omega)) (by omega)) (by omega)
  have HS34 : Hid (W3.heap.size ≤ W4.heap.size) := Lib.hid (by rw [hW4]; simpa using hb4.size)
  clear hW4 hown4 HX3 HW3 HF3 HI3 HR3 hne8 HO3 HQ3
  have il := HI4.out.lt
  have i_0 := (HI4.out.box).2 0 _ rfl; have i_1 := (HI4.out.box).2 1 _ rfl; have i_2 := (HI4.out.box).2 2 _ rfl
  have yl := HX4.out.lt
  have y_0 := (HX4.out.box).2 0 _ rfl; have y_1 := (HX4.out.box).2 1 _ rfl; have y_2 := (HX4.out.box).2 2 _ rfl
  have wl := HW4.out.lt
  have q_0 := (HW4.out.box).2 0 _ rfl; have q_1 := (HW4.out.box).2 1 _ rfl; have q_2 := (HW4.out.box).2 2 _ rfl
  have xl := HF4.out.lt
  have x_0 := (HF4.out.box).2 0 _ rfl; have x_1 := (HF4.out.box).2 1 _ rfl; have x_2 := (HF4.out.box).2 2 _ rfl
  go_upto_region 25 with (first
    | (go_at_call 11; refine (law21_num _ _).mono ?_; rintro e w' ⟨rfl, rfl⟩)
    | (go_at_call 13; refine (ref0_EqFetch id nodes iA n ic A n c rows _ ((by obtain ⟨A', c', e', h'⟩ := nmQ HO4.out HN.out (by omega); injection e' with e1 e2 e3; subst e1; exact h' : RowsR W4 iA n rows).up hb6) (HL.out.up (bel_trans hbW4 hb6))).mono ?_; rintro e w7 ⟨rfl, hb7⟩; have hb47 := bel_trans hb6 hb7; clear il i_0 i_1 i_2 xl x_0 x_1 x_2; have hX7 := HX4.out.up hb47; have yl := hX7.lt; have y_0 := (hX7.box).2 0 _ rfl; have y_1 := (hX7.box).2 1 _ rfl; have y_2 := (hX7.box).2 2 _ rfl; clear hX7)
    | (go_at_call 13; refine (ref0_EqFetch id nodes xA rn xc wA rn wc RQ _ (by obtain ⟨A', c', e', h'⟩ := nmQ HXQ4.out HTL.out (by omega); injection e' with e1 e2 e3; subst e1; exact h') (by obtain ⟨A', c', e', h'⟩ := nmQ HQ4.out HTL.out (by omega); injection e' with e1 e2 e3; subst e1; exact h')).mono ?_; rintro e w5 ⟨rfl, hb5⟩; clear il i_0 i_1 i_2 yl y_0 y_1 y_2 wl q_0 q_1 q_2 xl x_0 x_1 x_2; have hI5 := HI4.out.up hb5; have il := hI5.lt; have i_0 := (hI5.box).2 0 _ rfl; have i_1 := (hI5.box).2 1 _ rfl; have i_2 := (hI5.box).2 2 _ rfl; clear hI5; have hF5 := HF4.out.up hb5; have xl := hF5.lt; have x_0 := (hF5.box).2 0 _ rfl; have x_1 := (hF5.box).2 1 _ rfl; have x_2 := (hF5.box).2 2 _ rfl; clear hF5)
    | (go_at_call 54; refine (ref0_EqMessages _ _ _ _ _ _ [] _ (MsgsR.nil _) (MsgsR.nil _)).mono ?_; rintro e w6 ⟨rfl, hb65⟩; have hb6 := bel_trans hb5 hb65; clear il i_0 i_1 i_2 xl x_0 x_1 x_2; have hI6 := HI4.out.up hb6; have il := hI6.lt; have i_0 := (hI6.box).2 0 _ rfl; have i_1 := (hI6.box).2 1 _ rfl; have i_2 := (hI6.box).2 2 _ rfl; clear hI6; have hF6 := HF4.out.up hb6; have xl := hF6.lt; have x_0 := (hF6.box).2 0 _ rfl; have x_1 := (hF6.box).2 1 _ rfl; have x_2 := (hF6.box).2 2 _ rfl; clear hF6))
  have hbs4 := hb47.size
  have hs34 : W3.heap.size ≤ W4.heap.size := HS34.out
  go_upto_region 26 with (go_at_call 55; refine (law0_RowsS ⟨xA, rn, xc⟩ W3.heap.size _ ((own_rowT (s := ⟨xA, rn, xc⟩) (HXQ4.out.up hb47)).mono (by omega)) (by show rn ≤ 1000000; omega) (by omega)).mono ?_; rintro e w8 ⟨rfl, hb8, hk8⟩)
  clear yl y_0 y_1 y_2
  have hbs8 := hb8.size
  go_upto_region 27 with (go_at_call 56; refine (law0_MessagesS ⟨none, 0, 0⟩ W3.heap.size _ (.inl rfl) (by decide) (by omega)).mono ?_; rintro e w9 ⟨rfl, hb9, hk9⟩)
  have HW9 : Hid (Blk w9 g8 24 [.int .i64 id, .int .i64 nodes, .slice wA rn wc]) := Lib.hid (((HW4.out.up hb47).below hb8 (by omega)).below hb9 (by omega))
  have HF9 : Hid (Blk w9 w.heap.size 24 [.int .i64 id, .int .i64 nodes, .slice A n c]) := Lib.hid (((HF4.out.up hb47).below hb8 (by omega)).below hb9 (by omega))
  have HI9 : Hid (Blk w9 g6 24 [.int .i64 id, .int .i64 nodes, .slice iA n ic]) := Lib.hid (((HI4.out.up hb47).below hb8 (by omega)).below hb9 (by omega))
  have HR9 : Hid (Blk w9 (w.heap.size + 2) 24 [.int .i64 0, .int .i64 0, .slice none 0 0]) := Lib.hid (((HR4.out.up hb47).below hb8 (by omega)).below hb9 (by omega))
  have HO9 : Hid (OwnQ w9 (w.heap.size + 3) (.slice iA n ic) rows) := Lib.hid (own_of_heap (HO4.out.up hb47) (fun g hg => by have := HIO.out g hg; rw [hb9.block g (by omega), hb8.block g (by omega)]))
  have HQ9 : Hid (OwnQ w9 (w.heap.size + 3) (.slice wA rn wc) RQ) := Lib.hid (own_mono (own_of_heap (HQ4.out.up hb47) (fun g hg => by have := HWO.out g hg; rw [hb9.block g (by omega), hb8.block g (by omega)])) (by omega))
  have hbw9 : Below w.heap.size w w9 := ((bel_trans hbW4 hb47).trans (hb8.mono (by omega))).trans (hb9.mono (by omega))
  clear HW4 HF4 HI4 HR4 HO4 HX4 HQ4 HXQ4
  go_upto_region 29 with fail
  obtain ⟨S, hSd⟩ : ∃ S : World → Prop, S = fun Q => Q.rangeAt g8 0 [.int .i64 id, .int .i64 nodes, .slice wA rn wc] ∧ Q.rangeAt g6 0 [.int .i64 id, .int .i64 nodes, .slice iA n ic] ∧ Q.rangeAt w.heap.size 0 [.int .i64 id, .int .i64 nodes, .slice A n c] := ⟨_, rfl⟩
  have hS1 : ∀ Q, S Q → Q.rangeAt g8 0 [.int .i64 id, .int .i64 nodes, .slice wA rn wc] := fun Q h => by rw [hSd] at h; exact h.1
  have hS2 : ∀ Q, S Q → Q.rangeAt g6 0 [.int .i64 id, .int .i64 nodes, .slice iA n ic] := fun Q h => by rw [hSd] at h; exact h.2.1
  have hS3 : ∀ Q, S Q → Q.rangeAt w.heap.size 0 [.int .i64 id, .int .i64 nodes, .slice A n c] := fun Q h => by rw [hSd] at h; exact h.2.2
  have hS : ∀ Q, Blk Q g8 24 [.int .i64 id, .int .i64 nodes, .slice wA rn wc] → Blk Q g6 24 [.int .i64 id, .int .i64 nodes, .slice iA n ic] → Blk Q w.heap.size 24 [.int .i64 id, .int .i64 nodes, .slice A n c] → S Q := fun Q h1 h2 h3 => by rw [hSd]; exact ⟨Blk.rngQ h1, Blk.rngQ h2, Blk.rngQ h3⟩
  clear hSd
  have hbd : Below w9.heap.size w9 w9.drew := bel_drew (Below.refl _ _)
  refine wp_region_held_drew (S := S) (by kernel_rfl) (hS _ (HW9.out.up hbd) (HI9.out.up hbd) (HF9.out.up hbd)) (fun hHeld => ?_)
  generalize w9.drew = Z at *
  refine wpAnyH_takeD (i := 0) (d := (some 126)) (v := .agg ([.int .i64 id, .int .i64 nodes, .slice wA rn wc]).toArray) rfl rfl (by kernel_rfl) (by kernel_rfl) (by kernel_rfl) (fun _ _ _ h => h) (yieldsIf_load_mid (by rfl) 24 _ rfl g8 0 (by simp [Act.eval, Act.put]) ([.int .i64 id, .int .i64 nodes, .slice wA rn wc]) _ (hS1) Try.underlying24 (by rfl) (by kernel_rfl)) (by assumption) ?_
  simp only [Act.put, List.setIfInBounds_toArray, List.set_cons_zero, List.set_cons_succ]
  (refine wpAnyH_tk 1 (some 127) (v := ?_) rfl rfl ?_ ?_; rotate_left; (focus (intro wq hSw; clear hSw; go_simp; all_goals (with_reducible rfl))); simp only [Act.put, List.setIfInBounds_toArray, List.set_cons_zero, List.set_cons_succ])
  (refine wpAnyH_tk 2 (some 128) (v := ?_) rfl rfl ?_ ?_; rotate_left; (focus (intro wq hSw; clear hSw; go_simp; all_goals (with_reducible rfl))); simp only [Act.put, List.setIfInBounds_toArray, List.set_cons_zero, List.set_cons_succ])
  refine wpAnyH_takeD (i := 3) (d := (some 129)) (v := .agg ([.int .i64 id, .int .i64 nodes, .slice iA n ic]).toArray) rfl rfl (by kernel_rfl) (by kernel_rfl) (by kernel_rfl) (fun _ _ _ h => h) (yieldsIf_load_mid (by rfl) 24 _ rfl g6 0 (by simp [Act.eval, Act.put]) ([.int .i64 id, .int .i64 nodes, .slice iA n ic]) _ (hS2) Try.underlying24 (by rfl) (by kernel_rfl)) (by assumption) ?_
  simp only [Act.put, List.setIfInBounds_toArray, List.set_cons_zero, List.set_cons_succ]
  refine wpAnyH_takeD (i := 4) (d := (some 130)) (v := .agg ([.int .i64 id, .int .i64 nodes, .slice A n c]).toArray) rfl rfl (by kernel_rfl) (by kernel_rfl) (by kernel_rfl) (fun _ _ _ h => h) (yieldsIf_load_mid (by rfl) 24 _ rfl w.heap.size 0 (by simp [Act.eval, Act.put]) ([.int .i64 id, .int .i64 nodes, .slice A n c]) _ (hS3) Try.underlying24 (by rfl) (by kernel_rfl)) (by assumption) ?_
  simp only [Act.put, List.setIfInBounds_toArray, List.set_cons_zero, List.set_cons_succ]
  refine wpAnyH_ready (rs := [5]) (by kernel_rfl) (by simp) ?_
  refine AllReadyH.cons (o := _) rfl (fun K hK => ?_) AllReadyH.nil
  go_simp
  (go_at_call 13; refine (ref0_EqFetch id nodes iA n ic A n c rows _ (by obtain ⟨A', c', e', h'⟩ := nmQ (HO9.out.up hbd) HN.out (by omega); injection e' with e1 e2 e3; subst e1; exact h') (HL.out.up (bel_trans hbw9 hbd))).mono ?_; rintro e wE ⟨rfl, hbE⟩)
  have hbb := bel_trans hbd hbE
  refine hK.out _ _ (hS _ (HW9.out.up hbb) (HI9.out.up hbb) (HF9.out.up hbb)) (fun hHeld => ?_)
  clear hK K
  (try simp only [Act.put, List.setIfInBounds_toArray, List.set_cons_zero, List.set_cons_succ])
  (refine wpAnyH_tk 6 (some 132) (v := ?_) rfl rfl ?_ ?_; rotate_left; (focus (intro wq hSw; clear hSw; go_simp; all_goals (with_reducible rfl))); simp only [Act.put, List.setIfInBounds_toArray, List.set_cons_zero, List.set_cons_succ])
  refine wpAnyH_ready (rs := [7]) (by kernel_rfl) (by simp) ?_
  refine AllReadyH.cons (o := _) rfl (fun K hK => ?_) AllReadyH.nil
  have hG5 := HR9.out.up hbb
  have gl := hG5.lt
  have gf := hG5.frozen
  have g_0 := (hG5.box).2 0 _ rfl; have g_1 := (hG5.box).2 1 _ rfl; have g_2 := (hG5.box).2 2 _ rfl
  go_simp
  clear gl gf g_0 g_1 g_2
  refine hK.out _ _ (hS _ ((HW9.out.up hbb).far3 (b := w.heap.size + 2) (by omega) _ _ _) ((HI9.out.up hbb).far3 (b := w.heap.size + 2) (by omega) _ _ _) ((HF9.out.up hbb).far3 (b := w.heap.size + 2) (by omega) _ _ _)) (fun hHeld => ?_)
  clear hK K
  (try simp only [Act.put, List.setIfInBounds_toArray, List.set_cons_zero, List.set_cons_succ])
  (refine wpAnyH_tk 8 (some 5) (v := ?_) rfl rfl ?_ ?_; rotate_left; (focus (intro wq hSw; clear hSw; go_simp; all_goals (with_reducible rfl))); simp only [Act.put, List.setIfInBounds_toArray, List.set_cons_zero, List.set_cons_succ])
  refine wpAnyH_done (by kernel_rfl) ?_ _
  have hG6 := hG5.put3 (.int .i64 id) (.int .i64 nodes) (.slice wA rn wc)
  have gl := hG6.lt
  have g_0 := (hG6.box).2 0 _ rfl; have g_1 := (hG6.box).2 1 _ rfl; have g_2 := (hG6.box).2 2 _ rfl
  go_wp2_with fail
  refine bodyPost_ret (v := .tuple #[.agg #[.int .i64 id, .int .i64 nodes, .slice wA rn wc], .bool true]) (by simp [results, Try.results24, go_sem, g_0, g_1, g_2]) rfl ⟨⟨id, nodes, ⟨wA, rn, wc⟩, RQ, rfl, OwnQ.rowsR (OwnQ.set3 (OwnQ.set3 (OwnQ.set3 (HQ9.out.up hbb) (by omega) _) (by omega) _) (by omega) _) HTL.out (by show rn ≤ 9223372036854775807; omega), by show rn ≤ 1000000; omega⟩, bel_set3 (bel_set3 (bel_set3 (bel_trans hbw9 hbb) (by omega)) (by omega)) (by omega)⟩
set_option maxRecDepth 100000 in
set_option maxHeartbeats 8000000 in
theorem stepG_bad (id nodes : Int) (A : Option Addr) (n c : Nat) (rows : List FRowD) (dv ak ag : Int) (C : Option Addr) (m dd : Nat) (w : World) (hl : RowsR w A n rows) (hM : mayF ⟨id, nodes, rows⟩ = false) (hd : wiI dv 6 = 3) (hn : n ≤ 1000000) :
    Calls Try.prog 24 #[.agg #[.int .i64 id, .int .i64 nodes, .slice A n c], .agg #[.int .i64 dv, .int .i64 ak, .int .i64 ag, .slice C m dd]] w fun e w' => StepR w' e ∧ Below w.heap.size w w' := by
  have HL := Lib.hid hl
  have HM := Lib.hid hM
  have HN := Lib.hid hl.1
  have HW := Lib.hid hd
  clear hl hM hd
  go_enter Try.func24, Try.ntmps24
  go_upto_region 1 with fail
  refine wp_two (fun W0 hW0 => ?_)
  have hb0 : Below w.heap.size w W0 := by rw [hW0]; (repeat (first | (with_reducible exact Below.refl _ _) | (with_reducible assumption) | (with_reducible apply bel_alloc) | (with_reducible apply bel_drew) | (with_reducible apply bel_drewN) | (with_reducible refine bel_trans ?_ (by with_reducible assumption)) | (with_reducible refine bel_trans ?_ (HF.out _)) | (with_reducible refine bel_set ?_ (by simp) _) | (with_reducible refine bel_set ?_ (by simp; omega) _) | (with_reducible refine bel_set ?_ (by omega) _)))
  have hs0 : W0.heap.size = w.heap.size + 3 := by rw [hW0]; simp
  have HB0 : Hid (Blk W0 w.heap.size 24 [.int .i64 id, .int .i64 nodes, .slice A n c] ∧ Blk W0 (w.heap.size + 1) 62 [.int .i64 dv, .int .i64 ak, .int .i64 ag, .slice C m dd] ∧ Blk W0 (w.heap.size + 2) 24 [.int .i64 0, .int .i64 0, .slice none 0 0]) := Lib.hid (by
    rw [hW0]
    have h1 : Blk (w.alloc (.cells #[.int .i64 id, .int .i64 nodes, .slice A n c] 24)) w.heap.size 24 [.int .i64 id, .int .i64 nodes, .slice A n c] := Blk.new _ 24 [.int .i64 id, .int .i64 nodes, .slice A n c]
    have h2 : Blk ((w.alloc (.cells #[.int .i64 id, .int .i64 nodes, .slice A n c] 24)).alloc (.cells #[.int .i64 dv, .int .i64 ak, .int .i64 ag, .slice C m dd] 62)) (w.heap.size + 1) 62 [.int .i64 dv, .int .i64 ak, .int .i64 ag, .slice C m dd] := by simpa using Blk.new (w.alloc (.cells #[.int .i64 id, .int .i64 nodes, .slice A n c] 24)) 62 [.int .i64 dv, .int .i64 ak, .int .i64 ag, .slice C m dd]
    have h3 : Blk (((w.alloc (.cells #[.int .i64 id, .int .i64 nodes, .slice A n c] 24)).alloc (.cells #[.int .i64 dv, .int .i64 ak, .int .i64 ag, .slice C m dd] 62)).alloc (.cells #[.int .i64 0, .int .i64 0, .slice none 0 0] 24)) (w.heap.size + 2) 24 [.int .i64 0, .int .i64 0, .slice none 0 0] := by simpa using Blk.new ((w.alloc (.cells #[.int .i64 id, .int .i64 nodes, .slice A n c] 24)).alloc (.cells #[.int .i64 dv, .int .i64 ak, .int .i64 ag, .slice C m dd] 62)) 24 [.int .i64 0, .int .i64 0, .slice none 0 0]
    exact ⟨(h1.up (bel_alloc (Below.refl _ _))).up (bel_alloc (Below.refl _ _)), h2.up (bel_alloc (Below.refl _ _)), h3⟩)
  clear hW0
  have xl := HB0.out.1.lt
  have x_0 := (HB0.out.1.box).2 0 _ rfl; have x_1 := (HB0.out.1.box).2 1 _ rfl; have x_2 := (HB0.out.1.box).2 2 _ rfl
  go_upto_region 2 with (go_at_call 21; refine (ref0_CopyFetch id nodes A n c rows _ (HL.out.up hb0) (by omega)).mono ?_; rintro e w1 ⟨v1, rfl, hown1, hb1⟩; obtain ⟨iA, ic, rfl, hri⟩ := nmQ hown1 HN.out (by omega))
  refine wp_two (fun W1 hW1 => ?_)
  obtain ⟨g6, hg6⟩ : ∃ g, g = w1.heap.size := ⟨_, rfl⟩
  have h1W : Below w1.heap.size w1 W1 := by rw [hW1]; exact bel_alloc (Below.refl _ _)
  have h01 : Below W0.heap.size W0 W1 := bel_trans hb1 h1W
  have HI1 : Hid (Blk W1 g6 24 [.int .i64 id, .int .i64 nodes, .slice iA n ic]) := Lib.hid (by rw [hW1, hg6]; exact Blk.new w1 24 [.int .i64 id, .int .i64 nodes, .slice iA n ic])
  have HRI1 : Hid (RowsR W1 iA n rows) := Lib.hid (hri.up h1W)
  have HF1 := Lib.hid (HB0.out.1.up h01)
  have HA1 := Lib.hid (HB0.out.2.1.up h01)
  have HR1 := Lib.hid (HB0.out.2.2.up h01)
  have hbw1 := bel_trans hb0 h01
  have hg60 : w.heap.size + 3 ≤ g6 := by rw [hg6]; have := hb1.size; omega
  rw [← hg6]
  have HIO : Hid (∀ g, (Value.slice iA n ic).ownBlock = some g → g < g6) := Lib.hid (fun g e => by rw [hg6]; exact (own_lt hown1 g e).2)
  have HO1 : Hid (OwnQ W1 (w.heap.size + 3) (.slice iA n ic) rows) := Lib.hid ((hown1.mono (by omega)).up h1W)
  clear hW1 hg6 hown1 hri hb1 h1W h01 HB0 hb0 hs0 xl x_0 x_1 x_2
  have xl := HF1.out.lt
  have x_0 := (HF1.out.box).2 0 _ rfl; have x_1 := (HF1.out.box).2 1 _ rfl; have x_2 := (HF1.out.box).2 2 _ rfl
  go_upto_region 3 with (go_at_call 22; refine (ref21_May id nodes rows A n c false _ (HL.out.up hbw1) HM.out).mono ?_; rintro e w2 ⟨rfl, hb2⟩)
  clear xl x_0 x_1 x_2
  go_upto_region 7 with fail
  refine wp_two (fun W2 hW2 => ?_)
  obtain ⟨g8, hg8⟩ : ∃ g, g = w2.heap.size := ⟨_, rfl⟩
  have h2W : Below w2.heap.size w2 W2 := by rw [hW2]; (repeat (first | (with_reducible exact Below.refl _ _) | (with_reducible assumption) | (with_reducible apply bel_alloc) | (with_reducible apply bel_drew) | (with_reducible apply bel_drewN) | (with_reducible refine bel_trans ?_ (by with_reducible assumption)) | (with_reducible refine bel_trans ?_ (HF.out _)) | (with_reducible refine bel_set ?_ (by simp) _) | (with_reducible refine bel_set ?_ (by simp; omega) _) | (with_reducible refine bel_set ?_ (by omega) _)))
  have HW2 : Hid (Blk W2 g8 24 [.int .i64 0, .int .i64 0, .slice none 0 0]) := Lib.hid (by rw [hW2, hg8]; exact (Blk.new w2 24 [.int .i64 0, .int .i64 0, .slice none 0 0]).up (bel_alloc (Below.refl _ _)))
  have HX2 : Hid (Blk W2 (g8 + 1) 24 [.int .i64 0, .int .i64 0, .slice none 0 0]) := Lib.hid (by rw [hW2, hg8]; simpa using Blk.new (w2.alloc (.cells #[.int .i64 0, .int .i64 0, .slice none 0 0] 24)) 24 [.int .i64 0, .int .i64 0, .slice none 0 0])
  have hg86 : g6 < g8 := by rw [hg8]; exact Nat.lt_of_lt_of_le HI1.out.lt hb2.size
  have h12 : Below W1.heap.size W1 W2 := bel_trans hb2 h2W
  have HF2 := Lib.hid (HF1.out.up h12)
  have HA2 := Lib.hid (HA1.out.up h12)
  have HI2 := Lib.hid (HI1.out.up h12)
  have HO2 := Lib.hid (HO1.out.up h12)
  have HR2 := Lib.hid (HR1.out.up h12)
  have hbw2 := bel_trans hbw1 h12
  rw [← hg8]
  clear hW2 hg8 h2W h12 hb2 HF1 HA1 HI1 HRI1 HO1 HR1 hbw1
  have xl := HF2.out.lt
  have x_0 := (HF2.out.box).2 0 _ rfl; have x_1 := (HF2.out.box).2 1 _ rfl; have x_2 := (HF2.out.box).2 2 _ rfl
  have al := HA2.out.lt
  have a_0 := (HA2.out.box).2 0 _ rfl; have a_1 := (HA2.out.box).2 1 _ rfl; have a_2 := (HA2.out.box).2 2 _ rfl; have a_3 := (HA2.out.box).2 3 _ rfl
  have wl := HW2.out.lt
  have wf := HW2.out.frozen
  have q_0 := (HW2.out.box).2 0 _ rfl; have q_1 := (HW2.out.box).2 1 _ rfl; have q_2 := (HW2.out.box).2 2 _ rfl
  have il := HI2.out.lt; have i_0 := (HI2.out.box).2 0 _ rfl; have i_1 := (HI2.out.box).2 1 _ rfl; have i_2 := (HI2.out.box).2 2 _ rfl
  have yl := HX2.out.lt; have yf := HX2.out.frozen; have y_0 := (HX2.out.box).2 0 _ rfl; have y_1 := (HX2.out.box).2 1 _ rfl; have y_2 := (HX2.out.box).2 2 _ rfl
  have hgs : g8 + 2 ≤ W2.heap.size := HX2.out.lt
  go_upto_region 24 with (first | (go_at_call 16; refine (law0_Within dv 6 3 _ (by omega) (by omega) HW.out).mono ?_; rintro e w' ⟨rfl, rfl⟩) | (go_at_call 19; refine (fetch_Got_bad id nodes ak ag iA n ic rows _ (OwnQ.rowsR (HO2.out) HN.out (by omega)) HM.out).mono ?_; rintro e w4 ⟨rfl, hb4⟩; clear il i_0 i_1 i_2 yl yf y_0 y_1 y_2; have hy4 := HX2.out.up hb4; have yl := hy4.lt; have yf := hy4.frozen; have y_0 := (hy4.box).2 0 _ rfl; have y_1 := (hy4.box).2 1 _ rfl; have y_2 := (hy4.box).2 2 _ rfl; clear hy4))
  clear yl yf y_0 y_1 y_2 xl x_0 x_1 x_2 al a_0 a_1 a_2 a_3 wl wf q_0 q_1 q_2
  refine wp_two (fun W4 hW4 => ?_)
  have HX4 : Hid (Blk W4 (g8 + 1) 24 [.int .i64 0, .int .i64 0, .slice none 0 0]) := Lib.hid (by rw [hW4]; exact (HX2.out.up hb4).put3 _ _ _)
  have HW4 : Hid (Blk W4 g8 24 [.int .i64 0, .int .i64 0, .slice none 0 0]) := Lib.hid (by rw [hW4]; exact (HW2.out.up hb4).far3 (by omega) _ _ _)
  have HF4 : Hid (Blk W4 w.heap.size 24 [.int .i64 id, .int .i64 nodes, .slice A n c]) := Lib.hid (by rw [hW4]; exact (HF2.out.up hb4).far3 (by omega) _ _ _)
  have HI4 : Hid (Blk W4 g6 24 [.int .i64 id, .int .i64 nodes, .slice iA n ic]) := Lib.hid (by rw [hW4]; exact (HI2.out.up hb4).far3 (by omega) _ _ _)
  have HR4 : Hid (Blk W4 (w.heap.size + 2) 24 [.int .i64 0, .int .i64 0, .slice none 0 0]) := Lib.hid (by rw [hW4]; exact (HR2.out.up hb4).far3 (by omega) _ _ _)
  have hne8 : (Value.slice iA n ic).ownBlock ≠ some (g8 + 1) := fun e => by have := HIO.out _ e; omega
  have HO4 : Hid (OwnQ W4 (w.heap.size + 3) (.slice iA n ic) rows) := Lib.hid (by rw [hW4]; exact (((HO2.out.up hb4).setAp hne8).setAp hne8).setAp hne8)
  have hbW4 : Below w.heap.size w W4 := by rw [hW4]; exact bel_set3 (bel_set3 (bel_set3 (bel_trans hbw2 hb4) (by omega)) (by omega)) (by omega)
  clear hW4 HX2 HW2 HF2 HI2 HR2 hne8 HO2
  have il := HI4.out.lt
  have i_0 := (HI4.out.box).2 0 _ rfl; have i_1 := (HI4.out.box).2 1 _ rfl; have i_2 := (HI4.out.box).2 2 _ rfl
  have yl := HX4.out.lt
  have y_0 := (HX4.out.box).2 0 _ rfl; have y_1 := (HX4.out.box).2 1 _ rfl; have y_2 := (HX4.out.box).2 2 _ rfl
  have wl := HW4.out.lt
  have q_0 := (HW4.out.box).2 0 _ rfl; have q_1 := (HW4.out.box).2 1 _ rfl; have q_2 := (HW4.out.box).2 2 _ rfl
  have xl := HF4.out.lt
  have x_0 := (HF4.out.box).2 0 _ rfl; have x_1 := (HF4.out.box).2 1 _ rfl; have x_2 := (HF4.out.box).2 2 _ rfl
  go_upto_region 25 with (first
    | (go_at_call 11; refine (law21_num _ _).mono ?_; rintro e w' ⟨rfl, rfl⟩)
    | (go_at_call 13; refine (ref0_EqFetch id nodes iA n ic A n c rows _ ((by obtain ⟨A', c', e', h'⟩ := nmQ HO4.out HN.out (by omega); injection e' with e1 e2 e3; subst e1; exact h' : RowsR W4 iA n rows).up hb6) (HL.out.up (bel_trans hbW4 hb6))).mono ?_; rintro e w7 ⟨rfl, hb7⟩; have hb47 := bel_trans hb6 hb7; clear il i_0 i_1 i_2 xl x_0 x_1 x_2; have hX7 := HX4.out.up hb47; have yl := hX7.lt; have y_0 := (hX7.box).2 0 _ rfl; have y_1 := (hX7.box).2 1 _ rfl; have y_2 := (hX7.box).2 2 _ rfl; clear hX7)
    | (go_at_call 13; refine (ref0_EqFetch 0 0 none 0 0 none 0 0 [] _ (RowsR.nil _ _) (RowsR.nil _ _)).mono ?_; rintro e w5 ⟨rfl, hb5⟩; clear il i_0 i_1 i_2 yl y_0 y_1 y_2 wl q_0 q_1 q_2 xl x_0 x_1 x_2; have hI5 := HI4.out.up hb5; have il := hI5.lt; have i_0 := (hI5.box).2 0 _ rfl; have i_1 := (hI5.box).2 1 _ rfl; have i_2 := (hI5.box).2 2 _ rfl; clear hI5; have hF5 := HF4.out.up hb5; have xl := hF5.lt; have x_0 := (hF5.box).2 0 _ rfl; have x_1 := (hF5.box).2 1 _ rfl; have x_2 := (hF5.box).2 2 _ rfl; clear hF5)
    | (go_at_call 54; refine (ref0_EqMessages _ _ _ _ _ _ [] _ (MsgsR.nil _) (MsgsR.nil _)).mono ?_; rintro e w6 ⟨rfl, hb65⟩; have hb6 := bel_trans hb5 hb65; clear il i_0 i_1 i_2 xl x_0 x_1 x_2; have hI6 := HI4.out.up hb6; have il := hI6.lt; have i_0 := (hI6.box).2 0 _ rfl; have i_1 := (hI6.box).2 1 _ rfl; have i_2 := (hI6.box).2 2 _ rfl; clear hI6; have hF6 := HF4.out.up hb6; have xl := hF6.lt; have x_0 := (hF6.box).2 0 _ rfl; have x_1 := (hF6.box).2 1 _ rfl; have x_2 := (hF6.box).2 2 _ rfl; clear hF6))
  have hs40 : w.heap.size + 2 < W4.heap.size := HR4.out.lt
  have hs46 : g6 < W4.heap.size := HI4.out.lt
  have hs48 : g8 < W4.heap.size := HW4.out.lt
  have hbs4 := hb47.size
  go_upto_region 26 with (go_at_call 55; refine (law0_RowsS ⟨none, 0, 0⟩ W4.heap.size _ (.inl rfl) (by decide) hbs4).mono ?_; rintro e w8 ⟨rfl, hb8, hk8⟩)
  clear yl y_0 y_1 y_2
  have hbs8 := hb8.size
  go_upto_region 27 with (go_at_call 56; refine (law0_MessagesS ⟨none, 0, 0⟩ W4.heap.size _ (.inl rfl) (by decide) (by omega)).mono ?_; rintro e w9 ⟨rfl, hb9, hk9⟩)
  have HF9 : Hid (Blk w9 w.heap.size 24 [.int .i64 id, .int .i64 nodes, .slice A n c]) := Lib.hid (((HF4.out.up hb47).below hb8 (by omega)).below hb9 (by omega))
  have HI9 : Hid (Blk w9 g6 24 [.int .i64 id, .int .i64 nodes, .slice iA n ic]) := Lib.hid (((HI4.out.up hb47).below hb8 (by omega)).below hb9 (by omega))
  have HR9 : Hid (Blk w9 (w.heap.size + 2) 24 [.int .i64 0, .int .i64 0, .slice none 0 0]) := Lib.hid (((HR4.out.up hb47).below hb8 (by omega)).below hb9 (by omega))
  have HO9 : Hid (OwnQ w9 (w.heap.size + 3) (.slice iA n ic) rows) := Lib.hid (own_of_heap (HO4.out.up hb47) (fun g hg => by have := HIO.out g hg; rw [hb9.block g (by omega), hb8.block g (by omega)]))
  have hbw9 : Below w.heap.size w w9 := ((bel_trans hbW4 hb47).trans (hb8.mono (by omega))).trans (hb9.mono (by omega))
  clear HF4 HI4 HR4 HO4 HX4 HW4
  go_upto_region 28 with fail
  obtain ⟨S, hSd⟩ : ∃ S : World → Prop, S = fun Q => Q.rangeAt g6 0 [.int .i64 id, .int .i64 nodes, .slice iA n ic] ∧ Q.rangeAt w.heap.size 0 [.int .i64 id, .int .i64 nodes, .slice A n c] := ⟨_, rfl⟩
  have hS2 : ∀ Q, S Q → Q.rangeAt g6 0 [.int .i64 id, .int .i64 nodes, .slice iA n ic]  := fun Q h => by rw [hSd] at h; exact h.1
  have hS3 : ∀ Q, S Q → Q.rangeAt w.heap.size 0 [.int .i64 id, .int .i64 nodes, .slice A n c] := fun Q h => by rw [hSd] at h; exact h.2
  have hS : ∀ Q, Blk Q g6 24 [.int .i64 id, .int .i64 nodes, .slice iA n ic] → Blk Q w.heap.size 24 [.int .i64 id, .int .i64 nodes, .slice A n c] → S Q := fun Q h2 h3 => by rw [hSd]; exact ⟨Blk.rngQ h2, Blk.rngQ h3⟩
  clear hSd
  have hbd : Below w9.heap.size w9 w9.drew := bel_drew (Below.refl _ _)
  refine wp_region_held_drew (S := S) (by kernel_rfl) (hS _ (HI9.out.up hbd) (HF9.out.up hbd)) (fun hHeld => ?_)
  generalize w9.drew = Z at *
  refine wpAnyH_takeD (i := 0) (d := (some 119)) (v := .agg ([.int .i64 id, .int .i64 nodes, .slice A n c]).toArray) rfl rfl (by kernel_rfl) (by kernel_rfl) (by kernel_rfl) (fun _ _ _ h => h) (yieldsIf_load_mid (by rfl) 24 _ rfl w.heap.size 0 (by simp [Act.eval, Act.put]) ([.int .i64 id, .int .i64 nodes, .slice A n c]) _ (hS3) Try.underlying24 (by rfl) (by kernel_rfl)) (by assumption) ?_
  simp only [Act.put, List.setIfInBounds_toArray, List.set_cons_zero, List.set_cons_succ]
  (refine wpAnyH_tk 1 (some 120) (v := ?_) rfl rfl ?_ ?_; rotate_left; (focus (intro wq hSw; clear hSw; go_simp; all_goals (with_reducible rfl))); simp only [Act.put, List.setIfInBounds_toArray, List.set_cons_zero, List.set_cons_succ])
  (refine wpAnyH_tk 2 (some 121) (v := ?_) rfl rfl ?_ ?_; rotate_left; (focus (intro wq hSw; clear hSw; go_simp; all_goals (with_reducible rfl))); simp only [Act.put, List.setIfInBounds_toArray, List.set_cons_zero, List.set_cons_succ])
  refine wpAnyH_takeD (i := 3) (d := (some 122)) (v := .agg ([.int .i64 id, .int .i64 nodes, .slice iA n ic]).toArray) rfl rfl (by kernel_rfl) (by kernel_rfl) (by kernel_rfl) (fun _ _ _ h => h) (yieldsIf_load_mid (by rfl) 24 _ rfl g6 0 (by simp [Act.eval, Act.put]) ([.int .i64 id, .int .i64 nodes, .slice iA n ic]) _ (hS2) Try.underlying24 (by rfl) (by kernel_rfl)) (by assumption) ?_
  simp only [Act.put, List.setIfInBounds_toArray, List.set_cons_zero, List.set_cons_succ]
  refine wpAnyH_takeD (i := 4) (d := (some 123)) (v := .agg ([.int .i64 id, .int .i64 nodes, .slice A n c]).toArray) rfl rfl (by kernel_rfl) (by kernel_rfl) (by kernel_rfl) (fun _ _ _ h => h) (yieldsIf_load_mid (by rfl) 24 _ rfl w.heap.size 0 (by simp [Act.eval, Act.put]) ([.int .i64 id, .int .i64 nodes, .slice A n c]) _ (hS3) Try.underlying24 (by rfl) (by kernel_rfl)) (by assumption) ?_
  simp only [Act.put, List.setIfInBounds_toArray, List.set_cons_zero, List.set_cons_succ]
  refine wpAnyH_ready (rs := [5]) (by kernel_rfl) (by simp) ?_
  refine AllReadyH.cons (o := _) rfl (fun K hK => ?_) AllReadyH.nil
  go_simp
  (go_at_call 13; refine (ref0_EqFetch id nodes iA n ic A n c rows _ (by obtain ⟨A', c', e', h'⟩ := nmQ (HO9.out.up hbd) HN.out (by omega); injection e' with e1 e2 e3; subst e1; exact h') (HL.out.up (bel_trans hbw9 hbd))).mono ?_; rintro e wE ⟨rfl, hbE⟩)
  have hbb := bel_trans hbd hbE
  refine hK.out _ _ (hS _ (HI9.out.up hbb) (HF9.out.up hbb)) (fun hHeld => ?_)
  clear hK K
  (try simp only [Act.put, List.setIfInBounds_toArray, List.set_cons_zero, List.set_cons_succ])
  (refine wpAnyH_tk 6 (some 125) (v := ?_) rfl rfl ?_ ?_; rotate_left; (focus (intro wq hSw; clear hSw; go_simp; all_goals (with_reducible rfl))); simp only [Act.put, List.setIfInBounds_toArray, List.set_cons_zero, List.set_cons_succ])
  refine wpAnyH_ready (rs := [7]) (by kernel_rfl) (by simp) ?_
  refine AllReadyH.cons (o := _) rfl (fun K hK => ?_) AllReadyH.nil
  have hG5 := HR9.out.up hbb
  have gl := hG5.lt
  have gf := hG5.frozen
  have g_0 := (hG5.box).2 0 _ rfl; have g_1 := (hG5.box).2 1 _ rfl; have g_2 := (hG5.box).2 2 _ rfl
  go_simp
  clear gl gf g_0 g_1 g_2
  refine hK.out _ _ (hS _ ((HI9.out.up hbb).far3 (b := w.heap.size + 2) (by omega) _ _ _) ((HF9.out.up hbb).far3 (b := w.heap.size + 2) (by omega) _ _ _)) (fun hHeld => ?_)
  clear hK K
  (try simp only [Act.put, List.setIfInBounds_toArray, List.set_cons_zero, List.set_cons_succ])
  (refine wpAnyH_tk 8 (some 5) (v := ?_) rfl rfl ?_ ?_; rotate_left; (focus (intro wq hSw; clear hSw; go_simp; all_goals (with_reducible rfl))); simp only [Act.put, List.setIfInBounds_toArray, List.set_cons_zero, List.set_cons_succ])
  refine wpAnyH_done (by kernel_rfl) ?_ _
  have hG6 := hG5.put3 (.int .i64 id) (.int .i64 nodes) (.slice A n c)
  have gl := hG6.lt
  have g_0 := (hG6.box).2 0 _ rfl; have g_1 := (hG6.box).2 1 _ rfl; have g_2 := (hG6.box).2 2 _ rfl
  go_wp2_with fail
  refine bodyPost_ret (v := .tuple #[.agg #[.int .i64 id, .int .i64 nodes, .slice A n c], .bool true]) (by simp [results, Try.results24, go_sem, g_0, g_1, g_2]) rfl ⟨⟨id, nodes, ⟨A, n, c⟩, rows, rfl, HL.out.up (bel_set3 (bel_set3 (bel_set3 (bel_trans hbw9 hbb) (by omega)) (by omega)) (by omega)), by show n ≤ 1000000; omega⟩, bel_set3 (bel_set3 (bel_set3 (bel_trans hbw9 hbb) (by omega)) (by omega)) (by omega)⟩
set_option maxRecDepth 100000 in
set_option maxHeartbeats 8000000 in
theorem stepG_none (id nodes : Int) (A : Option Addr) (n c : Nat) (rows : List FRowD) (dv ak ag : Int) (C : Option Addr) (m dd : Nat) (w : World) (hl : RowsR w A n rows) (hM : mayF ⟨id, nodes, rows⟩ = true) (hd : wiI dv 6 = 3) (hy : hereQ ak ag rows = false) :
    Calls Try.prog 24 #[.agg #[.int .i64 id, .int .i64 nodes, .slice A n c], .agg #[.int .i64 dv, .int .i64 ak, .int .i64 ag, .slice C m dd]] w fun e w' => StepR w' e ∧ Below w.heap.size w w' := by
  have hm := mayF_iff.1 hM
  have hn : n ≤ 64 := by rw [← hl.1]; exact hm.2.2.2.1
  have hn16 : nodes ≤ 16 := (isS_bd hm.1).2
  have HY := Lib.hid hy
  have HL := Lib.hid hl
  have HM := Lib.hid hM
  have HN := Lib.hid hl.1
  have HW := Lib.hid hd
  clear hl hM hm hd hy
  go_enter Try.func24, Try.ntmps24
  go_upto_region 1 with fail
  refine wp_two (fun W0 hW0 => ?_)
  have hb0 : Below w.heap.size w W0 := by rw [hW0]; (repeat (first | (with_reducible exact Below.refl _ _) | (with_reducible assumption) | (with_reducible apply bel_alloc) | (with_reducible apply bel_drew) | (with_reducible apply bel_drewN) | (with_reducible refine bel_trans ?_ (by with_reducible assumption)) | (with_reducible refine bel_trans ?_ (HF.out _)) | (with_reducible refine bel_set ?_ (by simp) _) | (with_reducible refine bel_set ?_ (by simp; omega) _) | (with_reducible refine bel_set ?_ (by omega) _)))
  have hs0 : W0.heap.size = w.heap.size + 3 := by rw [hW0]; simp
  have HB0 : Hid (Blk W0 w.heap.size 24 [.int .i64 id, .int .i64 nodes, .slice A n c] ∧ Blk W0 (w.heap.size + 1) 62 [.int .i64 dv, .int .i64 ak, .int .i64 ag, .slice C m dd] ∧ Blk W0 (w.heap.size + 2) 24 [.int .i64 0, .int .i64 0, .slice none 0 0]) := Lib.hid (by
    rw [hW0]
    have h1 : Blk (w.alloc (.cells #[.int .i64 id, .int .i64 nodes, .slice A n c] 24)) w.heap.size 24 [.int .i64 id, .int .i64 nodes, .slice A n c] := Blk.new _ 24 [.int .i64 id, .int .i64 nodes, .slice A n c]
    have h2 : Blk ((w.alloc (.cells #[.int .i64 id, .int .i64 nodes, .slice A n c] 24)).alloc (.cells #[.int .i64 dv, .int .i64 ak, .int .i64 ag, .slice C m dd] 62)) (w.heap.size + 1) 62 [.int .i64 dv, .int .i64 ak, .int .i64 ag, .slice C m dd] := by simpa using Blk.new (w.alloc (.cells #[.int .i64 id, .int .i64 nodes, .slice A n c] 24)) 62 [.int .i64 dv, .int .i64 ak, .int .i64 ag, .slice C m dd]
    have h3 : Blk (((w.alloc (.cells #[.int .i64 id, .int .i64 nodes, .slice A n c] 24)).alloc (.cells #[.int .i64 dv, .int .i64 ak, .int .i64 ag, .slice C m dd] 62)).alloc (.cells #[.int .i64 0, .int .i64 0, .slice none 0 0] 24)) (w.heap.size + 2) 24 [.int .i64 0, .int .i64 0, .slice none 0 0] := by simpa using Blk.new ((w.alloc (.cells #[.int .i64 id, .int .i64 nodes, .slice A n c] 24)).alloc (.cells #[.int .i64 dv, .int .i64 ak, .int .i64 ag, .slice C m dd] 62)) 24 [.int .i64 0, .int .i64 0, .slice none 0 0]
    exact ⟨(h1.up (bel_alloc (Below.refl _ _))).up (bel_alloc (Below.refl _ _)), h2.up (bel_alloc (Below.refl _ _)), h3⟩)
  clear hW0
  have xl := HB0.out.1.lt
  have x_0 := (HB0.out.1.box).2 0 _ rfl; have x_1 := (HB0.out.1.box).2 1 _ rfl; have x_2 := (HB0.out.1.box).2 2 _ rfl
  go_upto_region 2 with (go_at_call 21; refine (ref0_CopyFetch id nodes A n c rows _ (HL.out.up hb0) (by omega)).mono ?_; rintro e w1 ⟨v1, rfl, hown1, hb1⟩; obtain ⟨iA, ic, rfl, hri⟩ := nmQ hown1 HN.out (by omega))
  refine wp_two (fun W1 hW1 => ?_)
  obtain ⟨g6, hg6⟩ : ∃ g, g = w1.heap.size := ⟨_, rfl⟩
  have h1W : Below w1.heap.size w1 W1 := by rw [hW1]; exact bel_alloc (Below.refl _ _)
  have h01 : Below W0.heap.size W0 W1 := bel_trans hb1 h1W
  have HI1 : Hid (Blk W1 g6 24 [.int .i64 id, .int .i64 nodes, .slice iA n ic]) := Lib.hid (by rw [hW1, hg6]; exact Blk.new w1 24 [.int .i64 id, .int .i64 nodes, .slice iA n ic])
  have HRI1 : Hid (RowsR W1 iA n rows) := Lib.hid (hri.up h1W)
  have HF1 := Lib.hid (HB0.out.1.up h01)
  have HA1 := Lib.hid (HB0.out.2.1.up h01)
  have HR1 := Lib.hid (HB0.out.2.2.up h01)
  have hbw1 := bel_trans hb0 h01
  have hg60 : w.heap.size + 3 ≤ g6 := by rw [hg6]; have := hb1.size; omega
  rw [← hg6]
  have HIO : Hid (∀ g, (Value.slice iA n ic).ownBlock = some g → g < g6) := Lib.hid (fun g e => by rw [hg6]; exact (own_lt hown1 g e).2)
  have HO1 : Hid (OwnQ W1 (w.heap.size + 3) (.slice iA n ic) rows) := Lib.hid ((hown1.mono (by omega)).up h1W)
  clear hW1 hg6 hown1 hri hb1 h1W h01 HB0 hb0 hs0 xl x_0 x_1 x_2
  have xl := HF1.out.lt
  have x_0 := (HF1.out.box).2 0 _ rfl; have x_1 := (HF1.out.box).2 1 _ rfl; have x_2 := (HF1.out.box).2 2 _ rfl
  go_upto_region 3 with (go_at_call 22; refine (ref21_May id nodes rows A n c true _ (HL.out.up hbw1) HM.out).mono ?_; rintro e w2 ⟨rfl, hb2⟩)
  clear xl x_0 x_1 x_2
  go_upto_region 7 with fail
  refine wp_two (fun W2 hW2 => ?_)
  obtain ⟨g8, hg8⟩ : ∃ g, g = w2.heap.size := ⟨_, rfl⟩
  have h2W : Below w2.heap.size w2 W2 := by rw [hW2]; (repeat (first | (with_reducible exact Below.refl _ _) | (with_reducible assumption) | (with_reducible apply bel_alloc) | (with_reducible apply bel_drew) | (with_reducible apply bel_drewN) | (with_reducible refine bel_trans ?_ (by with_reducible assumption)) | (with_reducible refine bel_trans ?_ (HF.out _)) | (with_reducible refine bel_set ?_ (by simp) _) | (with_reducible refine bel_set ?_ (by simp; omega) _) | (with_reducible refine bel_set ?_ (by omega) _)))
  have HW2 : Hid (Blk W2 g8 24 [.int .i64 0, .int .i64 0, .slice none 0 0]) := Lib.hid (by rw [hW2, hg8]; exact (Blk.new w2 24 [.int .i64 0, .int .i64 0, .slice none 0 0]).up (bel_alloc (Below.refl _ _)))
  have HX2 : Hid (Blk W2 (g8 + 1) 24 [.int .i64 0, .int .i64 0, .slice none 0 0]) := Lib.hid (by rw [hW2, hg8]; simpa using Blk.new (w2.alloc (.cells #[.int .i64 0, .int .i64 0, .slice none 0 0] 24)) 24 [.int .i64 0, .int .i64 0, .slice none 0 0])
  have hg86 : g6 < g8 := by rw [hg8]; exact Nat.lt_of_lt_of_le HI1.out.lt hb2.size
  have h12 : Below W1.heap.size W1 W2 := bel_trans hb2 h2W
  have HF2 := Lib.hid (HF1.out.up h12)
  have HA2 := Lib.hid (HA1.out.up h12)
  have HI2 := Lib.hid (HI1.out.up h12)
  have HO2 := Lib.hid (HO1.out.up h12)
  have HR2 := Lib.hid (HR1.out.up h12)
  have hbw2 := bel_trans hbw1 h12
  rw [← hg8]
  clear hW2 hg8 h2W h12 hb2 HF1 HA1 HI1 HRI1 HO1 HR1 hbw1
  have xl := HF2.out.lt
  have x_0 := (HF2.out.box).2 0 _ rfl; have x_1 := (HF2.out.box).2 1 _ rfl; have x_2 := (HF2.out.box).2 2 _ rfl
  have al := HA2.out.lt
  have a_0 := (HA2.out.box).2 0 _ rfl; have a_1 := (HA2.out.box).2 1 _ rfl; have a_2 := (HA2.out.box).2 2 _ rfl; have a_3 := (HA2.out.box).2 3 _ rfl
  have wl := HW2.out.lt
  have wf := HW2.out.frozen
  have q_0 := (HW2.out.box).2 0 _ rfl; have q_1 := (HW2.out.box).2 1 _ rfl; have q_2 := (HW2.out.box).2 2 _ rfl
  go_upto_region 14 with (go_at_call 16; refine (law0_Within dv 6 3 _ (by omega) (by omega) HW.out).mono ?_; rintro e w' ⟨rfl, rfl⟩)
  go_upto_region 15 with (go_at_call 48; refine (ref21_Got_none id nodes ak ag A n c rows _ (HL.out.up hbw2) HM.out HY.out).mono ?_; rintro e w3 ⟨rfl, hb3⟩; clear xl x_0 x_1 x_2 al a_0 a_1 a_2 a_3 wl wf q_0 q_1 q_2; have hq3 := HW2.out.up hb3; have wl := hq3.lt; have wf := hq3.frozen; have q_0 := (hq3.box).2 0 _ rfl; have q_1 := (hq3.box).2 1 _ rfl; have q_2 := (hq3.box).2 2 _ rfl; clear hq3)
  clear wl wf q_0 q_1 q_2
  refine wp_two (fun W3 hW3 => ?_)
  have hbw3 : Below w.heap.size w w3 := bel_trans hbw2 hb3
  have hgs : g8 + 2 ≤ W2.heap.size := HX2.out.lt
  have HW3 : Hid (Blk W3 g8 24 [.int .i64 0, .int .i64 0, .slice none 0 0]) := Lib.hid (by rw [hW3]; exact (HW2.out.up hb3).put3 _ _ _)
  have HX3 : Hid (Blk W3 (g8 + 1) 24 [.int .i64 0, .int .i64 0, .slice none 0 0]) := Lib.hid (by rw [hW3]; exact (HX2.out.up hb3).far3 (by omega) _ _ _)
  have HF3 : Hid (Blk W3 w.heap.size 24 [.int .i64 id, .int .i64 nodes, .slice A n c]) := Lib.hid (by rw [hW3]; exact (HF2.out.up hb3).far3 (by omega) _ _ _)
  have HI3 : Hid (Blk W3 g6 24 [.int .i64 id, .int .i64 nodes, .slice iA n ic]) := Lib.hid (by rw [hW3]; exact (HI2.out.up hb3).far3 (by omega) _ _ _)
  have HR3 : Hid (Blk W3 (w.heap.size + 2) 24 [.int .i64 0, .int .i64 0, .slice none 0 0]) := Lib.hid (by rw [hW3]; exact (HR2.out.up hb3).far3 (by omega) _ _ _)
  have HA3 : Hid (Blk W3 (w.heap.size + 1) 62 [.int .i64 dv, .int .i64 ak, .int .i64 ag, .slice C m dd]) := Lib.hid (by rw [hW3]; exact (HA2.out.up hb3).far3 (by omega) _ _ _)
  have hne8 : (Value.slice iA n ic).ownBlock ≠ some g8 := fun e => by have := HIO.out _ e; omega
  have HO3 : Hid (OwnQ W3 (w.heap.size + 3) (.slice iA n ic) rows) := Lib.hid (by rw [hW3]; exact (((HO2.out.up hb3).setAp hne8).setAp hne8).setAp hne8)
  have hbW3 : Below w.heap.size w W3 := by rw [hW3]; exact bel_set3 (bel_set3 (bel_set3 hbw3 (by omega)) (by omega)) (by omega)
  clear hW3 hbw3 HF2 HA2 HI2 HO2 HR2 HW2 HX2 hne8 hbw2 hb3
  have wl := HW3.out.lt
  have wf := HW3.out.frozen
  have q_0 := (HW3.out.box).2 0 _ rfl; have q_1 := (HW3.out.box).2 1 _ rfl; have q_2 := (HW3.out.box).2 2 _ rfl
  go_upto_region 17 with fail
  refine wp_two (fun V2 hV2 => ?_)
  have HW2 : Hid (Blk V2 g8 24 [.int .i64 0, .int .i64 0, .slice none 0 0]) := Lib.hid (by rw [hV2]; exact HW3.out.put3 _ _ _)
  have HX2 : Hid (Blk V2 (g8 + 1) 24 [.int .i64 0, .int .i64 0, .slice none 0 0]) := Lib.hid (by rw [hV2]; exact HX3.out.far3 (by omega) _ _ _)
  have HF2 : Hid (Blk V2 w.heap.size 24 [.int .i64 id, .int .i64 nodes, .slice A n c]) := Lib.hid (by rw [hV2]; exact HF3.out.far3 (by omega) _ _ _)
  have HI2 : Hid (Blk V2 g6 24 [.int .i64 id, .int .i64 nodes, .slice iA n ic]) := Lib.hid (by rw [hV2]; exact HI3.out.far3 (by omega) _ _ _)
  have HR2 : Hid (Blk V2 (w.heap.size + 2) 24 [.int .i64 0, .int .i64 0, .slice none 0 0]) := Lib.hid (by rw [hV2]; exact HR3.out.far3 (by omega) _ _ _)
  have HA2 : Hid (Blk V2 (w.heap.size + 1) 62 [.int .i64 dv, .int .i64 ak, .int .i64 ag, .slice C m dd]) := Lib.hid (by rw [hV2]; exact HA3.out.far3 (by omega) _ _ _)
  have hne8 : (Value.slice iA n ic).ownBlock ≠ some g8 := fun e => by have := HIO.out _ e; omega
  have HO2 : Hid (OwnQ V2 (w.heap.size + 3) (.slice iA n ic) rows) := Lib.hid (by rw [hV2]; exact ((HO3.out.setAp hne8).setAp hne8).setAp hne8)
  have hbw2 : Below w.heap.size w V2 := by rw [hV2]; exact bel_set3 (bel_set3 (bel_set3 hbW3 (by omega)) (by omega)) (by omega)
  clear hV2 hne8 HW3 HX3 HF3 HI3 HR3 HA3 HO3 hbW3 wl wf q_0 q_1 q_2
  have il := HI2.out.lt; have i_0 := (HI2.out.box).2 0 _ rfl; have i_1 := (HI2.out.box).2 1 _ rfl; have i_2 := (HI2.out.box).2 2 _ rfl
  have yl := HX2.out.lt; have yf := HX2.out.frozen; have y_0 := (HX2.out.box).2 0 _ rfl; have y_1 := (HX2.out.box).2 1 _ rfl; have y_2 := (HX2.out.box).2 2 _ rfl
  have al := HA2.out.lt; have a_0 := (HA2.out.box).2 0 _ rfl; have a_1 := (HA2.out.box).2 1 _ rfl; have a_2 := (HA2.out.box).2 2 _ rfl; have a_3 := (HA2.out.box).2 3 _ rfl
  go_upto_region 24 with (go_at_call 19; refine (fetch_Got_none id nodes ak ag iA n ic rows _ (OwnQ.rowsR (HO2.out) HN.out (by omega)) HM.out HY.out).mono ?_; rintro e w4 ⟨rfl, hb4⟩; clear il i_0 i_1 i_2 yl yf y_0 y_1 y_2 al a_0 a_1 a_2 a_3; have hy4 := HX2.out.up hb4; have yl := hy4.lt; have yf := hy4.frozen; have y_0 := (hy4.box).2 0 _ rfl; have y_1 := (hy4.box).2 1 _ rfl; have y_2 := (hy4.box).2 2 _ rfl; clear hy4)
  clear yl yf y_0 y_1 y_2
  refine wp_two (fun W4 hW4 => ?_)
  have HX4 : Hid (Blk W4 (g8 + 1) 24 [.int .i64 0, .int .i64 0, .slice none 0 0]) := Lib.hid (by rw [hW4]; exact (HX2.out.up hb4).put3 _ _ _)
  have HW4 : Hid (Blk W4 g8 24 [.int .i64 0, .int .i64 0, .slice none 0 0]) := Lib.hid (by rw [hW4]; exact (HW2.out.up hb4).far3 (by omega) _ _ _)
  have HF4 : Hid (Blk W4 w.heap.size 24 [.int .i64 id, .int .i64 nodes, .slice A n c]) := Lib.hid (by rw [hW4]; exact (HF2.out.up hb4).far3 (by omega) _ _ _)
  have HI4 : Hid (Blk W4 g6 24 [.int .i64 id, .int .i64 nodes, .slice iA n ic]) := Lib.hid (by rw [hW4]; exact (HI2.out.up hb4).far3 (by omega) _ _ _)
  have HR4 : Hid (Blk W4 (w.heap.size + 2) 24 [.int .i64 0, .int .i64 0, .slice none 0 0]) := Lib.hid (by rw [hW4]; exact (HR2.out.up hb4).far3 (by omega) _ _ _)
  have hne8 : (Value.slice iA n ic).ownBlock ≠ some (g8 + 1) := fun e => by have := HIO.out _ e; omega
  have HO4 : Hid (OwnQ W4 (w.heap.size + 3) (.slice iA n ic) rows) := Lib.hid (by rw [hW4]; exact (((HO2.out.up hb4).setAp hne8).setAp hne8).setAp hne8)
  have hbW4 : Below w.heap.size w W4 := by rw [hW4]; exact bel_set3 (bel_set3 (bel_set3 (bel_trans hbw2 hb4) (by omega)) (by omega)) (by omega)
  clear hW4 HX2 HW2 HF2 HI2 HR2 hne8 HO2
  have il := HI4.out.lt
  have i_0 := (HI4.out.box).2 0 _ rfl; have i_1 := (HI4.out.box).2 1 _ rfl; have i_2 := (HI4.out.box).2 2 _ rfl
  have yl := HX4.out.lt
  have y_0 := (HX4.out.box).2 0 _ rfl; have y_1 := (HX4.out.box).2 1 _ rfl; have y_2 := (HX4.out.box).2 2 _ rfl
  have wl := HW4.out.lt
  have q_0 := (HW4.out.box).2 0 _ rfl; have q_1 := (HW4.out.box).2 1 _ rfl; have q_2 := (HW4.out.box).2 2 _ rfl
  have xl := HF4.out.lt
  have x_0 := (HF4.out.box).2 0 _ rfl; have x_1 := (HF4.out.box).2 1 _ rfl; have x_2 := (HF4.out.box).2 2 _ rfl
  go_upto_region 25 with (first
    | (go_at_call 11; refine (law21_num _ _).mono ?_; rintro e w' ⟨rfl, rfl⟩)
    | (go_at_call 13; refine (ref0_EqFetch id nodes iA n ic A n c rows _ ((by obtain ⟨A', c', e', h'⟩ := nmQ HO4.out HN.out (by omega); injection e' with e1 e2 e3; subst e1; exact h' : RowsR W4 iA n rows).up hb6) (HL.out.up (bel_trans hbW4 hb6))).mono ?_; rintro e w7 ⟨rfl, hb7⟩; have hb47 := bel_trans hb6 hb7; clear il i_0 i_1 i_2 xl x_0 x_1 x_2; have hX7 := HX4.out.up hb47; have yl := hX7.lt; have y_0 := (hX7.box).2 0 _ rfl; have y_1 := (hX7.box).2 1 _ rfl; have y_2 := (hX7.box).2 2 _ rfl; clear hX7)
    | (go_at_call 13; refine (ref0_EqFetch 0 0 none 0 0 none 0 0 [] _ (RowsR.nil _ _) (RowsR.nil _ _)).mono ?_; rintro e w5 ⟨rfl, hb5⟩; clear il i_0 i_1 i_2 yl y_0 y_1 y_2 wl q_0 q_1 q_2 xl x_0 x_1 x_2; have hI5 := HI4.out.up hb5; have il := hI5.lt; have i_0 := (hI5.box).2 0 _ rfl; have i_1 := (hI5.box).2 1 _ rfl; have i_2 := (hI5.box).2 2 _ rfl; clear hI5; have hF5 := HF4.out.up hb5; have xl := hF5.lt; have x_0 := (hF5.box).2 0 _ rfl; have x_1 := (hF5.box).2 1 _ rfl; have x_2 := (hF5.box).2 2 _ rfl; clear hF5)
    | (go_at_call 54; refine (ref0_EqMessages _ _ _ _ _ _ [] _ (MsgsR.nil _) (MsgsR.nil _)).mono ?_; rintro e w6 ⟨rfl, hb65⟩; have hb6 := bel_trans hb5 hb65; clear il i_0 i_1 i_2 xl x_0 x_1 x_2; have hI6 := HI4.out.up hb6; have il := hI6.lt; have i_0 := (hI6.box).2 0 _ rfl; have i_1 := (hI6.box).2 1 _ rfl; have i_2 := (hI6.box).2 2 _ rfl; clear hI6; have hF6 := HF4.out.up hb6; have xl := hF6.lt; have x_0 := (hF6.box).2 0 _ rfl; have x_1 := (hF6.box).2 1 _ rfl; have x_2 := (hF6.box).2 2 _ rfl; clear hF6))
  have hs40 : w.heap.size + 2 < W4.heap.size := HR4.out.lt
  have hs46 : g6 < W4.heap.size := HI4.out.lt
  have hs48 : g8 < W4.heap.size := HW4.out.lt
  have hbs4 := hb47.size
  go_upto_region 26 with (go_at_call 55; refine (law0_RowsS ⟨none, 0, 0⟩ W4.heap.size _ (.inl rfl) (by decide) hbs4).mono ?_; rintro e w8 ⟨rfl, hb8, hk8⟩)
  clear yl y_0 y_1 y_2
  have hbs8 := hb8.size
  go_upto_region 27 with (go_at_call 56; refine (law0_MessagesS ⟨none, 0, 0⟩ W4.heap.size _ (.inl rfl) (by decide) (by omega)).mono ?_; rintro e w9 ⟨rfl, hb9, hk9⟩)
  have HF9 : Hid (Blk w9 w.heap.size 24 [.int .i64 id, .int .i64 nodes, .slice A n c]) := Lib.hid (((HF4.out.up hb47).below hb8 (by omega)).below hb9 (by omega))
  have HI9 : Hid (Blk w9 g6 24 [.int .i64 id, .int .i64 nodes, .slice iA n ic]) := Lib.hid (((HI4.out.up hb47).below hb8 (by omega)).below hb9 (by omega))
  have HR9 : Hid (Blk w9 (w.heap.size + 2) 24 [.int .i64 0, .int .i64 0, .slice none 0 0]) := Lib.hid (((HR4.out.up hb47).below hb8 (by omega)).below hb9 (by omega))
  have HO9 : Hid (OwnQ w9 (w.heap.size + 3) (.slice iA n ic) rows) := Lib.hid (own_of_heap (HO4.out.up hb47) (fun g hg => by have := HIO.out g hg; rw [hb9.block g (by omega), hb8.block g (by omega)]))
  have hbw9 : Below w.heap.size w w9 := ((bel_trans hbW4 hb47).trans (hb8.mono (by omega))).trans (hb9.mono (by omega))
  clear HF4 HI4 HR4 HO4 HX4 HW4
  go_upto_region 28 with fail
  obtain ⟨S, hSd⟩ : ∃ S : World → Prop, S = fun Q => Q.rangeAt g6 0 [.int .i64 id, .int .i64 nodes, .slice iA n ic] ∧ Q.rangeAt w.heap.size 0 [.int .i64 id, .int .i64 nodes, .slice A n c] := ⟨_, rfl⟩
  have hS2 : ∀ Q, S Q → Q.rangeAt g6 0 [.int .i64 id, .int .i64 nodes, .slice iA n ic]  := fun Q h => by rw [hSd] at h; exact h.1
  have hS3 : ∀ Q, S Q → Q.rangeAt w.heap.size 0 [.int .i64 id, .int .i64 nodes, .slice A n c] := fun Q h => by rw [hSd] at h; exact h.2
  have hS : ∀ Q, Blk Q g6 24 [.int .i64 id, .int .i64 nodes, .slice iA n ic] → Blk Q w.heap.size 24 [.int .i64 id, .int .i64 nodes, .slice A n c] → S Q := fun Q h2 h3 => by rw [hSd]; exact ⟨Blk.rngQ h2, Blk.rngQ h3⟩
  clear hSd
  have hbd : Below w9.heap.size w9 w9.drew := bel_drew (Below.refl _ _)
  refine wp_region_held_drew (S := S) (by kernel_rfl) (hS _ (HI9.out.up hbd) (HF9.out.up hbd)) (fun hHeld => ?_)
  generalize w9.drew = Z at *
  refine wpAnyH_takeD (i := 0) (d := (some 119)) (v := .agg ([.int .i64 id, .int .i64 nodes, .slice A n c]).toArray) rfl rfl (by kernel_rfl) (by kernel_rfl) (by kernel_rfl) (fun _ _ _ h => h) (yieldsIf_load_mid (by rfl) 24 _ rfl w.heap.size 0 (by simp [Act.eval, Act.put]) ([.int .i64 id, .int .i64 nodes, .slice A n c]) _ (hS3) Try.underlying24 (by rfl) (by kernel_rfl)) (by assumption) ?_
  simp only [Act.put, List.setIfInBounds_toArray, List.set_cons_zero, List.set_cons_succ]
  (refine wpAnyH_tk 1 (some 120) (v := ?_) rfl rfl ?_ ?_; rotate_left; (focus (intro wq hSw; clear hSw; go_simp; all_goals (with_reducible rfl))); simp only [Act.put, List.setIfInBounds_toArray, List.set_cons_zero, List.set_cons_succ])
  (refine wpAnyH_tk 2 (some 121) (v := ?_) rfl rfl ?_ ?_; rotate_left; (focus (intro wq hSw; clear hSw; go_simp; all_goals (with_reducible rfl))); simp only [Act.put, List.setIfInBounds_toArray, List.set_cons_zero, List.set_cons_succ])
  refine wpAnyH_takeD (i := 3) (d := (some 122)) (v := .agg ([.int .i64 id, .int .i64 nodes, .slice iA n ic]).toArray) rfl rfl (by kernel_rfl) (by kernel_rfl) (by kernel_rfl) (fun _ _ _ h => h) (yieldsIf_load_mid (by rfl) 24 _ rfl g6 0 (by simp [Act.eval, Act.put]) ([.int .i64 id, .int .i64 nodes, .slice iA n ic]) _ (hS2) Try.underlying24 (by rfl) (by kernel_rfl)) (by assumption) ?_
  simp only [Act.put, List.setIfInBounds_toArray, List.set_cons_zero, List.set_cons_succ]
  refine wpAnyH_takeD (i := 4) (d := (some 123)) (v := .agg ([.int .i64 id, .int .i64 nodes, .slice A n c]).toArray) rfl rfl (by kernel_rfl) (by kernel_rfl) (by kernel_rfl) (fun _ _ _ h => h) (yieldsIf_load_mid (by rfl) 24 _ rfl w.heap.size 0 (by simp [Act.eval, Act.put]) ([.int .i64 id, .int .i64 nodes, .slice A n c]) _ (hS3) Try.underlying24 (by rfl) (by kernel_rfl)) (by assumption) ?_
  simp only [Act.put, List.setIfInBounds_toArray, List.set_cons_zero, List.set_cons_succ]
  refine wpAnyH_ready (rs := [5]) (by kernel_rfl) (by simp) ?_
  refine AllReadyH.cons (o := _) rfl (fun K hK => ?_) AllReadyH.nil
  go_simp
  (go_at_call 13; refine (ref0_EqFetch id nodes iA n ic A n c rows _ (by obtain ⟨A', c', e', h'⟩ := nmQ (HO9.out.up hbd) HN.out (by omega); injection e' with e1 e2 e3; subst e1; exact h') (HL.out.up (bel_trans hbw9 hbd))).mono ?_; rintro e wE ⟨rfl, hbE⟩)
  have hbb := bel_trans hbd hbE
  refine hK.out _ _ (hS _ (HI9.out.up hbb) (HF9.out.up hbb)) (fun hHeld => ?_)
  clear hK K
  (try simp only [Act.put, List.setIfInBounds_toArray, List.set_cons_zero, List.set_cons_succ])
  (refine wpAnyH_tk 6 (some 125) (v := ?_) rfl rfl ?_ ?_; rotate_left; (focus (intro wq hSw; clear hSw; go_simp; all_goals (with_reducible rfl))); simp only [Act.put, List.setIfInBounds_toArray, List.set_cons_zero, List.set_cons_succ])
  refine wpAnyH_ready (rs := [7]) (by kernel_rfl) (by simp) ?_
  refine AllReadyH.cons (o := _) rfl (fun K hK => ?_) AllReadyH.nil
  have hG5 := HR9.out.up hbb
  have gl := hG5.lt
  have gf := hG5.frozen
  have g_0 := (hG5.box).2 0 _ rfl; have g_1 := (hG5.box).2 1 _ rfl; have g_2 := (hG5.box).2 2 _ rfl
  go_simp
  clear gl gf g_0 g_1 g_2
  refine hK.out _ _ (hS _ ((HI9.out.up hbb).far3 (b := w.heap.size + 2) (by omega) _ _ _) ((HF9.out.up hbb).far3 (b := w.heap.size + 2) (by omega) _ _ _)) (fun hHeld => ?_)
  clear hK K
  (try simp only [Act.put, List.setIfInBounds_toArray, List.set_cons_zero, List.set_cons_succ])
  (refine wpAnyH_tk 8 (some 5) (v := ?_) rfl rfl ?_ ?_; rotate_left; (focus (intro wq hSw; clear hSw; go_simp; all_goals (with_reducible rfl))); simp only [Act.put, List.setIfInBounds_toArray, List.set_cons_zero, List.set_cons_succ])
  refine wpAnyH_done (by kernel_rfl) ?_ _
  have hG6 := hG5.put3 (.int .i64 id) (.int .i64 nodes) (.slice A n c)
  have gl := hG6.lt
  have g_0 := (hG6.box).2 0 _ rfl; have g_1 := (hG6.box).2 1 _ rfl; have g_2 := (hG6.box).2 2 _ rfl
  go_wp2_with fail
  refine bodyPost_ret (v := .tuple #[.agg #[.int .i64 id, .int .i64 nodes, .slice A n c], .bool true]) (by simp [results, Try.results24, go_sem, g_0, g_1, g_2]) rfl ⟨⟨id, nodes, ⟨A, n, c⟩, rows, rfl, HL.out.up (bel_set3 (bel_set3 (bel_set3 (bel_trans hbw9 hbb) (by omega)) (by omega)) (by omega)), by show n ≤ 1000000; omega⟩, bel_set3 (bel_set3 (bel_set3 (bel_trans hbw9 hbb) (by omega)) (by omega)) (by omega)⟩
end Go.Proofs.Ytnngeaibdnnpoaa
