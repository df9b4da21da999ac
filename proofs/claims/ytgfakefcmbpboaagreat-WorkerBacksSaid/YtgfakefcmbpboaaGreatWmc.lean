/- worker.Back. -/
import Derived.Test.YtgfakefcmbpboaaGreatWmb
import Derived.Test.YtgfakefcmbpboaaGreatWj
import Derived.Test.YtgfakefcmbpboaaGreatWse
namespace Go.Proofs.YtgfakefcmbpboaaGreat
open Go.RowKit
set_option linter.unusedSimpArgs false
set_option linter.unusedVariables false

set_option maxRecDepth 100000 in
set_option maxHeartbeats 4000000 in
theorem worker_Back (P : WorkP) (D : WorkD) (A : Option Addr) (n c : Nat) (l : List Int) (z : Bool) (w : World) (h : WorkR w P D) (hs : BigD D) (hz : mayW D = z) (hl : IntsR w A n l) (hn : n ≤ 1000000) (hr : D.re.length ≤ 1000000) :
    Calls Tryz.prog 59 #[P.val D, .slice A n c] w fun e w' => (if z = true then ∃ P', e = .returned (.tuple #[WorkP.val P' (inW D l), .int .i64 0]) ∧ WorkO w' w.heap.size P' (inW D l) else e = .returned (.tuple #[zeroW, .int .i64 1])) ∧ Below w.heap.size w w' := by
  have H := Lib.hid h
  have HS := Lib.hid hs
  have HZ := Lib.hid hz
  have HL := Lib.hid hl
  have HR := Lib.hid hr
  obtain ⟨⟨oA, on, oc⟩, ⟨tA, tn, tc⟩, ⟨eA, en, ec⟩, ⟨rA, rn, rc⟩⟩ := P
  clear h hs hz hl hr
  show Calls Tryz.prog 59 #[.agg #[.int .i64 D.id, .int .i64 D.nodes, .int .i64 D.next, .slice oA on oc, .int .i64 D.age, .int .i64 D.clock, .slice tA tn tc, .slice eA en ec, .slice rA rn rc], .slice A n c] w _
  go_enter Tryz.func59, Tryz.ntmps59
  go_wp2_with fail
  have hX1 : Blk ((w.alloc (.cells #[.int .i64 D.id, .int .i64 D.nodes, .int .i64 D.next, .slice oA on oc, .int .i64 D.age, .int .i64 D.clock, .slice tA tn tc, .slice eA en ec, .slice rA rn rc] 27)).alloc (.cells #[.int .i64 0, .int .i64 0, .int .i64 0, .slice none 0 0, .int .i64 0, .int .i64 0, .slice none 0 0, .slice none 0 0, .slice none 0 0] 27)) w.heap.size 27 [.int .i64 D.id, .int .i64 D.nodes, .int .i64 D.next, .slice oA on oc, .int .i64 D.age, .int .i64 D.clock, .slice tA tn tc, .slice eA en ec, .slice rA rn rc] := (Blk.new w 27 [.int .i64 D.id, .int .i64 D.nodes, .int .i64 D.next, .slice oA on oc, .int .i64 D.age, .int .i64 D.clock, .slice tA tn tc, .slice eA en ec, .slice rA rn rc]).up (by (repeat (first | (with_reducible exact Below.refl _ _) | (with_reducible assumption) | (with_reducible apply bel_alloc) | (with_reducible apply bel_drew) | (with_reducible apply bel_drewN) | (with_reducible refine bel_trans ?_ (by with_reducible assumption)) | (with_reducible refine bel_trans ?_ (HF.out _)) | (with_reducible refine bel_set ?_ (by simp) _) | (with_reducible refine bel_set ?_ (by simp; omega) _) | (with_reducible refine bel_set ?_ (by omega) _))))
  have hX3 : Blk ((w.alloc (.cells #[.int .i64 D.id, .int .i64 D.nodes, .int .i64 D.next, .slice oA on oc, .int .i64 D.age, .int .i64 D.clock, .slice tA tn tc, .slice eA en ec, .slice rA rn rc] 27)).alloc (.cells #[.int .i64 0, .int .i64 0, .int .i64 0, .slice none 0 0, .int .i64 0, .int .i64 0, .slice none 0 0, .slice none 0 0, .slice none 0 0] 27)) (w.heap.size + 1) 27 [.int .i64 0, .int .i64 0, .int .i64 0, .slice none 0 0, .int .i64 0, .int .i64 0, .slice none 0 0, .slice none 0 0, .slice none 0 0] := by
    have := Blk.new (w.alloc (.cells #[.int .i64 D.id, .int .i64 D.nodes, .int .i64 D.next, .slice oA on oc, .int .i64 D.age, .int .i64 D.clock, .slice tA tn tc, .slice eA en ec, .slice rA rn rc] 27)) 27 [.int .i64 0, .int .i64 0, .int .i64 0, .slice none 0 0, .int .i64 0, .int .i64 0, .slice none 0 0, .slice none 0 0, .slice none 0 0]
    simpa using this
  have hbX : Below w.heap.size w ((w.alloc (.cells #[.int .i64 D.id, .int .i64 D.nodes, .int .i64 D.next, .slice oA on oc, .int .i64 D.age, .int .i64 D.clock, .slice tA tn tc, .slice eA en ec, .slice rA rn rc] 27)).alloc (.cells #[.int .i64 0, .int .i64 0, .int .i64 0, .slice none 0 0, .int .i64 0, .int .i64 0, .slice none 0 0, .slice none 0 0, .slice none 0 0] 27)) := by (repeat (first | (with_reducible exact Below.refl _ _) | (with_reducible assumption) | (with_reducible apply bel_alloc) | (with_reducible apply bel_drew) | (with_reducible apply bel_drewN) | (with_reducible refine bel_trans ?_ (by with_reducible assumption)) | (with_reducible refine bel_trans ?_ (HF.out _)) | (with_reducible refine bel_set ?_ (by simp) _) | (with_reducible refine bel_set ?_ (by simp; omega) _) | (with_reducible refine bel_set ?_ (by omega) _)))
  generalize ((w.alloc (.cells #[.int .i64 D.id, .int .i64 D.nodes, .int .i64 D.next, .slice oA on oc, .int .i64 D.age, .int .i64 D.clock, .slice tA tn tc, .slice eA en ec, .slice rA rn rc] 27)).alloc (.cells #[.int .i64 0, .int .i64 0, .int .i64 0, .slice none 0 0, .int .i64 0, .int .i64 0, .slice none 0 0, .slice none 0 0, .slice none 0 0] 27)) = X at *
  have HX1 := Lib.hid hX1
  have HX3 := Lib.hid hX3
  clear hX1 hX3
  refine (worker_May ⟨⟨oA, on, oc⟩, ⟨tA, tn, tc⟩, ⟨eA, en, ec⟩, ⟨rA, rn, rc⟩⟩ D z _ (H.out.up hbX) HZ.out).mono ?_
  rintro e w1 ⟨rfl, hb1⟩
  have hY1 := HX1.out.up hb1
  have hY3 := HX3.out.up hb1
  have hbY := bel_trans hbX hb1
  have l1 := hY1.lt
  have l3 := hY3.lt
  have f3 := hY3.frozen
  have a_0 := (hY1.box).2 0 _ rfl; have a_1 := (hY1.box).2 1 _ rfl; have a_2 := (hY1.box).2 2 _ rfl; have a_3 := (hY1.box).2 3 _ rfl; have a_4 := (hY1.box).2 4 _ rfl; have a_5 := (hY1.box).2 5 _ rfl; have a_6 := (hY1.box).2 6 _ rfl; have a_7 := (hY1.box).2 7 _ rfl; have a_8 := (hY1.box).2 8 _ rfl
  have c_0 := (hY3.box).2 0 _ rfl; have c_1 := (hY3.box).2 1 _ rfl; have c_2 := (hY3.box).2 2 _ rfl; have c_3 := (hY3.box).2 3 _ rfl; have c_4 := (hY3.box).2 4 _ rfl; have c_5 := (hY3.box).2 5 _ rfl; have c_6 := (hY3.box).2 6 _ rfl; have c_7 := (hY3.box).2 7 _ rfl; have c_8 := (hY3.box).2 8 _ rfl
  have HY3 := Lib.hid hY3
  clear hY1 hY3 HX1 HX3 hb1 hbX
  cases z
  · go_wp2_with fail
    exact bodyPost_ret (v := .tuple #[.agg #[.int .i64 0, .int .i64 0, .int .i64 0, .slice none 0 0, .int .i64 0, .int .i64 0, .slice none 0 0, .slice none 0 0, .slice none 0 0], .int .i64 1]) (by simp [results, Tryz.results59, go_sem, *]) rfl ⟨rfl, by (repeat (first | (with_reducible exact Below.refl _ _) | (with_reducible assumption) | (with_reducible apply bel_alloc) | (with_reducible apply bel_drew) | (with_reducible apply bel_drewN) | (with_reducible refine bel_trans ?_ (by with_reducible assumption)) | (with_reducible refine bel_trans ?_ (HF.out _)) | ((with_reducible refine bel_set3 ?_ ?_); rotate_left; omega)))⟩
  · clear c_0 c_1 c_2 c_3 c_4 c_5 c_6 c_7 c_8
    go_wp2_with fail
    refine (worker_Own ⟨⟨oA, on, oc⟩, ⟨tA, tn, tc⟩, ⟨eA, en, ec⟩, ⟨rA, rn, rc⟩⟩ D _ (H.out.up hbY) HS.out).mono ?_
    rintro e w3 ⟨⟨⟨oA2, on2, oc2⟩, ⟨tA2, tn2, tc2⟩, ⟨eA2, en2, ec2⟩, ⟨rA2, rn2, rc2⟩⟩, he3, hO3, _, hb3⟩
    simp only [WorkP.val] at he3
    subst he3
    have HO3 := Lib.hid (hO3.mono (B' := w.heap.size + 2) (by omega))
    have HV3 := Lib.hid (HY3.out.up hb3)
    have hbV := bel_trans hbY hb3
    have HBV := Lib.hid hbV
    clear hO3 HY3 a_0 a_1 a_2 a_3 a_4 a_5 a_6 a_7 a_8 l1 l3 f3
    go_wp2_with (go_at_call 104; refine (worker_In ⟨⟨oA2, on2, oc2⟩, ⟨tA2, tn2, tc2⟩, ⟨eA2, en2, ec2⟩, ⟨rA2, rn2, rc2⟩⟩ D A n c l _ (HO3.out.work HS.out) (HL.out.up hbV) hn HR.out).mono ?_; rintro e w4 ⟨⟨sA, sn, sc⟩, he4, hoI, hb4⟩; simp only [WorkP.val, inW] at he4; subst he4; have hU3 := HV3.out.up hb4; have l4 := hU3.lt; have f4 := hU3.frozen; have c_0 := (hU3.box).2 0 _ rfl; have c_1 := (hU3.box).2 1 _ rfl; have c_2 := (hU3.box).2 2 _ rfl; have c_3 := (hU3.box).2 3 _ rfl; have c_4 := (hU3.box).2 4 _ rfl; have c_5 := (hU3.box).2 5 _ rfl; have c_6 := (hU3.box).2 6 _ rfl; have c_7 := (hU3.box).2 7 _ rfl; have c_8 := (hU3.box).2 8 _ rfl; have HU3 := Lib.hid hU3; have HOI := Lib.hid hoI; clear hU3 hoI)
    have hsv := HBV.out.size
    have lv := HV3.out.lt
    have hW4 : WorkO w4 (w.heap.size + 2) ⟨⟨oA2, on2, oc2⟩, ⟨tA2, tn2, tc2⟩, ⟨eA2, en2, ec2⟩, ⟨sA, sn, sc⟩⟩ (inW D l) := ⟨HO3.out.op.up hb4, HO3.out.wa.up hb4, HO3.out.he.up hb4, HOI.out.mono (by omega)⟩
    have hW9 := (hW4.low9 (g := w.heap.size + 1) (by omega) (.int .i64 D.id) (.int .i64 D.nodes) (.int .i64 D.next) (.slice oA2 on2 oc2) (.int .i64 D.age) (.int .i64 D.clock) (.slice tA2 tn2 tc2) (.slice eA2 en2 ec2) (.slice sA sn sc)).mono (B' := w.heap.size) (by omega)
    have HW9 := Lib.hid hW9
    clear hW4 hW9
    go_wp2_with fail
    exact bodyPost_ret (v := .tuple #[.agg #[.int .i64 D.id, .int .i64 D.nodes, .int .i64 D.next, .slice oA2 on2 oc2, .int .i64 D.age, .int .i64 D.clock, .slice tA2 tn2 tc2, .slice eA2 en2 ec2, .slice sA sn sc], .int .i64 0]) (by simp [results, Tryz.results59, go_sem, *]) rfl ⟨⟨⟨⟨oA2, on2, oc2⟩, ⟨tA2, tn2, tc2⟩, ⟨eA2, en2, ec2⟩, ⟨sA, sn, sc⟩⟩, rfl, HW9.out⟩, by (repeat (first | (with_reducible exact Below.refl _ _) | (with_reducible assumption) | (with_reducible apply bel_alloc) | (with_reducible apply bel_drew) | (with_reducible apply bel_drewN) | (with_reducible refine bel_trans ?_ (by with_reducible assumption)) | (with_reducible refine bel_trans ?_ (HF.out _)) | ((with_reducible refine bel_set3 ?_ ?_); rotate_left; omega)))⟩
end Go.Proofs.YtgfakefcmbpboaaGreat
