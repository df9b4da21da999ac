/- A tick, at the page: droverref13.Tick. -/
import Derived.Test.YtgfakefcmbpboaaGreatWmo
import Derived.Test.YtgfakefcmbpboaaGreatWmj
namespace Go.Proofs.YtgfakefcmbpboaaGreat
open Go.RowKit
set_option linter.unusedSimpArgs false
set_option linter.unusedVariables false

set_option maxRecDepth 100000 in
set_option maxHeartbeats 8000000 in
theorem ref13_Tick (P : WorkP) (D : WorkD) (w : World) (h : WorkR w P D) (hm : mayW D = true) (hs : BigD D) (hwa : D.wa.length ≤ 1000000) :
    Calls Tryz.prog 54 #[P.val D] w fun e w' => ∃ gs P' A n c ps, e = .returned (.pointer (some ⟨gs, 0, none⟩)) ∧ Blk w' gs 70 [.int .i64 (tickD D).id, .int .i64 (tickD D).nodes, .int .i64 (tickD D).next, .slice P'.op.A P'.op.n P'.op.c, .int .i64 (tickD D).age, .int .i64 (tickD D).clock, .slice P'.wa.A P'.wa.n P'.wa.c, .slice P'.he.A P'.he.n P'.he.c, .slice P'.re.A P'.re.n P'.re.c, .slice A n c] ∧ WorkO w' w.heap.size P' (tickD D) ∧ OwnT dMsg w' w.heap.size (.slice A n c) ps (tickL D) ∧ w.heap.size ≤ gs ∧ Below w.heap.size w w' := by
  have hM := mayW_iff.1 hm
  obtain ⟨ha0, ha1⟩ := numB_iff.1 hM.2.2.2.2.1
  obtain ⟨hc0, hc1⟩ := numB_iff.1 hM.2.2.2.2.2.1
  have H := Lib.hid h
  have HM := Lib.hid hm
  have HS := Lib.hid hs
  have HWA := Lib.hid hwa
  clear h hm hs hwa hM
  obtain ⟨age, hag⟩ : ∃ z, D.age = z := ⟨_, rfl⟩
  obtain ⟨clock, hck⟩ : ∃ z, D.clock = z := ⟨_, rfl⟩
  obtain ⟨c2, hc2⟩ : ∃ z, min (clock + 1) 1099511627776 = z := ⟨_, rfl⟩
  obtain ⟨a2, ha2⟩ : ∃ z, (if 0 < D.op.length then min (age + 1) 1099511627776 else age) = z := ⟨_, rfl⟩
  have hT : tickD D = { D with clock := c2, age := a2 } := by unfold tickD; rw [hag, hck, hc2, ha2]
  have hL1 : c2 % 3 = 0 → tickL D = waitsL D D.wa.length := fun h => by unfold tickL; rw [hck, hc2, if_pos h]
  have hL0 : c2 % 3 ≠ 0 → tickL D = [] := fun h => by unfold tickL; rw [hck, hc2, if_neg h]
  obtain ⟨tl, htl⟩ : ∃ z, tickL D = z := ⟨_, rfl⟩
  rw [htl] at hL1 hL0
  rw [hT, htl]
  have HL1 := Lib.hid hL1
  have HL0 := Lib.hid hL0
  rw [hck] at hc0 hc1
  rw [hag] at ha0 ha1
  have hcb : 0 ≤ c2 ∧ c2 ≤ 1099511627776 := by omega
  obtain ⟨hcb0, hcb1⟩ := hcb
  have HAG := Lib.hid hag
  have HCK := Lib.hid hck
  have HA2 := Lib.hid ha2
  clear hT hag hck ha2 hL1 hL0 htl
  have zc : ∀ (z : Bool), ((c2 % 3) != 0) = z → ((c2.tmod 3) != 0) = z := fun z hz => by rw [Int.tmod_eq_emod_of_nonneg hcb0]; exact hz
  have HZC := Lib.hid zc
  clear zc
  show Calls Tryz.prog 54 #[.agg #[.int .i64 D.id, .int .i64 D.nodes, .int .i64 D.next, .slice P.op.A P.op.n P.op.c, .int .i64 D.age, .int .i64 D.clock, .slice P.wa.A P.wa.n P.wa.c, .slice P.he.A P.he.n P.he.c, .slice P.re.A P.re.n P.re.c]] w _
  go_enter Tryz.func54, Tryz.ntmps54
  go_wp2_with fail
  have hX1 : Blk (w.alloc (.cells #[.int .i64 D.id, .int .i64 D.nodes, .int .i64 D.next, .slice P.op.A P.op.n P.op.c, .int .i64 D.age, .int .i64 D.clock, .slice P.wa.A P.wa.n P.wa.c, .slice P.he.A P.he.n P.he.c, .slice P.re.A P.re.n P.re.c] 27)) w.heap.size 27 [.int .i64 D.id, .int .i64 D.nodes, .int .i64 D.next, .slice P.op.A P.op.n P.op.c, .int .i64 D.age, .int .i64 D.clock, .slice P.wa.A P.wa.n P.wa.c, .slice P.he.A P.he.n P.he.c, .slice P.re.A P.re.n P.re.c] := Blk.new w 27 [.int .i64 D.id, .int .i64 D.nodes, .int .i64 D.next, .slice P.op.A P.op.n P.op.c, .int .i64 D.age, .int .i64 D.clock, .slice P.wa.A P.wa.n P.wa.c, .slice P.he.A P.he.n P.he.c, .slice P.re.A P.re.n P.re.c]
  have hbX : Below w.heap.size w (w.alloc (.cells #[.int .i64 D.id, .int .i64 D.nodes, .int .i64 D.next, .slice P.op.A P.op.n P.op.c, .int .i64 D.age, .int .i64 D.clock, .slice P.wa.A P.wa.n P.wa.c, .slice P.he.A P.he.n P.he.c, .slice P.re.A P.re.n P.re.c] 27)) := by (repeat (first | (with_reducible exact Below.refl _ _) | (with_reducible assumption) | (with_reducible apply bel_alloc) | (with_reducible apply bel_drew) | (with_reducible apply bel_drewN) | (with_reducible refine bel_trans ?_ (by with_reducible assumption)) | (with_reducible refine bel_trans ?_ (HF.out _)) | (with_reducible refine bel_set ?_ (by simp) _) | (with_reducible refine bel_set ?_ (by simp; omega) _) | (with_reducible refine bel_set ?_ (by omega) _)))
  have hzX : w.heap.size < (w.alloc (.cells #[.int .i64 D.id, .int .i64 D.nodes, .int .i64 D.next, .slice P.op.A P.op.n P.op.c, .int .i64 D.age, .int .i64 D.clock, .slice P.wa.A P.wa.n P.wa.c, .slice P.he.A P.he.n P.he.c, .slice P.re.A P.re.n P.re.c] 27)).heap.size := by simp
  generalize (w.alloc (.cells #[.int .i64 D.id, .int .i64 D.nodes, .int .i64 D.next, .slice P.op.A P.op.n P.op.c, .int .i64 D.age, .int .i64 D.clock, .slice P.wa.A P.wa.n P.wa.c, .slice P.he.A P.he.n P.he.c, .slice P.re.A P.re.n P.re.c] 27)) = X at *
  refine (ref0_CopyWorker P D _ (H.out.up hbX) HS.out).mono ?_
  rintro e w1 ⟨⟨⟨oA, on, oc⟩, ⟨tA, tn, tc⟩, ⟨eA, en, ec⟩, ⟨rA, rn, rc⟩⟩, he1, hO1, hb1⟩
  simp only [WorkP.val] at he1
  subst he1
  rw [HAG.out, HCK.out]
  have hon0 : D.op.length = on := (hO1.work HS.out).op.1
  have ha3 := HA2.out
  rw [hon0] at ha3
  clear HA2 hon0
  have HA2 := Lib.hid ha3
  clear ha3
  have HB1 := Lib.hid (hX1.up hb1)
  have HO1 := Lib.hid (hO1.mono (Nat.le_of_lt hzX))
  have hbw1 := bel_trans hbX hb1
  have hgw1 : w.heap.size < w1.heap.size := Nat.lt_of_lt_of_le hzX hb1.size
  clear hX1 hO1 hb1 hbX hzX HAG HCK
  by_cases hcl : clock = 1099511627776
  · subst hcl
    obtain rfl : c2 = 1099511627776 := by omega
    obtain rfl := HL0.out (by decide)
    clear hc2 HZC HL1 HL0
    rcases Nat.eq_zero_or_pos on with hon | hon
    · subst hon
      obtain rfl : a2 = age := by have := HA2.out; rw [if_neg (by omega)] at this; exact this.symm
      clear HA2
      skip
      go_wp2_with fail
      go_ret
      exact ⟨w1.heap.size, ⟨⟨oA, 0, oc⟩, ⟨tA, tn, tc⟩, ⟨eA, en, ec⟩, ⟨rA, rn, rc⟩⟩, none, 0, 0, [], rfl, Blk.new w1 70 [.int .i64 D.id, .int .i64 D.nodes, .int .i64 D.next, .slice oA 0 oc, .int .i64 a2, .int .i64 1099511627776, .slice tA tn tc, .slice eA en ec, .slice rA rn rc, .slice none 0 0], ⟨(HO1.out.up (bel_alloc (Below.refl _ _))).op, (HO1.out.up (bel_alloc (Below.refl _ _))).wa, (HO1.out.up (bel_alloc (Below.refl _ _))).he, (HO1.out.up (bel_alloc (Below.refl _ _))).re⟩, OwnT.nil _ _, hbw1.size, bel_alloc hbw1⟩
    · have hmin2 : min (age + 1) 1099511627776 = a2 := by have := HA2.out; rw [if_pos hon] at this; exact this
      have hond : decide (0 < on) = true := by simpa using hon
      clear HA2
      by_cases hag : age = 1099511627776
      · subst hag
        obtain rfl : a2 = 1099511627776 := by omega
        clear hmin2
        skip
        go_wp2_with fail
        go_ret
        exact ⟨w1.heap.size, ⟨⟨oA, on, oc⟩, ⟨tA, tn, tc⟩, ⟨eA, en, ec⟩, ⟨rA, rn, rc⟩⟩, none, 0, 0, [], rfl, Blk.new w1 70 [.int .i64 D.id, .int .i64 D.nodes, .int .i64 D.next, .slice oA on oc, .int .i64 1099511627776, .int .i64 1099511627776, .slice tA tn tc, .slice eA en ec, .slice rA rn rc, .slice none 0 0], ⟨(HO1.out.up (bel_alloc (Below.refl _ _))).op, (HO1.out.up (bel_alloc (Below.refl _ _))).wa, (HO1.out.up (bel_alloc (Below.refl _ _))).he, (HO1.out.up (bel_alloc (Below.refl _ _))).re⟩, OwnT.nil _ _, hbw1.size, bel_alloc hbw1⟩
      · have hag1 : age + 1 ≤ 1099511627776 := by omega
        obtain rfl : a2 = age + 1 := by omega
        skip
        go_wp2_with fail
        go_ret
        exact ⟨w1.heap.size, ⟨⟨oA, on, oc⟩, ⟨tA, tn, tc⟩, ⟨eA, en, ec⟩, ⟨rA, rn, rc⟩⟩, none, 0, 0, [], rfl, Blk.new w1 70 [.int .i64 D.id, .int .i64 D.nodes, .int .i64 D.next, .slice oA on oc, .int .i64 (age + 1), .int .i64 1099511627776, .slice tA tn tc, .slice eA en ec, .slice rA rn rc, .slice none 0 0], ⟨(HO1.out.up (bel_alloc (Below.refl _ _))).op, (HO1.out.up (bel_alloc (Below.refl _ _))).wa, (HO1.out.up (bel_alloc (Below.refl _ _))).he, (HO1.out.up (bel_alloc (Below.refl _ _))).re⟩, OwnT.nil _ _, hbw1.size, bel_alloc hbw1⟩
  · have hcl1 : clock + 1 ≤ 1099511627776 := by omega
    obtain rfl : c2 = clock + 1 := by omega
    rcases hz : ((clock + 1) % 3 != 0) with _ | _
    · have hz2 := HZC.out _ hz
      obtain rfl := HL1.out (by simpa using hz)
      clear HZC HL1 HL0
      rcases Nat.eq_zero_or_pos on with hon | hon
      · subst hon
        obtain rfl : a2 = age := by have := HA2.out; rw [if_neg (by omega)] at this; exact this.symm
        clear HA2
        skip
        go_upto_region 7 with fail
        rename_i K0 hK0 K1 hK1
        exact tick_rest P D w w1 _ w.heap.size w1.heap.size a2 (clock + 1) oA tA eA rA 0 oc tn tc en ec rn rc hK0 hK1 HO1.out HM.out HS.out HWA.out hbw1 (bel_alloc (Below.refl _ _)) (Nat.le_refl _) hgw1 (Nat.le_refl _) (HB1.out.up (bel_alloc (Below.refl _ _))) (Blk.new w1 70 [.int .i64 D.id, .int .i64 D.nodes, .int .i64 D.next, .slice oA 0 oc, .int .i64 a2, .int .i64 (clock + 1), .slice tA tn tc, .slice eA en ec, .slice rA rn rc, .slice none 0 0])
      · have hmin2 : min (age + 1) 1099511627776 = a2 := by have := HA2.out; rw [if_pos hon] at this; exact this
        have hond : decide (0 < on) = true := by simpa using hon
        clear HA2
        by_cases hag : age = 1099511627776
        · subst hag
          obtain rfl : a2 = 1099511627776 := by omega
          clear hmin2
          skip
          go_upto_region 7 with fail
          rename_i K0 hK0 K1 hK1
          exact tick_rest P D w w1 _ w.heap.size w1.heap.size 1099511627776 (clock + 1) oA tA eA rA on oc tn tc en ec rn rc hK0 hK1 HO1.out HM.out HS.out HWA.out hbw1 (bel_alloc (Below.refl _ _)) (Nat.le_refl _) hgw1 (Nat.le_refl _) (HB1.out.up (bel_alloc (Below.refl _ _))) (Blk.new w1 70 [.int .i64 D.id, .int .i64 D.nodes, .int .i64 D.next, .slice oA on oc, .int .i64 1099511627776, .int .i64 (clock + 1), .slice tA tn tc, .slice eA en ec, .slice rA rn rc, .slice none 0 0])
        · have hag1 : age + 1 ≤ 1099511627776 := by omega
          obtain rfl : a2 = age + 1 := by omega
          skip
          go_upto_region 7 with fail
          rename_i K0 hK0 K1 hK1
          exact tick_rest P D w w1 _ w.heap.size w1.heap.size (age + 1) (clock + 1) oA tA eA rA on oc tn tc en ec rn rc hK0 hK1 HO1.out HM.out HS.out HWA.out hbw1 (bel_alloc (Below.refl _ _)) (Nat.le_refl _) hgw1 (Nat.le_refl _) (HB1.out.up (bel_alloc (Below.refl _ _))) (Blk.new w1 70 [.int .i64 D.id, .int .i64 D.nodes, .int .i64 D.next, .slice oA on oc, .int .i64 (age + 1), .int .i64 (clock + 1), .slice tA tn tc, .slice eA en ec, .slice rA rn rc, .slice none 0 0])
    · have hz2 := HZC.out _ hz
      obtain rfl := HL0.out (by simpa using hz)
      clear HZC HL1 HL0
      rcases Nat.eq_zero_or_pos on with hon | hon
      · subst hon
        obtain rfl : a2 = age := by have := HA2.out; rw [if_neg (by omega)] at this; exact this.symm
        clear HA2
        skip
        go_wp2_with fail
        go_ret
        exact ⟨w1.heap.size, ⟨⟨oA, 0, oc⟩, ⟨tA, tn, tc⟩, ⟨eA, en, ec⟩, ⟨rA, rn, rc⟩⟩, none, 0, 0, [], rfl, Blk.new w1 70 [.int .i64 D.id, .int .i64 D.nodes, .int .i64 D.next, .slice oA 0 oc, .int .i64 a2, .int .i64 (clock + 1), .slice tA tn tc, .slice eA en ec, .slice rA rn rc, .slice none 0 0], ⟨(HO1.out.up (bel_alloc (Below.refl _ _))).op, (HO1.out.up (bel_alloc (Below.refl _ _))).wa, (HO1.out.up (bel_alloc (Below.refl _ _))).he, (HO1.out.up (bel_alloc (Below.refl _ _))).re⟩, OwnT.nil _ _, hbw1.size, bel_alloc hbw1⟩
      · have hmin2 : min (age + 1) 1099511627776 = a2 := by have := HA2.out; rw [if_pos hon] at this; exact this
        have hond : decide (0 < on) = true := by simpa using hon
        clear HA2
        by_cases hag : age = 1099511627776
        · subst hag
          obtain rfl : a2 = 1099511627776 := by omega
          clear hmin2
          skip
          go_wp2_with fail
          go_ret
          exact ⟨w1.heap.size, ⟨⟨oA, on, oc⟩, ⟨tA, tn, tc⟩, ⟨eA, en, ec⟩, ⟨rA, rn, rc⟩⟩, none, 0, 0, [], rfl, Blk.new w1 70 [.int .i64 D.id, .int .i64 D.nodes, .int .i64 D.next, .slice oA on oc, .int .i64 1099511627776, .int .i64 (clock + 1), .slice tA tn tc, .slice eA en ec, .slice rA rn rc, .slice none 0 0], ⟨(HO1.out.up (bel_alloc (Below.refl _ _))).op, (HO1.out.up (bel_alloc (Below.refl _ _))).wa, (HO1.out.up (bel_alloc (Below.refl _ _))).he, (HO1.out.up (bel_alloc (Below.refl _ _))).re⟩, OwnT.nil _ _, hbw1.size, bel_alloc hbw1⟩
        · have hag1 : age + 1 ≤ 1099511627776 := by omega
          obtain rfl : a2 = age + 1 := by omega
          skip
          go_wp2_with fail
          go_ret
          exact ⟨w1.heap.size, ⟨⟨oA, on, oc⟩, ⟨tA, tn, tc⟩, ⟨eA, en, ec⟩, ⟨rA, rn, rc⟩⟩, none, 0, 0, [], rfl, Blk.new w1 70 [.int .i64 D.id, .int .i64 D.nodes, .int .i64 D.next, .slice oA on oc, .int .i64 (age + 1), .int .i64 (clock + 1), .slice tA tn tc, .slice eA en ec, .slice rA rn rc, .slice none 0 0], ⟨(HO1.out.up (bel_alloc (Below.refl _ _))).op, (HO1.out.up (bel_alloc (Below.refl _ _))).wa, (HO1.out.up (bel_alloc (Below.refl _ _))).he, (HO1.out.up (bel_alloc (Below.refl _ _))).re⟩, OwnT.nil _ _, hbw1.size, bel_alloc hbw1⟩
set_option maxRecDepth 100000 in
set_option maxHeartbeats 4000000 in
theorem worker_Tick_no (P : WorkP) (D : WorkD) (w : World) (h : WorkR w P D) (hz : mayW D = false) :
    Calls Tryz.prog 55 #[P.val D] w fun e w' => e = .returned (.tuple #[zeroW, .slice none 0 0, .int .i64 1]) ∧ Below w.heap.size w w' := by
  have H := Lib.hid h
  have HZ := Lib.hid hz
  clear h hz
  show Calls Tryz.prog 55 #[.agg #[.int .i64 D.id, .int .i64 D.nodes, .int .i64 D.next, .slice P.op.A P.op.n P.op.c, .int .i64 D.age, .int .i64 D.clock, .slice P.wa.A P.wa.n P.wa.c, .slice P.he.A P.he.n P.he.c, .slice P.re.A P.re.n P.re.c]] w _
  go_enter Tryz.func55, Tryz.ntmps55
  go_wp2_with fail
  have hX1 : Blk ((w.alloc (.cells #[.int .i64 D.id, .int .i64 D.nodes, .int .i64 D.next, .slice P.op.A P.op.n P.op.c, .int .i64 D.age, .int .i64 D.clock, .slice P.wa.A P.wa.n P.wa.c, .slice P.he.A P.he.n P.he.c, .slice P.re.A P.re.n P.re.c] 27)).alloc (.cells #[.int .i64 0, .int .i64 0, .int .i64 0, .slice none 0 0, .int .i64 0, .int .i64 0, .slice none 0 0, .slice none 0 0, .slice none 0 0] 27)) w.heap.size 27 [.int .i64 D.id, .int .i64 D.nodes, .int .i64 D.next, .slice P.op.A P.op.n P.op.c, .int .i64 D.age, .int .i64 D.clock, .slice P.wa.A P.wa.n P.wa.c, .slice P.he.A P.he.n P.he.c, .slice P.re.A P.re.n P.re.c] := (Blk.new w 27 [.int .i64 D.id, .int .i64 D.nodes, .int .i64 D.next, .slice P.op.A P.op.n P.op.c, .int .i64 D.age, .int .i64 D.clock, .slice P.wa.A P.wa.n P.wa.c, .slice P.he.A P.he.n P.he.c, .slice P.re.A P.re.n P.re.c]).up (by (repeat (first | (with_reducible exact Below.refl _ _) | (with_reducible assumption) | (with_reducible apply bel_alloc) | (with_reducible apply bel_drew) | (with_reducible apply bel_drewN) | (with_reducible refine bel_trans ?_ (by with_reducible assumption)) | (with_reducible refine bel_trans ?_ (HF.out _)) | (with_reducible refine bel_set ?_ (by simp) _) | (with_reducible refine bel_set ?_ (by simp; omega) _) | (with_reducible refine bel_set ?_ (by omega) _))))
  have hX3 : Blk ((w.alloc (.cells #[.int .i64 D.id, .int .i64 D.nodes, .int .i64 D.next, .slice P.op.A P.op.n P.op.c, .int .i64 D.age, .int .i64 D.clock, .slice P.wa.A P.wa.n P.wa.c, .slice P.he.A P.he.n P.he.c, .slice P.re.A P.re.n P.re.c] 27)).alloc (.cells #[.int .i64 0, .int .i64 0, .int .i64 0, .slice none 0 0, .int .i64 0, .int .i64 0, .slice none 0 0, .slice none 0 0, .slice none 0 0] 27)) (w.heap.size + 1) 27 [.int .i64 0, .int .i64 0, .int .i64 0, .slice none 0 0, .int .i64 0, .int .i64 0, .slice none 0 0, .slice none 0 0, .slice none 0 0] := by
    have := Blk.new (w.alloc (.cells #[.int .i64 D.id, .int .i64 D.nodes, .int .i64 D.next, .slice P.op.A P.op.n P.op.c, .int .i64 D.age, .int .i64 D.clock, .slice P.wa.A P.wa.n P.wa.c, .slice P.he.A P.he.n P.he.c, .slice P.re.A P.re.n P.re.c] 27)) 27 [.int .i64 0, .int .i64 0, .int .i64 0, .slice none 0 0, .int .i64 0, .int .i64 0, .slice none 0 0, .slice none 0 0, .slice none 0 0]
    simpa using this
  have hbX : Below w.heap.size w ((w.alloc (.cells #[.int .i64 D.id, .int .i64 D.nodes, .int .i64 D.next, .slice P.op.A P.op.n P.op.c, .int .i64 D.age, .int .i64 D.clock, .slice P.wa.A P.wa.n P.wa.c, .slice P.he.A P.he.n P.he.c, .slice P.re.A P.re.n P.re.c] 27)).alloc (.cells #[.int .i64 0, .int .i64 0, .int .i64 0, .slice none 0 0, .int .i64 0, .int .i64 0, .slice none 0 0, .slice none 0 0, .slice none 0 0] 27)) := by (repeat (first | (with_reducible exact Below.refl _ _) | (with_reducible assumption) | (with_reducible apply bel_alloc) | (with_reducible apply bel_drew) | (with_reducible apply bel_drewN) | (with_reducible refine bel_trans ?_ (by with_reducible assumption)) | (with_reducible refine bel_trans ?_ (HF.out _)) | (with_reducible refine bel_set ?_ (by simp) _) | (with_reducible refine bel_set ?_ (by simp; omega) _) | (with_reducible refine bel_set ?_ (by omega) _)))
  generalize ((w.alloc (.cells #[.int .i64 D.id, .int .i64 D.nodes, .int .i64 D.next, .slice P.op.A P.op.n P.op.c, .int .i64 D.age, .int .i64 D.clock, .slice P.wa.A P.wa.n P.wa.c, .slice P.he.A P.he.n P.he.c, .slice P.re.A P.re.n P.re.c] 27)).alloc (.cells #[.int .i64 0, .int .i64 0, .int .i64 0, .slice none 0 0, .int .i64 0, .int .i64 0, .slice none 0 0, .slice none 0 0, .slice none 0 0] 27)) = X at *
  refine (worker_May P D false _ (H.out.up hbX) HZ.out).mono ?_
  rintro e w1 ⟨rfl, hb1⟩
  have hY3 := hX3.up hb1
  have hbY := bel_trans hbX hb1
  have l3 := hY3.lt
  have f3 := hY3.frozen
  have c_0 := (hY3.box).2 0 _ rfl; have c_1 := (hY3.box).2 1 _ rfl; have c_2 := (hY3.box).2 2 _ rfl; have c_3 := (hY3.box).2 3 _ rfl; have c_4 := (hY3.box).2 4 _ rfl; have c_5 := (hY3.box).2 5 _ rfl; have c_6 := (hY3.box).2 6 _ rfl; have c_7 := (hY3.box).2 7 _ rfl; have c_8 := (hY3.box).2 8 _ rfl
  clear hX1 hX3 hbX hb1
  go_wp2_with fail
  exact bodyPost_ret (v := .tuple #[.agg #[.int .i64 0, .int .i64 0, .int .i64 0, .slice none 0 0, .int .i64 0, .int .i64 0, .slice none 0 0, .slice none 0 0, .slice none 0 0], .slice none 0 0, .int .i64 1]) (by simp [results, Tryz.results55, go_sem, *]) rfl ⟨rfl, by (repeat (first | (with_reducible exact Below.refl _ _) | (with_reducible assumption) | (with_reducible apply bel_alloc) | (with_reducible apply bel_drew) | (with_reducible apply bel_drewN) | (with_reducible refine bel_trans ?_ (by with_reducible assumption)) | (with_reducible refine bel_trans ?_ (HF.out _)) | ((with_reducible refine bel_set3 ?_ ?_); rotate_left; omega)))⟩
end Go.Proofs.YtgfakefcmbpboaaGreat
