/- A tick where nothing waits, at the program. -/
import Derived.Test.YtgfakefcmbpboaaSxWm
import Derived.Deep.RegionHeld3
namespace Go.Proofs.Ytgfakefcmbpboaa
open Go.RowKit
set_option linter.unusedSimpArgs false
set_option linter.unusedVariables false

def tickD (D : WorkD) : WorkD := { D with clock := min (D.clock + 1) 1099511627776, age := if 0 < D.op.length then min (D.age + 1) 1099511627776 else D.age }
set_option maxRecDepth 100000 in
set_option maxHeartbeats 8000000 in
theorem worker_Beat0 (P : WorkP) (D : WorkD) (w : World) (hon0 : D.op.length = P.op.n) (htn : P.wa.n = 0) (hc0 : 0 ≤ D.clock) (hc1 : D.clock ≤ 1099511627776) (ha0 : 0 ≤ D.age) (ha1 : D.age ≤ 1099511627776) :
    Calls Try.prog 28 #[P.val D] w fun e w' => e = .returned (.tuple #[P.val (tickD D), .slice none 0 0]) ∧ Below w.heap.size w w' := by
  obtain ⟨⟨oA, on, oc⟩, ⟨tA, tn, tc⟩, ⟨eA, en, ec⟩, ⟨rA, rn, rc⟩⟩ := P
  dsimp only at hon0 htn
  subst htn
  obtain ⟨age, hag⟩ : ∃ z, D.age = z := ⟨_, rfl⟩
  obtain ⟨clock, hck⟩ : ∃ z, D.clock = z := ⟨_, rfl⟩
  obtain ⟨c2, hc2⟩ : ∃ z, min (clock + 1) 1099511627776 = z := ⟨_, rfl⟩
  obtain ⟨a2, ha2⟩ : ∃ z, (if 0 < on then min (age + 1) 1099511627776 else age) = z := ⟨_, rfl⟩
  have hT : tickD D = { D with clock := c2, age := a2 } := by unfold tickD; rw [hag, hck, hon0, hc2, ha2]
  rw [hT]
  rw [hck] at hc0 hc1
  rw [hag] at ha0 ha1
  have hcb : 0 ≤ c2 ∧ c2 ≤ 1099511627776 := by omega
  obtain ⟨hcb0, hcb1⟩ := hcb
  show Calls Try.prog 28 #[.agg #[.int .i64 D.id, .int .i64 D.nodes, .int .i64 D.next, .slice oA on oc, .int .i64 D.age, .int .i64 D.clock, .slice tA 0 tc, .slice eA en ec, .slice rA rn rc]] w fun e w' => e = .returned (.tuple #[.agg #[.int .i64 D.id, .int .i64 D.nodes, .int .i64 D.next, .slice oA on oc, .int .i64 a2, .int .i64 c2, .slice tA 0 tc, .slice eA en ec, .slice rA rn rc], .slice none 0 0]) ∧ Below w.heap.size w w'
  rw [hag, hck]
  have HA2 := Lib.hid ha2
  clear hT hag hck hon0 ha2
  have zc : ∀ (z : Bool), ((c2 % 3) != 0) = z → ((c2.tmod 3) != 0) = z := fun z hz => by rw [Int.tmod_eq_emod_of_nonneg hcb0]; exact hz
  have HZC := Lib.hid zc
  clear zc
  by_cases hcl : clock = 1099511627776
  · subst hcl
    obtain rfl : c2 = 1099511627776 := by omega
    clear hc2 HZC
    rcases Nat.eq_zero_or_pos on with hon | hon
    · subst hon
      obtain rfl : a2 = age := by have := HA2.out; rw [if_neg (by omega)] at this; exact this.symm
      clear HA2
      go_enter Try.func28, Try.ntmps28
      go_wp2_with fail
      exact bodyPost_ret (v := .tuple #[.agg #[.int .i64 D.id, .int .i64 D.nodes, .int .i64 D.next, .slice oA 0 oc, .int .i64 a2, .int .i64 1099511627776, .slice tA 0 tc, .slice eA en ec, .slice rA rn rc], .slice none 0 0]) (by simp [results, Try.results28, go_sem]) rfl ⟨rfl, belA⟩
    · have hmin2 : min (age + 1) 1099511627776 = a2 := by have := HA2.out; rw [if_pos hon] at this; exact this
      have hond : decide (0 < on) = true := by simpa using hon
      clear HA2
      by_cases hag : age = 1099511627776
      · subst hag
        obtain rfl : a2 = 1099511627776 := by omega
        clear hmin2
        go_enter Try.func28, Try.ntmps28
        go_wp2_with fail
        exact bodyPost_ret (v := .tuple #[.agg #[.int .i64 D.id, .int .i64 D.nodes, .int .i64 D.next, .slice oA on oc, .int .i64 1099511627776, .int .i64 1099511627776, .slice tA 0 tc, .slice eA en ec, .slice rA rn rc], .slice none 0 0]) (by simp [results, Try.results28, go_sem]) rfl ⟨rfl, belA⟩
      · have hag1 : age + 1 ≤ 1099511627776 := by omega
        obtain rfl : a2 = age + 1 := by omega
        go_enter Try.func28, Try.ntmps28
        go_wp2_with fail
        exact bodyPost_ret (v := .tuple #[.agg #[.int .i64 D.id, .int .i64 D.nodes, .int .i64 D.next, .slice oA on oc, .int .i64 (age + 1), .int .i64 1099511627776, .slice tA 0 tc, .slice eA en ec, .slice rA rn rc], .slice none 0 0]) (by simp [results, Try.results28, go_sem]) rfl ⟨rfl, belA⟩
  · have hcl1 : clock + 1 ≤ 1099511627776 := by omega
    obtain rfl : c2 = clock + 1 := by omega
    rcases hz : ((clock + 1) % 3 != 0) with _ | _
    · have hz2 := HZC.out _ hz
      clear HZC
      rcases Nat.eq_zero_or_pos on with hon | hon
      · subst hon
        obtain rfl : a2 = age := by have := HA2.out; rw [if_neg (by omega)] at this; exact this.symm
        clear HA2
        go_enter Try.func28, Try.ntmps28
        go_wp2_with fail
        go_loop [58] (fun i => i = .int .i64 0) (fun _ => 0)
        case atStart => rfl
        case round =>
          subst hrel
          go_wp2_with fail
          have hX2 : Blk (((w.alloc (.cells #[.int .i64 D.id, .int .i64 D.nodes, .int .i64 D.next, .slice oA 0 oc, .int .i64 a2, .int .i64 clock, .slice tA 0 tc, .slice eA en ec, .slice rA rn rc] 27)).alloc (.cells #[.int .i64 0, .int .i64 0, .int .i64 0, .slice none 0 0, .int .i64 0, .int .i64 0, .slice none 0 0, .slice none 0 0, .slice none 0 0] 27)).alloc (.cells #[.int .i64 D.id, .int .i64 D.nodes, .int .i64 D.next, .slice oA 0 oc, .int .i64 a2, .int .i64 (clock + 1), .slice tA 0 tc, .slice eA en ec, .slice rA rn rc, .slice none 0 0] 97)) (w.heap.size + 1) 27 [.int .i64 0, .int .i64 0, .int .i64 0, .slice none 0 0, .int .i64 0, .int .i64 0, .slice none 0 0, .slice none 0 0, .slice none 0 0] := by
            have := (Blk.new (w.alloc (.cells #[.int .i64 D.id, .int .i64 D.nodes, .int .i64 D.next, .slice oA 0 oc, .int .i64 a2, .int .i64 clock, .slice tA 0 tc, .slice eA en ec, .slice rA rn rc] 27)) 27 [.int .i64 0, .int .i64 0, .int .i64 0, .slice none 0 0, .int .i64 0, .int .i64 0, .slice none 0 0, .slice none 0 0, .slice none 0 0]).up (w' := (((w.alloc (.cells #[.int .i64 D.id, .int .i64 D.nodes, .int .i64 D.next, .slice oA 0 oc, .int .i64 a2, .int .i64 clock, .slice tA 0 tc, .slice eA en ec, .slice rA rn rc] 27)).alloc (.cells #[.int .i64 0, .int .i64 0, .int .i64 0, .slice none 0 0, .int .i64 0, .int .i64 0, .slice none 0 0, .slice none 0 0, .slice none 0 0] 27)).alloc (.cells #[.int .i64 D.id, .int .i64 D.nodes, .int .i64 D.next, .slice oA 0 oc, .int .i64 a2, .int .i64 (clock + 1), .slice tA 0 tc, .slice eA en ec, .slice rA rn rc, .slice none 0 0] 97))) (belA)
            simpa using this
          have hX3 : Blk (((w.alloc (.cells #[.int .i64 D.id, .int .i64 D.nodes, .int .i64 D.next, .slice oA 0 oc, .int .i64 a2, .int .i64 clock, .slice tA 0 tc, .slice eA en ec, .slice rA rn rc] 27)).alloc (.cells #[.int .i64 0, .int .i64 0, .int .i64 0, .slice none 0 0, .int .i64 0, .int .i64 0, .slice none 0 0, .slice none 0 0, .slice none 0 0] 27)).alloc (.cells #[.int .i64 D.id, .int .i64 D.nodes, .int .i64 D.next, .slice oA 0 oc, .int .i64 a2, .int .i64 (clock + 1), .slice tA 0 tc, .slice eA en ec, .slice rA rn rc, .slice none 0 0] 97)) (w.heap.size + 1 + 1) 97 [.int .i64 D.id, .int .i64 D.nodes, .int .i64 D.next, .slice oA 0 oc, .int .i64 a2, .int .i64 (clock + 1), .slice tA 0 tc, .slice eA en ec, .slice rA rn rc, .slice none 0 0] := by
            have := Blk.new ((w.alloc (.cells #[.int .i64 D.id, .int .i64 D.nodes, .int .i64 D.next, .slice oA 0 oc, .int .i64 a2, .int .i64 clock, .slice tA 0 tc, .slice eA en ec, .slice rA rn rc] 27)).alloc (.cells #[.int .i64 0, .int .i64 0, .int .i64 0, .slice none 0 0, .int .i64 0, .int .i64 0, .slice none 0 0, .slice none 0 0, .slice none 0 0] 27)) 97 [.int .i64 D.id, .int .i64 D.nodes, .int .i64 D.next, .slice oA 0 oc, .int .i64 a2, .int .i64 (clock + 1), .slice tA 0 tc, .slice eA en ec, .slice rA rn rc, .slice none 0 0]
            simpa using this
          have hbX : Below w.heap.size w (((w.alloc (.cells #[.int .i64 D.id, .int .i64 D.nodes, .int .i64 D.next, .slice oA 0 oc, .int .i64 a2, .int .i64 clock, .slice tA 0 tc, .slice eA en ec, .slice rA rn rc] 27)).alloc (.cells #[.int .i64 0, .int .i64 0, .int .i64 0, .slice none 0 0, .int .i64 0, .int .i64 0, .slice none 0 0, .slice none 0 0, .slice none 0 0] 27)).alloc (.cells #[.int .i64 D.id, .int .i64 D.nodes, .int .i64 D.next, .slice oA 0 oc, .int .i64 a2, .int .i64 (clock + 1), .slice tA 0 tc, .slice eA en ec, .slice rA rn rc, .slice none 0 0] 97)) := belA
          have hzX : w.heap.size + 3 ≤ (((w.alloc (.cells #[.int .i64 D.id, .int .i64 D.nodes, .int .i64 D.next, .slice oA 0 oc, .int .i64 a2, .int .i64 clock, .slice tA 0 tc, .slice eA en ec, .slice rA rn rc] 27)).alloc (.cells #[.int .i64 0, .int .i64 0, .int .i64 0, .slice none 0 0, .int .i64 0, .int .i64 0, .slice none 0 0, .slice none 0 0, .slice none 0 0] 27)).alloc (.cells #[.int .i64 D.id, .int .i64 D.nodes, .int .i64 D.next, .slice oA 0 oc, .int .i64 a2, .int .i64 (clock + 1), .slice tA 0 tc, .slice eA en ec, .slice rA rn rc, .slice none 0 0] 97)).heap.size := by simp
          generalize (((w.alloc (.cells #[.int .i64 D.id, .int .i64 D.nodes, .int .i64 D.next, .slice oA 0 oc, .int .i64 a2, .int .i64 clock, .slice tA 0 tc, .slice eA en ec, .slice rA rn rc] 27)).alloc (.cells #[.int .i64 0, .int .i64 0, .int .i64 0, .slice none 0 0, .int .i64 0, .int .i64 0, .slice none 0 0, .slice none 0 0, .slice none 0 0] 27)).alloc (.cells #[.int .i64 D.id, .int .i64 D.nodes, .int .i64 D.next, .slice oA 0 oc, .int .i64 a2, .int .i64 (clock + 1), .slice tA 0 tc, .slice eA en ec, .slice rA rn rc, .slice none 0 0] 97)) = X at *
          have HX2 := Lib.hid hX2
          have HX3 := Lib.hid hX3
          clear hX2 hX3
          have hl2 := HX2.out.lt
          have hf2 := HX2.out.frozen
          have HCL : Hid (∀ Y, Blk Y (w.heap.size + 1 + 1) 97 [.int .i64 D.id, .int .i64 D.nodes, .int .i64 D.next, .slice oA 0 oc, .int .i64 a2, .int .i64 (clock + 1), .slice tA 0 tc, .slice eA en ec, .slice rA rn rc, .slice none 0 0] → Y.cell? ⟨w.heap.size + 1 + 1, 0, none⟩ = some (.int .i64 D.id) ∧ Y.cell? ⟨w.heap.size + 1 + 1, 1, none⟩ = some (.int .i64 D.nodes) ∧ Y.cell? ⟨w.heap.size + 1 + 1, 2, none⟩ = some (.int .i64 D.next) ∧ Y.cell? ⟨w.heap.size + 1 + 1, 3, none⟩ = some (.slice oA 0 oc) ∧ Y.cell? ⟨w.heap.size + 1 + 1, 4, none⟩ = some (.int .i64 a2) ∧ Y.cell? ⟨w.heap.size + 1 + 1, 5, none⟩ = some (.int .i64 (clock + 1)) ∧ Y.cell? ⟨w.heap.size + 1 + 1, 6, none⟩ = some (.slice tA 0 tc) ∧ Y.cell? ⟨w.heap.size + 1 + 1, 7, none⟩ = some (.slice eA en ec) ∧ Y.cell? ⟨w.heap.size + 1 + 1, 8, none⟩ = some (.slice rA rn rc) ∧ Y.cell? ⟨w.heap.size + 1 + 1, 9, none⟩ = some (.slice none 0 0)) := Lib.hid (fun Y hY => ⟨hY.box.2 0 _ rfl, hY.box.2 1 _ rfl, hY.box.2 2 _ rfl, hY.box.2 3 _ rfl, hY.box.2 4 _ rfl, hY.box.2 5 _ rfl, hY.box.2 6 _ rfl, hY.box.2 7 _ rfl, hY.box.2 8 _ rfl, hY.box.2 9 _ rfl⟩)
          have HDR : Hid (∀ Z, Blk Z (w.heap.size + 1 + 1) 97 [.int .i64 D.id, .int .i64 D.nodes, .int .i64 D.next, .slice oA 0 oc, .int .i64 a2, .int .i64 (clock + 1), .slice tA 0 tc, .slice eA en ec, .slice rA rn rc, .slice none 0 0] → Blk Z.drew (w.heap.size + 1 + 1) 97 [.int .i64 D.id, .int .i64 D.nodes, .int .i64 D.next, .slice oA 0 oc, .int .i64 a2, .int .i64 (clock + 1), .slice tA 0 tc, .slice eA en ec, .slice rA rn rc, .slice none 0 0]) := Lib.hid (fun Z h => h.up (bel_drew (Below.refl _ _)))
          have HFS : Hid (∀ (Z : World) (k : Nat) (u : Value), Blk Z (w.heap.size + 1 + 1) 97 [.int .i64 D.id, .int .i64 D.nodes, .int .i64 D.next, .slice oA 0 oc, .int .i64 a2, .int .i64 (clock + 1), .slice tA 0 tc, .slice eA en ec, .slice rA rn rc, .slice none 0 0] → Blk (Z.setCell ⟨w.heap.size + 1, k, none⟩ u) (w.heap.size + 1 + 1) 97 [.int .i64 D.id, .int .i64 D.nodes, .int .i64 D.next, .slice oA 0 oc, .int .i64 a2, .int .i64 (clock + 1), .slice tA 0 tc, .slice eA en ec, .slice rA rn rc, .slice none 0 0]) := Lib.hid (fun Z k u h => h.far (p := ⟨w.heap.size + 1, k, none⟩) (by show w.heap.size + 1 + 1 ≠ w.heap.size + 1; omega) u)
          have z_0 := (HX2.out.box).2 0 _ rfl; have z_1 := (HX2.out.box).2 1 _ rfl; have z_2 := (HX2.out.box).2 2 _ rfl; have z_3 := (HX2.out.box).2 3 _ rfl; have z_4 := (HX2.out.box).2 4 _ rfl; have z_5 := (HX2.out.box).2 5 _ rfl; have z_6 := (HX2.out.box).2 6 _ rfl; have z_7 := (HX2.out.box).2 7 _ rfl; have z_8 := (HX2.out.box).2 8 _ rfl
          go_region_held3 (fun Y => Y.cell? ⟨w.heap.size + 1 + 1, 0, none⟩ = some (.int .i64 D.id) ∧ Y.cell? ⟨w.heap.size + 1 + 1, 1, none⟩ = some (.int .i64 D.nodes) ∧ Y.cell? ⟨w.heap.size + 1 + 1, 2, none⟩ = some (.int .i64 D.next) ∧ Y.cell? ⟨w.heap.size + 1 + 1, 3, none⟩ = some (.slice oA 0 oc) ∧ Y.cell? ⟨w.heap.size + 1 + 1, 4, none⟩ = some (.int .i64 a2) ∧ Y.cell? ⟨w.heap.size + 1 + 1, 5, none⟩ = some (.int .i64 (clock + 1)) ∧ Y.cell? ⟨w.heap.size + 1 + 1, 6, none⟩ = some (.slice tA 0 tc) ∧ Y.cell? ⟨w.heap.size + 1 + 1, 7, none⟩ = some (.slice eA en ec) ∧ Y.cell? ⟨w.heap.size + 1 + 1, 8, none⟩ = some (.slice rA rn rc) ∧ Y.cell? ⟨w.heap.size + 1 + 1, 9, none⟩ = some (.slice none 0 0))
            ((refine HCL.out _ ?_; (repeat (first | (with_reducible exact HX3.out) | (with_reducible refine HDR.out _ ?_) | (with_reducible refine HFS.out _ _ _ ?_))); done)) (fail)
          have hR := ((((((((((HX2.out).set_ 0 (.int .i64 D.id)).set_ 1 (.int .i64 D.nodes)).set_ 2 (.int .i64 D.next)).set_ 3 (.slice oA 0 oc)).set_ 4 (.int .i64 a2)).set_ 5 (.int .i64 (clock + 1))).set_ 6 (.slice tA 0 tc)).set_ 7 (.slice eA en ec)).set_ 8 (.slice rA rn rc)).up (bel_drew (Below.refl _ _))
          have r_0 := (hR.box).2 0 _ rfl; have r_1 := (hR.box).2 1 _ rfl; have r_2 := (hR.box).2 2 _ rfl; have r_3 := (hR.box).2 3 _ rfl; have r_4 := (hR.box).2 4 _ rfl; have r_5 := (hR.box).2 5 _ rfl; have r_6 := (hR.box).2 6 _ rfl; have r_7 := (hR.box).2 7 _ rfl; have r_8 := (hR.box).2 8 _ rfl
          clear hR
          go_wp2_with fail
          exact bodyPost_ret (v := .tuple #[.agg #[.int .i64 D.id, .int .i64 D.nodes, .int .i64 D.next, .slice oA 0 oc, .int .i64 a2, .int .i64 (clock + 1), .slice tA 0 tc, .slice eA en ec, .slice rA rn rc], .slice none 0 0]) (by simp [results, Try.results28, go_sem, r_0, r_1, r_2, r_3, r_4, r_5, r_6, r_7, r_8]) rfl ⟨rfl, belB⟩
      · have hmin2 : min (age + 1) 1099511627776 = a2 := by have := HA2.out; rw [if_pos hon] at this; exact this
        have hond : decide (0 < on) = true := by simpa using hon
        clear HA2
        by_cases hag : age = 1099511627776
        · subst hag
          obtain rfl : a2 = 1099511627776 := by omega
          clear hmin2
          go_enter Try.func28, Try.ntmps28
          go_wp2_with fail
          go_loop [58] (fun i => i = .int .i64 0) (fun _ => 0)
          case atStart => rfl
          case round =>
            subst hrel
            go_wp2_with fail
            have hX2 : Blk (((w.alloc (.cells #[.int .i64 D.id, .int .i64 D.nodes, .int .i64 D.next, .slice oA on oc, .int .i64 1099511627776, .int .i64 clock, .slice tA 0 tc, .slice eA en ec, .slice rA rn rc] 27)).alloc (.cells #[.int .i64 0, .int .i64 0, .int .i64 0, .slice none 0 0, .int .i64 0, .int .i64 0, .slice none 0 0, .slice none 0 0, .slice none 0 0] 27)).alloc (.cells #[.int .i64 D.id, .int .i64 D.nodes, .int .i64 D.next, .slice oA on oc, .int .i64 1099511627776, .int .i64 (clock + 1), .slice tA 0 tc, .slice eA en ec, .slice rA rn rc, .slice none 0 0] 97)) (w.heap.size + 1) 27 [.int .i64 0, .int .i64 0, .int .i64 0, .slice none 0 0, .int .i64 0, .int .i64 0, .slice none 0 0, .slice none 0 0, .slice none 0 0] := by
              have := (Blk.new (w.alloc (.cells #[.int .i64 D.id, .int .i64 D.nodes, .int .i64 D.next, .slice oA on oc, .int .i64 1099511627776, .int .i64 clock, .slice tA 0 tc, .slice eA en ec, .slice rA rn rc] 27)) 27 [.int .i64 0, .int .i64 0, .int .i64 0, .slice none 0 0, .int .i64 0, .int .i64 0, .slice none 0 0, .slice none 0 0, .slice none 0 0]).up (w' := (((w.alloc (.cells #[.int .i64 D.id, .int .i64 D.nodes, .int .i64 D.next, .slice oA on oc, .int .i64 1099511627776, .int .i64 clock, .slice tA 0 tc, .slice eA en ec, .slice rA rn rc] 27)).alloc (.cells #[.int .i64 0, .int .i64 0, .int .i64 0, .slice none 0 0, .int .i64 0, .int .i64 0, .slice none 0 0, .slice none 0 0, .slice none 0 0] 27)).alloc (.cells #[.int .i64 D.id, .int .i64 D.nodes, .int .i64 D.next, .slice oA on oc, .int .i64 1099511627776, .int .i64 (clock + 1), .slice tA 0 tc, .slice eA en ec, .slice rA rn rc, .slice none 0 0] 97))) (belA)
              simpa using this
            have hX3 : Blk (((w.alloc (.cells #[.int .i64 D.id, .int .i64 D.nodes, .int .i64 D.next, .slice oA on oc, .int .i64 1099511627776, .int .i64 clock, .slice tA 0 tc, .slice eA en ec, .slice rA rn rc] 27)).alloc (.cells #[.int .i64 0, .int .i64 0, .int .i64 0, .slice none 0 0, .int .i64 0, .int .i64 0, .slice none 0 0, .slice none 0 0, .slice none 0 0] 27)).alloc (.cells #[.int .i64 D.id, .int .i64 D.nodes, .int .i64 D.next, .slice oA on oc, .int .i64 1099511627776, .int .i64 (clock + 1), .slice tA 0 tc, .slice eA en ec, .slice rA rn rc, .slice none 0 0] 97)) (w.heap.size + 1 + 1) 97 [.int .i64 D.id, .int .i64 D.nodes, .int .i64 D.next, .slice oA on oc, .int .i64 1099511627776, .int .i64 (clock + 1), .slice tA 0 tc, .slice eA en ec, .slice rA rn rc, .slice none 0 0] := by
              have := Blk.new ((w.alloc (.cells #[.int .i64 D.id, .int .i64 D.nodes, .int .i64 D.next, .slice oA on oc, .int .i64 1099511627776, .int .i64 clock, .slice tA 0 tc, .slice eA en ec, .slice rA rn rc] 27)).alloc (.cells #[.int .i64 0, .int .i64 0, .int .i64 0, .slice none 0 0, .int .i64 0, .int .i64 0, .slice none 0 0, .slice none 0 0, .slice none 0 0] 27)) 97 [.int .i64 D.id, .int .i64 D.nodes, .int .i64 D.next, .slice oA on oc, .int .i64 1099511627776, .int .i64 (clock + 1), .slice tA 0 tc, .slice eA en ec, .slice rA rn rc, .slice none 0 0]
              simpa using this
            have hbX : Below w.heap.size w (((w.alloc (.cells #[.int .i64 D.id, .int .i64 D.nodes, .int .i64 D.next, .slice oA on oc, .int .i64 1099511627776, .int .i64 clock, .slice tA 0 tc, .slice eA en ec, .slice rA rn rc] 27)).alloc (.cells #[.int .i64 0, .int .i64 0, .int .i64 0, .slice none 0 0, .int .i64 0, .int .i64 0, .slice none 0 0, .slice none 0 0, .slice none 0 0] 27)).alloc (.cells #[.int .i64 D.id, .int .i64 D.nodes, .int .i64 D.next, .slice oA on oc, .int .i64 1099511627776, .int .i64 (clock + 1), .slice tA 0 tc, .slice eA en ec, .slice rA rn rc, .slice none 0 0] 97)) := belA
            have hzX : w.heap.size + 3 ≤ (((w.alloc (.cells #[.int .i64 D.id, .int .i64 D.nodes, .int .i64 D.next, .slice oA on oc, .int .i64 1099511627776, .int .i64 clock, .slice tA 0 tc, .slice eA en ec, .slice rA rn rc] 27)).alloc (.cells #[.int .i64 0, .int .i64 0, .int .i64 0, .slice none 0 0, .int .i64 0, .int .i64 0, .slice none 0 0, .slice none 0 0, .slice none 0 0] 27)).alloc (.cells #[.int .i64 D.id, .int .i64 D.nodes, .int .i64 D.next, .slice oA on oc, .int .i64 1099511627776, .int .i64 (clock + 1), .slice tA 0 tc, .slice eA en ec, .slice rA rn rc, .slice none 0 0] 97)).heap.size := by simp
            generalize (((w.alloc (.cells #[.int .i64 D.id, .int .i64 D.nodes, .int .i64 D.next, .slice oA on oc, .int .i64 1099511627776, .int .i64 clock, .slice tA 0 tc, .slice eA en ec, .slice rA rn rc] 27)).alloc (.cells #[.int .i64 0, .int .i64 0, .int .i64 0, .slice none 0 0, .int .i64 0, .int .i64 0, .slice none 0 0, .slice none 0 0, .slice none 0 0] 27)).alloc (.cells #[.int .i64 D.id, .int .i64 D.nodes, .int .i64 D.next, .slice oA on oc, .int .i64 1099511627776, .int .i64 (clock + 1), .slice tA 0 tc, .slice eA en ec, .slice rA rn rc, .slice none 0 0] 97)) = X at *
            have HX2 := Lib.hid hX2
            have HX3 := Lib.hid hX3
            clear hX2 hX3
            have hl2 := HX2.out.lt
            have hf2 := HX2.out.frozen
            have HCL : Hid (∀ Y, Blk Y (w.heap.size + 1 + 1) 97 [.int .i64 D.id, .int .i64 D.nodes, .int .i64 D.next, .slice oA on oc, .int .i64 1099511627776, .int .i64 (clock + 1), .slice tA 0 tc, .slice eA en ec, .slice rA rn rc, .slice none 0 0] → Y.cell? ⟨w.heap.size + 1 + 1, 0, none⟩ = some (.int .i64 D.id) ∧ Y.cell? ⟨w.heap.size + 1 + 1, 1, none⟩ = some (.int .i64 D.nodes) ∧ Y.cell? ⟨w.heap.size + 1 + 1, 2, none⟩ = some (.int .i64 D.next) ∧ Y.cell? ⟨w.heap.size + 1 + 1, 3, none⟩ = some (.slice oA on oc) ∧ Y.cell? ⟨w.heap.size + 1 + 1, 4, none⟩ = some (.int .i64 1099511627776) ∧ Y.cell? ⟨w.heap.size + 1 + 1, 5, none⟩ = some (.int .i64 (clock + 1)) ∧ Y.cell? ⟨w.heap.size + 1 + 1, 6, none⟩ = some (.slice tA 0 tc) ∧ Y.cell? ⟨w.heap.size + 1 + 1, 7, none⟩ = some (.slice eA en ec) ∧ Y.cell? ⟨w.heap.size + 1 + 1, 8, none⟩ = some (.slice rA rn rc) ∧ Y.cell? ⟨w.heap.size + 1 + 1, 9, none⟩ = some (.slice none 0 0)) := Lib.hid (fun Y hY => ⟨hY.box.2 0 _ rfl, hY.box.2 1 _ rfl, hY.box.2 2 _ rfl, hY.box.2 3 _ rfl, hY.box.2 4 _ rfl, hY.box.2 5 _ rfl, hY.box.2 6 _ rfl, hY.box.2 7 _ rfl, hY.box.2 8 _ rfl, hY.box.2 9 _ rfl⟩)
            have HDR : Hid (∀ Z, Blk Z (w.heap.size + 1 + 1) 97 [.int .i64 D.id, .int .i64 D.nodes, .int .i64 D.next, .slice oA on oc, .int .i64 1099511627776, .int .i64 (clock + 1), .slice tA 0 tc, .slice eA en ec, .slice rA rn rc, .slice none 0 0] → Blk Z.drew (w.heap.size + 1 + 1) 97 [.int .i64 D.id, .int .i64 D.nodes, .int .i64 D.next, .slice oA on oc, .int .i64 1099511627776, .int .i64 (clock + 1), .slice tA 0 tc, .slice eA en ec, .slice rA rn rc, .slice none 0 0]) := Lib.hid (fun Z h => h.up (bel_drew (Below.refl _ _)))
            have HFS : Hid (∀ (Z : World) (k : Nat) (u : Value), Blk Z (w.heap.size + 1 + 1) 97 [.int .i64 D.id, .int .i64 D.nodes, .int .i64 D.next, .slice oA on oc, .int .i64 1099511627776, .int .i64 (clock + 1), .slice tA 0 tc, .slice eA en ec, .slice rA rn rc, .slice none 0 0] → Blk (Z.setCell ⟨w.heap.size + 1, k, none⟩ u) (w.heap.size + 1 + 1) 97 [.int .i64 D.id, .int .i64 D.nodes, .int .i64 D.next, .slice oA on oc, .int .i64 1099511627776, .int .i64 (clock + 1), .slice tA 0 tc, .slice eA en ec, .slice rA rn rc, .slice none 0 0]) := Lib.hid (fun Z k u h => h.far (p := ⟨w.heap.size + 1, k, none⟩) (by show w.heap.size + 1 + 1 ≠ w.heap.size + 1; omega) u)
            have z_0 := (HX2.out.box).2 0 _ rfl; have z_1 := (HX2.out.box).2 1 _ rfl; have z_2 := (HX2.out.box).2 2 _ rfl; have z_3 := (HX2.out.box).2 3 _ rfl; have z_4 := (HX2.out.box).2 4 _ rfl; have z_5 := (HX2.out.box).2 5 _ rfl; have z_6 := (HX2.out.box).2 6 _ rfl; have z_7 := (HX2.out.box).2 7 _ rfl; have z_8 := (HX2.out.box).2 8 _ rfl
            go_region_held3 (fun Y => Y.cell? ⟨w.heap.size + 1 + 1, 0, none⟩ = some (.int .i64 D.id) ∧ Y.cell? ⟨w.heap.size + 1 + 1, 1, none⟩ = some (.int .i64 D.nodes) ∧ Y.cell? ⟨w.heap.size + 1 + 1, 2, none⟩ = some (.int .i64 D.next) ∧ Y.cell? ⟨w.heap.size + 1 + 1, 3, none⟩ = some (.slice oA on oc) ∧ Y.cell? ⟨w.heap.size + 1 + 1, 4, none⟩ = some (.int .i64 1099511627776) ∧ Y.cell? ⟨w.heap.size + 1 + 1, 5, none⟩ = some (.int .i64 (clock + 1)) ∧ Y.cell? ⟨w.heap.size + 1 + 1, 6, none⟩ = some (.slice tA 0 tc) ∧ Y.cell? ⟨w.heap.size + 1 + 1, 7, none⟩ = some (.slice eA en ec) ∧ Y.cell? ⟨w.heap.size + 1 + 1, 8, none⟩ = some (.slice rA rn rc) ∧ Y.cell? ⟨w.heap.size + 1 + 1, 9, none⟩ = some (.slice none 0 0))
              ((refine HCL.out _ ?_; (repeat (first | (with_reducible exact HX3.out) | (with_reducible refine HDR.out _ ?_) | (with_reducible refine HFS.out _ _ _ ?_))); done)) (fail)
            have hR := ((((((((((HX2.out).set_ 0 (.int .i64 D.id)).set_ 1 (.int .i64 D.nodes)).set_ 2 (.int .i64 D.next)).set_ 3 (.slice oA on oc)).set_ 4 (.int .i64 1099511627776)).set_ 5 (.int .i64 (clock + 1))).set_ 6 (.slice tA 0 tc)).set_ 7 (.slice eA en ec)).set_ 8 (.slice rA rn rc)).up (bel_drew (Below.refl _ _))
            have r_0 := (hR.box).2 0 _ rfl; have r_1 := (hR.box).2 1 _ rfl; have r_2 := (hR.box).2 2 _ rfl; have r_3 := (hR.box).2 3 _ rfl; have r_4 := (hR.box).2 4 _ rfl; have r_5 := (hR.box).2 5 _ rfl; have r_6 := (hR.box).2 6 _ rfl; have r_7 := (hR.box).2 7 _ rfl; have r_8 := (hR.box).2 8 _ rfl
            clear hR
            go_wp2_with fail
            exact bodyPost_ret (v := .tuple #[.agg #[.int .i64 D.id, .int .i64 D.nodes, .int .i64 D.next, .slice oA on oc, .int .i64 1099511627776, .int .i64 (clock + 1), .slice tA 0 tc, .slice eA en ec, .slice rA rn rc], .slice none 0 0]) (by simp [results, Try.results28, go_sem, r_0, r_1, r_2, r_3, r_4, r_5, r_6, r_7, r_8]) rfl ⟨rfl, belB⟩
        · have hag1 : age + 1 ≤ 1099511627776 := by omega
          obtain rfl : a2 = age + 1 := by omega
          go_enter Try.func28, Try.ntmps28
          go_wp2_with fail
          go_loop [58] (fun i => i = .int .i64 0) (fun _ => 0)
          case atStart => rfl
          case round =>
            subst hrel
            go_wp2_with fail
            have hX2 : Blk (((w.alloc (.cells #[.int .i64 D.id, .int .i64 D.nodes, .int .i64 D.next, .slice oA on oc, .int .i64 age, .int .i64 clock, .slice tA 0 tc, .slice eA en ec, .slice rA rn rc] 27)).alloc (.cells #[.int .i64 0, .int .i64 0, .int .i64 0, .slice none 0 0, .int .i64 0, .int .i64 0, .slice none 0 0, .slice none 0 0, .slice none 0 0] 27)).alloc (.cells #[.int .i64 D.id, .int .i64 D.nodes, .int .i64 D.next, .slice oA on oc, .int .i64 (age + 1), .int .i64 (clock + 1), .slice tA 0 tc, .slice eA en ec, .slice rA rn rc, .slice none 0 0] 97)) (w.heap.size + 1) 27 [.int .i64 0, .int .i64 0, .int .i64 0, .slice none 0 0, .int .i64 0, .int .i64 0, .slice none 0 0, .slice none 0 0, .slice none 0 0] := by
              have := (Blk.new (w.alloc (.cells #[.int .i64 D.id, .int .i64 D.nodes, .int .i64 D.next, .slice oA on oc, .int .i64 age, .int .i64 clock, .slice tA 0 tc, .slice eA en ec, .slice rA rn rc] 27)) 27 [.int .i64 0, .int .i64 0, .int .i64 0, .slice none 0 0, .int .i64 0, .int .i64 0, .slice none 0 0, .slice none 0 0, .slice none 0 0]).up (w' := (((w.alloc (.cells #[.int .i64 D.id, .int .i64 D.nodes, .int .i64 D.next, .slice oA on oc, .int .i64 age, .int .i64 clock, .slice tA 0 tc, .slice eA en ec, .slice rA rn rc] 27)).alloc (.cells #[.int .i64 0, .int .i64 0, .int .i64 0, .slice none 0 0, .int .i64 0, .int .i64 0, .slice none 0 0, .slice none 0 0, .slice none 0 0] 27)).alloc (.cells #[.int .i64 D.id, .int .i64 D.nodes, .int .i64 D.next, .slice oA on oc, .int .i64 (age + 1), .int .i64 (clock + 1), .slice tA 0 tc, .slice eA en ec, .slice rA rn rc, .slice none 0 0] 97))) (belA)
              simpa using this
            have hX3 : Blk (((w.alloc (.cells #[.int .i64 D.id, .int .i64 D.nodes, .int .i64 D.next, .slice oA on oc, .int .i64 age, .int .i64 clock, .slice tA 0 tc, .slice eA en ec, .slice rA rn rc] 27)).alloc (.cells #[.int .i64 0, .int .i64 0, .int .i64 0, .slice none 0 0, .int .i64 0, .int .i64 0, .slice none 0 0, .slice none 0 0, .slice none 0 0] 27)).alloc (.cells #[.int .i64 D.id, .int .i64 D.nodes, .int .i64 D.next, .slice oA on oc, .int .i64 (age + 1), .int .i64 (clock + 1), .slice tA 0 tc, .slice eA en ec, .slice rA rn rc, .slice none 0 0] 97)) (w.heap.size + 1 + 1) 97 [.int .i64 D.id, .int .i64 D.nodes, .int .i64 D.next, .slice oA on oc, .int .i64 (age + 1), .int .i64 (clock + 1), .slice tA 0 tc, .slice eA en ec, .slice rA rn rc, .slice none 0 0] := by
              have := Blk.new ((w.alloc (.cells #[.int .i64 D.id, .int .i64 D.nodes, .int .i64 D.next, .slice oA on oc, .int .i64 age, .int .i64 clock, .slice tA 0 tc, .slice eA en ec, .slice rA rn rc] 27)).alloc (.cells #[.int .i64 0, .int .i64 0, .int .i64 0, .slice none 0 0, .int .i64 0, .int .i64 0, .slice none 0 0, .slice none 0 0, .slice none 0 0] 27)) 97 [.int .i64 D.id, .int .i64 D.nodes, .int .i64 D.next, .slice oA on oc, .int .i64 (age + 1), .int .i64 (clock + 1), .slice tA 0 tc, .slice eA en ec, .slice rA rn rc, .slice none 0 0]
              simpa using this
            have hbX : Below w.heap.size w (((w.alloc (.cells #[.int .i64 D.id, .int .i64 D.nodes, .int .i64 D.next, .slice oA on oc, .int .i64 age, .int .i64 clock, .slice tA 0 tc, .slice eA en ec, .slice rA rn rc] 27)).alloc (.cells #[.int .i64 0, .int .i64 0, .int .i64 0, .slice none 0 0, .int .i64 0, .int .i64 0, .slice none 0 0, .slice none 0 0, .slice none 0 0] 27)).alloc (.cells #[.int .i64 D.id, .int .i64 D.nodes, .int .i64 D.next, .slice oA on oc, .int .i64 (age + 1), .int .i64 (clock + 1), .slice tA 0 tc, .slice eA en ec, .slice rA rn rc, .slice none 0 0] 97)) := belA
            have hzX : w.heap.size + 3 ≤ (((w.alloc (.cells #[.int .i64 D.id, .int .i64 D.nodes, .int .i64 D.next, .slice oA on oc, .int .i64 age, .int .i64 clock, .slice tA 0 tc, .slice eA en ec, .slice rA rn rc] 27)).alloc (.cells #[.int .i64 0, .int .i64 0, .int .i64 0, .slice none 0 0, .int .i64 0, .int .i64 0, .slice none 0 0, .slice none 0 0, .slice none 0 0] 27)).alloc (.cells #[.int .i64 D.id, .int .i64 D.nodes, .int .i64 D.next, .slice oA on oc, .int .i64 (age + 1), .int .i64 (clock + 1), .slice tA 0 tc, .slice eA en ec, .slice rA rn rc, .slice none 0 0] 97)).heap.size := by simp
            generalize (((w.alloc (.cells #[.int .i64 D.id, .int .i64 D.nodes, .int .i64 D.next, .slice oA on oc, .int .i64 age, .int .i64 clock, .slice tA 0 tc, .slice eA en ec, .slice rA rn rc] 27)).alloc (.cells #[.int .i64 0, .int .i64 0, .int .i64 0, .slice none 0 0, .int .i64 0, .int .i64 0, .slice none 0 0, .slice none 0 0, .slice none 0 0] 27)).alloc (.cells #[.int .i64 D.id, .int .i64 D.nodes, .int .i64 D.next, .slice oA on oc, .int .i64 (age + 1), .int .i64 (clock + 1), .slice tA 0 tc, .slice eA en ec, .slice rA rn rc, .slice none 0 0] 97)) = X at *
            have HX2 := Lib.hid hX2
            have HX3 := Lib.hid hX3
            clear hX2 hX3
            have hl2 := HX2.out.lt
            have hf2 := HX2.out.frozen
            have HCL : Hid (∀ Y, Blk Y (w.heap.size + 1 + 1) 97 [.int .i64 D.id, .int .i64 D.nodes, .int .i64 D.next, .slice oA on oc, .int .i64 (age + 1), .int .i64 (clock + 1), .slice tA 0 tc, .slice eA en ec, .slice rA rn rc, .slice none 0 0] → Y.cell? ⟨w.heap.size + 1 + 1, 0, none⟩ = some (.int .i64 D.id) ∧ Y.cell? ⟨w.heap.size + 1 + 1, 1, none⟩ = some (.int .i64 D.nodes) ∧ Y.cell? ⟨w.heap.size + 1 + 1, 2, none⟩ = some (.int .i64 D.next) ∧ Y.cell? ⟨w.heap.size + 1 + 1, 3, none⟩ = some (.slice oA on oc) ∧ Y.cell? ⟨w.heap.size + 1 + 1, 4, none⟩ = some (.int .i64 (age + 1)) ∧ Y.cell? ⟨w.heap.size + 1 + 1, 5, none⟩ = some (.int .i64 (clock + 1)) ∧ Y.cell? ⟨w.heap.size + 1 + 1, 6, none⟩ = some (.slice tA 0 tc) ∧ Y.cell? ⟨w.heap.size + 1 + 1, 7, none⟩ = some (.slice eA en ec) ∧ Y.cell? ⟨w.heap.size + 1 + 1, 8, none⟩ = some (.slice rA rn rc) ∧ Y.cell? ⟨w.heap.size + 1 + 1, 9, none⟩ = some (.slice none 0 0)) := Lib.hid (fun Y hY => ⟨hY.box.2 0 _ rfl, hY.box.2 1 _ rfl, hY.box.2 2 _ rfl, hY.box.2 3 _ rfl, hY.box.2 4 _ rfl, hY.box.2 5 _ rfl, hY.box.2 6 _ rfl, hY.box.2 7 _ rfl, hY.box.2 8 _ rfl, hY.box.2 9 _ rfl⟩)
            have HDR : Hid (∀ Z, Blk Z (w.heap.size + 1 + 1) 97 [.int .i64 D.id, .int .i64 D.nodes, .int .i64 D.next, .slice oA on oc, .int .i64 (age + 1), .int .i64 (clock + 1), .slice tA 0 tc, .slice eA en ec, .slice rA rn rc, .slice none 0 0] → Blk Z.drew (w.heap.size + 1 + 1) 97 [.int .i64 D.id, .int .i64 D.nodes, .int .i64 D.next, .slice oA on oc, .int .i64 (age + 1), .int .i64 (clock + 1), .slice tA 0 tc, .slice eA en ec, .slice rA rn rc, .slice none 0 0]) := Lib.hid (fun Z h => h.up (bel_drew (Below.refl _ _)))
            have HFS : Hid (∀ (Z : World) (k : Nat) (u : Value), Blk Z (w.heap.size + 1 + 1) 97 [.int .i64 D.id, .int .i64 D.nodes, .int .i64 D.next, .slice oA on oc, .int .i64 (age + 1), .int .i64 (clock + 1), .slice tA 0 tc, .slice eA en ec, .slice rA rn rc, .slice none 0 0] → Blk (Z.setCell ⟨w.heap.size + 1, k, none⟩ u) (w.heap.size + 1 + 1) 97 [.int .i64 D.id, .int .i64 D.nodes, .int .i64 D.next, .slice oA on oc, .int .i64 (age + 1), .int .i64 (clock + 1), .slice tA 0 tc, .slice eA en ec, .slice rA rn rc, .slice none 0 0]) := Lib.hid (fun Z k u h => h.far (p := ⟨w.heap.size + 1, k, none⟩) (by show w.heap.size + 1 + 1 ≠ w.heap.size + 1; omega) u)
            have z_0 := (HX2.out.box).2 0 _ rfl; have z_1 := (HX2.out.box).2 1 _ rfl; have z_2 := (HX2.out.box).2 2 _ rfl; have z_3 := (HX2.out.box).2 3 _ rfl; have z_4 := (HX2.out.box).2 4 _ rfl; have z_5 := (HX2.out.box).2 5 _ rfl; have z_6 := (HX2.out.box).2 6 _ rfl; have z_7 := (HX2.out.box).2 7 _ rfl; have z_8 := (HX2.out.box).2 8 _ rfl
            go_region_held3 (fun Y => Y.cell? ⟨w.heap.size + 1 + 1, 0, none⟩ = some (.int .i64 D.id) ∧ Y.cell? ⟨w.heap.size + 1 + 1, 1, none⟩ = some (.int .i64 D.nodes) ∧ Y.cell? ⟨w.heap.size + 1 + 1, 2, none⟩ = some (.int .i64 D.next) ∧ Y.cell? ⟨w.heap.size + 1 + 1, 3, none⟩ = some (.slice oA on oc) ∧ Y.cell? ⟨w.heap.size + 1 + 1, 4, none⟩ = some (.int .i64 (age + 1)) ∧ Y.cell? ⟨w.heap.size + 1 + 1, 5, none⟩ = some (.int .i64 (clock + 1)) ∧ Y.cell? ⟨w.heap.size + 1 + 1, 6, none⟩ = some (.slice tA 0 tc) ∧ Y.cell? ⟨w.heap.size + 1 + 1, 7, none⟩ = some (.slice eA en ec) ∧ Y.cell? ⟨w.heap.size + 1 + 1, 8, none⟩ = some (.slice rA rn rc) ∧ Y.cell? ⟨w.heap.size + 1 + 1, 9, none⟩ = some (.slice none 0 0))
              ((refine HCL.out _ ?_; (repeat (first | (with_reducible exact HX3.out) | (with_reducible refine HDR.out _ ?_) | (with_reducible refine HFS.out _ _ _ ?_))); done)) (fail)
            have hR := ((((((((((HX2.out).set_ 0 (.int .i64 D.id)).set_ 1 (.int .i64 D.nodes)).set_ 2 (.int .i64 D.next)).set_ 3 (.slice oA on oc)).set_ 4 (.int .i64 (age + 1))).set_ 5 (.int .i64 (clock + 1))).set_ 6 (.slice tA 0 tc)).set_ 7 (.slice eA en ec)).set_ 8 (.slice rA rn rc)).up (bel_drew (Below.refl _ _))
            have r_0 := (hR.box).2 0 _ rfl; have r_1 := (hR.box).2 1 _ rfl; have r_2 := (hR.box).2 2 _ rfl; have r_3 := (hR.box).2 3 _ rfl; have r_4 := (hR.box).2 4 _ rfl; have r_5 := (hR.box).2 5 _ rfl; have r_6 := (hR.box).2 6 _ rfl; have r_7 := (hR.box).2 7 _ rfl; have r_8 := (hR.box).2 8 _ rfl
            clear hR
            go_wp2_with fail
            exact bodyPost_ret (v := .tuple #[.agg #[.int .i64 D.id, .int .i64 D.nodes, .int .i64 D.next, .slice oA on oc, .int .i64 (age + 1), .int .i64 (clock + 1), .slice tA 0 tc, .slice eA en ec, .slice rA rn rc], .slice none 0 0]) (by simp [results, Try.results28, go_sem, r_0, r_1, r_2, r_3, r_4, r_5, r_6, r_7, r_8]) rfl ⟨rfl, belB⟩
    · have hz2 := HZC.out _ hz
      clear HZC
      rcases Nat.eq_zero_or_pos on with hon | hon
      · subst hon
        obtain rfl : a2 = age := by have := HA2.out; rw [if_neg (by omega)] at this; exact this.symm
        clear HA2
        go_enter Try.func28, Try.ntmps28
        go_wp2_with fail
        exact bodyPost_ret (v := .tuple #[.agg #[.int .i64 D.id, .int .i64 D.nodes, .int .i64 D.next, .slice oA 0 oc, .int .i64 a2, .int .i64 (clock + 1), .slice tA 0 tc, .slice eA en ec, .slice rA rn rc], .slice none 0 0]) (by simp [results, Try.results28, go_sem]) rfl ⟨rfl, belA⟩
      · have hmin2 : min (age + 1) 1099511627776 = a2 := by have := HA2.out; rw [if_pos hon] at this; exact this
        have hond : decide (0 < on) = true := by simpa using hon
        clear HA2
        by_cases hag : age = 1099511627776
        · subst hag
          obtain rfl : a2 = 1099511627776 := by omega
          clear hmin2
          go_enter Try.func28, Try.ntmps28
          go_wp2_with fail
          exact bodyPost_ret (v := .tuple #[.agg #[.int .i64 D.id, .int .i64 D.nodes, .int .i64 D.next, .slice oA on oc, .int .i64 1099511627776, .int .i64 (clock + 1), .slice tA 0 tc, .slice eA en ec, .slice rA rn rc], .slice none 0 0]) (by simp [results, Try.results28, go_sem]) rfl ⟨rfl, belA⟩
        · have hag1 : age + 1 ≤ 1099511627776 := by omega
          obtain rfl : a2 = age + 1 := by omega
          go_enter Try.func28, Try.ntmps28
          go_wp2_with fail
          exact bodyPost_ret (v := .tuple #[.agg #[.int .i64 D.id, .int .i64 D.nodes, .int .i64 D.next, .slice oA on oc, .int .i64 (age + 1), .int .i64 (clock + 1), .slice tA 0 tc, .slice eA en ec, .slice rA rn rc], .slice none 0 0]) (by simp [results, Try.results28, go_sem]) rfl ⟨rfl, belA⟩
end Go.Proofs.Ytgfakefcmbpboaa
namespace Go.Proofs.Ytgfakefcmbpboaa
open Go.RowKit
set_option linter.unusedSimpArgs false
set_option linter.unusedVariables false

theorem WorkO.tick {w : World} {B : Nat} {P D} (h : WorkO w B P D) : WorkO w B P (tickD D) := ⟨h.op, h.wa, h.he, h.re⟩
set_option maxRecDepth 100000 in
set_option maxHeartbeats 8000000 in
theorem worker_Tick0 (P : WorkP) (D : WorkD) (w : World) (h : WorkR w P D) (hs : BigD D) (hm : mayW D = true) (hwa : D.wa = []) (hc0 : 0 ≤ D.clock) (hc1 : D.clock ≤ 1099511627776) (ha0 : 0 ≤ D.age) (ha1 : D.age ≤ 1099511627776) :
    Calls Try.prog 17 #[P.val D] w fun e w' => ∃ P', e = .returned (.tuple #[P'.val (tickD D), .slice none 0 0, .int .i64 0]) ∧ WorkO w' w.heap.size P' (tickD D) ∧ Below w.heap.size w w' := by
  have H := Lib.hid h
  have HS := Lib.hid hs
  have HM := Lib.hid hm
  have HWA := Lib.hid hwa
  obtain ⟨⟨oA, on, oc⟩, ⟨tA, tn, tc⟩, ⟨eA, en, ec⟩, ⟨rA, rn, rc⟩⟩ := P
  clear h hs hm hwa
  show Calls Try.prog 17 #[.agg #[.int .i64 D.id, .int .i64 D.nodes, .int .i64 D.next, .slice oA on oc, .int .i64 D.age, .int .i64 D.clock, .slice tA tn tc, .slice eA en ec, .slice rA rn rc]] w _
  go_enter Try.func17, Try.ntmps17
  go_wp2_with fail
  have hX1 : Blk ((w.alloc (.cells #[.int .i64 D.id, .int .i64 D.nodes, .int .i64 D.next, .slice oA on oc, .int .i64 D.age, .int .i64 D.clock, .slice tA tn tc, .slice eA en ec, .slice rA rn rc] 27)).alloc (.cells #[.int .i64 0, .int .i64 0, .int .i64 0, .slice none 0 0, .int .i64 0, .int .i64 0, .slice none 0 0, .slice none 0 0, .slice none 0 0] 27)) w.heap.size 27 [.int .i64 D.id, .int .i64 D.nodes, .int .i64 D.next, .slice oA on oc, .int .i64 D.age, .int .i64 D.clock, .slice tA tn tc, .slice eA en ec, .slice rA rn rc] := (Blk.new w 27 [.int .i64 D.id, .int .i64 D.nodes, .int .i64 D.next, .slice oA on oc, .int .i64 D.age, .int .i64 D.clock, .slice tA tn tc, .slice eA en ec, .slice rA rn rc]).up (belA)
  have hX3 : Blk ((w.alloc (.cells #[.int .i64 D.id, .int .i64 D.nodes, .int .i64 D.next, .slice oA on oc, .int .i64 D.age, .int .i64 D.clock, .slice tA tn tc, .slice eA en ec, .slice rA rn rc] 27)).alloc (.cells #[.int .i64 0, .int .i64 0, .int .i64 0, .slice none 0 0, .int .i64 0, .int .i64 0, .slice none 0 0, .slice none 0 0, .slice none 0 0] 27)) (w.heap.size + 1) 27 [.int .i64 0, .int .i64 0, .int .i64 0, .slice none 0 0, .int .i64 0, .int .i64 0, .slice none 0 0, .slice none 0 0, .slice none 0 0] := by
    have := Blk.new (w.alloc (.cells #[.int .i64 D.id, .int .i64 D.nodes, .int .i64 D.next, .slice oA on oc, .int .i64 D.age, .int .i64 D.clock, .slice tA tn tc, .slice eA en ec, .slice rA rn rc] 27)) 27 [.int .i64 0, .int .i64 0, .int .i64 0, .slice none 0 0, .int .i64 0, .int .i64 0, .slice none 0 0, .slice none 0 0, .slice none 0 0]
    simpa using this
  have hbX : Below w.heap.size w ((w.alloc (.cells #[.int .i64 D.id, .int .i64 D.nodes, .int .i64 D.next, .slice oA on oc, .int .i64 D.age, .int .i64 D.clock, .slice tA tn tc, .slice eA en ec, .slice rA rn rc] 27)).alloc (.cells #[.int .i64 0, .int .i64 0, .int .i64 0, .slice none 0 0, .int .i64 0, .int .i64 0, .slice none 0 0, .slice none 0 0, .slice none 0 0] 27)) := belA
  have hzX : w.heap.size + 2 ≤ ((w.alloc (.cells #[.int .i64 D.id, .int .i64 D.nodes, .int .i64 D.next, .slice oA on oc, .int .i64 D.age, .int .i64 D.clock, .slice tA tn tc, .slice eA en ec, .slice rA rn rc] 27)).alloc (.cells #[.int .i64 0, .int .i64 0, .int .i64 0, .slice none 0 0, .int .i64 0, .int .i64 0, .slice none 0 0, .slice none 0 0, .slice none 0 0] 27)).heap.size := by simp
  generalize ((w.alloc (.cells #[.int .i64 D.id, .int .i64 D.nodes, .int .i64 D.next, .slice oA on oc, .int .i64 D.age, .int .i64 D.clock, .slice tA tn tc, .slice eA en ec, .slice rA rn rc] 27)).alloc (.cells #[.int .i64 0, .int .i64 0, .int .i64 0, .slice none 0 0, .int .i64 0, .int .i64 0, .slice none 0 0, .slice none 0 0, .slice none 0 0] 27)) = X at *
  have HX1 := Lib.hid hX1
  have HX3 := Lib.hid hX3
  clear hX1 hX3
  refine (worker_May ⟨⟨oA, on, oc⟩, ⟨tA, tn, tc⟩, ⟨eA, en, ec⟩, ⟨rA, rn, rc⟩⟩ D true _ (H.out.up hbX) HM.out).mono ?_
  rintro e w1 ⟨rfl, hb1⟩
  have hY1 := HX1.out.up hb1
  have HY3 := Lib.hid (HX3.out.up hb1)
  have hbY := bel_trans hbX hb1
  have hzY : w.heap.size + 2 ≤ w1.heap.size := Nat.le_trans hzX hb1.size
  have a_0 := (hY1.box).2 0 _ rfl; have a_1 := (hY1.box).2 1 _ rfl; have a_2 := (hY1.box).2 2 _ rfl; have a_3 := (hY1.box).2 3 _ rfl; have a_4 := (hY1.box).2 4 _ rfl; have a_5 := (hY1.box).2 5 _ rfl; have a_6 := (hY1.box).2 6 _ rfl; have a_7 := (hY1.box).2 7 _ rfl; have a_8 := (hY1.box).2 8 _ rfl
  have HY1 := Lib.hid hY1
  clear hY1 HX1 HX3 hb1 hzX hbX
  go_wp2_with fail
  refine (worker_Own ⟨⟨oA, on, oc⟩, ⟨tA, tn, tc⟩, ⟨eA, en, ec⟩, ⟨rA, rn, rc⟩⟩ D _ (H.out.up hbY) HS.out).mono ?_
  rintro e w3 ⟨⟨⟨oA2, on2, oc2⟩, ⟨tA2, tn2, tc2⟩, ⟨eA2, en2, ec2⟩, ⟨rA2, rn2, rc2⟩⟩, he3, hO3, -, hb3⟩
  simp only [WorkP.val] at he3
  subst he3
  have hl3 : D.op.length = on2 := by
    have e1 := (hO3.work HS.out).op.1; exact e1
  have ht3 : tn2 = 0 := by
    have e1 := (hO3.work HS.out).wa.1; dsimp only at e1; have e2 := HWA.out; rw [e2] at e1; exact e1.symm
  subst ht3
  have HL3 := Lib.hid hl3
  clear hl3
  have HO3 := Lib.hid (hO3.mono (B' := w.heap.size + 2) (by omega))
  have HV1 := Lib.hid (HY1.out.up hb3)
  have HV3 := Lib.hid (HY3.out.up hb3)
  have hbV := bel_trans hbY hb3
  have hzV : w.heap.size + 2 ≤ w3.heap.size := Nat.le_trans hzY hb3.size
  clear hO3 HY1 HY3 hb3 hzY hbY a_0 a_1 a_2 a_3 a_4 a_5 a_6 a_7 a_8
  go_wp2_with fail
  refine (worker_Beat0 ⟨⟨oA2, on2, oc2⟩, ⟨tA2, 0, tc2⟩, ⟨eA2, en2, ec2⟩, ⟨rA2, rn2, rc2⟩⟩ D _ HL3.out rfl hc0 hc1 ha0 ha1).mono ?_
  rintro e w4 ⟨he4, hb4⟩
  simp only [WorkP.val] at he4
  subst he4
  have hU1 := HV1.out.up hb4
  have hU3 := HV3.out.up hb4
  have hbU := bel_trans hbV hb4
  have hzU : w.heap.size + 2 ≤ w4.heap.size := Nat.le_trans hzV hb4.size
  have HOU := Lib.hid (HO3.out.up hb4)
  have fU1 := hU1.frozen
  have lU1 := hU1.lt
  have v_0 := (hU1.box).2 0 _ rfl; have v_1 := (hU1.box).2 1 _ rfl; have v_2 := (hU1.box).2 2 _ rfl; have v_3 := (hU1.box).2 3 _ rfl; have v_4 := (hU1.box).2 4 _ rfl; have v_5 := (hU1.box).2 5 _ rfl; have v_6 := (hU1.box).2 6 _ rfl; have v_7 := (hU1.box).2 7 _ rfl; have v_8 := (hU1.box).2 8 _ rfl
  have HU1 := Lib.hid hU1
  have HU3 := Lib.hid hU3
  clear hU1 hU3 HV1 HV3 HO3 hbV hzV hb4
  go_upto_region 4 with fail
  have hR := set9 HU1.out rfl (.int .i64 (tickD D).id) (.int .i64 (tickD D).nodes) (.int .i64 (tickD D).next) (.slice oA2 on2 oc2) (.int .i64 (tickD D).age) (.int .i64 (tickD D).clock) (.slice tA2 0 tc2) (.slice eA2 en2 ec2) (.slice rA2 rn2 rc2)
  have hS := (HU3.out.sets9 (g := w.heap.size) (by omega) (.int .i64 (tickD D).id) (.int .i64 (tickD D).nodes) (.int .i64 (tickD D).next) (.slice oA2 on2 oc2) (.int .i64 (tickD D).age) (.int .i64 (tickD D).clock) (.slice tA2 0 tc2) (.slice eA2 en2 ec2) (.slice rA2 rn2 rc2))
  have hW := HOU.out.low9 (g := w.heap.size) (by omega) (.int .i64 (tickD D).id) (.int .i64 (tickD D).nodes) (.int .i64 (tickD D).next) (.slice oA2 on2 oc2) (.int .i64 (tickD D).age) (.int .i64 (tickD D).clock) (.slice tA2 0 tc2) (.slice eA2 en2 ec2) (.slice rA2 rn2 rc2)
  have hbR := bel_sets9 hbU (Nat.le_refl _) (.int .i64 (tickD D).id) (.int .i64 (tickD D).nodes) (.int .i64 (tickD D).next) (.slice oA2 on2 oc2) (.int .i64 (tickD D).age) (.int .i64 (tickD D).clock) (.slice tA2 0 tc2) (.slice eA2 en2 ec2) (.slice rA2 rn2 rc2)
  obtain ⟨Y, hY⟩ : ∃ Y, Y = (((((((((w4.setCell ⟨w.heap.size, 0, none⟩ (.int .i64 (tickD D).id)).setCell ⟨w.heap.size, 1, none⟩ (.int .i64 (tickD D).nodes)).setCell ⟨w.heap.size, 2, none⟩ (.int .i64 (tickD D).next)).setCell ⟨w.heap.size, 3, none⟩ (.slice oA2 on2 oc2)).setCell ⟨w.heap.size, 4, none⟩ (.int .i64 (tickD D).age)).setCell ⟨w.heap.size, 5, none⟩ (.int .i64 (tickD D).clock)).setCell ⟨w.heap.size, 6, none⟩ (.slice tA2 0 tc2)).setCell ⟨w.heap.size, 7, none⟩ (.slice eA2 en2 ec2)).setCell ⟨w.heap.size, 8, none⟩ (.slice rA2 rn2 rc2)) := ⟨_, rfl⟩
  rw [← hY] at hR hS hW hbR
  rw [← hY]
  clear hY v_0 v_1 v_2 v_3 v_4 v_5 v_6 v_7 v_8 HU1 HU3 HOU fU1 lU1 hbU hzU
  have fS := hS.frozen
  have lS := hS.lt
  have a_0 := (hR.box).2 0 _ rfl; have a_1 := (hR.box).2 1 _ rfl; have a_2 := (hR.box).2 2 _ rfl; have a_3 := (hR.box).2 3 _ rfl; have a_4 := (hR.box).2 4 _ rfl; have a_5 := (hR.box).2 5 _ rfl; have a_6 := (hR.box).2 6 _ rfl; have a_7 := (hR.box).2 7 _ rfl; have a_8 := (hR.box).2 8 _ rfl
  have s_0 := (hS.box).2 0 _ rfl; have s_1 := (hS.box).2 1 _ rfl; have s_2 := (hS.box).2 2 _ rfl; have s_3 := (hS.box).2 3 _ rfl; have s_4 := (hS.box).2 4 _ rfl; have s_5 := (hS.box).2 5 _ rfl; have s_6 := (hS.box).2 6 _ rfl; have s_7 := (hS.box).2 7 _ rfl; have s_8 := (hS.box).2 8 _ rfl
  have HW := Lib.hid hW
  have HR := Lib.hid hR
  have HSx := Lib.hid hS
  have HBR := Lib.hid hbR
  clear hR hS hW hbR
  go_wp2_with fail
  have hR5 := set9 HSx.out rfl (.int .i64 (tickD D).id) (.int .i64 (tickD D).nodes) (.int .i64 (tickD D).next) (.slice oA2 on2 oc2) (.int .i64 (tickD D).age) (.int .i64 (tickD D).clock) (.slice tA2 0 tc2) (.slice eA2 en2 ec2) (.slice rA2 rn2 rc2)
  have r_0 := (hR5.box).2 0 _ rfl; have r_1 := (hR5.box).2 1 _ rfl; have r_2 := (hR5.box).2 2 _ rfl; have r_3 := (hR5.box).2 3 _ rfl; have r_4 := (hR5.box).2 4 _ rfl; have r_5 := (hR5.box).2 5 _ rfl; have r_6 := (hR5.box).2 6 _ rfl; have r_7 := (hR5.box).2 7 _ rfl; have r_8 := (hR5.box).2 8 _ rfl
  have hWO := (HW.out.low9 (g := w.heap.size + 1) (by omega) (.int .i64 (tickD D).id) (.int .i64 (tickD D).nodes) (.int .i64 (tickD D).next) (.slice oA2 on2 oc2) (.int .i64 (tickD D).age) (.int .i64 (tickD D).clock) (.slice tA2 0 tc2) (.slice eA2 en2 ec2) (.slice rA2 rn2 rc2)).tick
  exact bodyPost_ret (v := .tuple #[.agg #[.int .i64 (tickD D).id, .int .i64 (tickD D).nodes, .int .i64 (tickD D).next, .slice oA2 on2 oc2, .int .i64 (tickD D).age, .int .i64 (tickD D).clock, .slice tA2 0 tc2, .slice eA2 en2 ec2, .slice rA2 rn2 rc2], .slice none 0 0, .int .i64 0]) (by simp [results, Try.results17, go_sem, r_0, r_1, r_2, r_3, r_4, r_5, r_6, r_7, r_8]) rfl ⟨⟨⟨oA2, on2, oc2⟩, ⟨tA2, 0, tc2⟩, ⟨eA2, en2, ec2⟩, ⟨rA2, rn2, rc2⟩⟩, rfl, hWO.mono (by omega), bel_sets9 HBR.out (by omega) (.int .i64 (tickD D).id) (.int .i64 (tickD D).nodes) (.int .i64 (tickD D).next) (.slice oA2 on2 oc2) (.int .i64 (tickD D).age) (.int .i64 (tickD D).clock) (.slice tA2 0 tc2) (.slice eA2 en2 ec2) (.slice rA2 rn2 rc2)⟩
end Go.Proofs.Ytgfakefcmbpboaa
