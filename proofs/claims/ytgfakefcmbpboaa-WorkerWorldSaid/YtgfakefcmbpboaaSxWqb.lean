/- Make: worker.Make, droverref13.Make. -/
import Derived.Test.YtgfakefcmbpboaaSxWl
import Derived.Test.YtgfakefcmbpboaaSxWf
import Derived.Test.YtgfakefcmbpboaaSxWqa
import Derived.Test.YtgfakefcmbpboaaSxWsc
namespace Go.Proofs.Ytgfakefcmbpboaa
open Go.RowKit
set_option linter.unusedSimpArgs false
set_option linter.unusedVariables false

def noB : BatchD := ⟨0, 0, []⟩
noncomputable def nxB (D : WorkD) : BatchD := if nxE D = 0 then nxD D else noB
noncomputable def mkE (D : WorkD) : Int := if mayW D = true then nxE D else 1
noncomputable def mkB (D : WorkD) : BatchD := if mayW D = true then nxB D else noB
theorem nxB_len (D : WorkD) : (nxB D).tx.length ≤ 1000000 := by
  unfold nxB
  split
  · show (D.op.take 8).length ≤ _; simp; omega
  · exact Nat.zero_le _
theorem worker_Next (P : WorkP) (D : WorkD) (w : World) (h : WorkR w P D) (hon : D.op.length ≤ 800000000) (hhe : D.he.length ≤ 1024) :
    Calls Try.prog 23 #[P.val D] w fun e w' => ∃ v, e = .returned (.tuple #[.agg #[.int .i64 (nxB D).au, .int .i64 (nxB D).n, v], .int .i64 (nxE D)]) ∧ OwnX w' w.heap.size v (nxB D).tx ∧ Below w.heap.size w w' := by
  by_cases hE : nxE D = 0
  · unfold nxB; rw [if_pos hE, hE]; exact worker_Next_ok P D w h hE hon
  · unfold nxB; rw [if_neg hE]
    exact (worker_Next_no P D _ w h rfl hE hhe).mono fun e w' ⟨h1, h2⟩ => ⟨_, h1, OwnX.nil _ _, h2⟩
set_option maxRecDepth 100000 in
set_option maxHeartbeats 4000000 in
theorem worker_Make (P : WorkP) (D : WorkD) (w : World) (h : WorkR w P D) (hon : D.op.length ≤ 800000000) :
    Calls Try.prog 9 #[P.val D] w fun e w' => ∃ v, e = .returned (.tuple #[.agg #[.int .i64 (mkB D).au, .int .i64 (mkB D).n, v], .int .i64 (mkE D)]) ∧ OwnX w' w.heap.size v (mkB D).tx ∧ Below w.heap.size w w' := by
  have H := Lib.hid h
  have HO := Lib.hid hon
  obtain ⟨⟨oA, on, oc⟩, ⟨tA, tn, tc⟩, ⟨eA, en, ec⟩, ⟨rA, rn, rc⟩⟩ := P
  obtain ⟨z, hz⟩ : ∃ z, mayW D = z := ⟨_, rfl⟩
  have HZ := Lib.hid hz
  clear h hon
  have e1 : mkE D = cond z (nxE D) 1 := by unfold mkE; rw [hz]; cases z <;> rfl
  have e2 : mkB D = cond z (nxB D) noB := by unfold mkB; rw [hz]; cases z <;> rfl
  rw [e1, e2]
  clear e1 e2
  show Calls Try.prog 9 #[.agg #[.int .i64 D.id, .int .i64 D.nodes, .int .i64 D.next, .slice oA on oc, .int .i64 D.age, .int .i64 D.clock, .slice tA tn tc, .slice eA en ec, .slice rA rn rc]] w _
  go_enter Try.func9, Try.ntmps9
  go_wp2_with fail
  have hX1 : Blk ((w.alloc (.cells #[.int .i64 D.id, .int .i64 D.nodes, .int .i64 D.next, .slice oA on oc, .int .i64 D.age, .int .i64 D.clock, .slice tA tn tc, .slice eA en ec, .slice rA rn rc] 27)).alloc (.cells #[.int .i64 0, .int .i64 0, .slice none 0 0] 40)) w.heap.size 27 [.int .i64 D.id, .int .i64 D.nodes, .int .i64 D.next, .slice oA on oc, .int .i64 D.age, .int .i64 D.clock, .slice tA tn tc, .slice eA en ec, .slice rA rn rc] := (Blk.new w 27 [.int .i64 D.id, .int .i64 D.nodes, .int .i64 D.next, .slice oA on oc, .int .i64 D.age, .int .i64 D.clock, .slice tA tn tc, .slice eA en ec, .slice rA rn rc]).up (belA)
  have hX3 : Blk ((w.alloc (.cells #[.int .i64 D.id, .int .i64 D.nodes, .int .i64 D.next, .slice oA on oc, .int .i64 D.age, .int .i64 D.clock, .slice tA tn tc, .slice eA en ec, .slice rA rn rc] 27)).alloc (.cells #[.int .i64 0, .int .i64 0, .slice none 0 0] 40)) (w.heap.size + 1) 40 [.int .i64 0, .int .i64 0, .slice none 0 0] := by
    have := Blk.new (w.alloc (.cells #[.int .i64 D.id, .int .i64 D.nodes, .int .i64 D.next, .slice oA on oc, .int .i64 D.age, .int .i64 D.clock, .slice tA tn tc, .slice eA en ec, .slice rA rn rc] 27)) 40 [.int .i64 0, .int .i64 0, .slice none 0 0]
    simpa using this
  have hbX : Below w.heap.size w ((w.alloc (.cells #[.int .i64 D.id, .int .i64 D.nodes, .int .i64 D.next, .slice oA on oc, .int .i64 D.age, .int .i64 D.clock, .slice tA tn tc, .slice eA en ec, .slice rA rn rc] 27)).alloc (.cells #[.int .i64 0, .int .i64 0, .slice none 0 0] 40)) := belA
  generalize ((w.alloc (.cells #[.int .i64 D.id, .int .i64 D.nodes, .int .i64 D.next, .slice oA on oc, .int .i64 D.age, .int .i64 D.clock, .slice tA tn tc, .slice eA en ec, .slice rA rn rc] 27)).alloc (.cells #[.int .i64 0, .int .i64 0, .slice none 0 0] 40)) = X at *
  have HX1 := Lib.hid hX1
  have HX3 := Lib.hid hX3
  clear hX1 hX3
  refine (worker_May ⟨⟨oA, on, oc⟩, ⟨tA, tn, tc⟩, ⟨eA, en, ec⟩, ⟨rA, rn, rc⟩⟩ D z _ (H.out.up hbX) HZ.out).mono ?_
  rintro e w1 ⟨rfl, hb1⟩
  have hY1 := HX1.out.up hb1
  have hbY := bel_trans hbX hb1
  have l1 := hY1.lt
  have a_0 := (hY1.box).2 0 _ rfl; have a_1 := (hY1.box).2 1 _ rfl; have a_2 := (hY1.box).2 2 _ rfl; have a_3 := (hY1.box).2 3 _ rfl; have a_4 := (hY1.box).2 4 _ rfl; have a_5 := (hY1.box).2 5 _ rfl; have a_6 := (hY1.box).2 6 _ rfl; have a_7 := (hY1.box).2 7 _ rfl; have a_8 := (hY1.box).2 8 _ rfl
  have hY3 := HX3.out.up hb1
  have l3 := hY3.lt
  have f3 := hY3.frozen
  have c_0 := (hY3.box).2 0 _ rfl; have c_1 := (hY3.box).2 1 _ rfl; have c_2 := (hY3.box).2 2 _ rfl
  have HY3 := Lib.hid hY3
  clear hY1 HX1 hY3 HX3 hb1 hbX
  cases z
  · clear hz
    go_wp2_with fail
    exact bodyPost_ret (v := .tuple #[.agg #[.int .i64 0, .int .i64 0, .slice none 0 0], .int .i64 1]) (by simp [results, Try.results9, go_sem, *]) rfl ⟨_, rfl, OwnX.nil _ _, belB⟩
  · have hm := (mayW_iff.1 hz).2.2.2.2.2.2.2.1
    have HM := Lib.hid hm
    have HNL := Lib.hid (nxB_len D)
    clear hz hm
    go_wp2_with (go_at_call 23; refine (worker_Next ⟨⟨oA, on, oc⟩, ⟨tA, tn, tc⟩, ⟨eA, en, ec⟩, ⟨rA, rn, rc⟩⟩ D _ (H.out.up hbY) HO.out HM.out).mono ?_; rintro e w2 ⟨v, rfl, ho, hb2⟩; obtain ⟨vA, vc, rfl, hq1, hq2, hq3⟩ := ho.txs (Nat.le_trans HNL.out (by decide)); have HO2 := Lib.hid ho; clear hq1 hq2 hq3; have hZ3 := HY3.out.up hb2; have m3 := hZ3.lt; have f4 := hZ3.frozen; have d_0 := (hZ3.box).2 0 _ rfl; have d_1 := (hZ3.box).2 1 _ rfl; have d_2 := (hZ3.box).2 2 _ rfl; have hlB := hZ3.lt; clear ho hZ3 c_0 c_1 c_2)
    go_wp2_with fail
    exact bodyPost_ret (v := .tuple #[.agg #[.int .i64 (nxB D).au, .int .i64 (nxB D).n, .slice vA (nxB D).tx.length vc], .int .i64 (nxE D)]) (by simp [results, Try.results9, go_sem, *]) rfl ⟨.slice vA (nxB D).tx.length vc, rfl, ((((HO2.out.set3 (o := 0) l3 _).set3 (o := 1) l3 _).set3 (o := 2) l3 _)).mono (by have := hbY.size; omega), belB⟩
end Go.Proofs.Ytgfakefcmbpboaa
namespace Go.Proofs.Ytgfakefcmbpboaa
open Go.RowKit
set_option linter.unusedSimpArgs false
set_option linter.unusedVariables false

theorem wtP_nil (n : Int) : WtP [] n := ⟨fun x hx => (by cases hx), List.Pairwise.nil⟩
theorem hdP_nil : HdP [] := ⟨fun x hx => (by cases hx), List.Pairwise.nil⟩
theorem seen_nil : Seen [] := seenB_iff.1 seenB_nil
theorem big_of {D : WorkD} (h : WMay D) (hw : BigW D.wa) (hr : D.re.length ≤ 1000) : BigD D :=
  ⟨Nat.le_trans h.opl (by decide), hw, ⟨Nat.le_trans h.hel (by decide), fun x hx => by have := (bmT_iff.1 (h.he.1 x hx).2).2.2.2.2.2.1; omega⟩, by omega⟩
end Go.Proofs.Ytgfakefcmbpboaa
