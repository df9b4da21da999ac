/- A batch is sealed, at the program: Sealed. -/
import Derived.Test.YtgfakefcmbpboaaSxWsa
namespace Go.Proofs.Ytgfakefcmbpboaa
open Go.RowKit
set_option linter.unusedSimpArgs false
set_option linter.unusedVariables false

set_option maxRecDepth 100000 in
set_option maxHeartbeats 8000000 in
theorem worker_Sealed_ok (P : WorkP) (D : WorkD) (d : Int) (w : World) (h : WorkR w P D) (hs : BigD D) (hm : mayW D = true) (hE : nxE D = 0) (hd : digS d = true) (hk : khasH D.he d = false) (hre : D.re.length + D.wa.length ≤ 700000000) :
    Calls Try.prog 10 #[P.val D, .int .i64 d] w fun e w' => ∃ P' A n c, e = .returned (.tuple #[P'.val (sealD D d), .slice A n c, .int .i64 0]) ∧ WorkO w' w.heap.size P' (sealD D d) ∧ OwnMs w' w.heap.size (.slice A n c) (askL D.id d (nxD D) [] D.nodes.toNat) ∧ Below w.heap.size w w' := by
  have H := Lib.hid h
  have HS := Lib.hid hs
  have HM := Lib.hid hm
  have HE := Lib.hid hE
  have HD := Lib.hid hd
  have HK := Lib.hid hk
  obtain ⟨⟨oA, on, oc⟩, ⟨tA, tn, tc⟩, ⟨eA, en, ec⟩, ⟨rA, rn, rc⟩⟩ := P
  clear h hs hm hE hd hk
  show Calls Try.prog 10 #[.agg #[.int .i64 D.id, .int .i64 D.nodes, .int .i64 D.next, .slice oA on oc, .int .i64 D.age, .int .i64 D.clock, .slice tA tn tc, .slice eA en ec, .slice rA rn rc], .int .i64 d] w _
  go_enter Try.func10, Try.ntmps10
  go_wp2_with fail
  have hX1 : Blk ((w.alloc (.cells #[.int .i64 D.id, .int .i64 D.nodes, .int .i64 D.next, .slice oA on oc, .int .i64 D.age, .int .i64 D.clock, .slice tA tn tc, .slice eA en ec, .slice rA rn rc] 27)).alloc (.cells #[.int .i64 0, .int .i64 0, .int .i64 0, .slice none 0 0, .int .i64 0, .int .i64 0, .slice none 0 0, .slice none 0 0, .slice none 0 0] 27)) w.heap.size 27 [.int .i64 D.id, .int .i64 D.nodes, .int .i64 D.next, .slice oA on oc, .int .i64 D.age, .int .i64 D.clock, .slice tA tn tc, .slice eA en ec, .slice rA rn rc] := (Blk.new w 27 [.int .i64 D.id, .int .i64 D.nodes, .int .i64 D.next, .slice oA on oc, .int .i64 D.age, .int .i64 D.clock, .slice tA tn tc, .slice eA en ec, .slice rA rn rc]).up (belA)
  have hX3 : Blk ((w.alloc (.cells #[.int .i64 D.id, .int .i64 D.nodes, .int .i64 D.next, .slice oA on oc, .int .i64 D.age, .int .i64 D.clock, .slice tA tn tc, .slice eA en ec, .slice rA rn rc] 27)).alloc (.cells #[.int .i64 0, .int .i64 0, .int .i64 0, .slice none 0 0, .int .i64 0, .int .i64 0, .slice none 0 0, .slice none 0 0, .slice none 0 0] 27)) (w.heap.size + 1) 27 [.int .i64 0, .int .i64 0, .int .i64 0, .slice none 0 0, .int .i64 0, .int .i64 0, .slice none 0 0, .slice none 0 0, .slice none 0 0] := by
    have := Blk.new (w.alloc (.cells #[.int .i64 D.id, .int .i64 D.nodes, .int .i64 D.next, .slice oA on oc, .int .i64 D.age, .int .i64 D.clock, .slice tA tn tc, .slice eA en ec, .slice rA rn rc] 27)) 27 [.int .i64 0, .int .i64 0, .int .i64 0, .slice none 0 0, .int .i64 0, .int .i64 0, .slice none 0 0, .slice none 0 0, .slice none 0 0]
    simpa using this
  have hbX : Below w.heap.size w ((w.alloc (.cells #[.int .i64 D.id, .int .i64 D.nodes, .int .i64 D.next, .slice oA on oc, .int .i64 D.age, .int .i64 D.clock, .slice tA tn tc, .slice eA en ec, .slice rA rn rc] 27)).alloc (.cells #[.int .i64 0, .int .i64 0, .int .i64 0, .slice none 0 0, .int .i64 0, .int .i64 0, .slice none 0 0, .slice none 0 0, .slice none 0 0] 27)) := belA
  generalize ((w.alloc (.cells #[.int .i64 D.id, .int .i64 D.nodes, .int .i64 D.next, .slice oA on oc, .int .i64 D.age, .int .i64 D.clock, .slice tA tn tc, .slice eA en ec, .slice rA rn rc] 27)).alloc (.cells #[.int .i64 0, .int .i64 0, .int .i64 0, .slice none 0 0, .int .i64 0, .int .i64 0, .slice none 0 0, .slice none 0 0, .slice none 0 0] 27)) = X at *
  have HX1 := Lib.hid hX1
  have HX3 := Lib.hid hX3
  clear hX1 hX3
  refine (worker_May ⟨⟨oA, on, oc⟩, ⟨tA, tn, tc⟩, ⟨eA, en, ec⟩, ⟨rA, rn, rc⟩⟩ D true _ (H.out.up hbX) HM.out).mono ?_
  rintro e w1 ⟨rfl, hb1⟩
  have hY1 := HX1.out.up hb1
  have HY3 := Lib.hid (HX3.out.up hb1)
  have hbY := bel_trans hbX hb1
  have hly := hY1.lt
  have a_0 := (hY1.box).2 0 _ rfl; have a_1 := (hY1.box).2 1 _ rfl; have a_2 := (hY1.box).2 2 _ rfl; have a_3 := (hY1.box).2 3 _ rfl; have a_4 := (hY1.box).2 4 _ rfl; have a_5 := (hY1.box).2 5 _ rfl; have a_6 := (hY1.box).2 6 _ rfl; have a_7 := (hY1.box).2 7 _ rfl; have a_8 := (hY1.box).2 8 _ rfl
  clear hY1 HX1 HX3 hb1 hbX
  go_wp2_with fail
  refine (worker_Own ⟨⟨oA, on, oc⟩, ⟨tA, tn, tc⟩, ⟨eA, en, ec⟩, ⟨rA, rn, rc⟩⟩ D _ (H.out.up hbY) HS.out).mono ?_
  rintro e w3 ⟨⟨⟨oA2, on2, oc2⟩, ⟨tA2, tn2, tc2⟩, ⟨eA2, en2, ec2⟩, ⟨rA2, rn2, rc2⟩⟩, he3, hO3, -, hb3⟩
  simp only [WorkP.val] at he3
  subst he3
  have HO3 := Lib.hid (hO3.mono (B' := w.heap.size) hbY.size)
  have HV3 := Lib.hid (HY3.out.up hb3)
  have hbV := bel_trans hbY hb3
  clear hO3 HY3 hb3 hbY hly a_0 a_1 a_2 a_3 a_4 a_5 a_6 a_7 a_8
  go_wp2_with fail
  refine (worker_Seal_ok ⟨⟨oA2, on2, oc2⟩, ⟨tA2, tn2, tc2⟩, ⟨eA2, en2, ec2⟩, ⟨rA2, rn2, rc2⟩⟩ D d w.heap.size _ HO3.out HS.out hbV.size HM.out HE.out HD.out HK.out hre).mono ?_
  rintro e w4 ⟨⟨⟨oA3, on3, oc3⟩, ⟨tA3, tn3, tc3⟩, ⟨eA3, en3, ec3⟩, ⟨rA3, rn3, rc3⟩⟩, A, n, c, he4, hO4, hM4, hb4⟩
  simp only [WorkP.val] at he4
  subst he4
  have hU3 := HV3.out.up hb4
  have hbU := bel_trans hbV hb4
  have HO4 := Lib.hid hO4
  have HM4 := Lib.hid (hM4.mono hbV.size)
  have fU := hU3.frozen
  have lU := hU3.lt
  have v_0 := (hU3.box).2 0 _ rfl; have v_1 := (hU3.box).2 1 _ rfl; have v_2 := (hU3.box).2 2 _ rfl; have v_3 := (hU3.box).2 3 _ rfl; have v_4 := (hU3.box).2 4 _ rfl; have v_5 := (hU3.box).2 5 _ rfl; have v_6 := (hU3.box).2 6 _ rfl; have v_7 := (hU3.box).2 7 _ rfl; have v_8 := (hU3.box).2 8 _ rfl
  have HU3 := Lib.hid hU3
  clear hU3 HV3 HO3 hbV hb4 hO4 hM4
  go_wp2_with fail
  have hR5 := set9 HU3.out rfl (.int .i64 (sealD D d).id) (.int .i64 (sealD D d).nodes) (.int .i64 (sealD D d).next) (.slice oA3 on3 oc3) (.int .i64 (sealD D d).age) (.int .i64 (sealD D d).clock) (.slice tA3 tn3 tc3) (.slice eA3 en3 ec3) (.slice rA3 rn3 rc3)
  have r_0 := (hR5.box).2 0 _ rfl; have r_1 := (hR5.box).2 1 _ rfl; have r_2 := (hR5.box).2 2 _ rfl; have r_3 := (hR5.box).2 3 _ rfl; have r_4 := (hR5.box).2 4 _ rfl; have r_5 := (hR5.box).2 5 _ rfl; have r_6 := (hR5.box).2 6 _ rfl; have r_7 := (hR5.box).2 7 _ rfl; have r_8 := (hR5.box).2 8 _ rfl
  have htz := TKeep.sets9 HU3.out (.int .i64 (sealD D d).id) (.int .i64 (sealD D d).nodes) (.int .i64 (sealD D d).next) (.slice oA3 on3 oc3) (.int .i64 (sealD D d).age) (.int .i64 (sealD D d).clock) (.slice tA3 tn3 tc3) (.slice eA3 en3 ec3) (.slice rA3 rn3 rc3)
  have hWO := HO4.out.tk htz twWork
  have hMO := HM4.out.tk htz twWork
  exact bodyPost_ret (v := .tuple #[.agg #[.int .i64 (sealD D d).id, .int .i64 (sealD D d).nodes, .int .i64 (sealD D d).next, .slice oA3 on3 oc3, .int .i64 (sealD D d).age, .int .i64 (sealD D d).clock, .slice tA3 tn3 tc3, .slice eA3 en3 ec3, .slice rA3 rn3 rc3], .slice A n c, .int .i64 0]) (by simp [results, Try.results10, go_sem, r_0, r_1, r_2, r_3, r_4, r_5, r_6, r_7, r_8]) rfl ⟨⟨⟨oA3, on3, oc3⟩, ⟨tA3, tn3, tc3⟩, ⟨eA3, en3, ec3⟩, ⟨rA3, rn3, rc3⟩⟩, A, n, c, rfl, hWO, hMO, bel_sets9 hbU (by omega) (.int .i64 (sealD D d).id) (.int .i64 (sealD D d).nodes) (.int .i64 (sealD D d).next) (.slice oA3 on3 oc3) (.int .i64 (sealD D d).age) (.int .i64 (sealD D d).clock) (.slice tA3 tn3 tc3) (.slice eA3 en3 ec3) (.slice rA3 rn3 rc3)⟩
end Go.Proofs.Ytgfakefcmbpboaa
namespace Go.Proofs.Ytgfakefcmbpboaa
open Go.RowKit
set_option linter.unusedSimpArgs false
set_option linter.unusedVariables false

set_option maxRecDepth 100000 in
set_option maxHeartbeats 1000000 in
theorem law13_num (x : Int) (w : World) : Calls Try.prog 7 #[.int .i64 x] w fun e w' => e = .returned (.int .i64 x) ∧ w = w' := by
  go_enter Try.func7, Try.ntmps7
  go_wp2
  go_ret
  exact ⟨rfl, rfl⟩
def wkT : TxD := ⟨1, 1, ⟨#[107]⟩, ⟨#[]⟩⟩
def wkD (k : Nat) : WorkD := ⟨1, 1, 1, [wkT], (k : Int), (k : Int), [], [], []⟩
theorem wkT_ok : txS wkT = true := by decide
theorem wkD_0 : addOp newD wkT = wkD 0 := rfl
theorem wkD_tick {k : Nat} (h : k < 4) : tickD (wkD k) = wkD (k + 1) := by
  unfold tickD wkD
  have e1 : min ((k : Int) + 1) 1099511627776 = ((k + 1 : Nat) : Int) := by omega
  simp [e1]
theorem wkD_big (k : Nat) : BigD (wkD k) := ⟨by simp [wkD], ⟨by simp [wkD], fun x h => by simp [wkD] at h⟩, ⟨by simp [wkD], fun x h => by simp [wkD] at h⟩, by simp [wkD]⟩
theorem wkD_may {k : Nat} (h : k ≤ 4) : mayW (wkD k) = true := mayW_iff.2 ⟨(by decide : isS 1 = true), by simp [wkD], by simp [wkD], numB_iff.2 (by simp [wkD]), numB_iff.2 (by simp [wkD]; omega), numB_iff.2 (by simp [wkD]; omega), by simp [wkD], by simp [wkD], txsB_iff.2 (fun j hj => by
  have : j = 0 := by simpa [wkD] using hj
  subst this
  exact wkT_ok), wtB_nil _, hdB_nil, seenB_nil⟩
theorem khasW_nil (d : Int) : khasW [] d = false := by
  cases h : khasW [] d
  · rfl
  · exact absurd (dec_iff.1 h).1 (by simp)
theorem khasH_nil (d : Int) : khasH [] d = false := by
  cases h : khasH [] d
  · rfl
  · exact absurd (dec_iff.1 h).1 (by simp)
theorem wkD_seal : sealD (wkD 4) 7 = ⟨1, 1, 2, [], 0, 4, [], [⟨7, nxD (wkD 4)⟩], [7]⟩ := by
  have hw : sealW (wkD 4) 7 = [⟨7, [1]⟩] := by
    unfold sealW
    rw [show (wkD 4).wa = [] from rfl, khasW_nil]
    rfl
  have hq : qS 1 = 1 := by unfold qS; decide
  have h1 : keptW 1 [⟨7, [1]⟩] = [] := by unfold keptW; simp [hq]
  have h2 : keptR 1 [] [⟨7, [1]⟩] = [7] := by simp [keptR, hq, memS]
  unfold sealD
  rw [hw]
  show (⟨1, 1, 1 + 1, [wkT].drop 8, 0, ((4 : Nat) : Int), keptW 1 [⟨7, [1]⟩], insAt [] (kposH [] 7) ⟨7, nxD (wkD 4)⟩, keptR 1 [] [⟨7, [1]⟩]⟩ : WorkD) = _
  rw [h1, h2]
  rfl
theorem wkD_ask : askL 1 7 (nxD (wkD 4)) [] 1 = [] := by
  unfold askL askL
  simp
theorem wkD_next : nxE (wkD 4) = 0 := by
  unfold nxE wkD
  simp
theorem dig7 : digS 7 = true := by decide
theorem wkD_has : khasH (wkD 4).he 7 = false := khasH_nil 7
theorem wkD_short : (wkD 4).re.length + (wkD 4).wa.length ≤ 700000000 := by simp [wkD]
theorem IntsR_one {w : World} {g : Nat} {x : Int} (h : BoxR w g [.int .i64 x]) : IntsR w (some ⟨g, 0, none⟩) 1 [x] :=
  ⟨rfl, by omega, fun _ => ⟨g, 0, rfl, h.1, fun j hj => by
    obtain rfl : j = 0 := by omega
    exact h.2 0 _ rfl⟩⟩
set_option maxRecDepth 100000 in
set_option maxHeartbeats 400000 in
theorem law13_wakes (w : World) : Calls Try.prog 16 #[] w fun e w' => e = .returned (.bool true) ∧ Below w.heap.size w w' := by
  have HT := Lib.hid wkT_ok
  go_enter Try.func16, Try.ntmps16
  go_wp2_with fail
  refine (worker_New11 _).mono ?_
  rintro e w1 ⟨rfl, hb1⟩
  have hbx : Below w1.heap.size w1 (w1.alloc (.cells #[.int .i64 1, .int .i64 1, .int .i64 1, .slice none 0 0, .int .i64 0, .int .i64 0, .slice none 0 0, .slice none 0 0, .slice none 0 0] 27)) := belA
  go_wp2_with fail
  refine (worker_Add_ok nilP newD wkT _ (nilP_new _) ⟨by decide, ⟨by decide, fun x h => by simp [newD] at h⟩, ⟨by decide, fun x h => by simp [newD] at h⟩, by decide⟩ newD_may HT.out (by decide)).mono ?_
  rintro e w2 ⟨⟨⟨oA, on, oc⟩, ⟨tA, tn, tc⟩, ⟨eA, en, ec⟩, ⟨rA, rn, rc⟩⟩, he2, hO2, hb2⟩
  rw [wkD_0] at he2 hO2
  have he2' : e = .returned (.tuple #[.agg #[.int .i64 1, .int .i64 1, .int .i64 1, .slice oA on oc, .int .i64 0, .int .i64 0, .slice tA tn tc, .slice eA en ec, .slice rA rn rc], .int .i64 0]) := he2
  clear he2
  subst he2'
  have hW2 : WorkR w2 ⟨⟨oA, on, oc⟩, ⟨tA, tn, tc⟩, ⟨eA, en, ec⟩, ⟨rA, rn, rc⟩⟩ (wkD 0) := hO2.work (wkD_big 0)
  have hN : Blk w2 w1.heap.size 27 [.int .i64 1, .int .i64 1, .int .i64 1, .slice none 0 0, .int .i64 0, .int .i64 0, .slice none 0 0, .slice none 0 0, .slice none 0 0] := (Blk.new w1 27 [.int .i64 1, .int .i64 1, .int .i64 1, .slice none 0 0, .int .i64 0, .int .i64 0, .slice none 0 0, .slice none 0 0, .slice none 0 0]).up hb2
  have hb2w : Below w.heap.size w w2 := bel_trans (bel_trans hb1 hbx) hb2
  obtain ⟨N, hNe⟩ : ∃ N, N = w1.heap.size := ⟨_, rfl⟩
  rw [← hNe] at hN ⊢
  have hNw : w.heap.size ≤ N := by rw [hNe]; exact hb1.size
  have hbw2s : w.heap.size ≤ (w1.alloc (.cells #[.int .i64 1, .int .i64 1, .int .i64 1, .slice none 0 0, .int .i64 0, .int .i64 0, .slice none 0 0, .slice none 0 0, .slice none 0 0] 27)).heap.size := Nat.le_trans hb1.size hbx.size
  clear hNe
  have HN := Lib.hid hN
  have hnf := hN.frozen
  have hnl := hN.lt
  have a_0 := (hN.box).2 0 _ rfl; have a_1 := (hN.box).2 1 _ rfl; have a_2 := (hN.box).2 2 _ rfl; have a_3 := (hN.box).2 3 _ rfl; have a_4 := (hN.box).2 4 _ rfl; have a_5 := (hN.box).2 5 _ rfl; have a_6 := (hN.box).2 6 _ rfl; have a_7 := (hN.box).2 7 _ rfl; have a_8 := (hN.box).2 8 _ rfl
  have hS := set9 hN rfl (.int .i64 1) (.int .i64 1) (.int .i64 1) (.slice oA on oc) (.int .i64 0) (.int .i64 0) (.slice tA tn tc) (.slice eA en ec) (.slice rA rn rc)
  have htS := TKeep.sets9 hN (.int .i64 1) (.int .i64 1) (.int .i64 1) (.slice oA on oc) (.int .i64 0) (.int .i64 0) (.slice tA tn tc) (.slice eA en ec) (.slice rA rn rc)
  have hbS := bel_sets9 hb2w hNw (.int .i64 1) (.int .i64 1) (.int .i64 1) (.slice oA on oc) (.int .i64 0) (.int .i64 0) (.slice tA tn tc) (.slice eA en ec) (.slice rA rn rc)
  have hOS := hO2.tk htS twWork
  have HS := Lib.hid hS
  have HOS := Lib.hid (WorkO.mono (B' := w.heap.size) hOS hbw2s)
  have HBS := Lib.hid hbS
  clear hS htS hbS hOS hO2 hW2 hN HN hb2
  go_upto_region 4 with fail
  obtain ⟨Y, hY⟩ : ∃ Y, Y = (((((((((w2.setCell ⟨N, 0, none⟩ (.int .i64 1)).setCell ⟨N, 1, none⟩ (.int .i64 1)).setCell ⟨N, 2, none⟩ (.int .i64 1)).setCell ⟨N, 3, none⟩ (.slice oA on oc)).setCell ⟨N, 4, none⟩ (.int .i64 0)).setCell ⟨N, 5, none⟩ (.int .i64 0)).setCell ⟨N, 6, none⟩ (.slice tA tn tc)).setCell ⟨N, 7, none⟩ (.slice eA en ec)).setCell ⟨N, 8, none⟩ (.slice rA rn rc)) := ⟨_, rfl⟩
  rw [← hY] at HS HOS HBS ⊢
  clear hY a_0 a_1 a_2 a_3 a_4 a_5 a_6 a_7 a_8 hnf hnl hbw2s
  go_loopw [4] (fun iv wr => ∃ (k : Nat) (P : WorkP), k ≤ 4 ∧ iv = .int .i64 k ∧ Hid (Blk wr N 27 [.int .i64 1, .int .i64 1, .int .i64 1, .slice P.op.A P.op.n P.op.c, .int .i64 k, .int .i64 k, .slice P.wa.A P.wa.n P.wa.c, .slice P.he.A P.he.n P.he.c, .slice P.re.A P.re.n P.re.c]) ∧ Hid (WorkO wr w.heap.size P (wkD k)) ∧ Below w.heap.size w wr) (fun iv _ => 4 - (intOf iv).toNat)
  case atStart => exact ⟨0, ⟨⟨oA, on, oc⟩, ⟨tA, tn, tc⟩, ⟨eA, en, ec⟩, ⟨rA, rn, rc⟩⟩, by omega, rfl, HS, HOS, HBS.out⟩
  case round =>
    clear HS HOS HBS hb2w
    obtain ⟨k, P, hk, rfl, HB, HO, hbw⟩ := hrel
    (obtain ⟨wk, hwk⟩ : ∃ x, x = wr := ⟨_, rfl⟩); subst hwk
    obtain ⟨⟨oA, on, oc⟩, ⟨tA, tn, tc⟩, ⟨eA, en, ec⟩, ⟨rA, rn, rc⟩⟩ := P
    have hNl := HB.out.lt
    have a_0 := (HB.out.box).2 0 _ rfl; have a_1 := (HB.out.box).2 1 _ rfl; have a_2 := (HB.out.box).2 2 _ rfl; have a_3 := (HB.out.box).2 3 _ rfl; have a_4 := (HB.out.box).2 4 _ rfl; have a_5 := (HB.out.box).2 5 _ rfl; have a_6 := (HB.out.box).2 6 _ rfl; have a_7 := (HB.out.box).2 7 _ rfl; have a_8 := (HB.out.box).2 8 _ rfl
    by_cases hlt : k < 4
    · go_wp2_with fail
      refine (worker_Tick0 ⟨⟨oA, on, oc⟩, ⟨tA, tn, tc⟩, ⟨eA, en, ec⟩, ⟨rA, rn, rc⟩⟩ (wkD k) _ (HO.out.work (wkD_big k)) (wkD_big k) (wkD_may (by omega)) rfl (by show (0 : Int) ≤ (k : Int); omega) (by show (k : Int) ≤ _; omega) (by show (0 : Int) ≤ (k : Int); omega) (by show (k : Int) ≤ _; omega)).mono ?_
      rintro e w5 ⟨⟨⟨oA5, on5, oc5⟩, ⟨tA5, tn5, tc5⟩, ⟨eA5, en5, ec5⟩, ⟨rA5, rn5, rc5⟩⟩, he5, hO5, hb5⟩
      rw [wkD_tick hlt] at he5 hO5
      have he5' : e = .returned (.tuple #[.agg #[.int .i64 1, .int .i64 1, .int .i64 1, .slice oA5 on5 oc5, .int .i64 ((k : Int) + 1), .int .i64 ((k : Int) + 1), .slice tA5 tn5 tc5, .slice eA5 en5 ec5, .slice rA5 rn5 rc5], .slice none 0 0, .int .i64 0]) := he5
      clear he5
      subst he5'
      have hN5 := HB.out.up hb5
      have HN5 := Lib.hid hN5
      have HO5 := Lib.hid (hO5.mono (B' := w.heap.size) hbw.size)
      have hn5 := hN5.lt
      have hf5 := hN5.frozen
      clear a_0 a_1 a_2 a_3 a_4 a_5 a_6 a_7 a_8 hNl hO5
      have a_0 := (hN5.box).2 0 _ rfl; have a_1 := (hN5.box).2 1 _ rfl; have a_2 := (hN5.box).2 2 _ rfl; have a_3 := (hN5.box).2 3 _ rfl; have a_4 := (hN5.box).2 4 _ rfl; have a_5 := (hN5.box).2 5 _ rfl; have a_6 := (hN5.box).2 6 _ rfl; have a_7 := (hN5.box).2 7 _ rfl; have a_8 := (hN5.box).2 8 _ rfl
      have hb5w : Below w.heap.size w w5 := bel_trans hbw hb5
      clear hN5 hb5
      go_wp2_with (go_at_call 7; refine (law13_num _ _).mono ?_; rintro e w' ⟨rfl, rfl⟩)
      have hS5 := set9 HN5.out rfl (.int .i64 1) (.int .i64 1) (.int .i64 1) (.slice oA5 on5 oc5) (.int .i64 ((k : Int) + 1)) (.int .i64 ((k : Int) + 1)) (.slice tA5 tn5 tc5) (.slice eA5 en5 ec5) (.slice rA5 rn5 rc5)
      have ht5 := TKeep.sets9 HN5.out (.int .i64 1) (.int .i64 1) (.int .i64 1) (.slice oA5 on5 oc5) (.int .i64 ((k : Int) + 1)) (.int .i64 ((k : Int) + 1)) (.slice tA5 tn5 tc5) (.slice eA5 en5 ec5) (.slice rA5 rn5 rc5)
      have hO6 := HO5.out.tk ht5 twWork
      have hk1 : k + 1 ≤ 4 := hlt
      have hb6 := bel_sets9 hb5w hNw (.int .i64 1) (.int .i64 1) (.int .i64 1) (.slice oA5 on5 oc5) (.int .i64 ((k : Int) + 1)) (.int .i64 ((k : Int) + 1)) (.slice tA5 tn5 tc5) (.slice eA5 en5 ec5) (.slice rA5 rn5 rc5)
      have hkk : (Value.int .i64 ((k : Int) + 1)) = .int .i64 ((k + 1 : Nat) : Int) := by rw [Int.natCast_add]; rfl
      clear ht5 HN5 HO5 hb5w a_0 a_1 a_2 a_3 a_4 a_5 a_6 a_7 a_8 HB HO
      (first | (go_round; (case rel => exact ⟨k + 1, ⟨⟨oA5, on5, oc5⟩, ⟨tA5, tn5, tc5⟩, ⟨eA5, en5, ec5⟩, ⟨rA5, rn5, rc5⟩⟩, hk1, hkk, Lib.hid (hS5.up (bel_alloc (Below.refl _ _))), Lib.hid (hO6.up (bel_alloc (Below.refl _ _))), bel_alloc hb6⟩); (case measure => (simp [intOf] <;> omega))) | (go_roundw; (case rel => exact ⟨k + 1, ⟨⟨oA5, on5, oc5⟩, ⟨tA5, tn5, tc5⟩, ⟨eA5, en5, ec5⟩, ⟨rA5, rn5, rc5⟩⟩, hk1, hkk, Lib.hid (hS5.up (bel_alloc (Below.refl _ _))), Lib.hid (hO6.up (bel_alloc (Below.refl _ _))), bel_alloc hb6⟩); (case measure => (simp [intOf] <;> omega))) | (refine ⟨?_, by simp [intOf] <;> omega⟩; (repeat apply Exists.intro); refine ⟨?rel, ?fr⟩; (case fr => ((repeat' apply And.intro) <;> rfl)); (case rel => exact ⟨k + 1, ⟨⟨oA5, on5, oc5⟩, ⟨tA5, tn5, tc5⟩, ⟨eA5, en5, ec5⟩, ⟨rA5, rn5, rc5⟩⟩, hk1, hkk, Lib.hid (hS5.up (bel_alloc (Below.refl _ _))), Lib.hid (hO6.up (bel_alloc (Below.refl _ _))), bel_alloc hb6⟩)))
    · obtain rfl : k = 4 := by omega
      go_wp2_with fail
      refine (worker_Sealed_ok ⟨⟨oA, on, oc⟩, ⟨tA, tn, tc⟩, ⟨eA, en, ec⟩, ⟨rA, rn, rc⟩⟩ (wkD 4) 7 _ (HO.out.work (wkD_big 4)) (wkD_big 4) (wkD_may (Nat.le_refl 4)) wkD_next dig7 wkD_has wkD_short).mono ?_
      rintro e w5 ⟨⟨⟨oA5, on5, oc5⟩, ⟨tA5, tn5, tc5⟩, ⟨eA5, en5, ec5⟩, ⟨rA5, rn5, rc5⟩⟩, A, n, c, he5, hO5, hM5, hb5⟩
      rw [wkD_seal] at he5 hO5
      have he5' : e = .returned (.tuple #[.agg #[.int .i64 1, .int .i64 1, .int .i64 2, .slice oA5 on5 oc5, .int .i64 0, .int .i64 4, .slice tA5 tn5 tc5, .slice eA5 en5 ec5, .slice rA5 rn5 rc5], .slice A n c, .int .i64 0]) := he5
      clear he5
      subst he5'
      have hM6 : OwnMs w5 wk.heap.size (.slice A n c) [] := by rw [← wkD_ask]; exact hM5
      obtain ⟨ps, hT⟩ := hM6
      obtain ⟨A', c', e', _⟩ := hT.read
      injection e' with e1 e2 e3
      have e2' : n = 0 := e2
      subst e2'
      obtain ⟨A7, c7, e7, hi7, _⟩ := hO5.re.ints (by simp)
      unfold SlP.v at e7
      injection e7 with f1 f2 f3
      have f2' : rn5 = 1 := f2
      have f1' : rA5 = A7 := f1
      subst f2'
      have hi8 : IntsR w5 rA5 1 [7] := by rw [f1']; exact hi7
      have HI := Lib.hid hi8
      have hN5 := HB.out.up hb5
      have hn5 := hN5.lt
      have hf5 := hN5.frozen
      have HN5 := Lib.hid hN5
      have HO5 := Lib.hid hO5
      clear a_0 a_1 a_2 a_3 a_4 a_5 a_6 a_7 a_8 hNl hO5 hM5 hT e1 e2 e3 f1 f2 f3 f1' hi7 hi8
      have a_0 := (hN5.box).2 0 _ rfl; have a_1 := (hN5.box).2 1 _ rfl; have a_2 := (hN5.box).2 2 _ rfl; have a_3 := (hN5.box).2 3 _ rfl; have a_4 := (hN5.box).2 4 _ rfl; have a_5 := (hN5.box).2 5 _ rfl; have a_6 := (hN5.box).2 6 _ rfl; have a_7 := (hN5.box).2 7 _ rfl; have a_8 := (hN5.box).2 8 _ rfl
      have hb5w : Below w.heap.size w w5 := bel_trans hbw hb5
      clear hN5 hb5
      go_upto_region 11 with fail
      have hS6 := set9 HN5.out rfl (.int .i64 1) (.int .i64 1) (.int .i64 2) (.slice oA5 on5 oc5) (.int .i64 0) (.int .i64 4) (.slice tA5 tn5 tc5) (.slice eA5 en5 ec5) (.slice rA5 1 rc5)
      have ht6 := TKeep.sets9 HN5.out (.int .i64 1) (.int .i64 1) (.int .i64 2) (.slice oA5 on5 oc5) (.int .i64 0) (.int .i64 4) (.slice tA5 tn5 tc5) (.slice eA5 en5 ec5) (.slice rA5 1 rc5)
      have hb6 := bel_sets9 hb5w hNw (.int .i64 1) (.int .i64 1) (.int .i64 2) (.slice oA5 on5 oc5) (.int .i64 0) (.int .i64 4) (.slice tA5 tn5 tc5) (.slice eA5 en5 ec5) (.slice rA5 1 rc5)
      have hr6 : OwnI _ wk.heap.size (.slice rA5 1 rc5) [7] := own_tkw HO5.out.re ht6 twWork (by decide) (by decide)
      obtain ⟨Y6, hY6⟩ : ∃ Y, Y = (((((((((w5.setCell ⟨N, 0, none⟩ (.int .i64 1)).setCell ⟨N, 1, none⟩ (.int .i64 1)).setCell ⟨N, 2, none⟩ (.int .i64 2)).setCell ⟨N, 3, none⟩ (.slice oA5 on5 oc5)).setCell ⟨N, 4, none⟩ (.int .i64 0)).setCell ⟨N, 5, none⟩ (.int .i64 4)).setCell ⟨N, 6, none⟩ (.slice tA5 tn5 tc5)).setCell ⟨N, 7, none⟩ (.slice eA5 en5 ec5)).setCell ⟨N, 8, none⟩ (.slice rA5 1 rc5)) := ⟨_, rfl⟩
      rw [← hY6] at hS6 hb6 hr6 ⊢
      obtain ⟨A8, c8, e8, hi8, _⟩ := hr6.ints (by simp)
      injection e8 with g1 g2 g3
      rw [← g1] at hi8
      have HI8 := Lib.hid hi8
      have HB6 := Lib.hid hb6
      have hn6 := hS6.lt
      clear a_0 a_1 a_2 a_3 a_4 a_5 a_6 a_7 a_8 hY6 ht6 HN5 HO5 HI hf5 hn5 hb5w hi8 hr6 g1 g2 g3 hb6
      have a_0 := (hS6.box).2 0 _ rfl; have a_1 := (hS6.box).2 1 _ rfl; have a_2 := (hS6.box).2 2 _ rfl; have a_3 := (hS6.box).2 3 _ rfl; have a_4 := (hS6.box).2 4 _ rfl; have a_5 := (hS6.box).2 5 _ rfl; have a_6 := (hS6.box).2 6 _ rfl; have a_7 := (hS6.box).2 7 _ rfl; have a_8 := (hS6.box).2 8 _ rfl
      go_wp2_with (first
        | (go_at_call 7; refine (law13_num _ _).mono ?_; rintro e w' ⟨rfl, rfl⟩)
        | (go_at_call 15; refine (ref0_EqNumbers_same rA5 1 rc5 [7] (some ⟨Y6.heap.size, 0, none⟩) 1 1 _ (HI8.out.up (bel_alloc (Below.refl _ _))) (IntsR_one (BoxR.new Y6 [.int .i64 7] 3))).mono ?_; rintro e w7 ⟨rfl, hb7⟩))
      go_ret
      exact ⟨rfl, bel_trans HB6.out (bel_trans (bel_alloc (Below.refl _ _)) hb7)⟩
end Go.Proofs.Ytgfakefcmbpboaa
