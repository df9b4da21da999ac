/- A batch is sealed, at the program: Sealed. -/
import Derived.Test.YtgfakefcmbpboaaGreatShWsa
namespace Go.Proofs.YtgfakefcmbpboaaGreat
open Go.RowKit
set_option linter.unusedSimpArgs false
set_option linter.unusedVariables false

set_option maxRecDepth 100000 in
set_option maxHeartbeats 8000000 in
theorem worker_Sealed_ok (P : WorkP) (D : WorkD) (d : Int) (w : World) (h : WorkR w P D) (hs : BigD D) (hm : mayW D = true) (hE : nxE D = 0) (hd : digS d = true) (hk : khasH D.he d = false) (hre : D.re.length + D.wa.length ≤ 700000000) :
    Calls Tryz.prog 47 #[P.val D, .int .i64 d] w fun e w' => ∃ P' A n c, e = .returned (.tuple #[P'.val (sealD D d), .slice A n c, .int .i64 0]) ∧ WorkO w' w.heap.size P' (sealD D d) ∧ OwnMs w' w.heap.size (.slice A n c) (askL D.id d (nxD D) [] D.nodes.toNat) ∧ Below w.heap.size w w' := by
  have H := Lib.hid h
  have HS := Lib.hid hs
  have HM := Lib.hid hm
  have HE := Lib.hid hE
  have HD := Lib.hid hd
  have HK := Lib.hid hk
  obtain ⟨⟨oA, on, oc⟩, ⟨tA, tn, tc⟩, ⟨eA, en, ec⟩, ⟨rA, rn, rc⟩⟩ := P
  clear h hs hm hE hd hk
  show Calls Tryz.prog 47 #[.agg #[.int .i64 D.id, .int .i64 D.nodes, .int .i64 D.next, .slice oA on oc, .int .i64 D.age, .int .i64 D.clock, .slice tA tn tc, .slice eA en ec, .slice rA rn rc], .int .i64 d] w _
  go_enter Tryz.func47, Tryz.ntmps47
  go_wp2_with fail
  have hX1 : Blk ((w.alloc (.cells #[.int .i64 D.id, .int .i64 D.nodes, .int .i64 D.next, .slice oA on oc, .int .i64 D.age, .int .i64 D.clock, .slice tA tn tc, .slice eA en ec, .slice rA rn rc] 27)).alloc (.cells #[.int .i64 0, .int .i64 0, .int .i64 0, .slice none 0 0, .int .i64 0, .int .i64 0, .slice none 0 0, .slice none 0 0, .slice none 0 0] 27)) w.heap.size 27 [.int .i64 D.id, .int .i64 D.nodes, .int .i64 D.next, .slice oA on oc, .int .i64 D.age, .int .i64 D.clock, .slice tA tn tc, .slice eA en ec, .slice rA rn rc] := (Blk.new w 27 [.int .i64 D.id, .int .i64 D.nodes, .int .i64 D.next, .slice oA on oc, .int .i64 D.age, .int .i64 D.clock, .slice tA tn tc, .slice eA en ec, .slice rA rn rc]).up (by (repeat (first | (with_reducible exact Below.refl _ _) | (with_reducible assumption) | (with_reducible apply bel_alloc) | (with_reducible apply bel_drew) | (with_reducible apply bel_drewN) | (with_reducible refine bel_trans ?_ (by with_reducible assumption)) | (with_reducible refine bel_trans ?_ (HF.out _)) | (with_reducible refine bel_set ?_ (by simp) _) | (with_reducible refine bel_set ?_ (by simp; omega) _) | (with_reducible refine bel_set ?_ (by omega) _))))
  have hX3 : Blk ((w.alloc (.cells #[.int .i64 D.id, .int .i64 D.nodes, .int .i64 D.next, .slice oA on oc, .int .i64 D.age, .int .i64 D.clock, .slice tA tn tc, .slice eA en ec, .slice rA rn rc] 27)).alloc (.cells #[.int .i64 0, .int .i64 0, .int .i64 0, .slice none 0 0, .int .i64 0, .int .i64 0, .slice none 0 0, .slice none 0 0, .slice none 0 0] 27)) (w.heap.size + 1) 27 [.int .i64 0, .int .i64 0, .int .i64 0, .slice none 0 0, .int .i64 0, .int .i64 0, .slice none 0 0, .slice none 0 0, .slice none 0 0] := by
    have := Blk.new (w.alloc (.cells #[.int .i64 D.id, .int .i64 D.nodes, .int .i64 D.next, .slice oA on oc, .int .i64 D.age, .int .i64 D.clock, .slice tA tn tc, .slice eA en ec, .slice rA rn rc] 27)) 27 [.int .i64 0, .int .i64 0, .int .i64 0, .slice none 0 0, .int .i64 0, .int .i64 0, .slice none 0 0, .slice none 0 0, .slice none 0 0]
    simpa using this
  have hbX : Below w.heap.size w ((w.alloc (.cells #[.int .i64 D.id, .int .i64 D.nodes, .int .i64 D.next, .slice oA on oc, .int .i64 D.age, .int .i64 D.clock, .slice tA tn tc, .slice eA en ec, .slice rA rn rc] 27)).alloc (.cells #[.int .i64 0, .int .i64 0, .int .i64 0, .slice none 0 0, .int .i64 0, .int .i64 0, .slice none 0 0, .slice none 0 0, .slice none 0 0] 27)) := by (repeat (first | (with_reducible exact Below.refl _ _) | (with_reducible assumption) | (with_reducible apply bel_alloc) | (with_reducible apply bel_drew) | (with_reducible apply bel_drewN) | (with_reducible refine bel_trans ?_ (by with_reducible assumption)) | (with_reducible refine bel_trans ?_ (HF.out _)) | (with_reducible refine bel_set ?_ (by simp) _) | (with_reducible refine bel_set ?_ (by simp; omega) _) | (with_reducible refine bel_set ?_ (by omega) _)))
  generalize ((w.alloc (.cells #[.int .i64 D.id, .int .i64 D.nodes, .int .i64 D.next, .slice oA on oc, .int .i64 D.age, .int .i64 D.clock, .slice tA tn tc, .slice eA en ec, .slice rA rn rc] 27)).alloc (.cells #[.int .i64 0, .int .i64 0, .int .i64 0, .slice none 0 0, .int .i64 0, .int .i64 0, .slice none 0 0, .slice none 0 0, .slice none 0 0] 27)) = X at *
  have HX1 := Lib.hid hX1
  have HX3 := Lib.hid hX3
  clear hX1 hX3
  refine (worker_May ⟨⟨oA, on, oc⟩, ⟨tA, tn, tc⟩, ⟨eA, en, ec⟩, ⟨rA, rn, rc⟩⟩ D true _ (H.out.up hbX) HM.out).mono ?_
  rintro e w1 ⟨rfl, hb1⟩
  have hY1 := HX1.out.up hb1
  have HY3 := Lib.hid (HX3.out.up hb1)
  have hbY := bel_trans hbX hb1
  have hly := hY1.lt
  have a_0 := (hY1.box).2 0 _ rfl; have a_1 := (hY1.box).2 1 _ rfl; have a_2 := (hY1.box).2 2 _ rfl; have a_3 := (hY1.box).2 3 _ rfl; have a_4 := (hY1.box).2 4 _ rfl; have a_5 := (hY1.box).2 5 _ rfl; have a_6 := (hY1.box).2 6 _ rfl; have a_7 := (hY1.box).2 7 _ rfl; have a_8 := (hY1.box).2 8 _ rfl
  clear hY1 HX1 HX3 hb1 hbX
  go_wp2_with fail
  refine (worker_Own ⟨⟨oA, on, oc⟩, ⟨tA, tn, tc⟩, ⟨eA, en, ec⟩, ⟨rA, rn, rc⟩⟩ D _ (H.out.up hbY) HS.out).mono ?_
  rintro e w3 ⟨⟨⟨oA2, on2, oc2⟩, ⟨tA2, tn2, tc2⟩, ⟨eA2, en2, ec2⟩, ⟨rA2, rn2, rc2⟩⟩, he3, hO3, -, hb3⟩
  simp only [WorkP.val] at he3
  subst he3
  have HO3 := Lib.hid (hO3.mono (B' := w.heap.size) hbY.size)
  have HV3 := Lib.hid (HY3.out.up hb3)
  have hbV := bel_trans hbY hb3
  clear hO3 HY3 hb3 hbY hly a_0 a_1 a_2 a_3 a_4 a_5 a_6 a_7 a_8
  go_wp2_with fail
  refine (worker_Seal_ok ⟨⟨oA2, on2, oc2⟩, ⟨tA2, tn2, tc2⟩, ⟨eA2, en2, ec2⟩, ⟨rA2, rn2, rc2⟩⟩ D d w.heap.size _ HO3.out HS.out hbV.size HM.out HE.out HD.out HK.out hre).mono ?_
  rintro e w4 ⟨⟨⟨oA3, on3, oc3⟩, ⟨tA3, tn3, tc3⟩, ⟨eA3, en3, ec3⟩, ⟨rA3, rn3, rc3⟩⟩, A, n, c, he4, hO4, hM4, hb4⟩
  simp only [WorkP.val] at he4
  subst he4
  have hU3 := HV3.out.up hb4
  have hbU := bel_trans hbV hb4
  have HO4 := Lib.hid hO4
  have HM4 := Lib.hid (hM4.mono hbV.size)
  have fU := hU3.frozen
  have lU := hU3.lt
  have v_0 := (hU3.box).2 0 _ rfl; have v_1 := (hU3.box).2 1 _ rfl; have v_2 := (hU3.box).2 2 _ rfl; have v_3 := (hU3.box).2 3 _ rfl; have v_4 := (hU3.box).2 4 _ rfl; have v_5 := (hU3.box).2 5 _ rfl; have v_6 := (hU3.box).2 6 _ rfl; have v_7 := (hU3.box).2 7 _ rfl; have v_8 := (hU3.box).2 8 _ rfl
  have HU3 := Lib.hid hU3
  clear hU3 HV3 HO3 hbV hb4 hO4 hM4
  go_wp2_with fail
  have hR5 := set9 HU3.out rfl (.int .i64 (sealD D d).id) (.int .i64 (sealD D d).nodes) (.int .i64 (sealD D d).next) (.slice oA3 on3 oc3) (.int .i64 (sealD D d).age) (.int .i64 (sealD D d).clock) (.slice tA3 tn3 tc3) (.slice eA3 en3 ec3) (.slice rA3 rn3 rc3)
  have r_0 := (hR5.box).2 0 _ rfl; have r_1 := (hR5.box).2 1 _ rfl; have r_2 := (hR5.box).2 2 _ rfl; have r_3 := (hR5.box).2 3 _ rfl; have r_4 := (hR5.box).2 4 _ rfl; have r_5 := (hR5.box).2 5 _ rfl; have r_6 := (hR5.box).2 6 _ rfl; have r_7 := (hR5.box).2 7 _ rfl; have r_8 := (hR5.box).2 8 _ rfl
  have htz := TKeep.sets9 HU3.out (.int .i64 (sealD D d).id) (.int .i64 (sealD D d).nodes) (.int .i64 (sealD D d).next) (.slice oA3 on3 oc3) (.int .i64 (sealD D d).age) (.int .i64 (sealD D d).clock) (.slice tA3 tn3 tc3) (.slice eA3 en3 ec3) (.slice rA3 rn3 rc3)
  have hWO := HO4.out.tk htz twWork
  have hMO := HM4.out.tk htz twWork
  exact bodyPost_ret (v := .tuple #[.agg #[.int .i64 (sealD D d).id, .int .i64 (sealD D d).nodes, .int .i64 (sealD D d).next, .slice oA3 on3 oc3, .int .i64 (sealD D d).age, .int .i64 (sealD D d).clock, .slice tA3 tn3 tc3, .slice eA3 en3 ec3, .slice rA3 rn3 rc3], .slice A n c, .int .i64 0]) (by simp [results, Tryz.results47, go_sem, r_0, r_1, r_2, r_3, r_4, r_5, r_6, r_7, r_8]) rfl ⟨⟨⟨oA3, on3, oc3⟩, ⟨tA3, tn3, tc3⟩, ⟨eA3, en3, ec3⟩, ⟨rA3, rn3, rc3⟩⟩, A, n, c, rfl, hWO, hMO, bel_sets9 hbU (by omega) (.int .i64 (sealD D d).id) (.int .i64 (sealD D d).nodes) (.int .i64 (sealD D d).next) (.slice oA3 on3 oc3) (.int .i64 (sealD D d).age) (.int .i64 (sealD D d).clock) (.slice tA3 tn3 tc3) (.slice eA3 en3 ec3) (.slice rA3 rn3 rc3)⟩
end Go.Proofs.YtgfakefcmbpboaaGreat
