/- worker.Got: kind 2 (it is told that a batch is kept). -/
import Derived.Test.YtgfakefcmbpboaaSxWgi
import Derived.Test.YtgfakefcmbpboaaSxWhd
namespace Go.Proofs.Ytgfakefcmbpboaa
open Go.RowKit
set_option linter.unusedSimpArgs false
set_option linter.unusedVariables false

theorem rises_of2 {l : List Int} {n : Int} (h : RisesIn l n) : Rises l := fun j hj => h.1 j (j + 1) (by omega) hj
set_option maxRecDepth 100000 in
set_option maxHeartbeats 8000000 in
theorem worker_Got2 (P : WorkP) (D : WorkD) (Pm : MsgP) (M : MsgD) (B : Nat) (w : World) (hO : WorkO w B P D) (hs : BigD D) (hak : ∀ x ∈ D.wa, x.ak.length ≤ 50000) (hre : D.re.length + D.wa.length ≤ 800000000) (hfr : 1 ≤ M.fr ∧ M.fr ≤ D.nodes) (hB : B ≤ w.heap.size) (hm : mayW D = true) (hk : M.ki = 2) :
    Calls Try.prog 27 #[P.val D, M18 Pm M] w fun e w' => ∃ P' A n c, e = .returned (.tuple #[P'.val (toldD D M.fr M.di), .slice A n c]) ∧ WorkO w' B P' (toldD D M.fr M.di) ∧ OwnMs w' w.heap.size (.slice A n c) [] ∧ Below w.heap.size w w' := by
  obtain ⟨⟨oA, on, oc⟩, ⟨tA, tn, tc⟩, ⟨eA, en, ec⟩, ⟨rA, rn, rc⟩⟩ := P
  obtain ⟨⟨bA, bn, bc⟩, ⟨⟨xA, xn, xc⟩, ⟨yA, yn, yc⟩⟩, ⟨⟨⟨cA, cn, cd⟩, ⟨dA, dn, dc⟩⟩, ⟨sA, sn, sc⟩⟩, ⟨zA, zn, zc⟩⟩ := Pm
  obtain ⟨ki, fr, tt, di, b, hd, cc, ds⟩ := M
  dsimp only at hk hfr
  subst hk
  have HM := Lib.hid (mayW_iff.1 hm)
  have HW := Lib.hid (hO.work hs)
  have HO0 := Lib.hid hO
  have HS := Lib.hid hs
  obtain ⟨lo, hlo⟩ : ∃ lo, kposH D.he di = lo := ⟨_, rfl⟩
  obtain ⟨yh, hyh⟩ : ∃ y, khasH D.he di = y := ⟨_, rfl⟩
  have HLO := Lib.hid hlo
  have HYH := Lib.hid hyh
  have HEN : Hid (D.he.length = en) := Lib.hid HW.out.he.1
  have hen : en ≤ 1024 := by rw [← HEN.out]; exact HM.out.2.2.2.2.2.2.2.1
  have HSO : Hid (SortedH D.he) := Lib.hid (hdB_iff.1 HM.out.2.2.2.2.2.2.2.2.2.2.1).sorted
  have HSW : Hid (SortedW D.wa) := Lib.hid (WaitsOk.sorted HM.out.2.2.2.2.2.2.2.2.2.1)
  have HRI : Hid (∀ x ∈ D.wa, RisesIn x.ak D.nodes) := Lib.hid (waits_rise HM.out.2.2.2.2.2.2.2.2.2.1)
  have HRS : Hid (∀ x ∈ D.wa, Rises x.ak) := Lib.hid (fun x hx => rises_of2 (HRI.out x hx))
  have HAK : Hid (∀ x ∈ D.wa, x.ak.length ≤ 1000000) := Lib.hid (fun x hx => Nat.le_trans (hak x hx) (by decide))
  have HBW : Hid (BigW D.wa) := Lib.hid hs.wa
  have HRI2 := Lib.hid (ackW_rise (d := di) HRI.out hfr.1 hfr.2)
  have HBG2 := Lib.hid (ackW_big (who := fr) (d := di) HBW.out HAK.out)
  have HRL : Hid (D.re.length + (ackW D.wa fr di).length ≤ 800000000) := Lib.hid (by rw [ackW_len]; exact hre)
  have hn1 : 1 ≤ D.nodes := (isS_bd HM.out.1).1
  have hn16 : D.nodes ≤ 16 := (isS_bd HM.out.1).2
  dsimp only
  clear hO hs hm hlo hyh hak hre hfr
  show Calls Try.prog 27 #[.agg #[.int .i64 D.id, .int .i64 D.nodes, .int .i64 D.next, .slice oA on oc, .int .i64 D.age, .int .i64 D.clock, .slice tA tn tc, .slice eA en ec, .slice rA rn rc], .agg #[.int .i64 2, .int .i64 fr, .int .i64 tt, .int .i64 di, .int .i64 b.au, .int .i64 b.n, .slice bA bn bc, .int .i64 hd.au, .int .i64 hd.ro, .slice xA xn xc, .slice yA yn yc, .int .i64 cc.h.au, .int .i64 cc.h.ro, .slice cA cn cd, .slice dA dn dc, .int .i64 cc.di, .slice sA sn sc, .slice zA zn zc]] w _
  go_enter Try.func27, Try.ntmps27
  go_upto_region 2 with fail
  refine wp_world (fun W hW => ?_)
  have HBM : Hid (Blk W (w.heap.size + 1) 54 [.int .i64 2, .int .i64 fr, .int .i64 tt, .int .i64 di, .int .i64 b.au, .int .i64 b.n, .slice bA bn bc, .int .i64 hd.au, .int .i64 hd.ro, .slice xA xn xc, .slice yA yn yc, .int .i64 cc.h.au, .int .i64 cc.h.ro, .slice cA cn cd, .slice dA dn dc, .int .i64 cc.di, .slice sA sn sc, .slice zA zn zc]) := Lib.hid (by rw [hW]; exact ((Blk.new1 w 27 54 [.int .i64 D.id, .int .i64 D.nodes, .int .i64 D.next, .slice oA on oc, .int .i64 D.age, .int .i64 D.clock, .slice tA tn tc, .slice eA en ec, .slice rA rn rc] [.int .i64 2, .int .i64 fr, .int .i64 tt, .int .i64 di, .int .i64 b.au, .int .i64 b.n, .slice bA bn bc, .int .i64 hd.au, .int .i64 hd.ro, .slice xA xn xc, .slice yA yn yc, .int .i64 cc.h.au, .int .i64 cc.h.ro, .slice cA cn cd, .slice dA dn dc, .int .i64 cc.di, .slice sA sn sc, .slice zA zn zc]).up (bel_alloc (Below.refl _ _))).up (bel_alloc (Below.refl _ _)))
  have HR : Hid (Blk W (w.heap.size + 1 + 1) 27 [.int .i64 0, .int .i64 0, .int .i64 0, .slice none 0 0, .int .i64 0, .int .i64 0, .slice none 0 0, .slice none 0 0, .slice none 0 0]) := Lib.hid (by
    rw [hW]
    have h9 := Blk.new1 (w.alloc (.cells #[.int .i64 D.id, .int .i64 D.nodes, .int .i64 D.next, .slice oA on oc, .int .i64 D.age, .int .i64 D.clock, .slice tA tn tc, .slice eA en ec, .slice rA rn rc] 27)) 54 27 [.int .i64 2, .int .i64 fr, .int .i64 tt, .int .i64 di, .int .i64 b.au, .int .i64 b.n, .slice bA bn bc, .int .i64 hd.au, .int .i64 hd.ro, .slice xA xn xc, .slice yA yn yc, .int .i64 cc.h.au, .int .i64 cc.h.ro, .slice cA cn cd, .slice dA dn dc, .int .i64 cc.di, .slice sA sn sc, .slice zA zn zc] [.int .i64 0, .int .i64 0, .int .i64 0, .slice none 0 0, .int .i64 0, .int .i64 0, .slice none 0 0, .slice none 0 0, .slice none 0 0]
    rw [show (w.alloc (.cells #[.int .i64 D.id, .int .i64 D.nodes, .int .i64 D.next, .slice oA on oc, .int .i64 D.age, .int .i64 D.clock, .slice tA tn tc, .slice eA en ec, .slice rA rn rc] 27)).heap.size = w.heap.size + 1 by simp] at h9
    exact h9.up (bel_alloc (Below.refl _ _)))
  have HG : Hid (Blk W (w.heap.size + 1 + 1 + 1) 97 [.int .i64 D.id, .int .i64 D.nodes, .int .i64 D.next, .slice oA on oc, .int .i64 D.age, .int .i64 D.clock, .slice tA tn tc, .slice eA en ec, .slice rA rn rc, .slice none 0 0]) := Lib.hid (by
    rw [hW]
    have h9 := Blk.new1 ((w.alloc (.cells #[.int .i64 D.id, .int .i64 D.nodes, .int .i64 D.next, .slice oA on oc, .int .i64 D.age, .int .i64 D.clock, .slice tA tn tc, .slice eA en ec, .slice rA rn rc] 27)).alloc (.cells #[.int .i64 2, .int .i64 fr, .int .i64 tt, .int .i64 di, .int .i64 b.au, .int .i64 b.n, .slice bA bn bc, .int .i64 hd.au, .int .i64 hd.ro, .slice xA xn xc, .slice yA yn yc, .int .i64 cc.h.au, .int .i64 cc.h.ro, .slice cA cn cd, .slice dA dn dc, .int .i64 cc.di, .slice sA sn sc, .slice zA zn zc] 54)) 27 97 [.int .i64 0, .int .i64 0, .int .i64 0, .slice none 0 0, .int .i64 0, .int .i64 0, .slice none 0 0, .slice none 0 0, .slice none 0 0] [.int .i64 D.id, .int .i64 D.nodes, .int .i64 D.next, .slice oA on oc, .int .i64 D.age, .int .i64 D.clock, .slice tA tn tc, .slice eA en ec, .slice rA rn rc, .slice none 0 0]
    rwa [show ((w.alloc (.cells #[.int .i64 D.id, .int .i64 D.nodes, .int .i64 D.next, .slice oA on oc, .int .i64 D.age, .int .i64 D.clock, .slice tA tn tc, .slice eA en ec, .slice rA rn rc] 27)).alloc (.cells #[.int .i64 2, .int .i64 fr, .int .i64 tt, .int .i64 di, .int .i64 b.au, .int .i64 b.n, .slice bA bn bc, .int .i64 hd.au, .int .i64 hd.ro, .slice xA xn xc, .slice yA yn yc, .int .i64 cc.h.au, .int .i64 cc.h.ro, .slice cA cn cd, .slice dA dn dc, .int .i64 cc.di, .slice sA sn sc, .slice zA zn zc] 54)).heap.size = w.heap.size + 1 + 1 by simp] at h9)
  have hbW : Below w.heap.size w W := by rw [hW]; exact bel_alloc (bel_alloc (bel_alloc (bel_alloc (Below.refl _ _))))
  clear hW
  obtain ⟨gs, hgs⟩ : ∃ g, g = w.heap.size + 1 + 1 + 1 := ⟨_, rfl⟩
  obtain ⟨gr, hgr⟩ : ∃ g, g = w.heap.size + 1 + 1 := ⟨_, rfl⟩
  obtain ⟨gm, hgm⟩ : ∃ g, g = w.heap.size + 1 := ⟨_, rfl⟩
  rw [← hgs] at HG
  rw [← hgr] at HR
  rw [← hgm] at HBM
  have hgs3 : gs = w.heap.size + 3 := by rw [hgs]
  have hgr3 : gr = w.heap.size + 2 := by rw [hgr]
  try rw [← hgs]
  try rw [← hgr]
  try rw [← hgm]
  try rw [← hgs3]
  try rw [← hgr3]
  have hgmr : gm < gr := by omega
  have hgrs : gr < gs := by omega
  have hgwm : w.heap.size < gm := by omega
  clear hgs hgr hgm hgs3 hgr3
  obtain ⟨S, hSd⟩ : ∃ S : World → Prop, S = fun Q => Q.cell? ⟨gs, 7, none⟩ = some (.slice eA en ec) ∧ Q.cell? ⟨gm, 3, none⟩ = some (.int .i64 di) := ⟨_, rfl⟩
  have hS1 : ∀ Q, S Q → Q.cell? ⟨gs, 7, none⟩ = some (.slice eA en ec) := fun Q h => by rw [hSd] at h; exact h.1
  have hS2 : ∀ Q, S Q → Q.cell? ⟨gm, 3, none⟩ = some (.int .i64 di) := fun Q h => by rw [hSd] at h; exact h.2
  have hS : ∀ Q, Below W.heap.size W Q → S Q := fun Q hQ => by rw [hSd]; exact ⟨(HG.out.up hQ).box.2 7 _ rfl, (HBM.out.up hQ).box.2 3 _ rfl⟩
  clear hSd
  refine wp_region_held_drew (S := S) (by kernel_rfl) (hS _ (bel_drew (Below.refl _ _))) (fun hHeld => ?_)
  have hbd : Below W.heap.size W W.drew := bel_drew (Below.refl _ _)
  have hZ := hHeld
  generalize W.drew = Z at *
  (refine wpAnyH_tk 0 (some 17) (v := ?_) rfl rfl ?_ ?_; rotate_left; (focus (intro wq hSw; clear hSw; go_simp; all_goals (with_reducible rfl))); simp only [Act.put, lzT, lzZ, lzS])
  (refine wpAnyH_tk 1 (some 18) (v := ?_) rfl rfl ?_ ?_; rotate_left; (focus (intro wq hSw; clear hSw; go_simp; all_goals (with_reducible rfl))); simp only [Act.put, lzT, lzZ, lzS])
  (refine wpAnyH_tk 2 (some 19) (v := ?_) rfl rfl ?_ ?_; rotate_left; (focus (intro wq hSw; clear hSw; go_simp; all_goals (with_reducible rfl))); simp only [Act.put, lzT, lzZ, lzS])
  (refine wpAnyH_tk 3 (some 20) (v := ?_) rfl rfl ?_ ?_; rotate_left; (focus (intro wq hSw; clear hSw; go_simp; all_goals (with_reducible rfl))); simp only [Act.put, lzT, lzZ, lzS])
  (refine wpAnyH_tk 4 (some 21) (v := ?_) rfl rfl ?_ ?_; rotate_left; (focus (intro wq hSw; have q1 := hS1 wq hSw; clear hSw; go_simp; all_goals (with_reducible rfl))); simp only [Act.put, lzT, lzZ, lzS])
  (refine wpAnyH_tk 5 (some 22) (v := ?_) rfl rfl ?_ ?_; rotate_left; (focus (intro wq hSw; clear hSw; go_simp; all_goals (with_reducible rfl))); simp only [Act.put, lzT, lzZ, lzS])
  (refine wpAnyH_tk 6 (some 23) (v := ?_) rfl rfl ?_ ?_; rotate_left; (focus (intro wq hSw; have q1 := hS2 wq hSw; clear hSw; go_simp; all_goals (with_reducible rfl))); simp only [Act.put, lzT, lzZ, lzS])
  refine wpAnyH_ready (rs := [7]) (by kernel_rfl) (by simp) ?_
  refine AllReadyH.cons (o := _) rfl (fun K hK => ?_) AllReadyH.nil
  go_simp
  (go_at_call 50; refine (worker_At eA en ec D.he di lo yh _ (HW.out.he.up (bel_trans hbW hbd)) HSO.out (by omega) HLO.out HYH.out).mono ?_; rintro e w5 ⟨rfl, hb5⟩)
  refine hK.out _ _ (hS _ (bel_trans hbd hb5)) (fun hHeld => ?_)
  clear hK K
  (try simp only [Act.put, lzT, lzZ, lzS])
  (refine wpAnyH_tk 8 (some 16) (v := ?_) rfl rfl ?_ ?_; rotate_left; (focus (intro wq hSw; clear hSw; go_simp; all_goals (with_reducible rfl))); simp only [Act.put, lzT, lzZ, lzS])
  (refine wpAnyH_tk 9 (some 25) (v := ?_) rfl rfl ?_ ?_; rotate_left; (focus (intro wq hSw; clear hSw; go_simp; all_goals (with_reducible rfl))); simp only [Act.put, lzT, lzZ, lzS])
  (refine wpAnyH_tk 10 (some 26) (v := ?_) rfl rfl ?_ ?_; rotate_left; (focus (intro wq hSw; clear hSw; go_simp; all_goals (with_reducible rfl))); simp only [Act.put, lzT, lzZ, lzS])
  (refine wpAnyH_tk 11 (some 7) (v := ?_) rfl rfl ?_ ?_; rotate_left; (focus (intro wq hSw; clear hSw; go_simp; all_goals (with_reducible rfl))); simp only [Act.put, lzT, lzZ, lzS])
  (refine wpAnyH_tk 12 (some 8) (v := ?_) rfl rfl ?_ ?_; rotate_left; (focus (intro wq hSw; clear hSw; go_simp; all_goals (with_reducible rfl))); simp only [Act.put, lzT, lzZ, lzS])
  refine wpAnyH_done (by kernel_rfl) ?_ _
  obtain ⟨X, hX⟩ : ∃ X, X = w5 := ⟨_, rfl⟩
  rw [← hX] at hb5 ⊢
  have hbX0 := bel_trans hbW (bel_trans hbd hb5)
  have HGX := Lib.hid (HG.out.up (bel_trans hbd hb5))
  have HMX := Lib.hid (HBM.out.up (bel_trans hbd hb5))
  have HRX := Lib.hid (HR.out.up (bel_trans hbd hb5))
  have hgs0 : w.heap.size ≤ gs := by omega
  have hBX : B ≤ X.heap.size := Nat.le_trans hB hbX0.size
  clear hX hb5 hbd hHeld hZ HG HBM HR hbW hS hS1 hS2
  have m0 := HMX.out.box.2 0 _ rfl
  have m1 := HMX.out.box.2 1 _ rfl
  have m3 := HMX.out.box.2 3 _ rfl
  have hml := HMX.out.lt
  have hsl := HGX.out.lt
  go_upto_region 20 with (go_at_call 60; refine (step_ack gs B (.int .i64 D.id) (.int .i64 D.nodes) (.int .i64 D.next) (.slice oA on oc) (.int .i64 D.age) (.int .i64 D.clock) (.slice eA en ec) (.slice rA rn rc) (.slice none 0 0) tA tn tc D.wa fr di X HGX.out hBX (HO0.out.up hbX0).wa HSW.out HBW.out HRS.out HAK.out).mono ?_; rintro e wy ⟨A3, n3, c3, rfl, hbt3, hG3, hW3⟩)
  clear m0 m1 m3 hml
  have htY : TKeep 97 X wy := TKeep.of_but HGX.out hbt3
  have HRY := Lib.hid (HRX.out.tk htY (by decide))
  have hgs0x : gs ≤ X.heap.size := Nat.le_of_lt HGX.out.lt
  have hbY : Below w.heap.size w wy := hbX0.trans ((hbt3.below hgs0x).mono hgs0)
  have hBY : B ≤ wy.heap.size := Nat.le_trans hBX hbt3.size
  have HOY := Lib.hid ((HO0.out.up hbX0).tk htY twStep)
  have HGY := Lib.hid hG3
  have HWY := Lib.hid hW3
  clear hbt3 hG3 hW3 htY hbX0 HGX HMX HRX hBX hsl hgs0x
  have hgl := HGY.out.lt
  go_upto_region 21 with (go_at_call 55; refine (step_kept gs B oA A3 eA rA none on oc n3 c3 en ec rn rc 0 0 ({ D with wa := ackW D.wa fr di } : WorkD) wy HGY.out hBY HWY.out HOY.out.re HBG2.out HRL.out HRI2.out hn1 hn16).mono ?_; rintro e wk ⟨Xk, A1, n1, c1, A2, n2, c2, rfl, rfl, hbk, hwk, hrk⟩)
  clear hgl
  have hGk := HGY.out.up hbk
  have hGk1 := hGk.set_ 6 (.slice A1 n1 c1)
  have HGZ := Lib.hid (hGk1.set_ 8 (.slice A2 n2 c2))
  have ht1 := TKeep.setg (o := 6) (u := .slice A1 n1 c1) hGk
  have ht2 := TKeep.setg (o := 8) (u := .slice A2 n2 c2) hGk1
  have ht12 := ht1.trans ht2
  have htZ := (TKeep.of_below hbk).trans ht12
  have HRZ := Lib.hid (HRY.out.tk htZ (by decide))
  have hgw : w.heap.size ≤ gs := hgs0
  have hbZ : Below w.heap.size w ((Xk.setCell ⟨gs, 6, none⟩ (.slice A1 n1 c1)).setCell ⟨gs, 8, none⟩ (.slice A2 n2 c2)) := ((hbY.trans (hbk.mono hbY.size)).setCell (p := ⟨gs, 6, none⟩) hgw _).setCell (p := ⟨gs, 8, none⟩) hgw _
  have hOZ0 := HOY.out.tk htZ twStep
  have HOZ : Hid (WorkO ((Xk.setCell ⟨gs, 6, none⟩ (.slice A1 n1 c1)).setCell ⟨gs, 8, none⟩ (.slice A2 n2 c2)) B ⟨⟨oA, on, oc⟩, ⟨A1, n1, c1⟩, ⟨eA, en, ec⟩, ⟨A2, n2, c2⟩⟩ (toldD D fr di)) := Lib.hid ⟨hOZ0.op, hwk.tk ht12 twStep, hOZ0.he, own_tkw (show World.ownsRow _ B 3 1 _ _ _ from hrk.mono hBY) ht12 twStep (by decide) (by decide)⟩
  rename_i K hK
  exact got_tail gr gs D.id D.nodes D.next D.age D.clock oA A1 eA A2 none on oc n1 c1 en ec n2 c2 0 0 _ hK (by omega) HGZ.out HRZ.out (fun W' ht hbn' => ⟨⟨⟨oA, on, oc⟩, ⟨A1, n1, c1⟩, ⟨eA, en, ec⟩, ⟨A2, n2, c2⟩⟩, none, 0, 0, rfl, HOZ.out.tk ht twWork, OwnMs.nil _ _, hbZ.trans (hbn' _ (by omega))⟩)
end Go.Proofs.Ytgfakefcmbpboaa
