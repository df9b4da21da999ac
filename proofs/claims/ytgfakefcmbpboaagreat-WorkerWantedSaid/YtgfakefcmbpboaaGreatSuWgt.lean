/- droverlaw13.takes; droverlaw13.step at 'do' 5. -/
import Derived.Test.YtgfakefcmbpboaaGreatSuWgr
namespace Go.Proofs.YtgfakefcmbpboaaGreat
set_option linter.all false
set_option maxRecDepth 100000
open Go.RowKit


set_option maxHeartbeats 8000000 in
theorem law13_takes (P : JScrP) (D : JScrD) (k0 : Int) (w : World) (h : JScrR w P D)
  (hstep : ∀ (MP : MsgP) (SP : SlP) (a : JobD) (X : World), Below w.heap.size w X → LightJ P D → a ∈ D.l → a.m.ki = k0 → MsgR X MP a.m → IntsR X SP.A SP.n a.l → Calls Tryz.prog 21 #[P.w.val D.w, J26 MP SP { a with doo := 5 }] X fun e w' => (∃ P' D', e = .returned (.tuple #[WorkP.val P' D', .bool true])) ∧ Below X.heap.size X w') :
  Calls Tryz.prog 15 #[P.val D, .int .i64 k0] w fun e w' => e = .returned (.bool true) ∧ Below w.heap.size w w' := by
 obtain ⟨⟨⟨oA, on, oc⟩, ⟨tA, tn, tc⟩, ⟨eA, en, ec⟩, ⟨rA, rn, rc⟩⟩, ⟨lA, ln, lc⟩⟩ := P
 have H := ħ h
 have HST := ħ hstep
 have hln : ln ≤ 17592186044416 := h.sl
 clear h hstep
 show Calls Tryz.prog 15 #[.agg #[.int .i64 D.w.id, .int .i64 D.w.nodes, .int .i64 D.w.next, .slice oA on oc, .int .i64 D.w.age, .int .i64 D.w.clock, .slice tA tn tc, .slice eA en ec, .slice rA rn rc, .slice lA ln lc], .int .i64 k0] w _
 go_enter Tryz.func15, Tryz.ntmps15
 go_wp2_with fail
 have hbX : Below w.heap.size w (w.alloc (.cells #[.int .i64 D.w.id, .int .i64 D.w.nodes, .int .i64 D.w.next, .slice oA on oc, .int .i64 D.w.age, .int .i64 D.w.clock, .slice tA tn tc, .slice eA en ec, .slice rA rn rc, .slice lA ln lc] 30)) := belA
 refine (law13_heavy ⟨⟨⟨oA, on, oc⟩, ⟨tA, tn, tc⟩, ⟨eA, en, ec⟩, ⟨rA, rn, rc⟩⟩, ⟨lA, ln, lc⟩⟩ D _ (H.out.up hbX)).mono ?_
 rintro e w1 ⟨x, rfl, hx, hb1⟩
 have hB1 : BoxR w1 w.heap.size [.int .i64 D.w.id, .int .i64 D.w.nodes, .int .i64 D.w.next, .slice oA on oc, .int .i64 D.w.age, .int .i64 D.w.clock, .slice tA tn tc, .slice eA en ec, .slice rA rn rc, .slice lA ln lc] := (BoxR.new w [.int .i64 D.w.id, .int .i64 D.w.nodes, .int .i64 D.w.next, .slice oA on oc, .int .i64 D.w.age, .int .i64 D.w.clock, .slice tA tn tc, .slice eA en ec, .slice rA rn rc, .slice lA ln lc] 30).up hb1
 have hb1w := bel_trans hbX hb1
 cases x
 case true =>
  clear hx
  go_wp2_with fail
  go_ret
  exact ⟨rfl, hb1w⟩
 case false =>
  have HLI := ħ (hx rfl)
  have HB1 := ħ hB1
  clear hx hB1 hb1 hbX
  go_wp2_with fail
  go_loopw [5] (fun iv wr => ∃ k : Nat, k ≤ ln ∧ iv = .int .i64 k ∧ Hid (BoxR wr w.heap.size [.int .i64 D.w.id, .int .i64 D.w.nodes, .int .i64 D.w.next, .slice oA on oc, .int .i64 D.w.age, .int .i64 D.w.clock, .slice tA tn tc, .slice eA en ec, .slice rA rn rc, .slice lA ln lc]) ∧ Below w.heap.size w wr) (fun iv _ => ln - (intOf iv).toNat)
  case atStart => exact ⟨0, Nat.zero_le _, rfl, HB1, hb1w⟩
  case round =>
   clear HB1 hb1w
   obtain ⟨k, hk, rfl, HB, hbw⟩ := hrel
   (obtain ⟨wk, hwk⟩ : ∃ x, x = wr := ⟨_, rfl⟩); subst hwk
   have hg1 := HB.out.1
   have b_0 := (HB.out).2 0 _ rfl; have b_1 := (HB.out).2 1 _ rfl; have b_2 := (HB.out).2 2 _ rfl; have b_3 := (HB.out).2 3 _ rfl; have b_4 := (HB.out).2 4 _ rfl; have b_5 := (HB.out).2 5 _ rfl; have b_6 := (HB.out).2 6 _ rfl; have b_7 := (HB.out).2 7 _ rfl; have b_8 := (HB.out).2 8 _ rfl; have b_9 := (HB.out).2 9 _ rfl
   by_cases hlt : k < ln
   ·by_cases h12 : k < 12
    ·have hd1 : decide ((k : Int) < (ln : Int)) = true := by simp only [decide_eq_true_eq]; omega
     have hd2 : decide ((k : Int) < 12) = true := by simp only [decide_eq_true_eq]; omega
     obtain ⟨b, off, rfl, hb, hc⟩ := (H.out.l.up hbw).2.2 (show 0 < ln by omega)
     obtain ⟨MP, SP, hat, hM, hI⟩ := hc k hlt
     obtain ⟨a, ha⟩ : ∃ a, jth D.l k = a := ⟨_, rfl⟩
     rw [ha] at hat hM hI
     have ham : a ∈ D.l := by rw [← ha]; exact getD_mem (by rw [H.out.l.1]; exact hlt)
     have HAT : Hid (wk.rangeAt b (off + k * 26) (jobCells MP SP a)) := ħ hat
     have HM := ħ hM
     have HI := ħ hI
     have HAM := ħ ham
     have hkl : (k : Int) < (ln : Int) := by omega
     have hk0 : (0 : Int) ≤ (k : Int) := by omega
     clear hc hat hM hI ha ham
     go_upto_region 6 with fail
     refine wp_region_list ?_
     simp only [List.toList_toArray]
     iterate 4 ((refine wpList_plain rfl (fun K hK => ?_)); go_simp; refine hK _ _ ?_; clear hK K; (try simp only [lz]))
     refine wpList_load_mid rfl 51 _ rfl b (off + k * 26) (by simp [Act.eval, Act.put]) (jobCells MP SP a) _ (HAT.out) Tryz.underlying51 (by rfl) (by kernel_rfl) ?_
     (try simp only [lz])
     refine wpList_plain rfl (fun K hK => ?_)
     go_simp
     refine hK _ _ ?_
     clear hK K
     (try simp only [lz])
     obtain ⟨N, hN⟩ : ∃ N, N = wk.heap.size := ⟨_, rfl⟩
     have hZB : Blk (wk.alloc (.cells #[.int .i64 0, .int .i64 0, .int .i64 0, .int .i64 0, .string ⟨#[]⟩, .string ⟨#[]⟩, .int .i64 0, .int .i64 0, .int .i64 0, .int .i64 0, .int .i64 0, .int .i64 0, .slice none 0 0, .int .i64 0, .int .i64 0, .slice none 0 0, .slice none 0 0, .int .i64 0, .int .i64 0, .slice none 0 0, .slice none 0 0, .int .i64 0, .slice none 0 0, .slice none 0 0, .bool false, .slice none 0 0] 51)) N 51 [.int .i64 0, .int .i64 0, .int .i64 0, .int .i64 0, .string ⟨#[]⟩, .string ⟨#[]⟩, .int .i64 0, .int .i64 0, .int .i64 0, .int .i64 0, .int .i64 0, .int .i64 0, .slice none 0 0, .int .i64 0, .int .i64 0, .slice none 0 0, .slice none 0 0, .int .i64 0, .int .i64 0, .slice none 0 0, .slice none 0 0, .int .i64 0, .slice none 0 0, .slice none 0 0, .bool false, .slice none 0 0] := by rw [hN]; exact Blk.new wk 51 [.int .i64 0, .int .i64 0, .int .i64 0, .int .i64 0, .string ⟨#[]⟩, .string ⟨#[]⟩, .int .i64 0, .int .i64 0, .int .i64 0, .int .i64 0, .int .i64 0, .int .i64 0, .slice none 0 0, .int .i64 0, .int .i64 0, .slice none 0 0, .slice none 0 0, .int .i64 0, .int .i64 0, .slice none 0 0, .slice none 0 0, .int .i64 0, .slice none 0 0, .slice none 0 0, .bool false, .slice none 0 0]
     have hth : (wk.alloc (.cells #[.int .i64 0, .int .i64 0, .int .i64 0, .int .i64 0, .string ⟨#[]⟩, .string ⟨#[]⟩, .int .i64 0, .int .i64 0, .int .i64 0, .int .i64 0, .int .i64 0, .int .i64 0, .slice none 0 0, .int .i64 0, .int .i64 0, .slice none 0 0, .slice none 0 0, .int .i64 0, .int .i64 0, .slice none 0 0, .slice none 0 0, .int .i64 0, .slice none 0 0, .slice none 0 0, .bool false, .slice none 0 0] 51)).there N 0 26 := fun j hj => ⟨by
      rw [Nat.zero_add, hZB.box.2 j _ (List.getElem?_eq_getElem (show j < ([.int .i64 0, .int .i64 0, .int .i64 0, .int .i64 0, .string ⟨#[]⟩, .string ⟨#[]⟩, .int .i64 0, .int .i64 0, .int .i64 0, .int .i64 0, .int .i64 0, .int .i64 0, .slice none 0 0, .int .i64 0, .int .i64 0, .slice none 0 0, .slice none 0 0, .int .i64 0, .int .i64 0, .slice none 0 0, .slice none 0 0, .int .i64 0, .slice none 0 0, .slice none 0 0, .bool false, .slice none 0 0] : List Value).length from hj))]; rfl, hZB.frozen _⟩
     have hba : Below wk.heap.size wk (wk.alloc (.cells #[.int .i64 0, .int .i64 0, .int .i64 0, .int .i64 0, .string ⟨#[]⟩, .string ⟨#[]⟩, .int .i64 0, .int .i64 0, .int .i64 0, .int .i64 0, .int .i64 0, .int .i64 0, .slice none 0 0, .int .i64 0, .int .i64 0, .slice none 0 0, .slice none 0 0, .int .i64 0, .int .i64 0, .slice none 0 0, .slice none 0 0, .int .i64 0, .slice none 0 0, .slice none 0 0, .bool false, .slice none 0 0] 51)) := belA
     rw [← hN]
     obtain ⟨Z, hZ⟩ : ∃ Z, Z = wk.alloc (.cells #[.int .i64 0, .int .i64 0, .int .i64 0, .int .i64 0, .string ⟨#[]⟩, .string ⟨#[]⟩, .int .i64 0, .int .i64 0, .int .i64 0, .int .i64 0, .int .i64 0, .int .i64 0, .slice none 0 0, .int .i64 0, .int .i64 0, .slice none 0 0, .slice none 0 0, .int .i64 0, .int .i64 0, .slice none 0 0, .slice none 0 0, .int .i64 0, .slice none 0 0, .slice none 0 0, .bool false, .slice none 0 0] 51) := ⟨_, rfl⟩
     rw [← hZ] at hZB hth hba ⊢
     have hNw : wk.heap.size ≤ N := by omega
     clear hN hZ
     refine wpList_store_mid rfl 51 _ _ rfl N 0 (jobCells MP SP a).toArray (by simp [Act.eval, Act.put]) (by simp [Act.eval, Act.put]) hth (by kernel_rfl) (all_oneCell_toArray (jobCells_one MP SP a)) ?_
     (try simp only [lz])
     refine wpList_nil ?_
     have hrn : (Z.setCells N 0 (jobCells MP SP a)).rangeAt N 0 (jobCells MP SP a) := World.rangeAt_setCells_same Z N 0 (jobCells MP SP a) hth
     have hbn : Below wk.heap.size wk (Z.setCells N 0 (jobCells MP SP a)) := bel_setCells hNw _ _ _ hba
     have hfn : (Z.setCells N 0 (jobCells MP SP a)).frozen? ⟨N, 0, none⟩ = false := by rw [World.frozen?_setCells]; exact hZB.frozen 0
     have hln2 : N < (Z.setCells N 0 (jobCells MP SP a)).heap.size := World.block_lt_of_cell? _ _ (hrn 0 _ rfl)
     have hq0 : (Z.setCells N 0 (jobCells MP SP a)).cell? ⟨N, 0, none⟩ = some (.int .i64 a.doo) := hrn 0 _ rfl
     try simp only [List.toList_toArray]
     obtain ⟨Wn, hWn⟩ : ∃ Wn, Wn = Z.setCells N 0 (jobCells MP SP a) := ⟨_, rfl⟩
     rw [← hWn] at hrn hbn hfn hln2 hq0 ⊢
     clear hWn hth hZB hba
     have HRN := ħ hrn
     have hq6 : Wn.cell? ⟨N, 6, none⟩ = some (.int .i64 a.m.ki) := HRN.out 6 _ rfl
     clear hrn b_0 b_1 b_2 b_3 b_4 b_5 b_6 b_7 b_8 b_9
     by_cases hkk : a.m.ki = k0
     rotate_left
     ·have hdk : (a.m.ki != k0) = true := by simpa using hkk
      have HBN := ħ hbn
      clear hbn
      go_wp2_with fail
      (first | (go_round; (case rel => exact ⟨k + 1, by omega, by go_num, ħ (HB.out.up HBN.out), bel_trans hbw HBN.out⟩); (case measure => (simp [intOf] <;> omega))) | (go_roundw; (case rel => exact ⟨k + 1, by omega, by go_num, ħ (HB.out.up HBN.out), bel_trans hbw HBN.out⟩); (case measure => (simp [intOf] <;> omega))) | (refine ⟨?_, by simp [intOf] <;> omega⟩; (repeat apply Exists.intro); refine ⟨?rel, ?fr⟩; (case fr => ((repeat' apply And.intro) <;> rfl)); (case rel => exact ⟨k + 1, by omega, by go_num, ħ (HB.out.up HBN.out), bel_trans hbw HBN.out⟩)))
     have HKK := ħ hkk
     have hdk : (a.m.ki != k0) = false := by simp [hkk]
     clear hkk
     go_upto_region 9 with fail
     have hrm : (Wn.setCell ⟨N, 0, none⟩ (.int .i64 5)).rangeAt N 0 (jobCells MP SP { a with doo := 5 }) := fun j u hu => by
      cases j with
      | zero => rw [World.cell?_setCell_same _ _ _ hq0]; exact hu
      | succ j => rw [World.cell?_setCell_other _ _ _ _ (by intro e; simp only [Addr.mk.injEq] at e; omega)]; exact HRN.out (j + 1) u hu
     have hbm : Below wk.heap.size wk (Wn.setCell ⟨N, 0, none⟩ (.int .i64 5)) := hbn.setCell (p := ⟨N, 0, none⟩) hNw _
     obtain ⟨Wm, hWm⟩ : ∃ Wm, Wm = Wn.setCell ⟨N, 0, none⟩ (.int .i64 5) := ⟨_, rfl⟩
     rw [← hWm] at hrm hbm ⊢
     clear hWm hq0 hq6 hdk hfn hln2 hbn HRN
     have hBm := HB.out.up hbm
     have hr9 : Wm.rangeAt w.heap.size 0 [.int .i64 D.w.id, .int .i64 D.w.nodes, .int .i64 D.w.next, .slice oA on oc, .int .i64 D.w.age, .int .i64 D.w.clock, .slice tA tn tc, .slice eA en ec, .slice rA rn rc] := fun j u hu => by
      rw [Nat.zero_add]; exact box_app (l := [.int .i64 D.w.id, .int .i64 D.w.nodes, .int .i64 D.w.next, .slice oA on oc, .int .i64 D.w.age, .int .i64 D.w.clock, .slice tA tn tc, .slice eA en ec, .slice rA rn rc]) (m := [.slice (some ⟨b, off, none⟩) ln lc]) hBm hu
     refine wp_region_list ?_
     simp only [List.toList_toArray]
     refine wpList_plain rfl (fun K hK => ?_)
     go_simp
     refine hK _ _ ?_
     clear hK K
     (try simp only [lz])
     refine wpList_load_mid rfl 27 _ rfl w.heap.size 0 (by simp [Act.eval, Act.put]) ([.int .i64 D.w.id, .int .i64 D.w.nodes, .int .i64 D.w.next, .slice oA on oc, .int .i64 D.w.age, .int .i64 D.w.clock, .slice tA tn tc, .slice eA en ec, .slice rA rn rc]) _ (hr9) Tryz.underlying27 (by rfl) (by kernel_rfl) ?_
     (try simp only [lz])
     refine wpList_load_mid rfl 51 _ rfl N 0 (by simp [Act.eval, Act.put]) (jobCells MP SP { a with doo := 5 }) _ (hrm) Tryz.underlying51 (by rfl) (by kernel_rfl) ?_
     (try simp only [lz])
     refine wpList_plain rfl (fun K hK => ?_)
     go_simp
     go_at_call 21
     refine (HST.out MP SP a Wm (bel_trans hbw hbm) HLI.out HAM.out HKK.out (HM.out.up hbm) (HI.out.up hbm)).mono ?_
     rintro e w5 ⟨⟨P5, D5, he⟩, hb5⟩
     simp only [WorkP.val] at he
     subst he
     refine hK _ _ ?_
     clear hK K
     (try simp only [lz])
     have hbk5 := bel_trans hbm hb5
     have hBk5 := HB.out.up hbk5
     clear hrm hr9 hBm hb5
     iterate 6 ((refine wpList_plain rfl (fun K hK => ?_)); go_simp; refine hK _ _ ?_; clear hK K; (try simp only [lz]))
     refine wpList_nil ?_
     go_wp2_with fail
     (first | (go_round; (case rel => exact ⟨k + 1, by omega, by go_num, ħ (HB.out.up (belB)), belB⟩); (case measure => (simp [intOf] <;> omega))) | (go_roundw; (case rel => exact ⟨k + 1, by omega, by go_num, ħ (HB.out.up (belB)), belB⟩); (case measure => (simp [intOf] <;> omega))) | (refine ⟨?_, by simp [intOf] <;> omega⟩; (repeat apply Exists.intro); refine ⟨?rel, ?fr⟩; (case fr => ((repeat' apply And.intro) <;> rfl)); (case rel => exact ⟨k + 1, by omega, by go_num, ħ (HB.out.up (belB)), belB⟩)))
    ·have hd1 : decide ((k : Int) < (ln : Int)) = true := by simp only [decide_eq_true_eq]; omega
     have hd2 : decide ((k : Int) < 12) = false := by simp only [decide_eq_false_iff_not]; omega
     go_wp2_with (go_at_call 22; refine (law13_wakes _).mono ?_; rintro e w5 ⟨rfl, hb5⟩)
     go_ret
     exact ⟨rfl, bel_trans hbw hb5⟩
   ·obtain rfl : k = ln := by omega
    have hd1 : decide ((k : Int) < (k : Int)) = false := by simp
    go_wp2_with (go_at_call 22; refine (law13_wakes _).mono ?_; rintro e w5 ⟨rfl, hb5⟩)
    go_ret
    exact ⟨rfl, bel_trans hbw hb5⟩

set_option maxHeartbeats 8000000 in
theorem step_do5 (P : WorkP) (D : WorkD) (MP : MsgP) (SP : SlP) (a : JobD) (w : World) (tD : MsgD → WorkD) (tL : MsgD → List MsgD) (h : WorkR w P D) (hs : BigD D) (hdo : wiI a.doo 11 = 5) (hMR : MsgR w MP a.m) (hML : MilM a.m) (hk : TakesK a.m.ki) (hT : TakeC D a.m.ki tD tL) (hwn : D.wa.length ≤ 1000000) (hhn : D.he.length ≤ 1000000) :
  Calls Tryz.prog 21 #[P.val D, J26 MP SP a] w fun e w' => ∃ P' D', e = .returned (.tuple #[P'.val D', .bool true]) ∧ WorkR w' P' D' ∧ Below w.heap.size w w' := by
 have H := ħ h
 have HS := ħ hs
 have HDO := ħ hdo
 have HTT := ħ (And.intro hMR (And.intro hML (And.intro hk (And.intro hT (And.intro hwn hhn)))))
 clear h hs hdo hMR hML hk hT hwn hhn
 show Calls Tryz.prog 21 #[.agg #[.int .i64 D.id, .int .i64 D.nodes, .int .i64 D.next, .slice P.op.A P.op.n P.op.c, .int .i64 D.age, .int .i64 D.clock, .slice P.wa.A P.wa.n P.wa.c, .slice P.he.A P.he.n P.he.c, .slice P.re.A P.re.n P.re.c], .agg #[.int .i64 a.doo, .int .i64 a.d, .int .i64 a.t.se, .int .i64 a.t.sq, .string a.t.k, .string a.t.v, .int .i64 a.m.ki, .int .i64 a.m.fr, .int .i64 a.m.tt, .int .i64 a.m.di, .int .i64 a.m.b.au, .int .i64 a.m.b.n, .slice MP.b.A MP.b.n MP.b.c, .int .i64 a.m.h.au, .int .i64 a.m.h.ro, .slice MP.h.b.A MP.h.b.n MP.h.b.c, .slice MP.h.p.A MP.h.p.n MP.h.p.c, .int .i64 a.m.c.h.au, .int .i64 a.m.c.h.ro, .slice MP.c.h.b.A MP.c.h.b.n MP.c.h.b.c, .slice MP.c.h.p.A MP.c.h.p.n MP.c.h.p.c, .int .i64 a.m.c.di, .slice MP.c.s.A MP.c.s.n MP.c.s.c, .slice MP.ds.A MP.ds.n MP.ds.c, .bool a.fit, .slice SP.A SP.n SP.c]] w _
 go_enter Tryz.func21, Tryz.ntmps21
 obtain ⟨z, hz⟩ : ∃ z, mayW D = z := ⟨_, rfl⟩
 have HZ := ħ hz
 clear hz
 go_wp2_with fail
 have hX1 : Blk (((w.alloc (.cells #[.int .i64 D.id, .int .i64 D.nodes, .int .i64 D.next, .slice P.op.A P.op.n P.op.c, .int .i64 D.age, .int .i64 D.clock, .slice P.wa.A P.wa.n P.wa.c, .slice P.he.A P.he.n P.he.c, .slice P.re.A P.re.n P.re.c] 27)).alloc (.cells #[.int .i64 a.doo, .int .i64 a.d, .int .i64 a.t.se, .int .i64 a.t.sq, .string a.t.k, .string a.t.v, .int .i64 a.m.ki, .int .i64 a.m.fr, .int .i64 a.m.tt, .int .i64 a.m.di, .int .i64 a.m.b.au, .int .i64 a.m.b.n, .slice MP.b.A MP.b.n MP.b.c, .int .i64 a.m.h.au, .int .i64 a.m.h.ro, .slice MP.h.b.A MP.h.b.n MP.h.b.c, .slice MP.h.p.A MP.h.p.n MP.h.p.c, .int .i64 a.m.c.h.au, .int .i64 a.m.c.h.ro, .slice MP.c.h.b.A MP.c.h.b.n MP.c.h.b.c, .slice MP.c.h.p.A MP.c.h.p.n MP.c.h.p.c, .int .i64 a.m.c.di, .slice MP.c.s.A MP.c.s.n MP.c.s.c, .slice MP.ds.A MP.ds.n MP.ds.c, .bool a.fit, .slice SP.A SP.n SP.c] 51)).alloc (.cells #[.int .i64 0, .int .i64 0, .int .i64 0, .slice none 0 0, .int .i64 0, .int .i64 0, .slice none 0 0, .slice none 0 0, .slice none 0 0] 27)) w.heap.size 27 [.int .i64 D.id, .int .i64 D.nodes, .int .i64 D.next, .slice P.op.A P.op.n P.op.c, .int .i64 D.age, .int .i64 D.clock, .slice P.wa.A P.wa.n P.wa.c, .slice P.he.A P.he.n P.he.c, .slice P.re.A P.re.n P.re.c] := (Blk.new w 27 [.int .i64 D.id, .int .i64 D.nodes, .int .i64 D.next, .slice P.op.A P.op.n P.op.c, .int .i64 D.age, .int .i64 D.clock, .slice P.wa.A P.wa.n P.wa.c, .slice P.he.A P.he.n P.he.c, .slice P.re.A P.re.n P.re.c]).up (belA)
 have hX2 : Blk (((w.alloc (.cells #[.int .i64 D.id, .int .i64 D.nodes, .int .i64 D.next, .slice P.op.A P.op.n P.op.c, .int .i64 D.age, .int .i64 D.clock, .slice P.wa.A P.wa.n P.wa.c, .slice P.he.A P.he.n P.he.c, .slice P.re.A P.re.n P.re.c] 27)).alloc (.cells #[.int .i64 a.doo, .int .i64 a.d, .int .i64 a.t.se, .int .i64 a.t.sq, .string a.t.k, .string a.t.v, .int .i64 a.m.ki, .int .i64 a.m.fr, .int .i64 a.m.tt, .int .i64 a.m.di, .int .i64 a.m.b.au, .int .i64 a.m.b.n, .slice MP.b.A MP.b.n MP.b.c, .int .i64 a.m.h.au, .int .i64 a.m.h.ro, .slice MP.h.b.A MP.h.b.n MP.h.b.c, .slice MP.h.p.A MP.h.p.n MP.h.p.c, .int .i64 a.m.c.h.au, .int .i64 a.m.c.h.ro, .slice MP.c.h.b.A MP.c.h.b.n MP.c.h.b.c, .slice MP.c.h.p.A MP.c.h.p.n MP.c.h.p.c, .int .i64 a.m.c.di, .slice MP.c.s.A MP.c.s.n MP.c.s.c, .slice MP.ds.A MP.ds.n MP.ds.c, .bool a.fit, .slice SP.A SP.n SP.c] 51)).alloc (.cells #[.int .i64 0, .int .i64 0, .int .i64 0, .slice none 0 0, .int .i64 0, .int .i64 0, .slice none 0 0, .slice none 0 0, .slice none 0 0] 27)) (w.heap.size + 1) 51 [.int .i64 a.doo, .int .i64 a.d, .int .i64 a.t.se, .int .i64 a.t.sq, .string a.t.k, .string a.t.v, .int .i64 a.m.ki, .int .i64 a.m.fr, .int .i64 a.m.tt, .int .i64 a.m.di, .int .i64 a.m.b.au, .int .i64 a.m.b.n, .slice MP.b.A MP.b.n MP.b.c, .int .i64 a.m.h.au, .int .i64 a.m.h.ro, .slice MP.h.b.A MP.h.b.n MP.h.b.c, .slice MP.h.p.A MP.h.p.n MP.h.p.c, .int .i64 a.m.c.h.au, .int .i64 a.m.c.h.ro, .slice MP.c.h.b.A MP.c.h.b.n MP.c.h.b.c, .slice MP.c.h.p.A MP.c.h.p.n MP.c.h.p.c, .int .i64 a.m.c.di, .slice MP.c.s.A MP.c.s.n MP.c.s.c, .slice MP.ds.A MP.ds.n MP.ds.c, .bool a.fit, .slice SP.A SP.n SP.c] := by
  have := (Blk.new (w.alloc (.cells #[.int .i64 D.id, .int .i64 D.nodes, .int .i64 D.next, .slice P.op.A P.op.n P.op.c, .int .i64 D.age, .int .i64 D.clock, .slice P.wa.A P.wa.n P.wa.c, .slice P.he.A P.he.n P.he.c, .slice P.re.A P.re.n P.re.c] 27)) 51 [.int .i64 a.doo, .int .i64 a.d, .int .i64 a.t.se, .int .i64 a.t.sq, .string a.t.k, .string a.t.v, .int .i64 a.m.ki, .int .i64 a.m.fr, .int .i64 a.m.tt, .int .i64 a.m.di, .int .i64 a.m.b.au, .int .i64 a.m.b.n, .slice MP.b.A MP.b.n MP.b.c, .int .i64 a.m.h.au, .int .i64 a.m.h.ro, .slice MP.h.b.A MP.h.b.n MP.h.b.c, .slice MP.h.p.A MP.h.p.n MP.h.p.c, .int .i64 a.m.c.h.au, .int .i64 a.m.c.h.ro, .slice MP.c.h.b.A MP.c.h.b.n MP.c.h.b.c, .slice MP.c.h.p.A MP.c.h.p.n MP.c.h.p.c, .int .i64 a.m.c.di, .slice MP.c.s.A MP.c.s.n MP.c.s.c, .slice MP.ds.A MP.ds.n MP.ds.c, .bool a.fit, .slice SP.A SP.n SP.c]).up (w' := (((w.alloc (.cells #[.int .i64 D.id, .int .i64 D.nodes, .int .i64 D.next, .slice P.op.A P.op.n P.op.c, .int .i64 D.age, .int .i64 D.clock, .slice P.wa.A P.wa.n P.wa.c, .slice P.he.A P.he.n P.he.c, .slice P.re.A P.re.n P.re.c] 27)).alloc (.cells #[.int .i64 a.doo, .int .i64 a.d, .int .i64 a.t.se, .int .i64 a.t.sq, .string a.t.k, .string a.t.v, .int .i64 a.m.ki, .int .i64 a.m.fr, .int .i64 a.m.tt, .int .i64 a.m.di, .int .i64 a.m.b.au, .int .i64 a.m.b.n, .slice MP.b.A MP.b.n MP.b.c, .int .i64 a.m.h.au, .int .i64 a.m.h.ro, .slice MP.h.b.A MP.h.b.n MP.h.b.c, .slice MP.h.p.A MP.h.p.n MP.h.p.c, .int .i64 a.m.c.h.au, .int .i64 a.m.c.h.ro, .slice MP.c.h.b.A MP.c.h.b.n MP.c.h.b.c, .slice MP.c.h.p.A MP.c.h.p.n MP.c.h.p.c, .int .i64 a.m.c.di, .slice MP.c.s.A MP.c.s.n MP.c.s.c, .slice MP.ds.A MP.ds.n MP.ds.c, .bool a.fit, .slice SP.A SP.n SP.c] 51)).alloc (.cells #[.int .i64 0, .int .i64 0, .int .i64 0, .slice none 0 0, .int .i64 0, .int .i64 0, .slice none 0 0, .slice none 0 0, .slice none 0 0] 27))) (belA)
  simpa using this
 have hX3 : Blk (((w.alloc (.cells #[.int .i64 D.id, .int .i64 D.nodes, .int .i64 D.next, .slice P.op.A P.op.n P.op.c, .int .i64 D.age, .int .i64 D.clock, .slice P.wa.A P.wa.n P.wa.c, .slice P.he.A P.he.n P.he.c, .slice P.re.A P.re.n P.re.c] 27)).alloc (.cells #[.int .i64 a.doo, .int .i64 a.d, .int .i64 a.t.se, .int .i64 a.t.sq, .string a.t.k, .string a.t.v, .int .i64 a.m.ki, .int .i64 a.m.fr, .int .i64 a.m.tt, .int .i64 a.m.di, .int .i64 a.m.b.au, .int .i64 a.m.b.n, .slice MP.b.A MP.b.n MP.b.c, .int .i64 a.m.h.au, .int .i64 a.m.h.ro, .slice MP.h.b.A MP.h.b.n MP.h.b.c, .slice MP.h.p.A MP.h.p.n MP.h.p.c, .int .i64 a.m.c.h.au, .int .i64 a.m.c.h.ro, .slice MP.c.h.b.A MP.c.h.b.n MP.c.h.b.c, .slice MP.c.h.p.A MP.c.h.p.n MP.c.h.p.c, .int .i64 a.m.c.di, .slice MP.c.s.A MP.c.s.n MP.c.s.c, .slice MP.ds.A MP.ds.n MP.ds.c, .bool a.fit, .slice SP.A SP.n SP.c] 51)).alloc (.cells #[.int .i64 0, .int .i64 0, .int .i64 0, .slice none 0 0, .int .i64 0, .int .i64 0, .slice none 0 0, .slice none 0 0, .slice none 0 0] 27)) (w.heap.size + 2) 27 [.int .i64 0, .int .i64 0, .int .i64 0, .slice none 0 0, .int .i64 0, .int .i64 0, .slice none 0 0, .slice none 0 0, .slice none 0 0] := by
  have := Blk.new ((w.alloc (.cells #[.int .i64 D.id, .int .i64 D.nodes, .int .i64 D.next, .slice P.op.A P.op.n P.op.c, .int .i64 D.age, .int .i64 D.clock, .slice P.wa.A P.wa.n P.wa.c, .slice P.he.A P.he.n P.he.c, .slice P.re.A P.re.n P.re.c] 27)).alloc (.cells #[.int .i64 a.doo, .int .i64 a.d, .int .i64 a.t.se, .int .i64 a.t.sq, .string a.t.k, .string a.t.v, .int .i64 a.m.ki, .int .i64 a.m.fr, .int .i64 a.m.tt, .int .i64 a.m.di, .int .i64 a.m.b.au, .int .i64 a.m.b.n, .slice MP.b.A MP.b.n MP.b.c, .int .i64 a.m.h.au, .int .i64 a.m.h.ro, .slice MP.h.b.A MP.h.b.n MP.h.b.c, .slice MP.h.p.A MP.h.p.n MP.h.p.c, .int .i64 a.m.c.h.au, .int .i64 a.m.c.h.ro, .slice MP.c.h.b.A MP.c.h.b.n MP.c.h.b.c, .slice MP.c.h.p.A MP.c.h.p.n MP.c.h.p.c, .int .i64 a.m.c.di, .slice MP.c.s.A MP.c.s.n MP.c.s.c, .slice MP.ds.A MP.ds.n MP.ds.c, .bool a.fit, .slice SP.A SP.n SP.c] 51)) 27 [.int .i64 0, .int .i64 0, .int .i64 0, .slice none 0 0, .int .i64 0, .int .i64 0, .slice none 0 0, .slice none 0 0, .slice none 0 0]
  simpa using this
 have hbX : Below w.heap.size w (((w.alloc (.cells #[.int .i64 D.id, .int .i64 D.nodes, .int .i64 D.next, .slice P.op.A P.op.n P.op.c, .int .i64 D.age, .int .i64 D.clock, .slice P.wa.A P.wa.n P.wa.c, .slice P.he.A P.he.n P.he.c, .slice P.re.A P.re.n P.re.c] 27)).alloc (.cells #[.int .i64 a.doo, .int .i64 a.d, .int .i64 a.t.se, .int .i64 a.t.sq, .string a.t.k, .string a.t.v, .int .i64 a.m.ki, .int .i64 a.m.fr, .int .i64 a.m.tt, .int .i64 a.m.di, .int .i64 a.m.b.au, .int .i64 a.m.b.n, .slice MP.b.A MP.b.n MP.b.c, .int .i64 a.m.h.au, .int .i64 a.m.h.ro, .slice MP.h.b.A MP.h.b.n MP.h.b.c, .slice MP.h.p.A MP.h.p.n MP.h.p.c, .int .i64 a.m.c.h.au, .int .i64 a.m.c.h.ro, .slice MP.c.h.b.A MP.c.h.b.n MP.c.h.b.c, .slice MP.c.h.p.A MP.c.h.p.n MP.c.h.p.c, .int .i64 a.m.c.di, .slice MP.c.s.A MP.c.s.n MP.c.s.c, .slice MP.ds.A MP.ds.n MP.ds.c, .bool a.fit, .slice SP.A SP.n SP.c] 51)).alloc (.cells #[.int .i64 0, .int .i64 0, .int .i64 0, .slice none 0 0, .int .i64 0, .int .i64 0, .slice none 0 0, .slice none 0 0, .slice none 0 0] 27)) := belA
 generalize (((w.alloc (.cells #[.int .i64 D.id, .int .i64 D.nodes, .int .i64 D.next, .slice P.op.A P.op.n P.op.c, .int .i64 D.age, .int .i64 D.clock, .slice P.wa.A P.wa.n P.wa.c, .slice P.he.A P.he.n P.he.c, .slice P.re.A P.re.n P.re.c] 27)).alloc (.cells #[.int .i64 a.doo, .int .i64 a.d, .int .i64 a.t.se, .int .i64 a.t.sq, .string a.t.k, .string a.t.v, .int .i64 a.m.ki, .int .i64 a.m.fr, .int .i64 a.m.tt, .int .i64 a.m.di, .int .i64 a.m.b.au, .int .i64 a.m.b.n, .slice MP.b.A MP.b.n MP.b.c, .int .i64 a.m.h.au, .int .i64 a.m.h.ro, .slice MP.h.b.A MP.h.b.n MP.h.b.c, .slice MP.h.p.A MP.h.p.n MP.h.p.c, .int .i64 a.m.c.h.au, .int .i64 a.m.c.h.ro, .slice MP.c.h.b.A MP.c.h.b.n MP.c.h.b.c, .slice MP.c.h.p.A MP.c.h.p.n MP.c.h.p.c, .int .i64 a.m.c.di, .slice MP.c.s.A MP.c.s.n MP.c.s.c, .slice MP.ds.A MP.ds.n MP.ds.c, .bool a.fit, .slice SP.A SP.n SP.c] 51)).alloc (.cells #[.int .i64 0, .int .i64 0, .int .i64 0, .slice none 0 0, .int .i64 0, .int .i64 0, .slice none 0 0, .slice none 0 0, .slice none 0 0] 27)) = X at *
 have HX1 := ħ hX1
 have HX2 := ħ hX2
 have HX3 := ħ hX3
 have HBX := ħ hbX
 clear hX1 hX2 hX3
 refine (ref0_CopyWorker P D _ (H.out.up hbX) HS.out).mono ?_
 rintro e w1 ⟨Pi, he1, hOi, hb1⟩
 simp only [WorkP.val] at he1
 subst he1
 have hbI : Below w1.heap.size w1 (w1.alloc (.cells #[.int .i64 D.id, .int .i64 D.nodes, .int .i64 D.next, .slice Pi.op.A Pi.op.n Pi.op.c, .int .i64 D.age, .int .i64 D.clock, .slice Pi.wa.A Pi.wa.n Pi.wa.c, .slice Pi.he.A Pi.he.n Pi.he.c, .slice Pi.re.A Pi.re.n Pi.re.c] 27)) := belA
 have hY1 := (HX1.out.up hb1)
 have HOi := ħ (hOi.up hbI)
 have HI := ħ (Blk.new w1 27 [.int .i64 D.id, .int .i64 D.nodes, .int .i64 D.next, .slice Pi.op.A Pi.op.n Pi.op.c, .int .i64 D.age, .int .i64 D.clock, .slice Pi.wa.A Pi.wa.n Pi.wa.c, .slice Pi.he.A Pi.he.n Pi.he.c, .slice Pi.re.A Pi.re.n Pi.re.c])
 have HY2 := ħ ((HX2.out.up hb1).up hbI)
 have HY3 := ħ ((HX3.out.up hb1).up hbI)
 have HY1 := ħ (hY1.up hbI)
 have hbY := bel_trans (bel_trans hbX hb1) hbI
 have ly1 := hY1.lt
 have a_0 := (hY1.box).2 0 _ rfl; have a_1 := (hY1.box).2 1 _ rfl; have a_2 := (hY1.box).2 2 _ rfl; have a_3 := (hY1.box).2 3 _ rfl; have a_4 := (hY1.box).2 4 _ rfl; have a_5 := (hY1.box).2 5 _ rfl; have a_6 := (hY1.box).2 6 _ rfl; have a_7 := (hY1.box).2 7 _ rfl; have a_8 := (hY1.box).2 8 _ rfl
 have hzX : w.heap.size + 3 ≤ w1.heap.size := by have := (HX3.out.up hb1).lt; omega
 clear hY1 HX1 HX2 HX3 hOi hb1 hbI hbX HBX
 go_wp2_with fail
 clear a_0 a_1 a_2 a_3 a_4 a_5 a_6 a_7 a_8 ly1
 have hgiE : w1.heap.size < (w1.alloc (.cells #[.int .i64 D.id, .int .i64 D.nodes, .int .i64 D.next, .slice Pi.op.A Pi.op.n Pi.op.c, .int .i64 D.age, .int .i64 D.clock, .slice Pi.wa.A Pi.wa.n Pi.wa.c, .slice Pi.he.A Pi.he.n Pi.he.c, .slice Pi.re.A Pi.re.n Pi.re.c] 27)).heap.size := HI.out.lt
 obtain ⟨gi, hgi⟩ : ∃ g, g = w1.heap.size := ⟨_, rfl⟩
 obtain ⟨X1, hX1⟩ : ∃ X1, X1 = (w1.alloc (.cells #[.int .i64 D.id, .int .i64 D.nodes, .int .i64 D.next, .slice Pi.op.A Pi.op.n Pi.op.c, .int .i64 D.age, .int .i64 D.clock, .slice Pi.wa.A Pi.wa.n Pi.wa.c, .slice Pi.he.A Pi.he.n Pi.he.c, .slice Pi.re.A Pi.re.n Pi.re.c] 27)) := ⟨_, rfl⟩
 rw [← hX1, ← hgi] at HI
 rw [← hX1] at HOi HY1 HY2 HY3 hbY
 rw [← hX1, ← hgi]
 rw [← hX1, ← hgi] at hgiE
 rw [← hgi] at hzX
 clear hX1 hgi
 refine (ref13_May P D z _ (H.out.up hbY) HZ.out).mono ?_
 rintro e w2 ⟨rfl, hb2⟩
 have hA2 := HY2.out.up hb2
 have b_0 := hA2.box.2 0 _ rfl
 have lA2 := hA2.lt
 have lA1 : w.heap.size < w2.heap.size := by omega
 clear hA2
 go_upto_region 31 with (go_at_call 40; refine (law0_Within a.doo 11 5 _ (by decide) (by decide) HDO.out).mono ?_; rintro e w' ⟨rfl, rfl⟩)
 clear b_0 lA2 lA1
 have hbz : Below w2.heap.size w2 ((w2.alloc (.cells #[.int .i64 0, .int .i64 0, .int .i64 0, .slice none 0 0, .int .i64 0, .int .i64 0, .slice none 0 0, .slice none 0 0, .slice none 0 0, .slice none 0 0] 70)).alloc (.cells #[.int .i64 0, .int .i64 0, .int .i64 0, .slice none 0 0, .int .i64 0, .int .i64 0, .slice none 0 0, .slice none 0 0, .slice none 0 0] 27)) := belA
 have hs0 : Blk ((w2.alloc (.cells #[.int .i64 0, .int .i64 0, .int .i64 0, .slice none 0 0, .int .i64 0, .int .i64 0, .slice none 0 0, .slice none 0 0, .slice none 0 0, .slice none 0 0] 70)).alloc (.cells #[.int .i64 0, .int .i64 0, .int .i64 0, .slice none 0 0, .int .i64 0, .int .i64 0, .slice none 0 0, .slice none 0 0, .slice none 0 0] 27)) w2.heap.size 70 [.int .i64 0, .int .i64 0, .int .i64 0, .slice none 0 0, .int .i64 0, .int .i64 0, .slice none 0 0, .slice none 0 0, .slice none 0 0, .slice none 0 0] := (Blk.new w2 70 [.int .i64 0, .int .i64 0, .int .i64 0, .slice none 0 0, .int .i64 0, .int .i64 0, .slice none 0 0, .slice none 0 0, .slice none 0 0, .slice none 0 0]).up (belA)
 have hx0 : Blk ((w2.alloc (.cells #[.int .i64 0, .int .i64 0, .int .i64 0, .slice none 0 0, .int .i64 0, .int .i64 0, .slice none 0 0, .slice none 0 0, .slice none 0 0, .slice none 0 0] 70)).alloc (.cells #[.int .i64 0, .int .i64 0, .int .i64 0, .slice none 0 0, .int .i64 0, .int .i64 0, .slice none 0 0, .slice none 0 0, .slice none 0 0] 27)) (w2.heap.size + 1) 27 [.int .i64 0, .int .i64 0, .int .i64 0, .slice none 0 0, .int .i64 0, .int .i64 0, .slice none 0 0, .slice none 0 0, .slice none 0 0] := by
  have := Blk.new (w2.alloc (.cells #[.int .i64 0, .int .i64 0, .int .i64 0, .slice none 0 0, .int .i64 0, .int .i64 0, .slice none 0 0, .slice none 0 0, .slice none 0 0, .slice none 0 0] 70)) 27 [.int .i64 0, .int .i64 0, .int .i64 0, .slice none 0 0, .int .i64 0, .int .i64 0, .slice none 0 0, .slice none 0 0, .slice none 0 0]
  simpa using this
 obtain ⟨gx, hgx⟩ : ∃ g, g = w2.heap.size + 1 := ⟨_, rfl⟩
 rw [← hgx] at hx0 ⊢
 obtain ⟨gs, hgs⟩ : ∃ g, g = w2.heap.size := ⟨_, rfl⟩
 rw [← hgs] at hs0 ⊢
 obtain ⟨Y, hY⟩ : ∃ Y, Y = ((w2.alloc (.cells #[.int .i64 0, .int .i64 0, .int .i64 0, .slice none 0 0, .int .i64 0, .int .i64 0, .slice none 0 0, .slice none 0 0, .slice none 0 0, .slice none 0 0] 70)).alloc (.cells #[.int .i64 0, .int .i64 0, .int .i64 0, .slice none 0 0, .int .i64 0, .int .i64 0, .slice none 0 0, .slice none 0 0, .slice none 0 0] 27)) := ⟨_, rfl⟩
 rw [← hY] at hbz hs0 hx0 ⊢
 have hgisz := (HI.out.up hb2).lt
 have hgis : gi < gs := by omega
 have hgsx : gs < gx := by omega
 have hgw : w.heap.size + 2 < gi := by omega
 have HU1 := ħ ((HY1.out.up hb2).up hbz)
 have HU2 := ħ ((HY2.out.up hb2).up hbz)
 have HU3 := ħ ((HY3.out.up hb2).up hbz)
 have HUi := ħ ((HI.out.up hb2).up hbz)
 have HUs := ħ hs0
 have HUx := ħ hx0
 have HOI := ħ ((HOi.out.up hb2).up hbz)
 have hbU := bel_trans (bel_trans hbY hb2) hbz
 clear hY hgx hgs hs0 hx0 hbz hgisz hgiE hzX HY1 HY2 HY3 HI HOi hbY hb2
 rename_i K51 hK51 K31 hK31
 exact do5_31 w Y w.heap.size (w.heap.size + 1) (w.heap.size + 1 + 1) gi gs gx P Pi D MP SP a z tD tL hK31 hK51 hbU (Nat.le_refl _) (by omega) (by omega) (by omega) (by omega) HU1.out HU2.out HUi.out HU3.out HUx.out H.out HOI.out HS.out HZ.out HTT.out.1 HTT.out.2.1 HTT.out.2.2.1 HTT.out.2.2.2.1 HTT.out.2.2.2.2.1 HTT.out.2.2.2.2.2

open Go.RowKit

theorem mil_of {M : MsgD} (h : mwS M ≤ 2000) : MilM M := by
 unfold mwS at h
 have := xwS_ge M.b.tx
 exact ⟨by omega, by omega, by omega, by omega, by omega, by omega, by omega⟩
/-- What a worker may weigh. -/
structure SmallT (D : WorkD) : Prop where
 op : D.op.length ≤ 20000
 wa : D.wa.length ≤ 20000
 he : D.he.length ≤ 20000
 re : D.re.length ≤ 20000
 ak : ∀ x ∈ D.wa, x.ak.length ≤ 20000
 hx : ∀ x ∈ D.he, x.b.tx.length ≤ 20000
theorem SmallT.big {D : WorkD} (h : SmallT D) : BigD D := ⟨by have := h.op; omega, ⟨by have := h.wa; omega, fun x hx => by have := h.ak x hx; omega⟩, ⟨by have := h.he; omega, fun x hx => by have := h.hx x hx; omega⟩, by have := h.re; omega⟩
theorem light_smallT {w : World} {P : JScrP} {D : JScrD} (h : JScrR w P D) (hL : LightJ P D) : SmallT D.w :=
 ⟨by rw [h.wk.op.1]; have := hL.op; omega, by rw [h.wk.wa.1]; have := hL.wa; omega, by rw [h.wk.he.1]; have := hL.he; omega, by rw [h.wk.re.1]; have := hL.re; omega, fun x hx => by have := hL.ak x hx; omega, fun x hx => by have := hL.hx x hx; omega⟩
theorem step_do5_light {w : World} {P : JScrP} {D : JScrD} {k : Int} {tD : MsgD → WorkD} {tL : MsgD → List MsgD} (h : JScrR w P D) (hL : LightJ P D) (MP : MsgP) (SP : SlP) (a : JobD) (X : World) (hx : WorkR X P.w D.w) (ham : a ∈ D.l) (hk : a.m.ki = k) (h4 : TakesK k) (hM : MsgR X MP a.m) (hT : SmallT D.w → TakeC D.w k tD tL) :
  Calls Tryz.prog 21 #[P.w.val D.w, J26 MP SP { a with doo := 5 }] X fun e w' => (∃ P' D', e = .returned (.tuple #[WorkP.val P' D', .bool true])) ∧ Below X.heap.size X w' := by
 have hs := light_smallT h hL
 exact (step_do5 P.w D.w MP SP { a with doo := 5 } X tD tL hx hs.big (show wiI 5 11 = 5 by decide) hM (mil_of (hL.lm a ham)) (by show TakesK a.m.ki; rw [hk]; exact h4) (by show TakeC D.w a.m.ki tD tL; rw [hk]; exact hT hs) (Nat.le_trans hs.wa (by decide)) (Nat.le_trans hs.he (by decide))).mono fun e w' ⟨P', D', h3, h4, h5⟩ => ⟨⟨P', D', h3⟩, h5⟩
end Go.Proofs.YtgfakefcmbpboaaGreat
