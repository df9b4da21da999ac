/- droverlaw13.only: one kind of act, each with the same worker. -/
import Derived.Test.YtgfakefcmbpboaaGreatShWsf
import Derived.Test.YtgfakefcmbpboaaGreatShWq
import Derived.Deep.MidRow
namespace Go.Proofs.YtgfakefcmbpboaaGreat
open Go.RowKit
set_option linter.unusedSimpArgs false
set_option linter.unusedVariables false

theorem bel_setCells {n : Nat} {w : World} {b : Nat} (hb : n ≤ b) : ∀ (vs : List Value) (o : Nat) (x : World), Below n w x → Below n w (x.setCells b o vs)
  | [], _, _, h => h
  | v :: r, o, x, h => by
    rw [World.setCells]
    exact bel_setCells hb r (o + 1) _ (h.setCell (p := ⟨b, o, none⟩) hb v)
theorem jobCells_one (MP : MsgP) (SP : SlP) (a : JobD) : ∀ v ∈ jobCells MP SP a, v.oneCell' = true := by
  intro v hv
  simp only [jobCells, List.mem_cons, List.not_mem_nil, or_false] at hv
  rcases hv with rfl | rfl | rfl | rfl | rfl | rfl | rfl | rfl | rfl | rfl | rfl | rfl | rfl | rfl | rfl | rfl | rfl | rfl | rfl | rfl | rfl | rfl | rfl | rfl | rfl | rfl <;> rfl
set_option maxRecDepth 100000 in
set_option maxHeartbeats 8000000 in
theorem law13_only (P : JScrP) (D : JScrD) (k0 : Int) (w : World) (h : JScrR w P D)
    (hstep : ∀ (MP : MsgP) (SP : SlP) (a : JobD) (X : World), Below w.heap.size w X → LightJ P D → a ∈ D.l → MsgR X MP a.m → IntsR X SP.A SP.n a.l → Calls Tryz.prog 21 #[P.w.val D.w, J26 MP SP { a with doo := k0 }] X fun e w' => (∃ P' D', e = .returned (.tuple #[WorkP.val P' D', .bool true])) ∧ Below X.heap.size X w') :
    Calls Tryz.prog 14 #[P.val D, .int .i64 k0] w fun e w' => e = .returned (.bool true) ∧ Below w.heap.size w w' := by
  obtain ⟨⟨⟨oA, on, oc⟩, ⟨tA, tn, tc⟩, ⟨eA, en, ec⟩, ⟨rA, rn, rc⟩⟩, ⟨lA, ln, lc⟩⟩ := P
  have H := Lib.hid h
  have HST := Lib.hid hstep
  have hln : ln ≤ 17592186044416 := h.sl
  clear h hstep
  show Calls Tryz.prog 14 #[.agg #[.int .i64 D.w.id, .int .i64 D.w.nodes, .int .i64 D.w.next, .slice oA on oc, .int .i64 D.w.age, .int .i64 D.w.clock, .slice tA tn tc, .slice eA en ec, .slice rA rn rc, .slice lA ln lc], .int .i64 k0] w _
  go_enter Tryz.func14, Tryz.ntmps14
  go_wp2_with fail
  have hbX : Below w.heap.size w (w.alloc (.cells #[.int .i64 D.w.id, .int .i64 D.w.nodes, .int .i64 D.w.next, .slice oA on oc, .int .i64 D.w.age, .int .i64 D.w.clock, .slice tA tn tc, .slice eA en ec, .slice rA rn rc, .slice lA ln lc] 30)) := by (repeat (first | (with_reducible exact Below.refl _ _) | (with_reducible assumption) | (with_reducible apply bel_alloc) | (with_reducible apply bel_drew) | (with_reducible apply bel_drewN) | (with_reducible refine bel_trans ?_ (by with_reducible assumption)) | (with_reducible refine bel_trans ?_ (HF.out _)) | (with_reducible refine bel_set ?_ (by simp) _) | (with_reducible refine bel_set ?_ (by simp; omega) _) | (with_reducible refine bel_set ?_ (by omega) _)))
  refine (law13_heavy ⟨⟨⟨oA, on, oc⟩, ⟨tA, tn, tc⟩, ⟨eA, en, ec⟩, ⟨rA, rn, rc⟩⟩, ⟨lA, ln, lc⟩⟩ D _ (H.out.up hbX)).mono ?_
  rintro e w1 ⟨x, rfl, hx, hb1⟩
  have hB1 : BoxR w1 w.heap.size [.int .i64 D.w.id, .int .i64 D.w.nodes, .int .i64 D.w.next, .slice oA on oc, .int .i64 D.w.age, .int .i64 D.w.clock, .slice tA tn tc, .slice eA en ec, .slice rA rn rc, .slice lA ln lc] := (BoxR.new w [.int .i64 D.w.id, .int .i64 D.w.nodes, .int .i64 D.w.next, .slice oA on oc, .int .i64 D.w.age, .int .i64 D.w.clock, .slice tA tn tc, .slice eA en ec, .slice rA rn rc, .slice lA ln lc] 30).up hb1
  have hb1w := bel_trans hbX hb1
  cases x
  case true =>
    clear hx
    go_wp2_with fail
    go_ret
    exact ⟨rfl, hb1w⟩
  case false =>
    have HLI := Lib.hid (hx rfl)
    have HB1 := Lib.hid hB1
    clear hx hB1 hb1 hbX
    go_wp2_with fail
    go_loopw [5] (fun iv wr => ∃ k : Nat, k ≤ ln ∧ iv = .int .i64 k ∧ Hid (BoxR wr w.heap.size [.int .i64 D.w.id, .int .i64 D.w.nodes, .int .i64 D.w.next, .slice oA on oc, .int .i64 D.w.age, .int .i64 D.w.clock, .slice tA tn tc, .slice eA en ec, .slice rA rn rc, .slice lA ln lc]) ∧ Below w.heap.size w wr) (fun iv _ => ln - (intOf iv).toNat)
    case atStart => exact ⟨0, Nat.zero_le _, rfl, HB1, hb1w⟩
    case round =>
      clear HB1 hb1w
      obtain ⟨k, hk, rfl, HB, hbw⟩ := hrel
      (obtain ⟨wk, hwk⟩ : ∃ x, x = wr := ⟨_, rfl⟩); subst hwk
      have hg1 := HB.out.1
      have b_0 := (HB.out).2 0 _ rfl; have b_1 := (HB.out).2 1 _ rfl; have b_2 := (HB.out).2 2 _ rfl; have b_3 := (HB.out).2 3 _ rfl; have b_4 := (HB.out).2 4 _ rfl; have b_5 := (HB.out).2 5 _ rfl; have b_6 := (HB.out).2 6 _ rfl; have b_7 := (HB.out).2 7 _ rfl; have b_8 := (HB.out).2 8 _ rfl; have b_9 := (HB.out).2 9 _ rfl
      by_cases hlt : k < ln
      · by_cases h12 : k < 12
        · have hd1 : decide ((k : Int) < (ln : Int)) = true := by simp only [decide_eq_true_eq]; omega
          have hd2 : decide ((k : Int) < 12) = true := by simp only [decide_eq_true_eq]; omega
          obtain ⟨b, off, rfl, hb, hc⟩ := (H.out.l.up hbw).2.2 (show 0 < ln by omega)
          obtain ⟨MP, SP, hat, hM, hI⟩ := hc k hlt
          obtain ⟨a, ha⟩ : ∃ a, jth D.l k = a := ⟨_, rfl⟩
          rw [ha] at hat hM hI
          have ham : a ∈ D.l := by rw [← ha]; exact getD_mem (by rw [H.out.l.1]; exact hlt)
          have HAT : Hid (wk.rangeAt b (off + k * 26) (jobCells MP SP a)) := Lib.hid hat
          have HM := Lib.hid hM
          have HI := Lib.hid hI
          have HAM := Lib.hid ham
          have hkl : (k : Int) < (ln : Int) := by omega
          have hk0 : (0 : Int) ≤ (k : Int) := by omega
          clear hc hat hM hI ha ham
          go_upto_region 6 with fail
          refine wp_region_list ?_
          simp only [List.toList_toArray]
          refine wpList_plain rfl (fun K hK => ?_)
          go_simp
          refine hK _ _ ?_
          clear hK K
          (try simp only [Act.put, List.setIfInBounds_toArray, List.set_cons_zero, List.set_cons_succ])
          refine wpList_plain rfl (fun K hK => ?_)
          go_simp
          refine hK _ _ ?_
          clear hK K
          (try simp only [Act.put, List.setIfInBounds_toArray, List.set_cons_zero, List.set_cons_succ])
          refine wpList_plain rfl (fun K hK => ?_)
          go_simp
          refine hK _ _ ?_
          clear hK K
          (try simp only [Act.put, List.setIfInBounds_toArray, List.set_cons_zero, List.set_cons_succ])
          refine wpList_plain rfl (fun K hK => ?_)
          go_simp
          refine hK _ _ ?_
          clear hK K
          (try simp only [Act.put, List.setIfInBounds_toArray, List.set_cons_zero, List.set_cons_succ])
          refine wpList_load_mid rfl 51 _ rfl b (off + k * 26) (by simp [Act.eval, Act.put]) (jobCells MP SP a) _ (HAT.out) Tryz.underlying51 (by rfl) (by kernel_rfl) ?_
          (try simp only [Act.put, List.setIfInBounds_toArray, List.set_cons_zero, List.set_cons_succ])
          refine wpList_plain rfl (fun K hK => ?_)
          go_simp
          refine hK _ _ ?_
          clear hK K
          (try simp only [Act.put, List.setIfInBounds_toArray, List.set_cons_zero, List.set_cons_succ])
          obtain ⟨N, hN⟩ : ∃ N, N = wk.heap.size := ⟨_, rfl⟩
          have hZB : Blk (wk.alloc (.cells #[.int .i64 0, .int .i64 0, .int .i64 0, .int .i64 0, .string ⟨#[]⟩, .string ⟨#[]⟩, .int .i64 0, .int .i64 0, .int .i64 0, .int .i64 0, .int .i64 0, .int .i64 0, .slice none 0 0, .int .i64 0, .int .i64 0, .slice none 0 0, .slice none 0 0, .int .i64 0, .int .i64 0, .slice none 0 0, .slice none 0 0, .int .i64 0, .slice none 0 0, .slice none 0 0, .bool false, .slice none 0 0] 51)) N 51 [.int .i64 0, .int .i64 0, .int .i64 0, .int .i64 0, .string ⟨#[]⟩, .string ⟨#[]⟩, .int .i64 0, .int .i64 0, .int .i64 0, .int .i64 0, .int .i64 0, .int .i64 0, .slice none 0 0, .int .i64 0, .int .i64 0, .slice none 0 0, .slice none 0 0, .int .i64 0, .int .i64 0, .slice none 0 0, .slice none 0 0, .int .i64 0, .slice none 0 0, .slice none 0 0, .bool false, .slice none 0 0] := by rw [hN]; exact Blk.new wk 51 [.int .i64 0, .int .i64 0, .int .i64 0, .int .i64 0, .string ⟨#[]⟩, .string ⟨#[]⟩, .int .i64 0, .int .i64 0, .int .i64 0, .int .i64 0, .int .i64 0, .int .i64 0, .slice none 0 0, .int .i64 0, .int .i64 0, .slice none 0 0, .slice none 0 0, .int .i64 0, .int .i64 0, .slice none 0 0, .slice none 0 0, .int .i64 0, .slice none 0 0, .slice none 0 0, .bool false, .slice none 0 0]
          have hth : (wk.alloc (.cells #[.int .i64 0, .int .i64 0, .int .i64 0, .int .i64 0, .string ⟨#[]⟩, .string ⟨#[]⟩, .int .i64 0, .int .i64 0, .int .i64 0, .int .i64 0, .int .i64 0, .int .i64 0, .slice none 0 0, .int .i64 0, .int .i64 0, .slice none 0 0, .slice none 0 0, .int .i64 0, .int .i64 0, .slice none 0 0, .slice none 0 0, .int .i64 0, .slice none 0 0, .slice none 0 0, .bool false, .slice none 0 0] 51)).there N 0 26 := fun j hj => ⟨by
            rw [Nat.zero_add, hZB.box.2 j _ (List.getElem?_eq_getElem (show j < ([.int .i64 0, .int .i64 0, .int .i64 0, .int .i64 0, .string ⟨#[]⟩, .string ⟨#[]⟩, .int .i64 0, .int .i64 0, .int .i64 0, .int .i64 0, .int .i64 0, .int .i64 0, .slice none 0 0, .int .i64 0, .int .i64 0, .slice none 0 0, .slice none 0 0, .int .i64 0, .int .i64 0, .slice none 0 0, .slice none 0 0, .int .i64 0, .slice none 0 0, .slice none 0 0, .bool false, .slice none 0 0] : List Value).length from hj))]; rfl, hZB.frozen _⟩
          have hba : Below wk.heap.size wk (wk.alloc (.cells #[.int .i64 0, .int .i64 0, .int .i64 0, .int .i64 0, .string ⟨#[]⟩, .string ⟨#[]⟩, .int .i64 0, .int .i64 0, .int .i64 0, .int .i64 0, .int .i64 0, .int .i64 0, .slice none 0 0, .int .i64 0, .int .i64 0, .slice none 0 0, .slice none 0 0, .int .i64 0, .int .i64 0, .slice none 0 0, .slice none 0 0, .int .i64 0, .slice none 0 0, .slice none 0 0, .bool false, .slice none 0 0] 51)) := by (repeat (first | (with_reducible exact Below.refl _ _) | (with_reducible assumption) | (with_reducible apply bel_alloc) | (with_reducible apply bel_drew) | (with_reducible apply bel_drewN) | (with_reducible refine bel_trans ?_ (by with_reducible assumption)) | (with_reducible refine bel_trans ?_ (HF.out _)) | (with_reducible refine bel_set ?_ (by simp) _) | (with_reducible refine bel_set ?_ (by simp; omega) _) | (with_reducible refine bel_set ?_ (by omega) _)))
          rw [← hN]
          obtain ⟨Z, hZ⟩ : ∃ Z, Z = wk.alloc (.cells #[.int .i64 0, .int .i64 0, .int .i64 0, .int .i64 0, .string ⟨#[]⟩, .string ⟨#[]⟩, .int .i64 0, .int .i64 0, .int .i64 0, .int .i64 0, .int .i64 0, .int .i64 0, .slice none 0 0, .int .i64 0, .int .i64 0, .slice none 0 0, .slice none 0 0, .int .i64 0, .int .i64 0, .slice none 0 0, .slice none 0 0, .int .i64 0, .slice none 0 0, .slice none 0 0, .bool false, .slice none 0 0] 51) := ⟨_, rfl⟩
          rw [← hZ] at hZB hth hba ⊢
          have hNw : wk.heap.size ≤ N := by omega
          clear hN hZ
          refine wpList_store_mid rfl 51 _ _ rfl N 0 (jobCells MP SP a).toArray (by simp [Act.eval, Act.put]) (by simp [Act.eval, Act.put]) hth (by kernel_rfl) (all_oneCell_toArray (jobCells_one MP SP a)) ?_
          (try simp only [Act.put, List.setIfInBounds_toArray, List.set_cons_zero, List.set_cons_succ])
          refine wpList_nil ?_
          have hrn : (Z.setCells N 0 (jobCells MP SP a)).rangeAt N 0 (jobCells MP SP a) := World.rangeAt_setCells_same Z N 0 (jobCells MP SP a) hth
          have hbn : Below wk.heap.size wk (Z.setCells N 0 (jobCells MP SP a)) := bel_setCells hNw _ _ _ hba
          have hfn : (Z.setCells N 0 (jobCells MP SP a)).frozen? ⟨N, 0, none⟩ = false := by rw [World.frozen?_setCells]; exact hZB.frozen 0
          have hln2 : N < (Z.setCells N 0 (jobCells MP SP a)).heap.size := World.block_lt_of_cell? _ _ (hrn 0 _ rfl)
          have hq0 : (Z.setCells N 0 (jobCells MP SP a)).cell? ⟨N, 0, none⟩ = some (.int .i64 a.doo) := hrn 0 _ rfl
          try simp only [List.toList_toArray]
          obtain ⟨Wn, hWn⟩ : ∃ Wn, Wn = Z.setCells N 0 (jobCells MP SP a) := ⟨_, rfl⟩
          rw [← hWn] at hrn hbn hfn hln2 hq0 ⊢
          clear hWn hth hZB hba
          have HRN := Lib.hid hrn
          clear hrn b_0 b_1 b_2 b_3 b_4 b_5 b_6 b_7 b_8 b_9
          go_upto_region 8 with fail
          have hrm : (Wn.setCell ⟨N, 0, none⟩ (.int .i64 k0)).rangeAt N 0 (jobCells MP SP { a with doo := k0 }) := fun j u hu => by
            cases j with
            | zero => rw [World.cell?_setCell_same _ _ _ hq0]; exact hu
            | succ j => rw [World.cell?_setCell_other _ _ _ _ (by intro e; simp only [Addr.mk.injEq] at e; omega)]; exact HRN.out (j + 1) u hu
          have hbm : Below wk.heap.size wk (Wn.setCell ⟨N, 0, none⟩ (.int .i64 k0)) := hbn.setCell (p := ⟨N, 0, none⟩) hNw _
          obtain ⟨Wm, hWm⟩ : ∃ Wm, Wm = Wn.setCell ⟨N, 0, none⟩ (.int .i64 k0) := ⟨_, rfl⟩
          rw [← hWm] at hrm hbm ⊢
          clear hWm hq0 hfn hln2 hbn HRN
          have hBm := HB.out.up hbm
          have hr9 : Wm.rangeAt w.heap.size 0 [.int .i64 D.w.id, .int .i64 D.w.nodes, .int .i64 D.w.next, .slice oA on oc, .int .i64 D.w.age, .int .i64 D.w.clock, .slice tA tn tc, .slice eA en ec, .slice rA rn rc] := fun j u hu => by
            rw [Nat.zero_add]; exact box_app (l := [.int .i64 D.w.id, .int .i64 D.w.nodes, .int .i64 D.w.next, .slice oA on oc, .int .i64 D.w.age, .int .i64 D.w.clock, .slice tA tn tc, .slice eA en ec, .slice rA rn rc]) (m := [.slice (some ⟨b, off, none⟩) ln lc]) hBm hu
          refine wp_region_list ?_
          simp only [List.toList_toArray]
          refine wpList_plain rfl (fun K hK => ?_)
          go_simp
          refine hK _ _ ?_
          clear hK K
          (try simp only [Act.put, List.setIfInBounds_toArray, List.set_cons_zero, List.set_cons_succ])
          refine wpList_load_mid rfl 27 _ rfl w.heap.size 0 (by simp [Act.eval, Act.put]) ([.int .i64 D.w.id, .int .i64 D.w.nodes, .int .i64 D.w.next, .slice oA on oc, .int .i64 D.w.age, .int .i64 D.w.clock, .slice tA tn tc, .slice eA en ec, .slice rA rn rc]) _ (hr9) Tryz.underlying27 (by rfl) (by kernel_rfl) ?_
          (try simp only [Act.put, List.setIfInBounds_toArray, List.set_cons_zero, List.set_cons_succ])
          refine wpList_load_mid rfl 51 _ rfl N 0 (by simp [Act.eval, Act.put]) (jobCells MP SP { a with doo := k0 }) _ (hrm) Tryz.underlying51 (by rfl) (by kernel_rfl) ?_
          (try simp only [Act.put, List.setIfInBounds_toArray, List.set_cons_zero, List.set_cons_succ])
          refine wpList_plain rfl (fun K hK => ?_)
          go_simp
          go_at_call 21
          refine (HST.out MP SP a Wm (bel_trans hbw hbm) HLI.out HAM.out (HM.out.up hbm) (HI.out.up hbm)).mono ?_
          rintro e w5 ⟨⟨P5, D5, he⟩, hb5⟩
          simp only [WorkP.val] at he
          subst he
          refine hK _ _ ?_
          clear hK K
          (try simp only [Act.put, List.setIfInBounds_toArray, List.set_cons_zero, List.set_cons_succ])
          have hbk5 := bel_trans hbm hb5
          have hBk5 := HB.out.up hbk5
          clear hrm hr9 hBm hb5
          refine wpList_plain rfl (fun K hK => ?_)
          go_simp
          refine hK _ _ ?_
          clear hK K
          (try simp only [Act.put, List.setIfInBounds_toArray, List.set_cons_zero, List.set_cons_succ])
          refine wpList_plain rfl (fun K hK => ?_)
          go_simp
          refine hK _ _ ?_
          clear hK K
          (try simp only [Act.put, List.setIfInBounds_toArray, List.set_cons_zero, List.set_cons_succ])
          refine wpList_plain rfl (fun K hK => ?_)
          go_simp
          refine hK _ _ ?_
          clear hK K
          (try simp only [Act.put, List.setIfInBounds_toArray, List.set_cons_zero, List.set_cons_succ])
          refine wpList_plain rfl (fun K hK => ?_)
          go_simp
          refine hK _ _ ?_
          clear hK K
          (try simp only [Act.put, List.setIfInBounds_toArray, List.set_cons_zero, List.set_cons_succ])
          refine wpList_plain rfl (fun K hK => ?_)
          go_simp
          refine hK _ _ ?_
          clear hK K
          (try simp only [Act.put, List.setIfInBounds_toArray, List.set_cons_zero, List.set_cons_succ])
          refine wpList_plain rfl (fun K hK => ?_)
          go_simp
          refine hK _ _ ?_
          clear hK K
          (try simp only [Act.put, List.setIfInBounds_toArray, List.set_cons_zero, List.set_cons_succ])
          refine wpList_nil ?_
          go_wp2_with fail
          (first | (go_round; (case rel => exact ⟨k + 1, by omega, by go_num, Lib.hid (HB.out.up (by (repeat (first | (with_reducible exact Below.refl _ _) | (with_reducible assumption) | (with_reducible apply bel_alloc) | (with_reducible apply bel_drew) | (with_reducible apply bel_drewN) | (with_reducible refine bel_trans ?_ (by with_reducible assumption)) | (with_reducible refine bel_trans ?_ (HF.out _)) | ((with_reducible refine bel_set3 ?_ ?_); rotate_left; omega))))), by (repeat (first | (with_reducible exact Below.refl _ _) | (with_reducible assumption) | (with_reducible apply bel_alloc) | (with_reducible apply bel_drew) | (with_reducible apply bel_drewN) | (with_reducible refine bel_trans ?_ (by with_reducible assumption)) | (with_reducible refine bel_trans ?_ (HF.out _)) | ((with_reducible refine bel_set3 ?_ ?_); rotate_left; omega)))⟩); (case measure => (simp [intOf] <;> omega))) | (go_roundw; (case rel => exact ⟨k + 1, by omega, by go_num, Lib.hid (HB.out.up (by (repeat (first | (with_reducible exact Below.refl _ _) | (with_reducible assumption) | (with_reducible apply bel_alloc) | (with_reducible apply bel_drew) | (with_reducible apply bel_drewN) | (with_reducible refine bel_trans ?_ (by with_reducible assumption)) | (with_reducible refine bel_trans ?_ (HF.out _)) | ((with_reducible refine bel_set3 ?_ ?_); rotate_left; omega))))), by (repeat (first | (with_reducible exact Below.refl _ _) | (with_reducible assumption) | (with_reducible apply bel_alloc) | (with_reducible apply bel_drew) | (with_reducible apply bel_drewN) | (with_reducible refine bel_trans ?_ (by with_reducible assumption)) | (with_reducible refine bel_trans ?_ (HF.out _)) | ((with_reducible refine bel_set3 ?_ ?_); rotate_left; omega)))⟩); (case measure => (simp [intOf] <;> omega))) | (refine ⟨?_, by simp [intOf] <;> omega⟩; (repeat apply Exists.intro); refine ⟨?rel, ?fr⟩; (case fr => ((repeat' apply And.intro) <;> rfl)); (case rel => exact ⟨k + 1, by omega, by go_num, Lib.hid (HB.out.up (by (repeat (first | (with_reducible exact Below.refl _ _) | (with_reducible assumption) | (with_reducible apply bel_alloc) | (with_reducible apply bel_drew) | (with_reducible apply bel_drewN) | (with_reducible refine bel_trans ?_ (by with_reducible assumption)) | (with_reducible refine bel_trans ?_ (HF.out _)) | ((with_reducible refine bel_set3 ?_ ?_); rotate_left; omega))))), by (repeat (first | (with_reducible exact Below.refl _ _) | (with_reducible assumption) | (with_reducible apply bel_alloc) | (with_reducible apply bel_drew) | (with_reducible apply bel_drewN) | (with_reducible refine bel_trans ?_ (by with_reducible assumption)) | (with_reducible refine bel_trans ?_ (HF.out _)) | ((with_reducible refine bel_set3 ?_ ?_); rotate_left; omega)))⟩)))
        · have hd1 : decide ((k : Int) < (ln : Int)) = true := by simp only [decide_eq_true_eq]; omega
          have hd2 : decide ((k : Int) < 12) = false := by simp only [decide_eq_false_iff_not]; omega
          go_wp2_with (go_at_call 22; refine (law13_wakes _).mono ?_; rintro e w5 ⟨rfl, hb5⟩)
          go_ret
          exact ⟨rfl, bel_trans hbw hb5⟩
      · obtain rfl : k = ln := by omega
        have hd1 : decide ((k : Int) < (k : Int)) = false := by simp
        go_wp2_with (go_at_call 22; refine (law13_wakes _).mono ?_; rintro e w5 ⟨rfl, hb5⟩)
        go_ret
        exact ⟨rfl, bel_trans hbw hb5⟩
end Go.Proofs.YtgfakefcmbpboaaGreat
