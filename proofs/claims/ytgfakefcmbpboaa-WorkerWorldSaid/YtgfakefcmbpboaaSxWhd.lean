/- step.ack: a node's acknowledgement is noted. -/
import Derived.Test.YtgfakefcmbpboaaSxWhb
import Derived.Test.YtgfakefcmbpboaaSxWsa
import Derived.Test.YtgfakefcmbpboaaSxWeb
namespace Go.Proofs.Ytgfakefcmbpboaa
open Go.RowKit
set_option linter.unusedSimpArgs false
set_option linter.unusedVariables false

theorem insAt_map {l : List Int} {k : Nat} {x : Int} : (l.map (Value.int .i64)).take k ++ [Value.int .i64 x] ++ (l.map (Value.int .i64)).drop k = (insAt l k x).map (Value.int .i64) := by
  unfold insAt; simp [List.map_take, List.map_drop]
set_option maxRecDepth 100000 in
set_option maxHeartbeats 8000000 in
theorem step_ack_yes (gs B : Nat) (c0 c1 c2 c3 c4 c5 c7 c8 c9 : Value) (tA : Option Addr) (tn tc : Nat) (wa : List WaitD) (who d : Int) (w : World) (hg : Blk w gs 97 [c0, c1, c2, c3, c4, c5, .slice tA tn tc, c7, c8, c9]) (hB : B ≤ w.heap.size) (hT : OwnWs w B (.slice tA tn tc) wa) (hP : SortedW wa) (hbig : BigW wa) (hris : ∀ x ∈ wa, Rises x.ak) (hak : ∀ x ∈ wa, x.ak.length ≤ 1000000) (lo : Nat) (hlo : kposW wa d = lo) (hy : khasW wa d = true) (hm : memS (wth wa lo).ak who = false) :
    Calls Try.prog 60 #[.pointer (some ⟨gs, 0, none⟩), .int .i64 who, .int .i64 d] w fun e w' => ∃ A n c, e = .returned (.tuple #[]) ∧ But w.heap.size gs w w' ∧ Blk w' gs 97 [c0, c1, c2, c3, c4, c5, .slice A n c, c7, c8, c9] ∧ OwnWs w' B (.slice A n c) (ackW wa who d) := by
  have hT0 := hT
  obtain ⟨ps, hTT⟩ := hT
  obtain ⟨A', c', e', hW, -, -⟩ := hT0.waits hbig
  injection e' with e1 e2 e3
  rw [← e1, ← e2] at hW
  have HTN : Hid (wa.length = tn) := Lib.hid e2.symm
  clear e1 e2 e3 hT0
  have HAW := Lib.hid (ackW_yes (who := who) hlo hy)
  obtain ⟨hlw, -⟩ := khasW_lt7 hlo hy
  have HTT := Lib.hid hTT
  have HTT2 := Lib.hid hTT.2.1
  have HW := Lib.hid hW
  have HP := Lib.hid hP
  have HLO := Lib.hid hlo
  have HY := Lib.hid hy
  have HM := Lib.hid hm
  have HRS := Lib.hid (hris _ (getD_mem hlw))
  have HG := Lib.hid hg
  have htn : tn ≤ 800000000 := by rw [← hW.1]; exact hbig.1
  have hgl := hg.lt
  have g6 := hg.box.2 6 _ rfl
  have hlt0 : 0 < tn := by rw [← HTN.out]; omega
  have hltn : lo < tn := by rw [← HTN.out]; exact hlw
  obtain ⟨b, off, e1, hb, hc⟩ := hW.2.2 (by omega)
  obtain ⟨nA, nn, nc, ⟨f0, f1⟩, hNT⟩ := hc lo hltn
  have HNT := Lib.hid hNT
  have HF := Lib.hid (And.intro f0 f1)
  have hnn : nn ≤ 1000000 := by rw [← hNT.1]; exact hak _ (getD_mem hlw)
  have HNN : Hid ((wth wa lo).ak.length = nn) := Lib.hid hNT.1
  have HRV : Hid (RowV w tA tn 2 (dcells dWait wa ps)) := Lib.hid (by
    obtain ⟨A2, c2, e2, hrv, _⟩ := own_row hTT.1 (by rw [HTN.out]; omega)
    injection e2 with e3 e4 e5
    rw [HTN.out] at hrv
    rw [e3]; exact hrv)
  have hHL : Hid (ackI (wth wa lo).ak who = insAt (wth wa lo).ak (posI (wth wa lo).ak who) who) := Lib.hid (by unfold ackI; rw [if_neg (by rw [hm]; simp)])
  subst e1
  clear hg hW hP hlo hy hm hc f0 f1 hNT hris hak hTT hbig
  go_enter Try.func60, Try.ntmps60
  go_upto_region 2 with (go_at_call 52; refine (worker_wait (some ⟨b, off, none⟩) tn tc wa d lo true _ HW.out HP.out (by omega) HLO.out HY.out).mono ?_; rintro e w1 ⟨rfl, hb1⟩)
  have q0 := (hb1.cell (p := ⟨b, off + lo * 2, none⟩) hb).trans HF.out.1
  have q1 := (hb1.cell (p := ⟨b, off + lo * 2 + 1, none⟩) hb).trans HF.out.2
  have g61 := (hb1.cell (p := ⟨gs, 6, none⟩) hgl).trans g6
  have hgl1 : gs < w1.heap.size := Nat.lt_of_lt_of_le hgl hb1.size
  have hbl1 : b < w1.heap.size := Nat.lt_of_lt_of_le hb hb1.size
  go_upto_region 3 with fail
  refine wp_world (fun W hW => ?_)
  obtain ⟨gx, hgx⟩ : ∃ g, g = w1.heap.size := ⟨_, rfl⟩
  have HBX : Hid (Blk W gx 84 [.int .i64 (wth wa lo).di, .slice nA nn nc]) := Lib.hid (by rw [hW, hgx]; exact Blk.new w1 84 [.int .i64 (wth wa lo).di, .slice nA nn nc])
  have hb1W : Below w1.heap.size w1 W := by rw [hW]; exact bel_alloc (Below.refl _ _)
  rw [← hgx]
  have hgxw : w.heap.size ≤ gx := by rw [hgx]; exact hb1.size
  have hgsx : gs < gx := by omega
  have hbW := bel_trans hb1 hb1W
  have HGW := Lib.hid (HG.out.up hbW)
  have HNW := Lib.hid (HNT.out.up hbW)
  clear hW hgx hb1W hb1 q0 q1 g61 g6 hbl1 hgl1
  have x1 := HBX.out.box.2 1 _ rfl
  have xl := HBX.out.lt
  go_upto_region 5 with (go_at_call 82; refine (slices_BinarySearch nA nn nc (wth wa lo).ak who _ HNW.out HRS.out (by omega)).mono ?_; rintro e w2 ⟨k, rfl, hkn, hk1, hk2, hb2⟩; rw [HM.out])
  clear x1 xl
  have HIN : Hid (((wth wa lo).ak.map (Value.int .i64)).take k ++ [Value.int .i64 who] ++ ((wth wa lo).ak.map (Value.int .i64)).drop k = (ackI (wth wa lo).ak who).map (Value.int .i64)) := Lib.hid (by
    rw [insAt_map, hHL.out, posI_eq (i := k) (by rw [HNN.out]; exact hkn) hk1 (fun h => hk2 k (Nat.le_refl _) (by rw [← HNN.out]; exact h))])
  have HLA : Hid ((ackI (wth wa lo).ak who).length = nn + 1) := Lib.hid (by rw [hHL.out, insAt_len (posI_le _ _), HNN.out])
  have HB2 := Lib.hid (HBX.out.up hb2)
  have HG2 := Lib.hid (HGW.out.up hb2)
  have HNT2 := Lib.hid (HNW.out.up hb2)
  have hb2' := bel_trans hbW hb2
  clear hb2 hbW hk1 hk2 HBX HGW HNW
  have hb2 := hb2'
  clear hb2'
  have x1 := HB2.out.box.2 1 _ rfl
  have xl := HB2.out.lt
  go_upto_region 6 with (first | (go_at_call 46; refine (cloneO_Ints nA nn nc (wth wa lo).ak _ HNT2.out (by omega)).mono ?_; rintro e wl ⟨vl, rfl, hol, hbl⟩; obtain ⟨Al, cl, rfl, -⟩ := hol.ints (by rw [HNN.out]; omega); rw [HNN.out] at hol ⊢; have hkB9 := Blk.new wl 3 [.int .i64 who]; have hbB : Below wl.heap.size wl (wl.alloc (.cells #[.int .i64 who] 3)) := bel_alloc (Below.refl _ _); have hown9 : World.ownsRow (wl.alloc (.cells #[.int .i64 who] 3)) w2.heap.size 3 1 (.slice Al nn cl) nn ((wth wa lo).ak.map (Value.int .i64)) := (by have h8 : OwnI _ w2.heap.size (.slice Al nn cl) (wth wa lo).ak := hol.up hbB; unfold OwnI at h8; rw [HNN.out] at h8; exact h8); have hfar : ¬ (Value.slice Al nn cl).ownBlock = some wl.heap.size := fun hq => absurd (own_lt (show World.ownsRow _ _ 3 1 _ _ _ from hol) wl.heap.size hq).2 (Nat.lt_irrefl _)) | (go_at_call 83; refine (slices_Insert_Int _ w2.heap.size (.slice Al nn cl) nn k ((wth wa lo).ak.map (Value.int .i64)) [.int .i64 who] wl.heap.size hown9 hkn (by omega) hkB9 hfar (fun u hu => (by simp only [List.mem_map] at hu; obtain ⟨y, _, rfl⟩ := hu; rfl)) (by simp [Value.oneCell']) rfl (Nat.le_trans hbl.size hbB.size)).mono ?_; rintro e wi ⟨vi, rfl, howi, hbI, -, -⟩; rw [HIN.out] at howi; obtain ⟨Ai, ci, rfl, -⟩ := own_row howi (by omega); have hoI : OwnI wi w2.heap.size (.slice Ai (nn + 1) ci) (ackI (wth wa lo).ak who) := (by unfold OwnI; rw [HLA.out]; exact howi); have hbI2 : Below w2.heap.size w2 wi := (bel_trans hbl hbB).trans hbI; have hB0 := HB2.out.up hbI2; have qf := hB0.frozen; have ql := hB0.lt; have q9 := hB0.box.2 1 _ rfl))
  clear qf ql q9 x1 xl
  have hB1 := hB0.set_ 1 (.slice Ai (nn + 1) ci)
  have htY := TKeep.setg (o := 1) (u := .slice Ai (nn + 1) ci) hB0
  have hGI := (HG2.out.up hbI2).tk htY (by decide)
  have hOI : OwnI _ w2.heap.size (.slice Ai (nn + 1) ci) (ackI (wth wa lo).ak who) := own_tk (show World.ownsRow _ _ 3 1 _ _ _ from hoI) htY (by decide)
  have hbY : Below w.heap.size w (wi.setCell ⟨gx, 1, none⟩ (.slice Ai (nn + 1) ci)) := (hb2.trans (hbI2.mono hb2.size)).setCell (p := ⟨gx, 1, none⟩) hgxw _
  obtain ⟨Y, hY⟩ : ∃ Y, Y = wi.setCell ⟨gx, 1, none⟩ (.slice Ai (nn + 1) ci) := ⟨_, rfl⟩
  rw [← hY] at hB1 hGI hOI hbY ⊢
  have HBY := Lib.hid hB1
  have HGY := Lib.hid hGI
  have HOY := Lib.hid (hOI.mono (B' := w.heap.size) hb2.size)
  have HBWY := Lib.hid hbY
  clear hY hB1 hGI hOI hbY htY hB0 hoI howi hown9 hkB9 hol hbl hbB hbI hbI2 HB2 HG2 HNT2 hb2 hfar
  have y9 := HGY.out.box.2 6 _ rfl
  have yl := HGY.out.lt
  go_upto_region 7 with (go_at_call 48; refine (slices_Clone_Wait (some ⟨b, off, none⟩) tn tc (dcells dWait wa ps) _ (HRV.out.up HBWY.out) HTT.out.one (by omega)).mono ?_; rintro e wc ⟨vc, rfl, hoc, hbc⟩; obtain ⟨Ac, cc, rfl, -⟩ := own_row hoc (by omega); obtain ⟨gc, ec, hgc1, hgc2⟩ := own_nz hoc hlt0; subst ec; have hG6 := HGY.out.up hbc; have qf := hG6.frozen; have ql := hG6.lt; have q9 := hG6.box.2 6 _ rfl)
  clear qf ql q9 y9 yl
  have htV := TKeep.setg (o := 6) (u := .slice (some ⟨gc, 0, none⟩) tn cc) hG6
  have hGV := hG6.set_ 6 (.slice (some ⟨gc, 0, none⟩) tn cc)
  have hBV := (HBY.out.up hbc).tk htV (by decide)
  have hOV : OwnI _ w.heap.size (.slice Ai (nn + 1) ci) (ackI (wth wa lo).ak who) := own_tk (show World.ownsRow _ _ 3 1 _ _ _ from HOY.out.up hbc) htV (by decide)
  have hgcY : Y.heap.size ≤ gc := hgc1
  have hTV : OwnT dWait (wc.setCell ⟨gs, 6, none⟩ (.slice (some ⟨gc, 0, none⟩) tn cc)) B (.slice (some ⟨gc, 0, none⟩) tn cc) ps wa := ⟨by rw [HTN.out]; exact own_mono (own_tk hoc htV (by decide)) (by exact Nat.le_trans hB HBWY.out.size), HTT.out.2.1, fun j hj => own_tk (show World.ownsRow _ _ 3 1 _ _ _ from (HTT.out.2.2 j hj).up (bel_trans HBWY.out hbc)) htV (by decide)⟩
  have hbtV : But w.heap.size gs w (wc.setCell ⟨gs, 6, none⟩ (.slice (some ⟨gc, 0, none⟩) tn cc)) := (But.of_below (HBWY.out.trans (hbc.mono HBWY.out.size))).setg
  obtain ⟨V, hV⟩ : ∃ V, V = wc.setCell ⟨gs, 6, none⟩ (.slice (some ⟨gc, 0, none⟩) tn cc) := ⟨_, rfl⟩
  rw [← hV] at hGV hBV hOV hTV hbtV ⊢
  have hYg := HBY.out.lt
  have hgcx : gc ≠ gx := by omega
  have hYs := HGY.out.lt
  have hgcs : gc ≠ gs := by omega
  have hgcw : w.heap.size ≤ gc := by have := HBWY.out.size; omega
  have HGV := Lib.hid hGV
  have HBV := Lib.hid hBV
  have HOV := Lib.hid hOV
  have HTV := Lib.hid hTV
  have HBTV := Lib.hid hbtV
  clear hV hGV hBV hOV hTV hbtV htV hG6 hoc hbc HGY HBY HOY hYg hYs hgcY hgc1 hgc2 HTT HRV
  obtain ⟨S, hSd⟩ : ∃ S : World → Prop, S = fun Q => Q.cell? ⟨gs, 6, none⟩ = some (.slice (some ⟨gc, 0, none⟩) tn cc) ∧ Q.rangeAt gx 0 [.int .i64 (wth wa lo).di, .slice Ai (nn + 1) ci] := ⟨_, rfl⟩
  have hS6 : ∀ Q, S Q → Q.cell? ⟨gs, 6, none⟩ = some (.slice (some ⟨gc, 0, none⟩) tn cc) := fun Q h => by rw [hSd] at h; exact h.1
  have hSx : ∀ Q, S Q → Q.rangeAt gx 0 [.int .i64 (wth wa lo).di, .slice Ai (nn + 1) ci] := fun Q h => by rw [hSd] at h; exact h.2
  have hS9 : ∀ Q, S Q → ∀ a b, S ((Q.setCell ⟨gc, lo * 2, none⟩ a).setCell ⟨gc, lo * 2 + 1, none⟩ b) := fun Q h a b => by
    rw [hSd] at h ⊢
    have key : ∀ g o v, gc ≠ g → Q.cell? ⟨g, o, none⟩ = some v → ((Q.setCell ⟨gc, lo * 2, none⟩ a).setCell ⟨gc, lo * 2 + 1, none⟩ b).cell? ⟨g, o, none⟩ = some v := fun g o v hne hv => (World.cell?_setCell_other _ _ _ _ (by intro e; simp only [Addr.mk.injEq] at e; omega)).trans ((World.cell?_setCell_other _ _ _ _ (by intro e; simp only [Addr.mk.injEq] at e; omega)).trans hv)
    exact ⟨key _ _ _ hgcs h.1, fun j v hv => key _ _ _ hgcx (h.2 j v hv)⟩
  have hS0 : S V.drew := by
    rw [hSd]
    exact ⟨(HGV.out.up (bel_drew (Below.refl _ _))).box.2 6 _ rfl, (HBV.out.up (bel_drew (Below.refl _ _))).rng⟩
  clear hSd
  refine wp_region_held_drew (S := S) (by kernel_rfl) hS0 (fun hHeld => ?_)
  have hbd7 : Below V.heap.size V V.drew := bel_drew (Below.refl _ _)
  have hZ7 := hHeld
  clear hS0
  generalize V.drew = Z7 at *
  (refine wpAnyH_tk 0 (some 58) (v := ?_) rfl rfl ?_ ?_; rotate_left; (focus (intro wq hSw; clear hSw; go_simp; all_goals (with_reducible rfl))); simp only [Act.put, lzT, lzZ, lzS])
  (refine wpAnyH_tk 1 (some 59) (v := ?_) rfl rfl ?_ ?_; rotate_left; (focus (intro wq hSw; clear hSw; go_simp; all_goals (with_reducible rfl))); simp only [Act.put, lzT, lzZ, lzS])
  (refine wpAnyH_tk 2 (some 60) (v := ?_) rfl rfl ?_ ?_; rotate_left; (focus (intro wq hSw; clear hSw; go_simp; all_goals (with_reducible rfl))); simp only [Act.put, lzT, lzZ, lzS])
  (refine wpAnyH_tk 3 (some 61) (v := ?_) rfl rfl ?_ ?_; rotate_left; (focus (intro wq hSw; clear hSw; go_simp; all_goals (with_reducible rfl))); simp only [Act.put, lzT, lzZ, lzS])
  (refine wpAnyH_tk 4 (some 62) (v := ?_) rfl rfl ?_ ?_; rotate_left; (focus (intro wq hSw; have q1 := hS6 wq hSw; clear hSw; go_simp; all_goals (with_reducible rfl))); simp only [Act.put, lzT, lzZ, lzS])
  (refine wpAnyH_tk 5 (some 63) (v := ?_) rfl rfl ?_ ?_; rotate_left; (focus (intro wq hSw; clear hSw; go_simp; all_goals (with_reducible rfl))); simp only [Act.put, lzT, lzZ, lzS])
  refine wpAnyH_takeD (i := 6) (d := (some 64)) (v := .agg ([.int .i64 (wth wa lo).di, .slice Ai (nn + 1) ci]).toArray) rfl rfl (by kernel_rfl) (by kernel_rfl) (by kernel_rfl) (fun _ _ _ h => h) (yieldsIf_load_mid (by rfl) 84 _ rfl gx 0 (by simp [Act.eval, Act.put]) ([.int .i64 (wth wa lo).di, .slice Ai (nn + 1) ci]) _ (hSx) Try.underlying84 (by rfl) (by kernel_rfl)) (by assumption) ?_
  simp only [Act.put, lzT, lzZ, lzS]
  (refine wpAnyH_tk 7 (some 65) (v := ?_) rfl rfl ?_ ?_; rotate_left; (focus (intro wq hSw; clear hSw; go_simp; all_goals (with_reducible rfl))); simp only [Act.put, lzT, lzZ, lzS])
  refine wpAnyH_ready (rs := [8]) (by kernel_rfl) (by simp) ?_
  refine AllReadyH.cons (o := _) rfl (fun K hK => ?_) AllReadyH.nil
  have hr7 : Z7.ownsRow B 84 2 (.slice (some ⟨gc, 0, none⟩) tn cc) tn (dcells dWait wa ps) := by have h8 := (HTV.out.up hbd7).1; rw [HTN.out] at h8; exact h8
  obtain ⟨gg, fg⟩ := own_get hr7
  have q0 : Z7.cell? ⟨gc, lo * 2, none⟩ = some (.int .i64 (wth wa lo).di) := gg _ _ (by rw [show lo * 2 = lo * dWait.k + 0 from rfl, dcells_at dWait HTT2.out (j := lo) (r := 0) hlw (by decide)]; rfl)
  have q1 : Z7.cell? ⟨gc, lo * 2 + 1, none⟩ = some (ps.getD lo default) := gg _ _ (by rw [show lo * 2 + 1 = lo * dWait.k + 1 from rfl, dcells_at dWait HTT2.out (j := lo) (r := 1) hlw (by decide)]; rfl)
  have ql := (own_lt hr7 gc rfl).2
  clear gg hr7
  go_simp
  clear q0 q1 ql fg
  refine hK.out _ _ (hS9 _ hZ7 _ _) (fun hHeld => ?_)
  clear hK K
  (try simp only [Act.put, lzT, lzZ, lzS])
  refine wpAnyH_done (by kernel_rfl) ?_ _
  have hP7 := waits_put (i := lo) (p := .slice Ai (nn + 1) ci) (ak := ackI (wth wa lo).ak who) (by rw [HTN.out]; exact HTV.out.up hbd7) hlw ((HOV.out.up hbd7).mono hB)
  have hG7 := ((HGV.out.up hbd7).far (p := ⟨gc, lo * 2, none⟩) (by show gs ≠ gc; omega) (.int .i64 (wth wa lo).di)).far (p := ⟨gc, lo * 2 + 1, none⟩) (by show gs ≠ gc; omega) (.slice Ai (nn + 1) ci)
  have hbt7 : But w.heap.size gs w ((Z7.setCell ⟨gc, lo * 2, none⟩ (.int .i64 (wth wa lo).di)).setCell ⟨gc, lo * 2 + 1, none⟩ (.slice Ai (nn + 1) ci)) := (HBTV.out.trans (But.of_below (hbd7.mono HBTV.out.size))).trans (But.of_below (((Below.refl _ _).setCell (p := ⟨gc, lo * 2, none⟩) hgcw _).setCell (p := ⟨gc, lo * 2 + 1, none⟩) hgcw _))
  rw [HTN.out] at hP7
  go_end0
  exact ⟨some ⟨gc, 0, none⟩, tn, cc, rfl, hbt7, hG7, _, by rw [HAW.out]; exact hP7⟩
theorem step_ack (gs B : Nat) (c0 c1 c2 c3 c4 c5 c7 c8 c9 : Value) (tA : Option Addr) (tn tc : Nat) (wa : List WaitD) (who d : Int) (w : World) (hg : Blk w gs 97 [c0, c1, c2, c3, c4, c5, .slice tA tn tc, c7, c8, c9]) (hB : B ≤ w.heap.size) (hT : OwnWs w B (.slice tA tn tc) wa) (hP : SortedW wa) (hbig : BigW wa) (hris : ∀ x ∈ wa, Rises x.ak) (hak : ∀ x ∈ wa, x.ak.length ≤ 1000000) :
    Calls Try.prog 60 #[.pointer (some ⟨gs, 0, none⟩), .int .i64 who, .int .i64 d] w fun e w' => ∃ A n c, e = .returned (.tuple #[]) ∧ But w.heap.size gs w w' ∧ Blk w' gs 97 [c0, c1, c2, c3, c4, c5, .slice A n c, c7, c8, c9] ∧ OwnWs w' B (.slice A n c) (ackW wa who d) := by
  obtain ⟨lo, hlo⟩ : ∃ lo, kposW wa d = lo := ⟨_, rfl⟩
  have main : (khasW wa d = false ∨ khasW wa d = true ∧ memS (wth wa (kposW wa d)).ak who = true) → ackW wa who d = wa → Calls Try.prog 60 #[.pointer (some ⟨gs, 0, none⟩), .int .i64 who, .int .i64 d] w fun e w' => ∃ A n c, e = .returned (.tuple #[]) ∧ But w.heap.size gs w w' ∧ Blk w' gs 97 [c0, c1, c2, c3, c4, c5, .slice A n c, c7, c8, c9] ∧ OwnWs w' B (.slice A n c) (ackW wa who d) := fun h he => by
    obtain ⟨A', c', e', hW, -, -⟩ := hT.waits hbig
    injection e' with e1 e2 e3
    rw [← e1, ← e2] at hW
    exact (step_ack_no gs c0 c1 c2 c3 c4 c5 c7 c8 c9 tA tn tc wa who d w hg hW hP hbig hris hak h).mono fun e w' ⟨h1, h2⟩ => ⟨tA, tn, tc, h1, But.of_below h2, hg.up h2, by rw [he]; exact hT.up h2⟩
  cases hy : khasW wa d
  · exact main (.inl hy) (ackW_no hy)
  · cases hm : memS (wth wa lo).ak who
    · exact step_ack_yes gs B c0 c1 c2 c3 c4 c5 c7 c8 c9 tA tn tc wa who d w hg hB hT hP hbig hris hak lo hlo hy hm
    · exact main (.inr ⟨hy, by rw [hlo]; exact hm⟩) (ackW_same hlo hy hm)
end Go.Proofs.Ytgfakefcmbpboaa
