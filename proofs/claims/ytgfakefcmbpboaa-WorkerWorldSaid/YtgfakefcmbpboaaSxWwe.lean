/- The law WorkerWorld: the walk. -/
import Derived.Test.YtgfakefcmbpboaaSxWwh
import Derived.Test.YtgfakefcmbpboaaSxWwf
import Derived.Test.YtgfakefcmbpboaaSxWqb
import Derived.Test.YtgfakefcmbpboaaSxWh
import Derived.Deep.RegionHeld3
namespace Go.Proofs.Ytgfakefcmbpboaa
open Go.RowKit
set_option linter.unusedSimpArgs false
set_option linter.unusedVariables false

set_option maxRecDepth 100000 in
set_option maxHeartbeats 32000000 in
theorem law_WorkerWorld (P : TripP) (D : TripD) (w : World) (h : TripR w P D) :
    Calls Try.prog 4 #[P.val D] w fun e w' => e = .returned (.bool true) ∧ Below w.heap.size w w' := by
  obtain ⟨⟨lA, ln, lc⟩⟩ := P
  obtain ⟨tn0, L⟩ := D
  have HFT : Hid (FatesR w lA ln L) := Lib.hid h.l
  have hlc : ln ≤ lc := h.lc
  have hlm : lc ≤ 9223372036854775807 := h.lm
  clear h
  obtain ⟨j3, hj3, e1, -, e3, e4⟩ := uint_mod tn0 3 (by omega) (by omega)
  obtain ⟨n, hns, hn7, hn1, hcell⟩ := world_arr (w.alloc (.cells #[.int .i64 tn0, .slice lA ln lc] 61)) j3 hj3
  rw [show (w.alloc (.cells #[.int .i64 tn0, .slice lA ln lc] 61)).heap.size = w.heap.size + 1 by simp] at hcell
  have hj3n : j3 < 3 := by omega
  have HNS := Lib.hid hns
  clear hns
  show Calls Try.prog 4 #[.agg #[.int .i64 tn0, .slice lA ln lc]] w _
  go_enter Try.func4, Try.ntmps4
  go_upto_region 2 with fail
  refine wp_world (fun W0 hW0 => ?_)
  obtain ⟨gT, hgT⟩ : ∃ g, g = w.heap.size := ⟨_, rfl⟩
  have HT0 : Hid (Blk W0 gT 61 [.int .i64 tn0, .slice lA ln lc]) := Lib.hid (by rw [hW0, hgT]; exact (Blk.new w 61 [.int .i64 tn0, .slice lA ln lc]).up (bel_alloc (Below.refl _ _)))
  have hbW0 : Below w.heap.size w W0 := by rw [hW0]; (repeat (first | (with_reducible exact Below.refl _ _) | (with_reducible assumption) | (with_reducible apply bel_alloc) | (with_reducible apply bel_drew) | (with_reducible apply bel_drewN) | (with_reducible refine bel_trans ?_ (by with_reducible assumption)) | (with_reducible refine bel_trans ?_ (HF.out _)) | (with_reducible refine bel_set ?_ (by simp) _) | (with_reducible refine bel_set ?_ (by simp; omega) _) | (with_reducible refine bel_set ?_ (by omega) _)))
  rw [← hgT]
  clear hW0 hgT hcell e1 e3 e4 hj3 hj3n
  have hTl := HT0.out.lt
  have hT1 := HT0.out.box.2 1 _ rfl
  by_cases h300 : 300 < ln
  · have h300b : decide ((ln : Int) > 300) = true := by simp; omega
    go_wp2_with fail
    go_ret
    exact ⟨rfl, hbW0⟩
  have h300b : decide ((ln : Int) > 300) = false := by simp; omega
  go_wp2_with fail
  clear h300b hTl hT1
  go_loopw [4, 7] (fun wv iv wr => ∃ (i : Nat) (Ps : List WorkP) (wA : Option Addr) (wc : Nat), i ≤ n ∧ iv = .int .i64 ((i : Int) + 1) ∧ wv = .slice wA i wc ∧ Hid (OwnT dWrk wr w.heap.size (.slice wA i wc) Ps (newW n i)) ∧ Hid (Blk wr gT 61 [.int .i64 tn0, .slice lA ln lc]) ∧ Below w.heap.size w wr) (fun _ iv _ => 9 - (intOf iv).toNat)
  case atStart => exact ⟨0, [], none, 0, by omega, rfl, rfl, Lib.hid (OwnT.nil _ _), HT0, hbW0⟩
  case round =>
    clear HT0 hbW0
    obtain ⟨i, Ps, wA, wc, hi, rfl, rfl, HW, HT, hbw⟩ := hrel
    (obtain ⟨wi, hwi⟩ : ∃ x, x = wr := ⟨_, rfl⟩); subst hwi
    by_cases hlt : i < n
    · skip
      have hle : (i : Int) + 1 ≤ (n : Int) := by omega
      go_upto_region 13 with (first | (go_at_call 6; refine (worker_NewI ((i : Int) + 1) n _ HNS.out (by omega) (by omega)).mono ?_; rintro e w1 ⟨rfl, hb1⟩) | (go_at_call 7; refine (law13_num _ _).mono ?_; rintro e w' ⟨rfl, rfl⟩))
      refine wp_world (fun W1 hW1 => ?_)
      obtain ⟨gx, hgx⟩ : ∃ g, g = w1.heap.size := ⟨_, rfl⟩
      have HX1 : Hid (Blk W1 gx 27 [.int .i64 ((i : Int) + 1), .int .i64 n, .int .i64 1, .slice none 0 0, .int .i64 0, .int .i64 0, .slice none 0 0, .slice none 0 0, .slice none 0 0]) := Lib.hid (by rw [hW1, hgx]; exact Blk.new w1 27 [.int .i64 ((i : Int) + 1), .int .i64 n, .int .i64 1, .slice none 0 0, .int .i64 0, .int .i64 0, .slice none 0 0, .slice none 0 0, .slice none 0 0])
      have hb11 : Below w1.heap.size w1 W1 := by rw [hW1]; exact bel_alloc (Below.refl _ _)
      rw [← hgx]
      clear hW1 hgx
      have hbi := bel_trans hb1 hb11
      have HW1 := Lib.hid (HW.out.up hbi)
      have HT1 := Lib.hid (HT.out.up hbi)
      have hbw1 := bel_trans hbw hbi
      have hsz := hbw1.size
      have hxl := HX1.out.lt
      have x_0 := (HX1.out.box).2 0 _ rfl; have x_1 := (HX1.out.box).2 1 _ rfl; have x_2 := (HX1.out.box).2 2 _ rfl; have x_3 := (HX1.out.box).2 3 _ rfl; have x_4 := (HX1.out.box).2 4 _ rfl; have x_5 := (HX1.out.box).2 5 _ rfl; have x_6 := (HX1.out.box).2 6 _ rfl; have x_7 := (HX1.out.box).2 7 _ rfl; have x_8 := (HX1.out.box).2 8 _ rfl
      clear hb1 hb11 hbi HW HT hbw
      have HNL : Hid ((newW n i).length ≤ 800000000) := Lib.hid (by rw [newW_len]; omega)
      go_upto_region 9 with (at_builtin; refine wpList_appWrk rfl (.tmp 62) (.tmp 64) rfl rfl w.heap.size (.slice wA i wc) Ps (newW n i) rfl (HW1.out.up (bel_alloc (Below.refl _ _))) W1.heap.size (newI ((i : Int) + 1) n) nilP rfl (BoxR.new W1 _ 27) ⟨OwnX.nil _ _, OwnWs.nil _ _, OwnHs.nil _ _, OwnI.nil _ _⟩ HNL.out (by simp; omega) ?_; intro v5 w5 hown5 htk5 hb5)
      clear x_0 x_1 x_2 x_3 x_4 x_5 x_6 x_7 x_8 hxl HX1
      obtain ⟨A5, c5, e5, -⟩ := hown5.read
      rw [show (newW n i ++ [newI ((i : Int) + 1) n]).length = i + 1 by rw [List.length_append, newW_len]; rfl] at e5
      subst e5
      have HW5 : Hid (OwnT dWrk w5 w.heap.size (.slice A5 (i + 1) c5) (Ps ++ [nilP]) (newW n (i + 1))) := Lib.hid hown5
      have HT5 := Lib.hid ((HT1.out.up (bel_alloc (Below.refl _ _))).tk htk5 (by decide))
      have hbw5 : Below w.heap.size w w5 := (bel_alloc hbw1).trans hb5
      clear hown5 htk5 hb5 HW1 HT1 hbw1 hsz
      go_wp2_with fail
      (first | (go_round; (case rel => exact ⟨i + 1, Ps ++ [nilP], A5, c5, by omega, by go_num, rfl, HW5, HT5, hbw5⟩); (case measure => (simp [intOf] <;> omega))) | (go_roundw; (case rel => exact ⟨i + 1, Ps ++ [nilP], A5, c5, by omega, by go_num, rfl, HW5, HT5, hbw5⟩); (case measure => (simp [intOf] <;> omega))) | (refine ⟨?_, by simp [intOf] <;> omega⟩; (repeat apply Exists.intro); refine ⟨?rel, ?fr⟩; (case fr => ((repeat' apply And.intro) <;> rfl)); (case rel => exact ⟨i + 1, Ps ++ [nilP], A5, c5, by omega, by go_num, rfl, HW5, HT5, hbw5⟩)))
    · skip
      obtain rfl : n = i := by omega
      obtain ⟨gW, eW, hgWB, -⟩ := own_nz (show World.ownsRow wi w.heap.size 27 9 (.slice wA n wc) n (dcells dWrk (newW n n) Ps) from by have h9 := HW.out.1; rw [newW_len] at h9; exact h9) (by omega)
      subst eW
      have HIN := Lib.hid (newW_inv HNS.out)
      clear hlt hi
      go_wp2_with fail
      go_loopw [5, 6, 10] (fun yv kv iv wr => ∃ (i : Nat) (Ps : List WorkP) (ws : List WorkD) (us : List MsgP) (way : List MsgD) (bs : List SlP) (book : List BatchD) (yA : Option Addr) (yn yc : Nat) (kA : Option Addr) (kn kc : Nat), i ≤ ln ∧ iv = .int .i64 i ∧ yv = .slice yA yn yc ∧ kv = .slice kA kn kc ∧ Hid (OwnT dWrk wr w.heap.size (.slice (some ⟨gW, 0, none⟩) n wc) Ps ws) ∧ Hid (OwnT dMsg wr w.heap.size (.slice yA yn yc) us way) ∧ Hid (OwnT dBat wr w.heap.size (.slice kA kn kc) bs book) ∧ Hid (WorldI n ws way book) ∧ Hid (way.length = yn ∧ book.length = kn) ∧ Hid (Blk wr gT 61 [.int .i64 tn0, .slice lA ln lc]) ∧ kn ≤ i ∧ yn ≤ 100000 ∧ Below w.heap.size w wr) (fun _ _ iv _ => ln - (intOf iv).toNat)
      case atStart => exact ⟨0, Ps, newW n n, [], [], [], [], none, 0, 0, none, 0, 0, by omega, rfl, rfl, rfl, HW, Lib.hid (OwnT.nil _ _), Lib.hid (OwnT.nil _ _), HIN, Lib.hid ⟨rfl, rfl⟩, HT, by omega, by omega, hbw⟩
      case round =>
        clear HW HT hbw HIN Ps
        obtain ⟨i, Ps, ws, us, way, bs, book, yA, yn, yc, kA, kn, kc, hi, rfl, rfl, rfl, HW, HY, HK, HI, HLL, HT, hki, hyn, hbW⟩ := hrel
        (obtain ⟨W, hW⟩ : ∃ x, x = wr := ⟨_, rfl⟩); subst hW
        have hTl := HT.out.lt
        have hT1 := HT.out.box.2 1 _ rfl
        have hbk3 : book.length ≤ 300 := by rw [HLL.out.2]; omega
        by_cases hlt : i < ln
        · by_cases hy2 : yn < 2000
          · skip
            have hyt : decide ((yn : Int) < 2000) = true := by simp; omega
            obtain ⟨fb, off, eF, hfb, hfc⟩ := HFT.out.at (by omega)
            subst eF
            have c0 := (hbW.cell (p := ⟨fb, off + i * 3, none⟩) hfb).trans (hfc i hlt).1
            have c1 := (hbW.cell (p := ⟨fb, off + i * 3 + 1, none⟩) hfb).trans (hfc i hlt).2.1
            have c2 := (hbW.cell (p := ⟨fb, off + i * 3 + 2, none⟩) hfb).trans (hfc i hlt).2.2
            have hfl : fb < W.heap.size := Nat.lt_of_lt_of_le hfb hbW.size
            obtain ⟨⟨fd, fn, fk⟩, hfd⟩ : ∃ f, fateAt L i = f := ⟨_, rfl⟩
            rw [hfd] at c0 c1 c2
            dsimp only at c0 c1 c2
            clear hfd hfc
            go_upto_region 18 with fail
            clear c0 c1 c2 hfl hTl hT1 hyt
            refine wp_world (fun W1 hW1 => ?_)
            obtain ⟨gF, hgF⟩ : ∃ g, g = W.heap.size := ⟨_, rfl⟩
            have HF1 : Hid (Blk W1 gF 66 [.int .i64 fd, .int .i64 fn, .int .i64 fk]) := Lib.hid (by rw [hW1, hgF]; exact Blk.new W 66 [.int .i64 fd, .int .i64 fn, .int .i64 fk])
            have hb01 : Below W.heap.size W W1 := by rw [hW1]; exact bel_alloc (Below.refl _ _)
            rw [← hgF]
            clear hW1 hgF
            have HW1 := Lib.hid (HW.out.up hb01)
            have HY1 := Lib.hid (HY.out.up hb01)
            have HK1 := Lib.hid (HK.out.up hb01)
            have HT1 := Lib.hid (HT.out.up hb01)
            have hbW1 := bel_trans hbW hb01
            clear hb01 HW HY HK HT hbW
            obtain ⟨k, hkI, u1, u2, u3, u4⟩ := uint_mod fn n (by omega) (by omega)
            obtain ⟨dd, hdd, v1, -, v3, v4⟩ := uint_mod fd 6 (by omega) (by omega)
            have hkn : k < n := by omega
            have hFl := HF1.out.lt
            have f0 := HF1.out.box.2 0 _ rfl
            have f1 := HF1.out.box.2 1 _ rfl
            go_upto_region 20 with fail
            clear u1 u2 u3 u4 v1 v3 v4 f0 f1 hFl hkI
            obtain ⟨z0, hz0⟩ : ∃ b, ((dd : Int) == 0) = b := ⟨_, rfl⟩
            go_upto_if 96 with fail
            go_cut [14, 15] from 97 to 122 (fun s14 s15 wx => ∃ (Ps' : List WorkP) (ws' : List WorkD), OwnT dWrk wx w.heap.size (.slice (some ⟨gW, 0, none⟩) n wc) Ps' ws' ∧ WorldI n ws' way book ∧ TKeep 27 W1 wx ∧ Below w.heap.size W1 wx)
            case first =>
              skip
              cases z0
              · skip
                go_wp2_with fail
                go_meet
                exact ⟨Ps, ws, HW1.out, HI.out, TKeep.refl _ _, Below.refl _ _⟩
              · skip
                obtain ⟨⟨⟨oA, on, oc⟩, ⟨tA, tn, tc⟩, ⟨eA, en, ec⟩, ⟨rA, rn, rc⟩⟩, -, hOk, hgW, -, -, hcl⟩ := wrk_cells HW1.out HI.out.len hkn
                have hDW := HI.out.w k hkn
                obtain ⟨Dk, hDk⟩ : ∃ D, wk ws k = D := ⟨_, rfl⟩
                rw [hDk] at hOk hcl hDW
                have q0 : W1.cell? ⟨gW, k * 9, none⟩ = some (.int .i64 Dk.id) := hcl 0 _ rfl
                have q1 : W1.cell? ⟨gW, k * 9 + 1, none⟩ = some (.int .i64 Dk.nodes) := hcl 1 _ rfl
                have q2 : W1.cell? ⟨gW, k * 9 + 2, none⟩ = some (.int .i64 Dk.next) := hcl 2 _ rfl
                have q3 : W1.cell? ⟨gW, k * 9 + 3, none⟩ = some (.slice oA on oc) := hcl 3 _ rfl
                have q4 : W1.cell? ⟨gW, k * 9 + 4, none⟩ = some (.int .i64 Dk.age) := hcl 4 _ rfl
                have q5 : W1.cell? ⟨gW, k * 9 + 5, none⟩ = some (.int .i64 Dk.clock) := hcl 5 _ rfl
                have q6 : W1.cell? ⟨gW, k * 9 + 6, none⟩ = some (.slice tA tn tc) := hcl 6 _ rfl
                have q7 : W1.cell? ⟨gW, k * 9 + 7, none⟩ = some (.slice eA en ec) := hcl 7 _ rfl
                have q8 : W1.cell? ⟨gW, k * 9 + 8, none⟩ = some (.slice rA rn rc) := hcl 8 _ rfl
                have HOK := Lib.hid hOk
                have HDK := Lib.hid hDk
                have HDW := Lib.hid hDW
                have HBG := Lib.hid (hDW.big hbk3)
                have HWR := Lib.hid (hOk.work (hDW.big hbk3))
                have HMY := Lib.hid (wmay_iff.2 hDW.may)
                clear hOk hDk hcl hDW
                have HTK := Lib.hid (wTx_ok (i := i) (by omega))
                by_cases hop : Dk.op.length < 64
                · skip
                  go_upto_region 25 with (first | (go_at_call 8; refine (worker_Add_ok ⟨⟨oA, on, oc⟩, ⟨tA, tn, tc⟩, ⟨eA, en, ec⟩, ⟨rA, rn, rc⟩⟩ Dk (wTx i) _ HWR.out HBG.out HMY.out HTK.out hop).mono ?_; rintro e w6 ⟨⟨⟨oA6, on6, oc6⟩, ⟨tA6, tn6, tc6⟩, ⟨eA6, en6, ec6⟩, ⟨rA6, rn6, rc6⟩⟩, he6, hO6, hb6⟩; obtain ⟨D6, hD6⟩ : ∃ D, addOp Dk (wTx i) = D := ⟨_, rfl⟩; rw [hD6] at he6 hO6; have he7 : e = .returned (.tuple #[.agg #[.int .i64 D6.id, .int .i64 D6.nodes, .int .i64 D6.next, .slice oA6 on6 oc6, .int .i64 D6.age, .int .i64 D6.clock, .slice tA6 tn6 tc6, .slice eA6 en6 ec6, .slice rA6 rn6 rc6], .int .i64 0]) := he6; clear he6; subst he7) | (go_at_call 7; refine (law13_num _ _).mono ?_; rintro e w' ⟨rfl, rfl⟩))
                  clear q0 q1 q2 q3 q4 q5 q6 q7 q8 hgW
                  refine wp_world (fun W7 hW7 => ?_)
                  obtain ⟨gx, hgx⟩ : ∃ g, g = w6.heap.size := ⟨_, rfl⟩
                  have HX7 : Hid (Blk W7 gx 27 [.int .i64 D6.id, .int .i64 D6.nodes, .int .i64 D6.next, .slice oA6 on6 oc6, .int .i64 D6.age, .int .i64 D6.clock, .slice tA6 tn6 tc6, .slice eA6 en6 ec6, .slice rA6 rn6 rc6]) := Lib.hid (by rw [hW7, hgx]; exact Blk.new w6 27 [.int .i64 D6.id, .int .i64 D6.nodes, .int .i64 D6.next, .slice oA6 on6 oc6, .int .i64 D6.age, .int .i64 D6.clock, .slice tA6 tn6 tc6, .slice eA6 en6 ec6, .slice rA6 rn6 rc6])
                  have hb67 : Below w6.heap.size w6 W7 := by rw [hW7]; exact bel_alloc (Below.refl _ _)
                  rw [← hgx]
                  clear hW7 hgx
                  have hb57 := bel_trans hb6 hb67
                  have HW7 := Lib.hid (HW1.out.up hb57)
                  have HO7 := Lib.hid (WorkO.mono (B' := w.heap.size) (hO6.up hb67) hbW1.size)
                  have hI2 := HI.out.add hkn HTK.out (by rw [HDK.out]; exact hop)
                  rw [HDK.out, hD6] at hI2
                  have HI2 := Lib.hid hI2
                  clear hI2 hD6
                  have htk57 := TKeep.of_below (T := 27) hb57
                  have hbx7 : Below w.heap.size W1 W7 := hb57.mono hbW1.size
                  clear hb6 hb67 hb57 hO6
                  obtain ⟨P2, -, -, hgW2, hgWB, hfz2, hcl2⟩ := wrk_cells HW7.out HI.out.len hkn
                  have r0 : W7.cell? ⟨gW, k * 9, none⟩ = some (.int .i64 (wk ws k).id) := hcl2 0 _ rfl
                  have r1 : W7.cell? ⟨gW, k * 9 + 1, none⟩ = some (.int .i64 (wk ws k).nodes) := hcl2 1 _ rfl
                  have r2 : W7.cell? ⟨gW, k * 9 + 2, none⟩ = some (.int .i64 (wk ws k).next) := hcl2 2 _ rfl
                  have r3 : W7.cell? ⟨gW, k * 9 + 3, none⟩ = some (.slice P2.op.A P2.op.n P2.op.c) := hcl2 3 _ rfl
                  have r4 : W7.cell? ⟨gW, k * 9 + 4, none⟩ = some (.int .i64 (wk ws k).age) := hcl2 4 _ rfl
                  have r5 : W7.cell? ⟨gW, k * 9 + 5, none⟩ = some (.int .i64 (wk ws k).clock) := hcl2 5 _ rfl
                  have r6 : W7.cell? ⟨gW, k * 9 + 6, none⟩ = some (.slice P2.wa.A P2.wa.n P2.wa.c) := hcl2 6 _ rfl
                  have r7 : W7.cell? ⟨gW, k * 9 + 7, none⟩ = some (.slice P2.he.A P2.he.n P2.he.c) := hcl2 7 _ rfl
                  have r8 : W7.cell? ⟨gW, k * 9 + 8, none⟩ = some (.slice P2.re.A P2.re.n P2.re.c) := hcl2 8 _ rfl
                  have hput := workers_put HW7.out HI.out.len hkn HO7.out
                  have HPUT := Lib.hid hput
                  clear hcl2 hput
                  have hxl := HX7.out.lt
                  have x_0 := (HX7.out.box).2 0 _ rfl; have x_1 := (HX7.out.box).2 1 _ rfl; have x_2 := (HX7.out.box).2 2 _ rfl; have x_3 := (HX7.out.box).2 3 _ rfl; have x_4 := (HX7.out.box).2 4 _ rfl; have x_5 := (HX7.out.box).2 5 _ rfl; have x_6 := (HX7.out.box).2 6 _ rfl; have x_7 := (HX7.out.box).2 7 _ rfl; have x_8 := (HX7.out.box).2 8 _ rfl
                  go_wp2_with fail
                  clear r0 r1 r2 r3 r4 r5 r6 r7 r8 hfz2 x_0 x_1 x_2 x_3 x_4 x_5 x_6 x_7 x_8 hxl hgW2
                  go_meet
                  exact ⟨Ps.set k ⟨⟨oA6, on6, oc6⟩, ⟨tA6, tn6, tc6⟩, ⟨eA6, en6, ec6⟩, ⟨rA6, rn6, rc6⟩⟩, ws.set k D6, HPUT.out.1, HI2.out, htk57.trans HPUT.out.2, belw_sets9k hbx7 hgWB _ _ _ _ _ _ _ _ _⟩
                · skip
                  have HE8 := Lib.hid (addE_full HMY.out HTK.out hop)
                  go_wp2_with (first | (go_at_call 8; refine (worker_Add_no ⟨⟨oA, on, oc⟩, ⟨tA, tn, tc⟩, ⟨eA, en, ec⟩, ⟨rA, rn, rc⟩⟩ Dk (wTx i) 8 _ HWR.out HE8.out (by decide)).mono ?_; rintro e w6 ⟨he6, hb6⟩; have he7 : e = .returned (.tuple #[.agg #[.int .i64 0, .int .i64 0, .int .i64 0, .slice none 0 0, .int .i64 0, .int .i64 0, .slice none 0 0, .slice none 0 0, .slice none 0 0], .int .i64 8]) := he6; clear he6; subst he7) | (go_at_call 7; refine (law13_num _ _).mono ?_; rintro e w' ⟨rfl, rfl⟩))
                  go_meet
                  exact ⟨Ps, ws, HW1.out.up (bel_alloc hb6), HI.out, TKeep.of_below (bel_alloc hb6), (bel_alloc hb6).mono hbW1.size⟩
            case rest =>
              obtain ⟨Ps, ws, hW2, hI2, htk2, hb2⟩ := hcut
              obtain ⟨W2, hW2e⟩ : ∃ x, x = wc := ⟨_, rfl⟩
              subst hW2e
              have HW2 := Lib.hid hW2
              have HI := Lib.hid hI2
              have HY2 := Lib.hid (HY1.out.tkY htk2 tA1 (by decide))
              have HK2 := Lib.hid (HK1.out.tkB htk2 tA1 (by decide))
              have HT2 := Lib.hid (HT1.out.tk htk2 (by decide))
              have HF2 := Lib.hid (HF1.out.tk htk2 (by decide))
              have hbW2 : Below w.heap.size w W2 := hbW1.trans hb2
              clear hW2 hI2 htk2 hb2 HW1 HY1 HK1 HT1 HF1 hbW1 hz0
              obtain ⟨z3, hz3⟩ : ∃ b, ((dd : Int) == 3) = b := ⟨_, rfl⟩
              obtain ⟨zy, hzy⟩ : ∃ b, ((yn : Int) == 0) = b := ⟨_, rfl⟩
              cases z3
              · cases zy
                · skip
                  go_upto_region 32 with fail
                  rename_i QL K16 hK16 K47 hK47 K32 hK32
                  refine world_msg hn7 hn1 HNS h300 hgWB HLL hki hyn hbk3 hlt hy2 hdd hkn HW2 HI HY2 HK2 HT2 HF2 hbW2 hz3 hzy hK47 hK32 (fun _ _ _ _ _ h => h) ?_
                  clear hK47 hK32
                  intro v2 v12 v19 v20 v21 v22 v23 v24 v25 v26 v27 v28 v149 v150 v151 v152 v153 v154 v155 v156 v157 v158 v159 v160 v161 v162 v163 v164 v165 v166 v167 v168 v169 v170 v171 v172 v173 v174 v175 v176 v177 v178 v179 v180 v181 v182 v183 v184 v185 v186 v187 v188 v189 v190 v191 v192 v193 v194 v195 v196 v197 v198 v199 v200 v201 v202 v203 v204 v205 v206 v207 v208 v209 v210 v211 v212 v213 v214 v215 v216 v217 v218 v219 v220 v221 v222 v223 v224 v225 v226 v227 v228 v229 v230 v231 v232 v233 v234 v235 v236 v237 v238 v239 v240 v241 v242 v243 v244 v245 v246 Pt wt ut wat bt bkt yB yp yd kB kp kd X h9
                  obtain ⟨h1, h2, h3, h4, h5, h6, h7, h8, h10⟩ := h9
                  apply hK16
                  clear hK16
                  go_wp2_with fail
                  (first | (go_round; (case rel => exact ⟨i + 1, Pt, wt, ut, wat, bt, bkt, yB, yp, yd, kB, kp, kd, by omega, by go_num, rfl, rfl, h1, h2, h3, h4, h5, h6, h7, h8, h10⟩); (case measure => (simp [intOf] <;> omega))) | (go_roundw; (case rel => exact ⟨i + 1, Pt, wt, ut, wat, bt, bkt, yB, yp, yd, kB, kp, kd, by omega, by go_num, rfl, rfl, h1, h2, h3, h4, h5, h6, h7, h8, h10⟩); (case measure => (simp [intOf] <;> omega))) | (refine ⟨?_, by simp [intOf] <;> omega⟩; (repeat apply Exists.intro); refine ⟨?rel, ?fr⟩; (case fr => ((repeat' apply And.intro) <;> rfl)); (case rel => exact ⟨i + 1, Pt, wt, ut, wat, bt, bkt, yB, yp, yd, kB, kp, kd, by omega, by go_num, rfl, rfl, h1, h2, h3, h4, h5, h6, h7, h8, h10⟩)))
                · skip
                  skip
                  obtain ⟨⟨⟨oA, on, oc⟩, ⟨tA, tn, tc⟩, ⟨eA, en, ec⟩, ⟨rA, rn, rc⟩⟩, -, hOk, hgW, -, -, hcl⟩ := wrk_cells HW2.out HI.out.len hkn
                  have hDW := HI.out.w k hkn
                  obtain ⟨Dk, hDk⟩ : ∃ D, wk ws k = D := ⟨_, rfl⟩
                  rw [hDk] at hOk hcl hDW
                  have q0 : W2.cell? ⟨gW, k * 9, none⟩ = some (.int .i64 Dk.id) := hcl 0 _ rfl
                  have q1 : W2.cell? ⟨gW, k * 9 + 1, none⟩ = some (.int .i64 Dk.nodes) := hcl 1 _ rfl
                  have q2 : W2.cell? ⟨gW, k * 9 + 2, none⟩ = some (.int .i64 Dk.next) := hcl 2 _ rfl
                  have q3 : W2.cell? ⟨gW, k * 9 + 3, none⟩ = some (.slice oA on oc) := hcl 3 _ rfl
                  have q4 : W2.cell? ⟨gW, k * 9 + 4, none⟩ = some (.int .i64 Dk.age) := hcl 4 _ rfl
                  have q5 : W2.cell? ⟨gW, k * 9 + 5, none⟩ = some (.int .i64 Dk.clock) := hcl 5 _ rfl
                  have q6 : W2.cell? ⟨gW, k * 9 + 6, none⟩ = some (.slice tA tn tc) := hcl 6 _ rfl
                  have q7 : W2.cell? ⟨gW, k * 9 + 7, none⟩ = some (.slice eA en ec) := hcl 7 _ rfl
                  have q8 : W2.cell? ⟨gW, k * 9 + 8, none⟩ = some (.slice rA rn rc) := hcl 8 _ rfl
                  have HOK := Lib.hid hOk
                  have HDK := Lib.hid hDk
                  have HDW := Lib.hid hDW
                  have HBG := Lib.hid (hDW.big hbk3)
                  have HWR := Lib.hid (hOk.work (hDW.big hbk3))
                  have HMY := Lib.hid (wmay_iff.2 hDW.may)
                  clear hOk hDk hcl hDW
                  have HWL : Hid (Dk.wa.length ≤ 1000000) := Lib.hid (by have := HDW.out.lens.1; omega)
                  have HTL := Lib.hid (tickL_len HDW.out hbk3)
                  go_upto_region 30 with (first | (go_at_call 17; refine (worker_Tick ⟨⟨oA, on, oc⟩, ⟨tA, tn, tc⟩, ⟨eA, en, ec⟩, ⟨rA, rn, rc⟩⟩ Dk _ HWR.out HBG.out HMY.out HWL.out).mono ?_; rintro e w6 ⟨⟨⟨oA6, on6, oc6⟩, ⟨tA6, tn6, tc6⟩, ⟨eA6, en6, ec6⟩, ⟨rA6, rn6, rc6⟩⟩, lA6, ln6, lc6, us6, he6, hO6, hL6, hb6⟩; obtain ⟨D6, hD6⟩ : ∃ D, tickD Dk = D := ⟨_, rfl⟩; rw [hD6] at he6 hO6; have he7 : e = .returned (.tuple #[.agg #[.int .i64 D6.id, .int .i64 D6.nodes, .int .i64 D6.next, .slice oA6 on6 oc6, .int .i64 D6.age, .int .i64 D6.clock, .slice tA6 tn6 tc6, .slice eA6 en6 ec6, .slice rA6 rn6 rc6], .slice lA6 ln6 lc6, .int .i64 0]) := he6; clear he6; subst he7) | (go_at_call 7; refine (law13_num _ _).mono ?_; rintro e w' ⟨rfl, rfl⟩))
                  clear q0 q1 q2 q3 q4 q5 q6 q7 q8 hgW
                  have hln6 : (tickL Dk).length = ln6 := by obtain ⟨A', c', e', _⟩ := hL6.read; injection e' with _ e2 _; exact e2.symm
                  have hl5 : ln6 ≤ 5000 := by rw [← hln6]; exact HTL.out
                  have hI2 := HI.out.tick hkn
                  rw [HDK.out, hD6] at hI2
                  have HI6 := Lib.hid hI2
                  clear hI2 hD6
                  refine wp_world (fun W7 hW7 => ?_)
                  obtain ⟨gx, hgx⟩ : ∃ g, g = w6.heap.size := ⟨_, rfl⟩
                  have HX7 : Hid (Blk W7 gx 27 [.int .i64 D6.id, .int .i64 D6.nodes, .int .i64 D6.next, .slice oA6 on6 oc6, .int .i64 D6.age, .int .i64 D6.clock, .slice tA6 tn6 tc6, .slice eA6 en6 ec6, .slice rA6 rn6 rc6]) := Lib.hid (by rw [hW7, hgx]; exact Blk.new w6 27 [.int .i64 D6.id, .int .i64 D6.nodes, .int .i64 D6.next, .slice oA6 on6 oc6, .int .i64 D6.age, .int .i64 D6.clock, .slice tA6 tn6 tc6, .slice eA6 en6 ec6, .slice rA6 rn6 rc6])
                  have hb67 : Below w6.heap.size w6 W7 := by rw [hW7]; exact bel_alloc (Below.refl _ _)
                  rw [← hgx]
                  clear hW7 hgx
                  have hb57 := bel_trans hb6 hb67
                  have HW7 := Lib.hid (HW2.out.up hb57)
                  have HY7 := Lib.hid (HY2.out.up hb57)
                  have HK7 := Lib.hid (HK2.out.up hb57)
                  have HT7 := Lib.hid (HT2.out.up hb57)
                  have hbW7 := bel_trans hbW2 hb57
                  have HO7 := Lib.hid (WorkO.mono (B' := w.heap.size) (hO6.up hb67) hbW2.size)
                  have HL7 := Lib.hid (OwnT.mono (B' := w.heap.size) (hL6.up hb67) hbW2.size)
                  clear hb6 hb67 hb57 hO6 hL6 HW2 HY2 HK2 HT2 hbW2 HF2 HWR
                  obtain ⟨P2, -, -, hgW2, hgWB, hfz2, hcl2⟩ := wrk_cells HW7.out HI.out.len hkn
                  have r0 : W7.cell? ⟨gW, k * 9, none⟩ = some (.int .i64 (wk ws k).id) := hcl2 0 _ rfl
                  have r1 : W7.cell? ⟨gW, k * 9 + 1, none⟩ = some (.int .i64 (wk ws k).nodes) := hcl2 1 _ rfl
                  have r2 : W7.cell? ⟨gW, k * 9 + 2, none⟩ = some (.int .i64 (wk ws k).next) := hcl2 2 _ rfl
                  have r3 : W7.cell? ⟨gW, k * 9 + 3, none⟩ = some (.slice P2.op.A P2.op.n P2.op.c) := hcl2 3 _ rfl
                  have r4 : W7.cell? ⟨gW, k * 9 + 4, none⟩ = some (.int .i64 (wk ws k).age) := hcl2 4 _ rfl
                  have r5 : W7.cell? ⟨gW, k * 9 + 5, none⟩ = some (.int .i64 (wk ws k).clock) := hcl2 5 _ rfl
                  have r6 : W7.cell? ⟨gW, k * 9 + 6, none⟩ = some (.slice P2.wa.A P2.wa.n P2.wa.c) := hcl2 6 _ rfl
                  have r7 : W7.cell? ⟨gW, k * 9 + 7, none⟩ = some (.slice P2.he.A P2.he.n P2.he.c) := hcl2 7 _ rfl
                  have r8 : W7.cell? ⟨gW, k * 9 + 8, none⟩ = some (.slice P2.re.A P2.re.n P2.re.c) := hcl2 8 _ rfl
                  have hput := workers_put HW7.out HI.out.len hkn HO7.out
                  have HPUT := Lib.hid hput
                  clear hcl2 hput
                  have hxl := HX7.out.lt
                  have x_0 := (HX7.out.box).2 0 _ rfl; have x_1 := (HX7.out.box).2 1 _ rfl; have x_2 := (HX7.out.box).2 2 _ rfl; have x_3 := (HX7.out.box).2 3 _ rfl; have x_4 := (HX7.out.box).2 4 _ rfl; have x_5 := (HX7.out.box).2 5 _ rfl; have x_6 := (HX7.out.box).2 6 _ rfl; have x_7 := (HX7.out.box).2 7 _ rfl; have x_8 := (HX7.out.box).2 8 _ rfl
                  go_upto_region 31 with fail
                  clear r0 r1 r2 r3 r4 r5 r6 r7 r8 hfz2 x_0 x_1 x_2 x_3 x_4 x_5 x_6 x_7 x_8 hxl hgW2
                  refine wp_world (fun W8 hW8 => ?_)
                  have htk8 : TKeep 27 W7 W8 := by rw [hW8]; exact HPUT.out.2
                  have HW8 : Hid (OwnT dWrk W8 w.heap.size (.slice (some ⟨gW, 0, none⟩) n wc) (Ps.set k ⟨⟨oA6, on6, oc6⟩, ⟨tA6, tn6, tc6⟩, ⟨eA6, en6, ec6⟩, ⟨rA6, rn6, rc6⟩⟩) (ws.set k D6)) := Lib.hid (by rw [hW8]; exact HPUT.out.1)
                  have HY8 := Lib.hid (HY7.out.tkY htk8 tA1 (by decide))
                  have HK8 := Lib.hid (HK7.out.tkB htk8 tA1 (by decide))
                  have HT8 := Lib.hid (HT7.out.tk htk8 (by decide))
                  have hbW8 : Below w.heap.size w W8 := by rw [hW8]; exact belw_sets9k hbW7 hgWB _ _ _ _ _ _ _ _ _
                  have HL8 := Lib.hid (HL7.out.tkY htk8 tA1 (by decide))
                  clear hW8 htk8 HPUT HX7 HO7 HW7 HY7 HK7 HT7 hbW7 HL7
                  have HLN : Hid (way.length + ln6 ≤ 900000000) := Lib.hid (by rw [HLL.out.1]; omega)
                  go_upto_region 47 with (at_builtin; refine wpList_appWay rfl (.tmp 146) (.tmp 147) rfl rfl w.heap.size (.slice yA yn yc) us way rfl HY8.out lA6 ln6 lc6 us6 (tickL Dk) rfl HL8.out hln6 HLN.out hbW8.size ?_; intro v9 W9 hown9 htk9 hb9)
                  obtain ⟨yA9, yc9, ey9, -⟩ := hown9.read
                  obtain ⟨yn9, hyn9⟩ : ∃ x, (way ++ (tickL Dk)).length = x := ⟨_, rfl⟩
                  rw [hyn9] at ey9
                  subst ey9
                  have hyn9b : yn9 ≤ 8000 := by rw [← hyn9, List.length_append, HLL.out.1, hln6]; omega
                  have HY9 := Lib.hid hown9
                  have HW9 := Lib.hid (HW8.out.tkW htk9 tA2 (by decide))
                  have HK9 := Lib.hid (HK8.out.tkB htk9 tA2 (by decide))
                  have HT9 := Lib.hid (HT8.out.tk htk9 (by decide))
                  have hbW9 : Below w.heap.size w W9 := hbW8.trans hb9
                  clear hown9 htk9 hb9 HLN
                  have HLL2 : Hid ((way ++ tickL Dk).length = yn9 ∧ book.length = kn) := Lib.hid ⟨hyn9, HLL.out.2⟩
                  obtain ⟨way, hway⟩ : ∃ x, way ++ tickL Dk = x := ⟨_, rfl⟩
                  obtain ⟨us, hus⟩ : ∃ x, us ++ us6 = x := ⟨_, rfl⟩
                  rw [hway] at HI6 HLL2 HY9
                  rw [hus] at HY9
                  clear hway hus hyn9 hln6 HLL
                  obtain ⟨Ps, hPs⟩ : ∃ x, Ps.set k ⟨⟨oA6, on6, oc6⟩, ⟨tA6, tn6, tc6⟩, ⟨eA6, en6, ec6⟩, ⟨rA6, rn6, rc6⟩⟩ = x := ⟨_, rfl⟩
                  obtain ⟨ws, hws⟩ : ∃ x, ws.set k D6 = x := ⟨_, rfl⟩
                  rw [hPs, hws] at HW9
                  rw [hws] at HI6
                  clear hPs hws HL8 HW8 HY8 HK8 HT8 hbW8 HI HDK HDW HBG HMY HTL HWL
                  have HI := HI6
                  have HLL := HLL2
                  clear HI6 HLL2
                  obtain ⟨yA, hyA⟩ : ∃ x, x = yA9 := ⟨_, rfl⟩
                  obtain ⟨yn, hyn2⟩ : ∃ x, x = yn9 := ⟨_, rfl⟩
                  obtain ⟨yc, hyc⟩ : ∃ x, x = yc9 := ⟨_, rfl⟩
                  subst hyA
                  subst hyn2
                  subst hyc
                  skip
                  skip
                  obtain ⟨⟨⟨oA, on, oc⟩, ⟨tA, tn, tc⟩, ⟨eA, en, ec⟩, ⟨rA, rn, rc⟩⟩, -, hOk, hgW, -, -, hcl⟩ := wrk_cells HW9.out HI.out.len hkn
                  have hDW := HI.out.w k hkn
                  obtain ⟨Dk, hDk⟩ : ∃ D, wk ws k = D := ⟨_, rfl⟩
                  rw [hDk] at hOk hcl hDW
                  have q0 : W9.cell? ⟨gW, k * 9, none⟩ = some (.int .i64 Dk.id) := hcl 0 _ rfl
                  have q1 : W9.cell? ⟨gW, k * 9 + 1, none⟩ = some (.int .i64 Dk.nodes) := hcl 1 _ rfl
                  have q2 : W9.cell? ⟨gW, k * 9 + 2, none⟩ = some (.int .i64 Dk.next) := hcl 2 _ rfl
                  have q3 : W9.cell? ⟨gW, k * 9 + 3, none⟩ = some (.slice oA on oc) := hcl 3 _ rfl
                  have q4 : W9.cell? ⟨gW, k * 9 + 4, none⟩ = some (.int .i64 Dk.age) := hcl 4 _ rfl
                  have q5 : W9.cell? ⟨gW, k * 9 + 5, none⟩ = some (.int .i64 Dk.clock) := hcl 5 _ rfl
                  have q6 : W9.cell? ⟨gW, k * 9 + 6, none⟩ = some (.slice tA tn tc) := hcl 6 _ rfl
                  have q7 : W9.cell? ⟨gW, k * 9 + 7, none⟩ = some (.slice eA en ec) := hcl 7 _ rfl
                  have q8 : W9.cell? ⟨gW, k * 9 + 8, none⟩ = some (.slice rA rn rc) := hcl 8 _ rfl
                  have HOK := Lib.hid hOk
                  have HDK := Lib.hid hDk
                  have HDW := Lib.hid hDW
                  have HBG := Lib.hid (hDW.big hbk3)
                  have HWR := Lib.hid (hOk.work (hDW.big hbk3))
                  have HMY := Lib.hid (wmay_iff.2 hDW.may)
                  clear hOk hDk hcl hDW
                  have hop8 : Dk.op.length ≤ 800000000 := HBG.out.op
                  have HOP8 := Lib.hid hop8
                  clear hop8
                  by_cases hE : nxE Dk = 0
                  · skip
                    have HE := Lib.hid hE
                    have HMK := Lib.hid (mk_yes HMY.out hE)
                    have HBL : Hid ((nxD Dk).tx.length ≤ 8) := Lib.hid (List.length_take_le 8 Dk.op)
                    clear hE
                    go_upto_region 49 with (first | (go_at_call 9; refine (worker_Make ⟨⟨oA, on, oc⟩, ⟨tA, tn, tc⟩, ⟨eA, en, ec⟩, ⟨rA, rn, rc⟩⟩ Dk _ HWR.out HOP8.out).mono ?_; rintro e w3 ⟨v3, he3, hov, hb3⟩; rw [HMK.out.1, HMK.out.2] at he3; rw [HMK.out.2] at hov; obtain ⟨bA, bc, ev, -⟩ := OwnX.txs hov (by have := HBL.out; omega); obtain ⟨bn, hbn⟩ : ∃ x, (nxD Dk).tx.length = x := ⟨_, rfl⟩; rw [hbn] at ev; clear hbn; subst ev; obtain ⟨b9, hb9e⟩ : ∃ b, nxD Dk = b := ⟨_, rfl⟩; rw [hb9e] at he3 hov; subst he3) | (go_at_call 7; refine (law13_num _ _).mono ?_; rintro e w' ⟨rfl, rfl⟩))
                    clear q0 q1 q2 q3 q4 q5 q6 q7 q8 hgW
                    refine wp_world (fun WA hWA => ?_)
                    obtain ⟨gb, hgb⟩ : ∃ g, g = w3.heap.size := ⟨_, rfl⟩
                    have HBA : Hid (Blk WA gb 40 [.int .i64 b9.au, .int .i64 b9.n, .slice bA bn bc]) := Lib.hid (by rw [hWA, hgb]; exact Blk.new w3 40 [.int .i64 b9.au, .int .i64 b9.n, .slice bA bn bc])
                    have hb3A : Below w3.heap.size w3 WA := by rw [hWA]; exact bel_alloc (Below.refl _ _)
                    rw [← hgb]
                    clear hWA hgb
                    have hbsA := bel_trans hb3 hb3A
                    have HWA := Lib.hid (HW9.out.up hbsA)
                    have HYA := Lib.hid (HY9.out.up hbsA)
                    have HKA := Lib.hid (HK9.out.up hbsA)
                    have HTA := Lib.hid (HT9.out.up hbsA)
                    have hbWA := bel_trans hbW9 hbsA
                    have HOA : Hid (OwnX WA w.heap.size (.slice bA bn bc) b9.tx) := Lib.hid (OwnX.mono (OwnX.up hov hb3A) hbW9.size)
                    clear hb3 hb3A hbsA hov HW9 HY9 HK9 HT9 hbW9 HWR
                    have hbl := HBA.out.lt
                    have b_0 := (HBA.out.box).2 0 _ rfl; have b_1 := (HBA.out.box).2 1 _ rfl; have b_2 := (HBA.out.box).2 2 _ rfl
                    have HKL : Hid (book.length ≤ 800000000) := Lib.hid (by omega)
                    have hszA := hbWA.size
                    go_upto_region 50 with (at_builtin; refine wpList_appBook rfl (.tmp 222) (.tmp 224) rfl rfl w.heap.size (.slice kA kn kc) bs book rfl (HKA.out.up (bel_alloc (Below.refl _ _))) WA.heap.size b9 ⟨bA, bn, bc⟩ rfl (BoxR.new WA [.int .i64 b9.au, .int .i64 b9.n, .slice bA bn bc] 40) (OwnX.up HOA.out (bel_alloc (Below.refl _ _))) HKL.out (by simp; omega) ?_; intro v5 WB hownB htkB hbB)
                    clear hbl b_0 b_1 b_2 hszA
                    obtain ⟨kA9, kc9, ek9, -⟩ := hownB.read
                    obtain ⟨kn9, hkn9⟩ : ∃ x, (book ++ [b9]).length = x := ⟨_, rfl⟩
                    rw [hkn9] at ek9
                    subst ek9
                    have hd9 : ((book.length : Int) + 1) = (kn9 : Int) := by rw [← hkn9, List.length_append]; simp
                    have hkk9 : kn9 ≤ i + 1 := by have := HLL.out.2; omega
                    have hba : Below WA.heap.size WA (WA.alloc (.cells #[.int .i64 b9.au, .int .i64 b9.n, .slice bA bn bc] 40)) := bel_alloc (Below.refl _ _)
                    have HWB := Lib.hid ((HWA.out.up hba).tkW htkB tA3 (by decide))
                    have HYB := Lib.hid ((HYA.out.up hba).tkY htkB tA3 (by decide))
                    have HTB := Lib.hid ((HTA.out.up hba).tk htkB (by decide))
                    have HKB := Lib.hid hownB
                    have hbWB : Below w.heap.size w WB := (bel_trans hbWA hba).trans hbB
                    clear hownB htkB hbB hba HWA HYA HKA HTA hbWA HBA HOA HKL
                    obtain ⟨hs1, hs2, hs3⟩ := HI.out.seal (by omega) hkn (by rw [HDK.out]; exact HE.out)
                    rw [HDK.out] at hs1 hs3
                    rw [hd9] at hs1 hs2 hs3
                    have hLe : askL Dk.id (kn9 : Int) (nxD Dk) [] Dk.nodes.toNat = askL ((k : Int) + 1) (kn9 : Int) (nxD Dk) [] n := by rw [HDW.out.id, HDW.out.nodes]; rfl
                    have hL16 := askL_lenW ((k : Int) + 1) (kn9 : Int) (nxD Dk) [] n (by omega)
                    rw [← hLe] at hs3 hL16
                    have HS1 := Lib.hid hs1
                    have HS2 := Lib.hid hs2
                    have HSL : Hid (Dk.re.length + Dk.wa.length ≤ 700000000) := Lib.hid (by have := HDW.out.lens.1; have := HDW.out.lens.2.1; omega)
                    clear hs1 hs2 hLe hd9
                    obtain ⟨⟨⟨oA, on, oc⟩, ⟨tA, tn, tc⟩, ⟨eA, en, ec⟩, ⟨rA, rn, rc⟩⟩, -, hOk, hgW, -, -, hcl⟩ := wrk_cells HWB.out HI.out.len hkn
                    rw [HDK.out] at hOk hcl
                    have q0 : WB.cell? ⟨gW, k * 9, none⟩ = some (.int .i64 Dk.id) := hcl 0 _ rfl
                    have q1 : WB.cell? ⟨gW, k * 9 + 1, none⟩ = some (.int .i64 Dk.nodes) := hcl 1 _ rfl
                    have q2 : WB.cell? ⟨gW, k * 9 + 2, none⟩ = some (.int .i64 Dk.next) := hcl 2 _ rfl
                    have q3 : WB.cell? ⟨gW, k * 9 + 3, none⟩ = some (.slice oA on oc) := hcl 3 _ rfl
                    have q4 : WB.cell? ⟨gW, k * 9 + 4, none⟩ = some (.int .i64 Dk.age) := hcl 4 _ rfl
                    have q5 : WB.cell? ⟨gW, k * 9 + 5, none⟩ = some (.int .i64 Dk.clock) := hcl 5 _ rfl
                    have q6 : WB.cell? ⟨gW, k * 9 + 6, none⟩ = some (.slice tA tn tc) := hcl 6 _ rfl
                    have q7 : WB.cell? ⟨gW, k * 9 + 7, none⟩ = some (.slice eA en ec) := hcl 7 _ rfl
                    have q8 : WB.cell? ⟨gW, k * 9 + 8, none⟩ = some (.slice rA rn rc) := hcl 8 _ rfl
                    have HWR2 := Lib.hid (hOk.work HBG.out)
                    clear hOk hcl
                    go_upto_region 53 with (first | (go_at_call 10; refine (worker_Sealed_ok ⟨⟨oA, on, oc⟩, ⟨tA, tn, tc⟩, ⟨eA, en, ec⟩, ⟨rA, rn, rc⟩⟩ Dk (kn9 : Int) _ HWR2.out HBG.out HMY.out HE.out HS2.out HS1.out HSL.out).mono ?_; rintro e w6 ⟨⟨⟨oA6, on6, oc6⟩, ⟨tA6, tn6, tc6⟩, ⟨eA6, en6, ec6⟩, ⟨rA6, rn6, rc6⟩⟩, lA6, ln6, lc6, he6, hO6, hM6, hb6⟩; obtain ⟨D6, hD6⟩ : ∃ D, sealD Dk (kn9 : Int) = D := ⟨_, rfl⟩; rw [hD6] at he6 hO6 hs3; obtain ⟨L6, hL6e⟩ : ∃ l, askL Dk.id (kn9 : Int) (nxD Dk) [] Dk.nodes.toNat = l := ⟨_, rfl⟩; rw [hL6e] at hM6 hs3 hL16; obtain ⟨us6, hL6⟩ := hM6; have he7 : e = .returned (.tuple #[.agg #[.int .i64 D6.id, .int .i64 D6.nodes, .int .i64 D6.next, .slice oA6 on6 oc6, .int .i64 D6.age, .int .i64 D6.clock, .slice tA6 tn6 tc6, .slice eA6 en6 ec6, .slice rA6 rn6 rc6], .slice lA6 ln6 lc6, .int .i64 0]) := he6; clear he6; subst he7) | (go_at_call 7; refine (law13_num _ _).mono ?_; rintro e w' ⟨rfl, rfl⟩))
                    clear q0 q1 q2 q3 q4 q5 q6 q7 q8 hgW
                    have hln6 : L6.length = ln6 := by obtain ⟨A', c', e', _⟩ := hL6.read; injection e' with _ e2 _; exact e2.symm
                    rw [hb9e] at hs3
                    have HI6 := Lib.hid hs3
                    clear hs3 hL6e hD6 hb9e
                    refine wp_world (fun WC hWC => ?_)
                    obtain ⟨gx, hgx⟩ : ∃ g, g = w6.heap.size := ⟨_, rfl⟩
                    have HXC : Hid (Blk WC gx 27 [.int .i64 D6.id, .int .i64 D6.nodes, .int .i64 D6.next, .slice oA6 on6 oc6, .int .i64 D6.age, .int .i64 D6.clock, .slice tA6 tn6 tc6, .slice eA6 en6 ec6, .slice rA6 rn6 rc6]) := Lib.hid (by rw [hWC, hgx]; exact Blk.new w6 27 [.int .i64 D6.id, .int .i64 D6.nodes, .int .i64 D6.next, .slice oA6 on6 oc6, .int .i64 D6.age, .int .i64 D6.clock, .slice tA6 tn6 tc6, .slice eA6 en6 ec6, .slice rA6 rn6 rc6])
                    have hb67 : Below w6.heap.size w6 WC := by rw [hWC]; exact bel_alloc (Below.refl _ _)
                    rw [← hgx]
                    clear hWC hgx
                    have hb57 := bel_trans hb6 hb67
                    have HWC := Lib.hid (HWB.out.up hb57)
                    have HYC := Lib.hid (HYB.out.up hb57)
                    have HKC := Lib.hid (HKB.out.up hb57)
                    have HTC := Lib.hid (HTB.out.up hb57)
                    have hbWC := bel_trans hbWB hb57
                    have HOC := Lib.hid (WorkO.mono (B' := w.heap.size) (hO6.up hb67) hbWB.size)
                    have HLC := Lib.hid (OwnT.mono (B' := w.heap.size) (hL6.up hb67) hbWB.size)
                    clear hb6 hb67 hb57 hO6 hL6 HWB HYB HKB HTB hbWB HWR2
                    obtain ⟨P2, -, -, hgW2, hgWB, hfz2, hcl2⟩ := wrk_cells HWC.out HI.out.len hkn
                    have r0 : WC.cell? ⟨gW, k * 9, none⟩ = some (.int .i64 (wk ws k).id) := hcl2 0 _ rfl
                    have r1 : WC.cell? ⟨gW, k * 9 + 1, none⟩ = some (.int .i64 (wk ws k).nodes) := hcl2 1 _ rfl
                    have r2 : WC.cell? ⟨gW, k * 9 + 2, none⟩ = some (.int .i64 (wk ws k).next) := hcl2 2 _ rfl
                    have r3 : WC.cell? ⟨gW, k * 9 + 3, none⟩ = some (.slice P2.op.A P2.op.n P2.op.c) := hcl2 3 _ rfl
                    have r4 : WC.cell? ⟨gW, k * 9 + 4, none⟩ = some (.int .i64 (wk ws k).age) := hcl2 4 _ rfl
                    have r5 : WC.cell? ⟨gW, k * 9 + 5, none⟩ = some (.int .i64 (wk ws k).clock) := hcl2 5 _ rfl
                    have r6 : WC.cell? ⟨gW, k * 9 + 6, none⟩ = some (.slice P2.wa.A P2.wa.n P2.wa.c) := hcl2 6 _ rfl
                    have r7 : WC.cell? ⟨gW, k * 9 + 7, none⟩ = some (.slice P2.he.A P2.he.n P2.he.c) := hcl2 7 _ rfl
                    have r8 : WC.cell? ⟨gW, k * 9 + 8, none⟩ = some (.slice P2.re.A P2.re.n P2.re.c) := hcl2 8 _ rfl
                    have hput := workers_put HWC.out HI.out.len hkn HOC.out
                    have HPUT := Lib.hid hput
                    clear hcl2 hput
                    have hxl := HXC.out.lt
                    have x_0 := (HXC.out.box).2 0 _ rfl; have x_1 := (HXC.out.box).2 1 _ rfl; have x_2 := (HXC.out.box).2 2 _ rfl; have x_3 := (HXC.out.box).2 3 _ rfl; have x_4 := (HXC.out.box).2 4 _ rfl; have x_5 := (HXC.out.box).2 5 _ rfl; have x_6 := (HXC.out.box).2 6 _ rfl; have x_7 := (HXC.out.box).2 7 _ rfl; have x_8 := (HXC.out.box).2 8 _ rfl
                    go_upto_region 54 with fail
                    clear r0 r1 r2 r3 r4 r5 r6 r7 r8 hfz2 x_0 x_1 x_2 x_3 x_4 x_5 x_6 x_7 x_8 hxl hgW2
                    refine wp_world (fun WD hWD => ?_)
                    have htkD : TKeep 27 WC WD := by rw [hWD]; exact HPUT.out.2
                    have HWD : Hid (OwnT dWrk WD w.heap.size (.slice (some ⟨gW, 0, none⟩) n wc) (Ps.set k ⟨⟨oA6, on6, oc6⟩, ⟨tA6, tn6, tc6⟩, ⟨eA6, en6, ec6⟩, ⟨rA6, rn6, rc6⟩⟩) (ws.set k D6)) := Lib.hid (by rw [hWD]; exact HPUT.out.1)
                    have HYD := Lib.hid (HYC.out.tkY htkD tA1 (by decide))
                    have HKD := Lib.hid (HKC.out.tkB htkD tA1 (by decide))
                    have HTD := Lib.hid (HTC.out.tk htkD (by decide))
                    have hbWD : Below w.heap.size w WD := by rw [hWD]; exact belw_sets9k hbWC hgWB _ _ _ _ _ _ _ _ _
                    have HLD := Lib.hid (HLC.out.tkY htkD tA1 (by decide))
                    clear hWD htkD HPUT HXC HOC HWC HYC HKC HTC hbWC HLC
                    have HLN : Hid (way.length + ln6 ≤ 900000000) := Lib.hid (by rw [HLL.out.1]; omega)
                    go_upto_region 16 with (at_builtin; refine wpList_appWay rfl (.tmp 244) (.tmp 245) rfl rfl w.heap.size (.slice yA yn yc) us way rfl HYD.out lA6 ln6 lc6 us6 L6 rfl HLD.out hln6 HLN.out hbWD.size ?_; intro v9 WE hown9 htk9 hb9)
                    obtain ⟨yA9, yc9, ey9, -⟩ := hown9.read
                    obtain ⟨yn9, hyn9⟩ : ∃ x, (way ++ L6).length = x := ⟨_, rfl⟩
                    rw [hyn9] at ey9
                    subst ey9
                    have hyn9b : yn9 ≤ 99000 := by rw [← hyn9, List.length_append, HLL.out.1, hln6]; omega
                    have HYE := Lib.hid hown9
                    have HWE := Lib.hid (HWD.out.tkW htk9 tA2 (by decide))
                    have HKE := Lib.hid (HKD.out.tkB htk9 tA2 (by decide))
                    have HTE := Lib.hid (HTD.out.tk htk9 (by decide))
                    have hbWE : Below w.heap.size w WE := hbWD.trans hb9
                    clear hown9 htk9 hb9 HLN
                    have HLL2 : Hid ((way ++ L6).length = yn9 ∧ (book ++ [b9]).length = kn9) := Lib.hid ⟨hyn9, hkn9⟩
                    clear hln6 hL16 HLD HWD HYD HKD HTD hbWD
                    go_wp2_with fail
                    (first | (go_round; (case rel => exact ⟨i + 1, Ps.set k ⟨⟨oA6, on6, oc6⟩, ⟨tA6, tn6, tc6⟩, ⟨eA6, en6, ec6⟩, ⟨rA6, rn6, rc6⟩⟩, ws.set k D6, us ++ us6, way ++ L6, bs ++ [⟨bA, bn, bc⟩], book ++ [b9], yA9, yn9, yc9, kA9, kn9, kc9, by omega, by go_num, rfl, rfl, HWE, HYE, HKE, HI6, HLL2, HTE, by omega, by omega, hbWE⟩); (case measure => (simp [intOf] <;> omega))) | (go_roundw; (case rel => exact ⟨i + 1, Ps.set k ⟨⟨oA6, on6, oc6⟩, ⟨tA6, tn6, tc6⟩, ⟨eA6, en6, ec6⟩, ⟨rA6, rn6, rc6⟩⟩, ws.set k D6, us ++ us6, way ++ L6, bs ++ [⟨bA, bn, bc⟩], book ++ [b9], yA9, yn9, yc9, kA9, kn9, kc9, by omega, by go_num, rfl, rfl, HWE, HYE, HKE, HI6, HLL2, HTE, by omega, by omega, hbWE⟩); (case measure => (simp [intOf] <;> omega))) | (refine ⟨?_, by simp [intOf] <;> omega⟩; (repeat apply Exists.intro); refine ⟨?rel, ?fr⟩; (case fr => ((repeat' apply And.intro) <;> rfl)); (case rel => exact ⟨i + 1, Ps.set k ⟨⟨oA6, on6, oc6⟩, ⟨tA6, tn6, tc6⟩, ⟨eA6, en6, ec6⟩, ⟨rA6, rn6, rc6⟩⟩, ws.set k D6, us ++ us6, way ++ L6, bs ++ [⟨bA, bn, bc⟩], book ++ [b9], yA9, yn9, yc9, kA9, kn9, kc9, by omega, by go_num, rfl, rfl, HWE, HYE, HKE, HI6, HLL2, HTE, by omega, by omega, hbWE⟩)))
                  · skip
                    obtain ⟨e9, he9⟩ : ∃ x, mkE Dk = x := ⟨_, rfl⟩
                    have hne := mk_no HMY.out hE
                    rw [he9] at hne
                    have hneb : (e9 == 0) = false := by simp [hne]
                    have HE9 := Lib.hid he9
                    clear he9 hE hne
                    obtain ⟨u1, hu1⟩ : ∃ x, (mkB Dk).au = x := ⟨_, rfl⟩
                    obtain ⟨u2, hu2⟩ : ∃ x, (mkB Dk).n = x := ⟨_, rfl⟩
                    have HU := Lib.hid (And.intro hu1 hu2)
                    have HBL := Lib.hid (mkB_lenW Dk)
                    clear hu1 hu2
                    go_upto_region 16 with (first | (go_at_call 9; refine (worker_Make ⟨⟨oA, on, oc⟩, ⟨tA, tn, tc⟩, ⟨eA, en, ec⟩, ⟨rA, rn, rc⟩⟩ Dk _ HWR.out HOP8.out).mono ?_; rintro e w3 ⟨v3, he3, hov, hb3⟩; rw [HE9.out, HU.out.1, HU.out.2] at he3; obtain ⟨bA, bc, ev, -⟩ := OwnX.txs hov (by have := HBL.out; omega); obtain ⟨bn, hbn⟩ : ∃ x, (mkB Dk).tx.length = x := ⟨_, rfl⟩; rw [hbn] at ev; clear hbn; subst ev; subst he3) | (go_at_call 7; refine (law13_num _ _).mono ?_; rintro e w' ⟨rfl, rfl⟩))
                    clear q0 q1 q2 q3 q4 q5 q6 q7 q8 hgW
                    refine wp_world (fun WA hWA => ?_)
                    have hbsA : Below W9.heap.size W9 WA := by rw [hWA]; exact bel_alloc hb3
                    clear hWA
                    have HWA := Lib.hid (HW9.out.up hbsA)
                    have HYA := Lib.hid (HY9.out.up hbsA)
                    have HKA := Lib.hid (HK9.out.up hbsA)
                    have HTA := Lib.hid (HT9.out.up hbsA)
                    have hbWA := bel_trans hbW9 hbsA
                    clear hbsA hb3 hov HW9 HY9 HK9 HT9 hbW9 HWR
                    go_wp2_with fail
                    (first | (go_round; (case rel => exact ⟨i + 1, Ps, ws, us, way, bs, book, yA, yn, yc, kA, kn, kc, by omega, by go_num, rfl, rfl, HWA, HYA, HKA, HI, HLL, HTA, by omega, by omega, hbWA⟩); (case measure => (simp [intOf] <;> omega))) | (go_roundw; (case rel => exact ⟨i + 1, Ps, ws, us, way, bs, book, yA, yn, yc, kA, kn, kc, by omega, by go_num, rfl, rfl, HWA, HYA, HKA, HI, HLL, HTA, by omega, by omega, hbWA⟩); (case measure => (simp [intOf] <;> omega))) | (refine ⟨?_, by simp [intOf] <;> omega⟩; (repeat apply Exists.intro); refine ⟨?rel, ?fr⟩; (case fr => ((repeat' apply And.intro) <;> rfl)); (case rel => exact ⟨i + 1, Ps, ws, us, way, bs, book, yA, yn, yc, kA, kn, kc, by omega, by go_num, rfl, rfl, HWA, HYA, HKA, HI, HLL, HTA, by omega, by omega, hbWA⟩)))
              · skip
                skip
                obtain ⟨⟨⟨oA, on, oc⟩, ⟨tA, tn, tc⟩, ⟨eA, en, ec⟩, ⟨rA, rn, rc⟩⟩, -, hOk, hgW, -, -, hcl⟩ := wrk_cells HW2.out HI.out.len hkn
                have hDW := HI.out.w k hkn
                obtain ⟨Dk, hDk⟩ : ∃ D, wk ws k = D := ⟨_, rfl⟩
                rw [hDk] at hOk hcl hDW
                have q0 : W2.cell? ⟨gW, k * 9, none⟩ = some (.int .i64 Dk.id) := hcl 0 _ rfl
                have q1 : W2.cell? ⟨gW, k * 9 + 1, none⟩ = some (.int .i64 Dk.nodes) := hcl 1 _ rfl
                have q2 : W2.cell? ⟨gW, k * 9 + 2, none⟩ = some (.int .i64 Dk.next) := hcl 2 _ rfl
                have q3 : W2.cell? ⟨gW, k * 9 + 3, none⟩ = some (.slice oA on oc) := hcl 3 _ rfl
                have q4 : W2.cell? ⟨gW, k * 9 + 4, none⟩ = some (.int .i64 Dk.age) := hcl 4 _ rfl
                have q5 : W2.cell? ⟨gW, k * 9 + 5, none⟩ = some (.int .i64 Dk.clock) := hcl 5 _ rfl
                have q6 : W2.cell? ⟨gW, k * 9 + 6, none⟩ = some (.slice tA tn tc) := hcl 6 _ rfl
                have q7 : W2.cell? ⟨gW, k * 9 + 7, none⟩ = some (.slice eA en ec) := hcl 7 _ rfl
                have q8 : W2.cell? ⟨gW, k * 9 + 8, none⟩ = some (.slice rA rn rc) := hcl 8 _ rfl
                have HOK := Lib.hid hOk
                have HDK := Lib.hid hDk
                have HDW := Lib.hid hDW
                have HBG := Lib.hid (hDW.big hbk3)
                have HWR := Lib.hid (hOk.work (hDW.big hbk3))
                have HMY := Lib.hid (wmay_iff.2 hDW.may)
                clear hOk hDk hcl hDW
                have HWL : Hid (Dk.wa.length ≤ 1000000) := Lib.hid (by have := HDW.out.lens.1; omega)
                have HTL := Lib.hid (tickL_len HDW.out hbk3)
                go_upto_region 30 with (first | (go_at_call 17; refine (worker_Tick ⟨⟨oA, on, oc⟩, ⟨tA, tn, tc⟩, ⟨eA, en, ec⟩, ⟨rA, rn, rc⟩⟩ Dk _ HWR.out HBG.out HMY.out HWL.out).mono ?_; rintro e w6 ⟨⟨⟨oA6, on6, oc6⟩, ⟨tA6, tn6, tc6⟩, ⟨eA6, en6, ec6⟩, ⟨rA6, rn6, rc6⟩⟩, lA6, ln6, lc6, us6, he6, hO6, hL6, hb6⟩; obtain ⟨D6, hD6⟩ : ∃ D, tickD Dk = D := ⟨_, rfl⟩; rw [hD6] at he6 hO6; have he7 : e = .returned (.tuple #[.agg #[.int .i64 D6.id, .int .i64 D6.nodes, .int .i64 D6.next, .slice oA6 on6 oc6, .int .i64 D6.age, .int .i64 D6.clock, .slice tA6 tn6 tc6, .slice eA6 en6 ec6, .slice rA6 rn6 rc6], .slice lA6 ln6 lc6, .int .i64 0]) := he6; clear he6; subst he7) | (go_at_call 7; refine (law13_num _ _).mono ?_; rintro e w' ⟨rfl, rfl⟩))
                clear q0 q1 q2 q3 q4 q5 q6 q7 q8 hgW
                have hln6 : (tickL Dk).length = ln6 := by obtain ⟨A', c', e', _⟩ := hL6.read; injection e' with _ e2 _; exact e2.symm
                have hl5 : ln6 ≤ 5000 := by rw [← hln6]; exact HTL.out
                have hI2 := HI.out.tick hkn
                rw [HDK.out, hD6] at hI2
                have HI6 := Lib.hid hI2
                clear hI2 hD6
                refine wp_world (fun W7 hW7 => ?_)
                obtain ⟨gx, hgx⟩ : ∃ g, g = w6.heap.size := ⟨_, rfl⟩
                have HX7 : Hid (Blk W7 gx 27 [.int .i64 D6.id, .int .i64 D6.nodes, .int .i64 D6.next, .slice oA6 on6 oc6, .int .i64 D6.age, .int .i64 D6.clock, .slice tA6 tn6 tc6, .slice eA6 en6 ec6, .slice rA6 rn6 rc6]) := Lib.hid (by rw [hW7, hgx]; exact Blk.new w6 27 [.int .i64 D6.id, .int .i64 D6.nodes, .int .i64 D6.next, .slice oA6 on6 oc6, .int .i64 D6.age, .int .i64 D6.clock, .slice tA6 tn6 tc6, .slice eA6 en6 ec6, .slice rA6 rn6 rc6])
                have hb67 : Below w6.heap.size w6 W7 := by rw [hW7]; exact bel_alloc (Below.refl _ _)
                rw [← hgx]
                clear hW7 hgx
                have hb57 := bel_trans hb6 hb67
                have HW7 := Lib.hid (HW2.out.up hb57)
                have HY7 := Lib.hid (HY2.out.up hb57)
                have HK7 := Lib.hid (HK2.out.up hb57)
                have HT7 := Lib.hid (HT2.out.up hb57)
                have hbW7 := bel_trans hbW2 hb57
                have HO7 := Lib.hid (WorkO.mono (B' := w.heap.size) (hO6.up hb67) hbW2.size)
                have HL7 := Lib.hid (OwnT.mono (B' := w.heap.size) (hL6.up hb67) hbW2.size)
                clear hb6 hb67 hb57 hO6 hL6 HW2 HY2 HK2 HT2 hbW2 HF2 HWR
                obtain ⟨P2, -, -, hgW2, hgWB, hfz2, hcl2⟩ := wrk_cells HW7.out HI.out.len hkn
                have r0 : W7.cell? ⟨gW, k * 9, none⟩ = some (.int .i64 (wk ws k).id) := hcl2 0 _ rfl
                have r1 : W7.cell? ⟨gW, k * 9 + 1, none⟩ = some (.int .i64 (wk ws k).nodes) := hcl2 1 _ rfl
                have r2 : W7.cell? ⟨gW, k * 9 + 2, none⟩ = some (.int .i64 (wk ws k).next) := hcl2 2 _ rfl
                have r3 : W7.cell? ⟨gW, k * 9 + 3, none⟩ = some (.slice P2.op.A P2.op.n P2.op.c) := hcl2 3 _ rfl
                have r4 : W7.cell? ⟨gW, k * 9 + 4, none⟩ = some (.int .i64 (wk ws k).age) := hcl2 4 _ rfl
                have r5 : W7.cell? ⟨gW, k * 9 + 5, none⟩ = some (.int .i64 (wk ws k).clock) := hcl2 5 _ rfl
                have r6 : W7.cell? ⟨gW, k * 9 + 6, none⟩ = some (.slice P2.wa.A P2.wa.n P2.wa.c) := hcl2 6 _ rfl
                have r7 : W7.cell? ⟨gW, k * 9 + 7, none⟩ = some (.slice P2.he.A P2.he.n P2.he.c) := hcl2 7 _ rfl
                have r8 : W7.cell? ⟨gW, k * 9 + 8, none⟩ = some (.slice P2.re.A P2.re.n P2.re.c) := hcl2 8 _ rfl
                have hput := workers_put HW7.out HI.out.len hkn HO7.out
                have HPUT := Lib.hid hput
                clear hcl2 hput
                have hxl := HX7.out.lt
                have x_0 := (HX7.out.box).2 0 _ rfl; have x_1 := (HX7.out.box).2 1 _ rfl; have x_2 := (HX7.out.box).2 2 _ rfl; have x_3 := (HX7.out.box).2 3 _ rfl; have x_4 := (HX7.out.box).2 4 _ rfl; have x_5 := (HX7.out.box).2 5 _ rfl; have x_6 := (HX7.out.box).2 6 _ rfl; have x_7 := (HX7.out.box).2 7 _ rfl; have x_8 := (HX7.out.box).2 8 _ rfl
                go_upto_region 31 with fail
                clear r0 r1 r2 r3 r4 r5 r6 r7 r8 hfz2 x_0 x_1 x_2 x_3 x_4 x_5 x_6 x_7 x_8 hxl hgW2
                refine wp_world (fun W8 hW8 => ?_)
                have htk8 : TKeep 27 W7 W8 := by rw [hW8]; exact HPUT.out.2
                have HW8 : Hid (OwnT dWrk W8 w.heap.size (.slice (some ⟨gW, 0, none⟩) n wc) (Ps.set k ⟨⟨oA6, on6, oc6⟩, ⟨tA6, tn6, tc6⟩, ⟨eA6, en6, ec6⟩, ⟨rA6, rn6, rc6⟩⟩) (ws.set k D6)) := Lib.hid (by rw [hW8]; exact HPUT.out.1)
                have HY8 := Lib.hid (HY7.out.tkY htk8 tA1 (by decide))
                have HK8 := Lib.hid (HK7.out.tkB htk8 tA1 (by decide))
                have HT8 := Lib.hid (HT7.out.tk htk8 (by decide))
                have hbW8 : Below w.heap.size w W8 := by rw [hW8]; exact belw_sets9k hbW7 hgWB _ _ _ _ _ _ _ _ _
                have HL8 := Lib.hid (HL7.out.tkY htk8 tA1 (by decide))
                clear hW8 htk8 HPUT HX7 HO7 HW7 HY7 HK7 HT7 hbW7 HL7
                have HLN : Hid (way.length + ln6 ≤ 900000000) := Lib.hid (by rw [HLL.out.1]; omega)
                go_upto_region 47 with (at_builtin; refine wpList_appWay rfl (.tmp 146) (.tmp 147) rfl rfl w.heap.size (.slice yA yn yc) us way rfl HY8.out lA6 ln6 lc6 us6 (tickL Dk) rfl HL8.out hln6 HLN.out hbW8.size ?_; intro v9 W9 hown9 htk9 hb9)
                obtain ⟨yA9, yc9, ey9, -⟩ := hown9.read
                obtain ⟨yn9, hyn9⟩ : ∃ x, (way ++ (tickL Dk)).length = x := ⟨_, rfl⟩
                rw [hyn9] at ey9
                subst ey9
                have hyn9b : yn9 ≤ 8000 := by rw [← hyn9, List.length_append, HLL.out.1, hln6]; omega
                have HY9 := Lib.hid hown9
                have HW9 := Lib.hid (HW8.out.tkW htk9 tA2 (by decide))
                have HK9 := Lib.hid (HK8.out.tkB htk9 tA2 (by decide))
                have HT9 := Lib.hid (HT8.out.tk htk9 (by decide))
                have hbW9 : Below w.heap.size w W9 := hbW8.trans hb9
                clear hown9 htk9 hb9 HLN
                have HLL2 : Hid ((way ++ tickL Dk).length = yn9 ∧ book.length = kn) := Lib.hid ⟨hyn9, HLL.out.2⟩
                obtain ⟨way, hway⟩ : ∃ x, way ++ tickL Dk = x := ⟨_, rfl⟩
                obtain ⟨us, hus⟩ : ∃ x, us ++ us6 = x := ⟨_, rfl⟩
                rw [hway] at HI6 HLL2 HY9
                rw [hus] at HY9
                clear hway hus hyn9 hln6 HLL
                obtain ⟨Ps, hPs⟩ : ∃ x, Ps.set k ⟨⟨oA6, on6, oc6⟩, ⟨tA6, tn6, tc6⟩, ⟨eA6, en6, ec6⟩, ⟨rA6, rn6, rc6⟩⟩ = x := ⟨_, rfl⟩
                obtain ⟨ws, hws⟩ : ∃ x, ws.set k D6 = x := ⟨_, rfl⟩
                rw [hPs, hws] at HW9
                rw [hws] at HI6
                clear hPs hws HL8 HW8 HY8 HK8 HT8 hbW8 HI HDK HDW HBG HMY HTL HWL
                have HI := HI6
                have HLL := HLL2
                clear HI6 HLL2
                obtain ⟨yA, hyA⟩ : ∃ x, x = yA9 := ⟨_, rfl⟩
                obtain ⟨yn, hyn2⟩ : ∃ x, x = yn9 := ⟨_, rfl⟩
                obtain ⟨yc, hyc⟩ : ∃ x, x = yc9 := ⟨_, rfl⟩
                subst hyA
                subst hyn2
                subst hyc
                skip
                skip
                obtain ⟨⟨⟨oA, on, oc⟩, ⟨tA, tn, tc⟩, ⟨eA, en, ec⟩, ⟨rA, rn, rc⟩⟩, -, hOk, hgW, -, -, hcl⟩ := wrk_cells HW9.out HI.out.len hkn
                have hDW := HI.out.w k hkn
                obtain ⟨Dk, hDk⟩ : ∃ D, wk ws k = D := ⟨_, rfl⟩
                rw [hDk] at hOk hcl hDW
                have q0 : W9.cell? ⟨gW, k * 9, none⟩ = some (.int .i64 Dk.id) := hcl 0 _ rfl
                have q1 : W9.cell? ⟨gW, k * 9 + 1, none⟩ = some (.int .i64 Dk.nodes) := hcl 1 _ rfl
                have q2 : W9.cell? ⟨gW, k * 9 + 2, none⟩ = some (.int .i64 Dk.next) := hcl 2 _ rfl
                have q3 : W9.cell? ⟨gW, k * 9 + 3, none⟩ = some (.slice oA on oc) := hcl 3 _ rfl
                have q4 : W9.cell? ⟨gW, k * 9 + 4, none⟩ = some (.int .i64 Dk.age) := hcl 4 _ rfl
                have q5 : W9.cell? ⟨gW, k * 9 + 5, none⟩ = some (.int .i64 Dk.clock) := hcl 5 _ rfl
                have q6 : W9.cell? ⟨gW, k * 9 + 6, none⟩ = some (.slice tA tn tc) := hcl 6 _ rfl
                have q7 : W9.cell? ⟨gW, k * 9 + 7, none⟩ = some (.slice eA en ec) := hcl 7 _ rfl
                have q8 : W9.cell? ⟨gW, k * 9 + 8, none⟩ = some (.slice rA rn rc) := hcl 8 _ rfl
                have HOK := Lib.hid hOk
                have HDK := Lib.hid hDk
                have HDW := Lib.hid hDW
                have HBG := Lib.hid (hDW.big hbk3)
                have HWR := Lib.hid (hOk.work (hDW.big hbk3))
                have HMY := Lib.hid (wmay_iff.2 hDW.may)
                clear hOk hDk hcl hDW
                have hop8 : Dk.op.length ≤ 800000000 := HBG.out.op
                have HOP8 := Lib.hid hop8
                clear hop8
                by_cases hE : nxE Dk = 0
                · skip
                  have HE := Lib.hid hE
                  have HMK := Lib.hid (mk_yes HMY.out hE)
                  have HBL : Hid ((nxD Dk).tx.length ≤ 8) := Lib.hid (List.length_take_le 8 Dk.op)
                  clear hE
                  go_upto_region 49 with (first | (go_at_call 9; refine (worker_Make ⟨⟨oA, on, oc⟩, ⟨tA, tn, tc⟩, ⟨eA, en, ec⟩, ⟨rA, rn, rc⟩⟩ Dk _ HWR.out HOP8.out).mono ?_; rintro e w3 ⟨v3, he3, hov, hb3⟩; rw [HMK.out.1, HMK.out.2] at he3; rw [HMK.out.2] at hov; obtain ⟨bA, bc, ev, -⟩ := OwnX.txs hov (by have := HBL.out; omega); obtain ⟨bn, hbn⟩ : ∃ x, (nxD Dk).tx.length = x := ⟨_, rfl⟩; rw [hbn] at ev; clear hbn; subst ev; obtain ⟨b9, hb9e⟩ : ∃ b, nxD Dk = b := ⟨_, rfl⟩; rw [hb9e] at he3 hov; subst he3) | (go_at_call 7; refine (law13_num _ _).mono ?_; rintro e w' ⟨rfl, rfl⟩))
                  clear q0 q1 q2 q3 q4 q5 q6 q7 q8 hgW
                  refine wp_world (fun WA hWA => ?_)
                  obtain ⟨gb, hgb⟩ : ∃ g, g = w3.heap.size := ⟨_, rfl⟩
                  have HBA : Hid (Blk WA gb 40 [.int .i64 b9.au, .int .i64 b9.n, .slice bA bn bc]) := Lib.hid (by rw [hWA, hgb]; exact Blk.new w3 40 [.int .i64 b9.au, .int .i64 b9.n, .slice bA bn bc])
                  have hb3A : Below w3.heap.size w3 WA := by rw [hWA]; exact bel_alloc (Below.refl _ _)
                  rw [← hgb]
                  clear hWA hgb
                  have hbsA := bel_trans hb3 hb3A
                  have HWA := Lib.hid (HW9.out.up hbsA)
                  have HYA := Lib.hid (HY9.out.up hbsA)
                  have HKA := Lib.hid (HK9.out.up hbsA)
                  have HTA := Lib.hid (HT9.out.up hbsA)
                  have hbWA := bel_trans hbW9 hbsA
                  have HOA : Hid (OwnX WA w.heap.size (.slice bA bn bc) b9.tx) := Lib.hid (OwnX.mono (OwnX.up hov hb3A) hbW9.size)
                  clear hb3 hb3A hbsA hov HW9 HY9 HK9 HT9 hbW9 HWR
                  have hbl := HBA.out.lt
                  have b_0 := (HBA.out.box).2 0 _ rfl; have b_1 := (HBA.out.box).2 1 _ rfl; have b_2 := (HBA.out.box).2 2 _ rfl
                  have HKL : Hid (book.length ≤ 800000000) := Lib.hid (by omega)
                  have hszA := hbWA.size
                  go_upto_region 50 with (at_builtin; refine wpList_appBook rfl (.tmp 222) (.tmp 224) rfl rfl w.heap.size (.slice kA kn kc) bs book rfl (HKA.out.up (bel_alloc (Below.refl _ _))) WA.heap.size b9 ⟨bA, bn, bc⟩ rfl (BoxR.new WA [.int .i64 b9.au, .int .i64 b9.n, .slice bA bn bc] 40) (OwnX.up HOA.out (bel_alloc (Below.refl _ _))) HKL.out (by simp; omega) ?_; intro v5 WB hownB htkB hbB)
                  clear hbl b_0 b_1 b_2 hszA
                  obtain ⟨kA9, kc9, ek9, -⟩ := hownB.read
                  obtain ⟨kn9, hkn9⟩ : ∃ x, (book ++ [b9]).length = x := ⟨_, rfl⟩
                  rw [hkn9] at ek9
                  subst ek9
                  have hd9 : ((book.length : Int) + 1) = (kn9 : Int) := by rw [← hkn9, List.length_append]; simp
                  have hkk9 : kn9 ≤ i + 1 := by have := HLL.out.2; omega
                  have hba : Below WA.heap.size WA (WA.alloc (.cells #[.int .i64 b9.au, .int .i64 b9.n, .slice bA bn bc] 40)) := bel_alloc (Below.refl _ _)
                  have HWB := Lib.hid ((HWA.out.up hba).tkW htkB tA3 (by decide))
                  have HYB := Lib.hid ((HYA.out.up hba).tkY htkB tA3 (by decide))
                  have HTB := Lib.hid ((HTA.out.up hba).tk htkB (by decide))
                  have HKB := Lib.hid hownB
                  have hbWB : Below w.heap.size w WB := (bel_trans hbWA hba).trans hbB
                  clear hownB htkB hbB hba HWA HYA HKA HTA hbWA HBA HOA HKL
                  obtain ⟨hs1, hs2, hs3⟩ := HI.out.seal (by omega) hkn (by rw [HDK.out]; exact HE.out)
                  rw [HDK.out] at hs1 hs3
                  rw [hd9] at hs1 hs2 hs3
                  have hLe : askL Dk.id (kn9 : Int) (nxD Dk) [] Dk.nodes.toNat = askL ((k : Int) + 1) (kn9 : Int) (nxD Dk) [] n := by rw [HDW.out.id, HDW.out.nodes]; rfl
                  have hL16 := askL_lenW ((k : Int) + 1) (kn9 : Int) (nxD Dk) [] n (by omega)
                  rw [← hLe] at hs3 hL16
                  have HS1 := Lib.hid hs1
                  have HS2 := Lib.hid hs2
                  have HSL : Hid (Dk.re.length + Dk.wa.length ≤ 700000000) := Lib.hid (by have := HDW.out.lens.1; have := HDW.out.lens.2.1; omega)
                  clear hs1 hs2 hLe hd9
                  obtain ⟨⟨⟨oA, on, oc⟩, ⟨tA, tn, tc⟩, ⟨eA, en, ec⟩, ⟨rA, rn, rc⟩⟩, -, hOk, hgW, -, -, hcl⟩ := wrk_cells HWB.out HI.out.len hkn
                  rw [HDK.out] at hOk hcl
                  have q0 : WB.cell? ⟨gW, k * 9, none⟩ = some (.int .i64 Dk.id) := hcl 0 _ rfl
                  have q1 : WB.cell? ⟨gW, k * 9 + 1, none⟩ = some (.int .i64 Dk.nodes) := hcl 1 _ rfl
                  have q2 : WB.cell? ⟨gW, k * 9 + 2, none⟩ = some (.int .i64 Dk.next) := hcl 2 _ rfl
                  have q3 : WB.cell? ⟨gW, k * 9 + 3, none⟩ = some (.slice oA on oc) := hcl 3 _ rfl
                  have q4 : WB.cell? ⟨gW, k * 9 + 4, none⟩ = some (.int .i64 Dk.age) := hcl 4 _ rfl
                  have q5 : WB.cell? ⟨gW, k * 9 + 5, none⟩ = some (.int .i64 Dk.clock) := hcl 5 _ rfl
                  have q6 : WB.cell? ⟨gW, k * 9 + 6, none⟩ = some (.slice tA tn tc) := hcl 6 _ rfl
                  have q7 : WB.cell? ⟨gW, k * 9 + 7, none⟩ = some (.slice eA en ec) := hcl 7 _ rfl
                  have q8 : WB.cell? ⟨gW, k * 9 + 8, none⟩ = some (.slice rA rn rc) := hcl 8 _ rfl
                  have HWR2 := Lib.hid (hOk.work HBG.out)
                  clear hOk hcl
                  go_upto_region 53 with (first | (go_at_call 10; refine (worker_Sealed_ok ⟨⟨oA, on, oc⟩, ⟨tA, tn, tc⟩, ⟨eA, en, ec⟩, ⟨rA, rn, rc⟩⟩ Dk (kn9 : Int) _ HWR2.out HBG.out HMY.out HE.out HS2.out HS1.out HSL.out).mono ?_; rintro e w6 ⟨⟨⟨oA6, on6, oc6⟩, ⟨tA6, tn6, tc6⟩, ⟨eA6, en6, ec6⟩, ⟨rA6, rn6, rc6⟩⟩, lA6, ln6, lc6, he6, hO6, hM6, hb6⟩; obtain ⟨D6, hD6⟩ : ∃ D, sealD Dk (kn9 : Int) = D := ⟨_, rfl⟩; rw [hD6] at he6 hO6 hs3; obtain ⟨L6, hL6e⟩ : ∃ l, askL Dk.id (kn9 : Int) (nxD Dk) [] Dk.nodes.toNat = l := ⟨_, rfl⟩; rw [hL6e] at hM6 hs3 hL16; obtain ⟨us6, hL6⟩ := hM6; have he7 : e = .returned (.tuple #[.agg #[.int .i64 D6.id, .int .i64 D6.nodes, .int .i64 D6.next, .slice oA6 on6 oc6, .int .i64 D6.age, .int .i64 D6.clock, .slice tA6 tn6 tc6, .slice eA6 en6 ec6, .slice rA6 rn6 rc6], .slice lA6 ln6 lc6, .int .i64 0]) := he6; clear he6; subst he7) | (go_at_call 7; refine (law13_num _ _).mono ?_; rintro e w' ⟨rfl, rfl⟩))
                  clear q0 q1 q2 q3 q4 q5 q6 q7 q8 hgW
                  have hln6 : L6.length = ln6 := by obtain ⟨A', c', e', _⟩ := hL6.read; injection e' with _ e2 _; exact e2.symm
                  rw [hb9e] at hs3
                  have HI6 := Lib.hid hs3
                  clear hs3 hL6e hD6 hb9e
                  refine wp_world (fun WC hWC => ?_)
                  obtain ⟨gx, hgx⟩ : ∃ g, g = w6.heap.size := ⟨_, rfl⟩
                  have HXC : Hid (Blk WC gx 27 [.int .i64 D6.id, .int .i64 D6.nodes, .int .i64 D6.next, .slice oA6 on6 oc6, .int .i64 D6.age, .int .i64 D6.clock, .slice tA6 tn6 tc6, .slice eA6 en6 ec6, .slice rA6 rn6 rc6]) := Lib.hid (by rw [hWC, hgx]; exact Blk.new w6 27 [.int .i64 D6.id, .int .i64 D6.nodes, .int .i64 D6.next, .slice oA6 on6 oc6, .int .i64 D6.age, .int .i64 D6.clock, .slice tA6 tn6 tc6, .slice eA6 en6 ec6, .slice rA6 rn6 rc6])
                  have hb67 : Below w6.heap.size w6 WC := by rw [hWC]; exact bel_alloc (Below.refl _ _)
                  rw [← hgx]
                  clear hWC hgx
                  have hb57 := bel_trans hb6 hb67
                  have HWC := Lib.hid (HWB.out.up hb57)
                  have HYC := Lib.hid (HYB.out.up hb57)
                  have HKC := Lib.hid (HKB.out.up hb57)
                  have HTC := Lib.hid (HTB.out.up hb57)
                  have hbWC := bel_trans hbWB hb57
                  have HOC := Lib.hid (WorkO.mono (B' := w.heap.size) (hO6.up hb67) hbWB.size)
                  have HLC := Lib.hid (OwnT.mono (B' := w.heap.size) (hL6.up hb67) hbWB.size)
                  clear hb6 hb67 hb57 hO6 hL6 HWB HYB HKB HTB hbWB HWR2
                  obtain ⟨P2, -, -, hgW2, hgWB, hfz2, hcl2⟩ := wrk_cells HWC.out HI.out.len hkn
                  have r0 : WC.cell? ⟨gW, k * 9, none⟩ = some (.int .i64 (wk ws k).id) := hcl2 0 _ rfl
                  have r1 : WC.cell? ⟨gW, k * 9 + 1, none⟩ = some (.int .i64 (wk ws k).nodes) := hcl2 1 _ rfl
                  have r2 : WC.cell? ⟨gW, k * 9 + 2, none⟩ = some (.int .i64 (wk ws k).next) := hcl2 2 _ rfl
                  have r3 : WC.cell? ⟨gW, k * 9 + 3, none⟩ = some (.slice P2.op.A P2.op.n P2.op.c) := hcl2 3 _ rfl
                  have r4 : WC.cell? ⟨gW, k * 9 + 4, none⟩ = some (.int .i64 (wk ws k).age) := hcl2 4 _ rfl
                  have r5 : WC.cell? ⟨gW, k * 9 + 5, none⟩ = some (.int .i64 (wk ws k).clock) := hcl2 5 _ rfl
                  have r6 : WC.cell? ⟨gW, k * 9 + 6, none⟩ = some (.slice P2.wa.A P2.wa.n P2.wa.c) := hcl2 6 _ rfl
                  have r7 : WC.cell? ⟨gW, k * 9 + 7, none⟩ = some (.slice P2.he.A P2.he.n P2.he.c) := hcl2 7 _ rfl
                  have r8 : WC.cell? ⟨gW, k * 9 + 8, none⟩ = some (.slice P2.re.A P2.re.n P2.re.c) := hcl2 8 _ rfl
                  have hput := workers_put HWC.out HI.out.len hkn HOC.out
                  have HPUT := Lib.hid hput
                  clear hcl2 hput
                  have hxl := HXC.out.lt
                  have x_0 := (HXC.out.box).2 0 _ rfl; have x_1 := (HXC.out.box).2 1 _ rfl; have x_2 := (HXC.out.box).2 2 _ rfl; have x_3 := (HXC.out.box).2 3 _ rfl; have x_4 := (HXC.out.box).2 4 _ rfl; have x_5 := (HXC.out.box).2 5 _ rfl; have x_6 := (HXC.out.box).2 6 _ rfl; have x_7 := (HXC.out.box).2 7 _ rfl; have x_8 := (HXC.out.box).2 8 _ rfl
                  go_upto_region 54 with fail
                  clear r0 r1 r2 r3 r4 r5 r6 r7 r8 hfz2 x_0 x_1 x_2 x_3 x_4 x_5 x_6 x_7 x_8 hxl hgW2
                  refine wp_world (fun WD hWD => ?_)
                  have htkD : TKeep 27 WC WD := by rw [hWD]; exact HPUT.out.2
                  have HWD : Hid (OwnT dWrk WD w.heap.size (.slice (some ⟨gW, 0, none⟩) n wc) (Ps.set k ⟨⟨oA6, on6, oc6⟩, ⟨tA6, tn6, tc6⟩, ⟨eA6, en6, ec6⟩, ⟨rA6, rn6, rc6⟩⟩) (ws.set k D6)) := Lib.hid (by rw [hWD]; exact HPUT.out.1)
                  have HYD := Lib.hid (HYC.out.tkY htkD tA1 (by decide))
                  have HKD := Lib.hid (HKC.out.tkB htkD tA1 (by decide))
                  have HTD := Lib.hid (HTC.out.tk htkD (by decide))
                  have hbWD : Below w.heap.size w WD := by rw [hWD]; exact belw_sets9k hbWC hgWB _ _ _ _ _ _ _ _ _
                  have HLD := Lib.hid (HLC.out.tkY htkD tA1 (by decide))
                  clear hWD htkD HPUT HXC HOC HWC HYC HKC HTC hbWC HLC
                  have HLN : Hid (way.length + ln6 ≤ 900000000) := Lib.hid (by rw [HLL.out.1]; omega)
                  go_upto_region 16 with (at_builtin; refine wpList_appWay rfl (.tmp 244) (.tmp 245) rfl rfl w.heap.size (.slice yA yn yc) us way rfl HYD.out lA6 ln6 lc6 us6 L6 rfl HLD.out hln6 HLN.out hbWD.size ?_; intro v9 WE hown9 htk9 hb9)
                  obtain ⟨yA9, yc9, ey9, -⟩ := hown9.read
                  obtain ⟨yn9, hyn9⟩ : ∃ x, (way ++ L6).length = x := ⟨_, rfl⟩
                  rw [hyn9] at ey9
                  subst ey9
                  have hyn9b : yn9 ≤ 99000 := by rw [← hyn9, List.length_append, HLL.out.1, hln6]; omega
                  have HYE := Lib.hid hown9
                  have HWE := Lib.hid (HWD.out.tkW htk9 tA2 (by decide))
                  have HKE := Lib.hid (HKD.out.tkB htk9 tA2 (by decide))
                  have HTE := Lib.hid (HTD.out.tk htk9 (by decide))
                  have hbWE : Below w.heap.size w WE := hbWD.trans hb9
                  clear hown9 htk9 hb9 HLN
                  have HLL2 : Hid ((way ++ L6).length = yn9 ∧ (book ++ [b9]).length = kn9) := Lib.hid ⟨hyn9, hkn9⟩
                  clear hln6 hL16 HLD HWD HYD HKD HTD hbWD
                  go_wp2_with fail
                  (first | (go_round; (case rel => exact ⟨i + 1, Ps.set k ⟨⟨oA6, on6, oc6⟩, ⟨tA6, tn6, tc6⟩, ⟨eA6, en6, ec6⟩, ⟨rA6, rn6, rc6⟩⟩, ws.set k D6, us ++ us6, way ++ L6, bs ++ [⟨bA, bn, bc⟩], book ++ [b9], yA9, yn9, yc9, kA9, kn9, kc9, by omega, by go_num, rfl, rfl, HWE, HYE, HKE, HI6, HLL2, HTE, by omega, by omega, hbWE⟩); (case measure => (simp [intOf] <;> omega))) | (go_roundw; (case rel => exact ⟨i + 1, Ps.set k ⟨⟨oA6, on6, oc6⟩, ⟨tA6, tn6, tc6⟩, ⟨eA6, en6, ec6⟩, ⟨rA6, rn6, rc6⟩⟩, ws.set k D6, us ++ us6, way ++ L6, bs ++ [⟨bA, bn, bc⟩], book ++ [b9], yA9, yn9, yc9, kA9, kn9, kc9, by omega, by go_num, rfl, rfl, HWE, HYE, HKE, HI6, HLL2, HTE, by omega, by omega, hbWE⟩); (case measure => (simp [intOf] <;> omega))) | (refine ⟨?_, by simp [intOf] <;> omega⟩; (repeat apply Exists.intro); refine ⟨?rel, ?fr⟩; (case fr => ((repeat' apply And.intro) <;> rfl)); (case rel => exact ⟨i + 1, Ps.set k ⟨⟨oA6, on6, oc6⟩, ⟨tA6, tn6, tc6⟩, ⟨eA6, en6, ec6⟩, ⟨rA6, rn6, rc6⟩⟩, ws.set k D6, us ++ us6, way ++ L6, bs ++ [⟨bA, bn, bc⟩], book ++ [b9], yA9, yn9, yc9, kA9, kn9, kc9, by omega, by go_num, rfl, rfl, HWE, HYE, HKE, HI6, HLL2, HTE, by omega, by omega, hbWE⟩)))
                · skip
                  obtain ⟨e9, he9⟩ : ∃ x, mkE Dk = x := ⟨_, rfl⟩
                  have hne := mk_no HMY.out hE
                  rw [he9] at hne
                  have hneb : (e9 == 0) = false := by simp [hne]
                  have HE9 := Lib.hid he9
                  clear he9 hE hne
                  obtain ⟨u1, hu1⟩ : ∃ x, (mkB Dk).au = x := ⟨_, rfl⟩
                  obtain ⟨u2, hu2⟩ : ∃ x, (mkB Dk).n = x := ⟨_, rfl⟩
                  have HU := Lib.hid (And.intro hu1 hu2)
                  have HBL := Lib.hid (mkB_lenW Dk)
                  clear hu1 hu2
                  go_upto_region 16 with (first | (go_at_call 9; refine (worker_Make ⟨⟨oA, on, oc⟩, ⟨tA, tn, tc⟩, ⟨eA, en, ec⟩, ⟨rA, rn, rc⟩⟩ Dk _ HWR.out HOP8.out).mono ?_; rintro e w3 ⟨v3, he3, hov, hb3⟩; rw [HE9.out, HU.out.1, HU.out.2] at he3; obtain ⟨bA, bc, ev, -⟩ := OwnX.txs hov (by have := HBL.out; omega); obtain ⟨bn, hbn⟩ : ∃ x, (mkB Dk).tx.length = x := ⟨_, rfl⟩; rw [hbn] at ev; clear hbn; subst ev; subst he3) | (go_at_call 7; refine (law13_num _ _).mono ?_; rintro e w' ⟨rfl, rfl⟩))
                  clear q0 q1 q2 q3 q4 q5 q6 q7 q8 hgW
                  refine wp_world (fun WA hWA => ?_)
                  have hbsA : Below W9.heap.size W9 WA := by rw [hWA]; exact bel_alloc hb3
                  clear hWA
                  have HWA := Lib.hid (HW9.out.up hbsA)
                  have HYA := Lib.hid (HY9.out.up hbsA)
                  have HKA := Lib.hid (HK9.out.up hbsA)
                  have HTA := Lib.hid (HT9.out.up hbsA)
                  have hbWA := bel_trans hbW9 hbsA
                  clear hbsA hb3 hov HW9 HY9 HK9 HT9 hbW9 HWR
                  go_wp2_with fail
                  (first | (go_round; (case rel => exact ⟨i + 1, Ps, ws, us, way, bs, book, yA, yn, yc, kA, kn, kc, by omega, by go_num, rfl, rfl, HWA, HYA, HKA, HI, HLL, HTA, by omega, by omega, hbWA⟩); (case measure => (simp [intOf] <;> omega))) | (go_roundw; (case rel => exact ⟨i + 1, Ps, ws, us, way, bs, book, yA, yn, yc, kA, kn, kc, by omega, by go_num, rfl, rfl, HWA, HYA, HKA, HI, HLL, HTA, by omega, by omega, hbWA⟩); (case measure => (simp [intOf] <;> omega))) | (refine ⟨?_, by simp [intOf] <;> omega⟩; (repeat apply Exists.intro); refine ⟨?rel, ?fr⟩; (case fr => ((repeat' apply And.intro) <;> rfl)); (case rel => exact ⟨i + 1, Ps, ws, us, way, bs, book, yA, yn, yc, kA, kn, kc, by omega, by go_num, rfl, rfl, HWA, HYA, HKA, HI, HLL, HTA, by omega, by omega, hbWA⟩)))
          · skip
            have hyt : decide ((yn : Int) < 2000) = false := by simp; omega
            clear HFT HT HY
            go_upto_region 55 with fail
            rename_i K80 hK80 K55 hK55
            exact world_end hn7 hn1 HNS hgWB HLL (by omega) hbk3 HW HI HK hbW hK80 hK55
        · skip
          obtain rfl : ln = i := by omega
          clear HFT HT HY
          go_upto_region 55 with fail
          rename_i K80 hK80 K55 hK55
          exact world_end hn7 hn1 HNS hgWB HLL (by omega) hbk3 HW HI HK hbW hK80 hK55
end Go.Proofs.Ytgfakefcmbpboaa
