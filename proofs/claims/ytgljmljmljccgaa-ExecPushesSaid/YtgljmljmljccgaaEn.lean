/- The law ExecPushes. -/
import Derived.Test.YtgljmljmljccgaaEm
import Derived.Deep.RegionHeld3
namespace Go.Proofs.Ytgljmljmljccgaa
open Go.RowKit
set_option linter.unusedSimpArgs false
set_option linter.unusedVariables false

set_option maxRecDepth 100000 in
set_option maxHeartbeats 16000000 in
theorem law_ExecPushes (P : ScrP) (D : ScrD) (w : World) (h : ScrR w P D) :
    Calls Try.prog 10 #[P.val D] w fun e w' => e = .returned (.bool true) ∧ Below w.heap.size w w' := by
  obtain ⟨⟨pA, pn, pc⟩, ⟨qA, qn, qc⟩, ⟨sA, sn, sc⟩, ⟨lA, ln, lc⟩⟩ := P
  have H := Lib.hid h
  have HP : Hid (PairsR w pA pn D.e.p) := Lib.hid h.p
  have HQ : Hid (AcctsR w qA qn D.e.q) := Lib.hid h.q
  have HS : Hid (IntsR w sA sn D.e.s) := Lib.hid h.s
  have HL : Hid (ActsR w lA ln D.l) := Lib.hid h.l
  have hsc : sn ≤ sc := h.sc
  clear h
  obtain ⟨ec, hec⟩ : ∃ z, D.e.c = z := ⟨_, rfl⟩
  obtain ⟨yE, hyE⟩ : ∃ y, exB D.e.p D.e.q D.e.s ec = y := ⟨_, rfl⟩
  have HEC := Lib.hid hec
  have HYE := Lib.hid hyE
  have hheavy := law23_heavy ⟨⟨pA, pn, pc⟩, ⟨qA, qn, qc⟩, ⟨sA, sn, sc⟩, ⟨lA, ln, lc⟩⟩ D
  show Calls Try.prog 10 #[.agg #[.slice pA pn pc, .slice qA qn qc, .slice sA sn sc, .int .i64 D.e.c, .slice lA ln lc]] w _
  simp only [ScrP.val] at hheavy
  rw [hec] at hheavy ⊢
  have HHV := Lib.hid hheavy
  clear hheavy hec hyE
  go_enter Try.func10, Try.ntmps10
  go_wp2_with fail
  refine (HHV.out _ (H.out.up (by (repeat (first | (with_reducible exact Below.refl _ _) | (with_reducible assumption) | (with_reducible apply bel_alloc) | (with_reducible apply bel_drew) | (with_reducible apply bel_drewN) | (with_reducible refine bel_trans ?_ (by with_reducible assumption)) | (with_reducible refine bel_trans ?_ (HF.out _)) | (with_reducible refine bel_set ?_ (by simp) _) | (with_reducible refine bel_set ?_ (by simp; omega) _) | (with_reducible refine bel_set ?_ (by omega) _)))))).mono ?_
  rintro e w1 ⟨x, rfl, hx, hb1⟩
  cases x
  case true =>
    clear hx
    go_wp2_with fail
    go_ret
    exact ⟨rfl, by (repeat (first | (with_reducible exact Below.refl _ _) | (with_reducible assumption) | (with_reducible apply bel_alloc) | (with_reducible apply bel_drew) | (with_reducible apply bel_drewN) | (with_reducible refine bel_trans ?_ (by with_reducible assumption)) | (with_reducible refine bel_trans ?_ (HF.out _)) | (with_reducible refine bel_set ?_ (by simp) _) | (with_reducible refine bel_set ?_ (by simp; omega) _) | (with_reducible refine bel_set ?_ (by omega) _)))⟩
  case false =>
  have hLt := hx rfl
  have hp4 : pn ≤ 4000 := hLt.p
  have hq4 : qn ≤ 4000 := hLt.q
  have hs3 : sn ≤ 300 := hLt.s
  have hl1 : ln ≤ 100 := hLt.l
  have HLT := Lib.hid hLt
  have hB1 : BoxR w1 w.heap.size [.slice pA pn pc, .slice qA qn qc, .slice sA sn sc, .int .i64 ec, .slice lA ln lc] := (BoxR.new w [.slice pA pn pc, .slice qA qn qc, .slice sA sn sc, .int .i64 ec, .slice lA ln lc] 71).up hb1
  have hbw1 : Below w.heap.size w w1 := by (repeat (first | (with_reducible exact Below.refl _ _) | (with_reducible assumption) | (with_reducible apply bel_alloc) | (with_reducible apply bel_drew) | (with_reducible apply bel_drewN) | (with_reducible refine bel_trans ?_ (by with_reducible assumption)) | (with_reducible refine bel_trans ?_ (HF.out _)) | (with_reducible refine bel_set ?_ (by simp) _) | (with_reducible refine bel_set ?_ (by simp; omega) _) | (with_reducible refine bel_set ?_ (by omega) _)))
  have HB1 := Lib.hid hB1
  have hg1 := hB1.1
  have b_0 := (hB1).2 0 _ rfl; have b_1 := (hB1).2 1 _ rfl; have b_2 := (hB1).2 2 _ rfl; have b_3 := (hB1).2 3 _ rfl; have b_4 := (hB1).2 4 _ rfl
  clear hx hLt hb1 hB1
  cases yE
  case false =>
    go_wp2_with (go_at_call 34; refine (ref22_Exec pA qA sA pn pc qn qc sn sc D.e.p D.e.q D.e.s ec _ _ (HP.out.up hbw1) (HQ.out.up hbw1) (HS.out.up hbw1) hsc (by omega) HYE.out).mono ?_; rintro e w2 ⟨rfl, hb2⟩)
    go_ret
    exact ⟨rfl, by (repeat (first | (with_reducible exact Below.refl _ _) | (with_reducible assumption) | (with_reducible apply bel_alloc) | (with_reducible apply bel_drew) | (with_reducible apply bel_drewN) | (with_reducible refine bel_trans ?_ (by with_reducible assumption)) | (with_reducible refine bel_trans ?_ (HF.out _)) | (with_reducible refine bel_set ?_ (by simp) _) | (with_reducible refine bel_set ?_ (by simp; omega) _) | (with_reducible refine bel_set ?_ (by omega) _)))⟩
  case true =>
  go_wp2_with (go_at_call 34; refine (ref22_Exec pA qA sA pn pc qn qc sn sc D.e.p D.e.q D.e.s ec _ _ (HP.out.up hbw1) (HQ.out.up hbw1) (HS.out.up hbw1) hsc (by omega) HYE.out).mono ?_; rintro e w2 ⟨rfl, hb2⟩)
  have hbw2 : Below w.heap.size w w2 := by (repeat (first | (with_reducible exact Below.refl _ _) | (with_reducible assumption) | (with_reducible apply bel_alloc) | (with_reducible apply bel_drew) | (with_reducible apply bel_drewN) | (with_reducible refine bel_trans ?_ (by with_reducible assumption)) | (with_reducible refine bel_trans ?_ (HF.out _)) | (with_reducible refine bel_set ?_ (by simp) _) | (with_reducible refine bel_set ?_ (by simp; omega) _) | (with_reducible refine bel_set ?_ (by omega) _)))
  have HB2 := Lib.hid (HB1.out.up hb2)
  clear b_0 b_1 b_2 b_3 b_4 hg1 HB1 hbw1 hb2 HHV
  go_loopw [3] (fun ix wr => ∃ k : Nat, k ≤ ln ∧ ix = .int .i64 k ∧ Hid (BoxR wr w.heap.size [.slice pA pn pc, .slice qA qn qc, .slice sA sn sc, .int .i64 ec, .slice lA ln lc]) ∧ Below w.heap.size w wr) (fun ix _ => ln - (intOf ix).toNat)
  case atStart => exact ⟨0, Nat.zero_le _, rfl, HB2, hbw2⟩
  case round =>
    clear HB2 hbw2
    obtain ⟨k, hk, rfl, HB, hbw⟩ := hrel
    (obtain ⟨wk, hwk⟩ : ∃ x, x = wr := ⟨_, rfl⟩); subst hwk
    have b_0 := (HB.out).2 0 _ rfl; have b_1 := (HB.out).2 1 _ rfl; have b_2 := (HB.out).2 2 _ rfl; have b_3 := (HB.out).2 3 _ rfl; have b_4 := (HB.out).2 4 _ rfl
    have hg0 := HB.out.1
    by_cases hlt : k < ln ∧ k < 12
    · obtain ⟨hlt1, hlt2⟩ := hlt
      obtain ⟨ab, aoff, rfl, hab, hac⟩ := (HL.out.up hbw).2.2 (by omega)
      obtain ⟨A5, m5, d5, C5, k5, e5, c0, c1, c2, hI, hH⟩ := hac k hlt1
      obtain ⟨a, ha⟩ : ∃ a, acth D.l k = a := ⟨_, rfl⟩
      rw [ha] at c0 hI hH
      have ham : a ∈ D.l := by rw [← ha]; have := HL.out.1; simp [acth, show k < D.l.length by omega]
      have hm6 : m5 ≤ 6000 := by rw [← hI.1]; exact HLT.out.li a ham
      have HI := Lib.hid hI
      have hck := c1
      clear hac ha hI hH c0 c2 ham
      go_wp2_with fail
      have hX : Blk (wk.alloc (.cells #[.slice none 0 0, .slice none 0 0, .slice none 0 0, .int .i64 0] 68)) wk.heap.size 68 [.slice none 0 0, .slice none 0 0, .slice none 0 0, .int .i64 0] := Blk.new wk 68 [.slice none 0 0, .slice none 0 0, .slice none 0 0, .int .i64 0]
      have hbX : Below wk.heap.size wk (wk.alloc (.cells #[.slice none 0 0, .slice none 0 0, .slice none 0 0, .int .i64 0] 68)) := by (repeat (first | (with_reducible exact Below.refl _ _) | (with_reducible assumption) | (with_reducible apply bel_alloc) | (with_reducible apply bel_drew) | (with_reducible apply bel_drewN) | (with_reducible refine bel_trans ?_ (by with_reducible assumption)) | (with_reducible refine bel_trans ?_ (HF.out _)) | (with_reducible refine bel_set ?_ (by simp) _) | (with_reducible refine bel_set ?_ (by simp; omega) _) | (with_reducible refine bel_set ?_ (by omega) _)))
      generalize (wk.alloc (.cells #[.slice none 0 0, .slice none 0 0, .slice none 0 0, .int .i64 0] 68)) = X at *
      have hbwX : Below w.heap.size w X := bel_trans hbw hbX
      have hBX := HB.out.up hbX
      have hcX := (hbX.cell (p := ⟨ab, aoff + k * 3 + 1, none⟩) hab).trans c1
      clear b_0 b_1 b_2 b_3 b_4 c1
      have b_0 := (hBX).2 0 _ rfl; have b_1 := (hBX).2 1 _ rfl; have b_2 := (hBX).2 2 _ rfl; have b_3 := (hBX).2 3 _ rfl; have b_4 := (hBX).2 4 _ rfl
      have c1 := hcX
      have hgX := hBX.1
      have habX : ab < X.heap.size := Nat.lt_of_lt_of_le hab hbX.size
      have hcells : ∀ Y, Below wk.heap.size wk Y → Y.cell? ⟨w.heap.size, 0, none⟩ = some (.slice pA pn pc) ∧ Y.cell? ⟨w.heap.size, 1, none⟩ = some (.slice qA qn qc) ∧ Y.cell? ⟨w.heap.size, 2, none⟩ = some (.slice sA sn sc) ∧ Y.cell? ⟨w.heap.size, 3, none⟩ = some (.int .i64 ec) ∧ Y.cell? ⟨w.heap.size, 4, none⟩ = some (.slice (some ⟨ab, aoff, none⟩) ln lc) ∧ Y.cell? ⟨ab, aoff + k * 3 + 1, none⟩ = some (.slice A5 m5 d5) := fun Y hY => by
        have q := (HB.out.up hY).2
        exact ⟨q 0 _ rfl, q 1 _ rfl, q 2 _ rfl, q 3 _ rfl, q 4 _ rfl, (hY.cell (p := ⟨ab, aoff + k * 3 + 1, none⟩) hab).trans hck⟩
      have HCELLS := Lib.hid hcells
      have HX := Lib.hid hX
      have hxl := hX.lt
      have HIX := Lib.hid (HI.out.up hbX)
      have HPX := Lib.hid (HP.out.up hbwX)
      have HQX := Lib.hid (HQ.out.up hbwX)
      have HSX := Lib.hid (HS.out.up hbwX)
      have HBX := Lib.hid hBX
      obtain ⟨yd, hyd⟩ : ∃ y, betS a.l 1 65536 = y := ⟨_, rfl⟩
      have HYD := Lib.hid hyd
      clear hX hBX hcX hcells hyd
      refine (ref0_Digests A5 m5 d5 a.l _ HIX.out).mono ?_
      rintro e w3 ⟨rfl, rfl⟩
      rw [HYD.out]
      cases yd
      case false =>
        have HNO : Hid (¬ (exB D.e.p D.e.q D.e.s ec = true ∧ betS a.l 1 65536 = true)) := Lib.hid (fun h => by rw [HYD.out] at h; cases h.2)
        go_upto_region 10 with fail
        go_cut [7, 8, 9] from 49 to 61 (fun s7 s8 s9 wx => ∃ g : Nat, s7 = .pointer (some ⟨g, 0, none⟩) ∧ s8 = .slice none 0 0 ∧ s9 = .int .i64 1 ∧ Blk wx g 68 [.slice none 0 0, .slice none 0 0, .slice none 0 0, .int .i64 0] ∧ Below X.heap.size X wx)
        case first =>
          clear b_0 b_1 b_2 b_3 b_4 c1
          go_region_held3 (fun Y => Y.cell? ⟨w.heap.size, 0, none⟩ = some (.slice pA pn pc) ∧ Y.cell? ⟨w.heap.size, 1, none⟩ = some (.slice qA qn qc) ∧ Y.cell? ⟨w.heap.size, 2, none⟩ = some (.slice sA sn sc) ∧ Y.cell? ⟨w.heap.size, 3, none⟩ = some (.int .i64 ec) ∧ Y.cell? ⟨w.heap.size, 4, none⟩ = some (.slice (some ⟨ab, aoff, none⟩) ln lc) ∧ Y.cell? ⟨ab, aoff + k * 3 + 1, none⟩ = some (.slice A5 m5 d5))
            (exact HCELLS.out _ (by (repeat (first | (with_reducible exact Below.refl _ _) | (with_reducible assumption) | (with_reducible apply bel_alloc) | (with_reducible apply bel_drew) | (with_reducible apply bel_drewN) | (with_reducible refine bel_trans ?_ (by with_reducible assumption)) | (with_reducible refine bel_trans ?_ (HF.out _)) | ((with_reducible refine bel_set3 ?_ ?_); rotate_left; omega)))))
            ((go_at_call 37; refine (exec_Push_bad pA qA sA A5 pn pc qn qc sn sc m5 d5 D.e.p D.e.q D.e.s a.l ec _ (HPX.out.up (by (repeat (first | (with_reducible exact Below.refl _ _) | (with_reducible assumption) | (with_reducible apply bel_alloc) | (with_reducible apply bel_drew) | (with_reducible apply bel_drewN) | (with_reducible refine bel_trans ?_ (by with_reducible assumption)) | (with_reducible refine bel_trans ?_ (HF.out _)) | (with_reducible refine bel_set ?_ (by simp) _) | (with_reducible refine bel_set ?_ (by simp; omega) _) | (with_reducible refine bel_set ?_ (by omega) _))))) (HQX.out.up (by (repeat (first | (with_reducible exact Below.refl _ _) | (with_reducible assumption) | (with_reducible apply bel_alloc) | (with_reducible apply bel_drew) | (with_reducible apply bel_drewN) | (with_reducible refine bel_trans ?_ (by with_reducible assumption)) | (with_reducible refine bel_trans ?_ (HF.out _)) | (with_reducible refine bel_set ?_ (by simp) _) | (with_reducible refine bel_set ?_ (by simp; omega) _) | (with_reducible refine bel_set ?_ (by omega) _))))) (HSX.out.up (by (repeat (first | (with_reducible exact Below.refl _ _) | (with_reducible assumption) | (with_reducible apply bel_alloc) | (with_reducible apply bel_drew) | (with_reducible apply bel_drewN) | (with_reducible refine bel_trans ?_ (by with_reducible assumption)) | (with_reducible refine bel_trans ?_ (HF.out _)) | (with_reducible refine bel_set ?_ (by simp) _) | (with_reducible refine bel_set ?_ (by simp; omega) _) | (with_reducible refine bel_set ?_ (by omega) _))))) (HIX.out.up (by (repeat (first | (with_reducible exact Below.refl _ _) | (with_reducible assumption) | (with_reducible apply bel_alloc) | (with_reducible apply bel_drew) | (with_reducible apply bel_drewN) | (with_reducible refine bel_trans ?_ (by with_reducible assumption)) | (with_reducible refine bel_trans ?_ (HF.out _)) | (with_reducible refine bel_set ?_ (by simp) _) | (with_reducible refine bel_set ?_ (by simp; omega) _) | (with_reducible refine bel_set ?_ (by omega) _))))) HNO.out).mono ?_; rintro e w7 ⟨rfl, hb7⟩; (try have hcA := fun o => (bcell hb7).1 X.heap.size o (by first | (simp; done) | (simp; omega) | omega)); (try have hfA := fun o => (bcell hb7).2 X.heap.size o (by first | (simp; done) | (simp; omega) | omega)); have hzA := hb7.size; (try simp at hzA)))
          · go_wp2_with fail
            go_meet
            exact ⟨_, rfl, rfl, rfl, Blk.new w7 68 [.slice none 0 0, .slice none 0 0, .slice none 0 0, .int .i64 0], by (repeat (first | (with_reducible exact Below.refl _ _) | (with_reducible assumption) | (with_reducible apply bel_alloc) | (with_reducible apply bel_drew) | (with_reducible apply bel_drewN) | (with_reducible refine bel_trans ?_ (by with_reducible assumption)) | (with_reducible refine bel_trans ?_ (HF.out _)) | ((with_reducible refine bel_set3 ?_ ?_); rotate_left; omega)))⟩
          · go_wp2_with fail
            go_meet
            have hk : Blk w7 X.heap.size 68 [.slice none 0 0, .slice none 0 0, .slice none 0 0, .int .i64 0] := Blk.up (Blk.new X.drew 68 [.slice none 0 0, .slice none 0 0, .slice none 0 0, .int .i64 0]) hb7
            exact ⟨_, rfl, rfl, rfl, set4 hk _ _ _ _, by (repeat (first | (with_reducible exact Below.refl _ _) | (with_reducible assumption) | (with_reducible apply bel_alloc) | (with_reducible apply bel_drew) | (with_reducible apply bel_drewN) | (with_reducible refine bel_trans ?_ (by with_reducible assumption)) | (with_reducible refine bel_trans ?_ (HF.out _)) | ((with_reducible refine bel_set3 ?_ ?_); rotate_left; omega)))⟩
        case rest =>
        obtain ⟨g, rfl, rfl, rfl, hG, hbc⟩ := hcut
        have HG := Lib.hid hG
        have HXc := Lib.hid (HX.out.up hbc)
        have hgl := hG.lt
        have hxlc := HXc.out.lt
        clear b_0 b_1 b_2 b_3 b_4 c1
        have g_0 := (hG.box).2 0 _ rfl; have g_1 := (hG.box).2 1 _ rfl; have g_2 := (hG.box).2 2 _ rfl; have g_3 := (hG.box).2 3 _ rfl
        have x_0 := (HXc.out.box).2 0 _ rfl; have x_1 := (HXc.out.box).2 1 _ rfl; have x_2 := (HXc.out.box).2 2 _ rfl; have x_3 := (HXc.out.box).2 3 _ rfl
        clear hG
        go_wp2_with (first
          | (go_at_call 38; refine (law23_num _ _).mono ?_; rintro e w' ⟨rfl, rfl⟩)
          | (go_at_call 39; refine (ref0_EqExec none none none none none none 0 0 0 0 0 0 0 0 0 0 0 0 [] [] [] 0 _ (PairsR.nil0 _) (AcctsR.nil0 _) (IntsR.nil _ _) (PairsR.nil0 _) (AcctsR.nil0 _) (IntsR.nil _ _)).mono ?_; rintro e w8 ⟨rfl, hb8⟩)
          | (go_at_call 43; refine (ref0_EqNumbers_same none 0 0 [] none 0 0 _ (IntsR.nil _ _) (IntsR.nil _ _)).mono ?_; rintro e w9 ⟨rfl, hb9⟩))
        have hbe : Below X.heap.size X w9 := bel_trans hbc (bel_trans hb8 hb9)
        (first | (go_round; (case rel => exact ⟨k + 1, by omega, by go_num, Lib.hid (HBX.out.up hbe), bel_trans hbwX hbe⟩); (case measure => (simp [intOf] <;> omega))) | (go_roundw; (case rel => exact ⟨k + 1, by omega, by go_num, Lib.hid (HBX.out.up hbe), bel_trans hbwX hbe⟩); (case measure => (simp [intOf] <;> omega))) | (refine ⟨?_, by simp [intOf] <;> omega⟩; (repeat apply Exists.intro); refine ⟨?rel, ?fr⟩; (case fr => ((repeat' apply And.intro) <;> rfl)); (case rel => exact ⟨k + 1, by omega, by go_num, Lib.hid (HBX.out.up hbe), bel_trans hbwX hbe⟩)))
      case true =>
        obtain ⟨n5, hn5⟩ : ∃ n, (D.e.s ++ freshL D.e.s a.l).length = n := ⟨_, rfl⟩
        obtain ⟨n6, hn6⟩ : ∃ n, (freshL D.e.s a.l).length = n := ⟨_, rfl⟩
        have hn6l : n6 ≤ 6000 := by rw [← hn6]; have h7 := fresh_len a.l D.e.s; have h8 := HI.out.1; omega
        have hn5l : n5 ≤ 6300 := by rw [← hn5, List.length_append, hn6]; have h8 := HS.out.1; omega
        have HN5 := Lib.hid hn5
        have HN6 := Lib.hid hn6
        clear hn5 hn6
        go_upto_region 9 with fail
        go_cut [6] from 37 to 48 (fun s6 wx => ∃ (Ap Aa As Af : Option Addr) (cp ca cs cf : Nat), s6 = .slice Af n6 cf ∧ Blk wx wk.heap.size 68 [.slice Ap pn cp, .slice Aa qn ca, .slice As n5 cs, .int .i64 ec] ∧ Hid (PairsR wx Ap pn D.e.p ∧ AcctsR wx Aa qn D.e.q ∧ IntsR wx As n5 (D.e.s ++ freshL D.e.s a.l) ∧ IntsR wx Af n6 (freshL D.e.s a.l)) ∧ Below wk.heap.size wk wx)
        case first =>
          clear b_0 b_1 b_2 b_3 b_4 c1
          go_region_held3 (fun Y => Y.cell? ⟨w.heap.size, 0, none⟩ = some (.slice pA pn pc) ∧ Y.cell? ⟨w.heap.size, 1, none⟩ = some (.slice qA qn qc) ∧ Y.cell? ⟨w.heap.size, 2, none⟩ = some (.slice sA sn sc) ∧ Y.cell? ⟨w.heap.size, 3, none⟩ = some (.int .i64 ec) ∧ Y.cell? ⟨w.heap.size, 4, none⟩ = some (.slice (some ⟨ab, aoff, none⟩) ln lc) ∧ Y.cell? ⟨ab, aoff + k * 3 + 1, none⟩ = some (.slice A5 m5 d5))
            (exact HCELLS.out _ (by (repeat (first | (with_reducible exact Below.refl _ _) | (with_reducible assumption) | (with_reducible apply bel_alloc) | (with_reducible apply bel_drew) | (with_reducible apply bel_drewN) | (with_reducible refine bel_trans ?_ (by with_reducible assumption)) | (with_reducible refine bel_trans ?_ (HF.out _)) | ((with_reducible refine bel_set3 ?_ ?_); rotate_left; omega)))))
            ((go_at_call 42; refine (ref22_Push pA qA sA A5 pn pc qn qc sn sc m5 d5 D.e.p D.e.q D.e.s a.l ec _ (HPX.out.up (by (repeat (first | (with_reducible exact Below.refl _ _) | (with_reducible assumption) | (with_reducible apply bel_alloc) | (with_reducible apply bel_drew) | (with_reducible apply bel_drewN) | (with_reducible refine bel_trans ?_ (by with_reducible assumption)) | (with_reducible refine bel_trans ?_ (HF.out _)) | (with_reducible refine bel_set ?_ (by simp) _) | (with_reducible refine bel_set ?_ (by simp; omega) _) | (with_reducible refine bel_set ?_ (by omega) _))))) (HQX.out.up (by (repeat (first | (with_reducible exact Below.refl _ _) | (with_reducible assumption) | (with_reducible apply bel_alloc) | (with_reducible apply bel_drew) | (with_reducible apply bel_drewN) | (with_reducible refine bel_trans ?_ (by with_reducible assumption)) | (with_reducible refine bel_trans ?_ (HF.out _)) | (with_reducible refine bel_set ?_ (by simp) _) | (with_reducible refine bel_set ?_ (by simp; omega) _) | (with_reducible refine bel_set ?_ (by omega) _))))) (HSX.out.up (by (repeat (first | (with_reducible exact Below.refl _ _) | (with_reducible assumption) | (with_reducible apply bel_alloc) | (with_reducible apply bel_drew) | (with_reducible apply bel_drewN) | (with_reducible refine bel_trans ?_ (by with_reducible assumption)) | (with_reducible refine bel_trans ?_ (HF.out _)) | (with_reducible refine bel_set ?_ (by simp) _) | (with_reducible refine bel_set ?_ (by simp; omega) _) | (with_reducible refine bel_set ?_ (by omega) _))))) (HIX.out.up (by (repeat (first | (with_reducible exact Below.refl _ _) | (with_reducible assumption) | (with_reducible apply bel_alloc) | (with_reducible apply bel_drew) | (with_reducible apply bel_drewN) | (with_reducible refine bel_trans ?_ (by with_reducible assumption)) | (with_reducible refine bel_trans ?_ (HF.out _)) | (with_reducible refine bel_set ?_ (by simp) _) | (with_reducible refine bel_set ?_ (by simp; omega) _) | (with_reducible refine bel_set ?_ (by omega) _))))) (by omega) (by omega) (by omega) (by omega)).mono ?_; rintro e w7 ⟨vp, va, vs, vf, rfl, hPO, hb7⟩; obtain ⟨Ap, cp, rfl, _⟩ := nmP hPO.e.p HP.out.1 (by omega); obtain ⟨Aa, ca, rfl, _⟩ := nmA hPO.e.a HQ.out.1 (by omega); obtain ⟨As, cs, rfl, _⟩ := nmI hPO.e.s HN5.out (by omega); obtain ⟨Af, cf, rfl, _⟩ := nmI hPO.f HN6.out (by omega); have hX7 := HX.out.up (bel_trans (bel_drew (Below.refl _ _)) hb7); have hxl7 := hX7.lt; have hxf7 := hX7.frozen; have x_0 := (hX7.box).2 0 _ rfl; have x_1 := (hX7.box).2 1 _ rfl; have x_2 := (hX7.box).2 2 _ rfl; have x_3 := (hX7.box).2 3 _ rfl; have HX7 := Lib.hid hX7; clear hX7))
          all_goals
            go_wp2_with fail
            go_meet
            have hzk : wk.heap.size < X.heap.size := hxl
            have hP8 := (((hPO.set (b := wk.heap.size) (o := 0) (by simpa using hzk) (.slice Ap pn cp)).set (b := wk.heap.size) (o := 1) (by simpa using hzk) (.slice Aa qn ca)).set (b := wk.heap.size) (o := 2) (by simpa using hzk) (.slice As n5 cs)).set (b := wk.heap.size) (o := 3) (by simpa using hzk) (.int .i64 ec)
            refine ⟨Ap, Aa, As, Af, cp, ca, cs, cf, rfl, set4 HX7.out _ _ _ _, Lib.hid ⟨?_, ?_, ?_, ?_⟩, ?_⟩
            · obtain ⟨A', c', e', h'⟩ := nmP hP8.e.p HP.out.1 (by omega); injection e' with e1 e2 e3; subst e1; exact h'
            · obtain ⟨A', c', e', h'⟩ := nmA hP8.e.a HQ.out.1 (by omega); injection e' with e1 e2 e3; subst e1; exact h'
            · obtain ⟨A', c', e', h'⟩ := nmI hP8.e.s HN5.out (by omega); injection e' with e1 e2 e3; subst e1; exact h'
            · obtain ⟨A', c', e', h'⟩ := nmI hP8.f HN6.out (by omega); injection e' with e1 e2 e3; subst e1; exact h'
            · have h7 : Below wk.heap.size wk w7 := bel_trans hbX (bel_trans (bel_drew (Below.refl _ _)) hb7)
              (repeat (first | (with_reducible exact Below.refl _ _) | (with_reducible assumption) | (with_reducible apply bel_alloc) | (with_reducible apply bel_drew) | (with_reducible apply bel_drewN) | (with_reducible refine bel_trans ?_ (by with_reducible assumption)) | (with_reducible refine bel_trans ?_ (HF.out _)) | ((with_reducible refine bel_set3 ?_ ?_); rotate_left; omega)))
        case rest =>
        obtain ⟨Ap, Aa, As, Af, cp, ca, cs, cf, rfl, hW, hRd, hbc⟩ := hcut
        obtain ⟨v, hv⟩ : ∃ x, x = wc := ⟨_, rfl⟩
        subst hv
        have HW := Lib.hid hW
        have hbwv : Below w.heap.size w v := bel_trans hbw hbc
        have hBv := HB.out.up hbc
        have hgv := hBv.1
        have habv : ab < v.heap.size := Nat.lt_of_lt_of_le hab hbc.size
        clear b_0 b_1 b_2 b_3 b_4 c1
        have b_0 := (hBv).2 0 _ rfl; have b_1 := (hBv).2 1 _ rfl; have b_2 := (hBv).2 2 _ rfl; have b_3 := (hBv).2 3 _ rfl; have b_4 := (hBv).2 4 _ rfl
        have c1 := (hbc.cell (p := ⟨ab, aoff + k * 3 + 1, none⟩) hab).trans hck
        have hcells2 : ∀ Y, Below v.heap.size v Y → Y.cell? ⟨w.heap.size, 0, none⟩ = some (.slice pA pn pc) ∧ Y.cell? ⟨w.heap.size, 1, none⟩ = some (.slice qA qn qc) ∧ Y.cell? ⟨w.heap.size, 2, none⟩ = some (.slice sA sn sc) ∧ Y.cell? ⟨w.heap.size, 3, none⟩ = some (.int .i64 ec) ∧ Y.cell? ⟨w.heap.size, 4, none⟩ = some (.slice (some ⟨ab, aoff, none⟩) ln lc) ∧ Y.cell? ⟨ab, aoff + k * 3 + 1, none⟩ = some (.slice A5 m5 d5) := fun Y hY => by
          have q := (hBv.up hY).2
          exact ⟨q 0 _ rfl, q 1 _ rfl, q 2 _ rfl, q 3 _ rfl, q 4 _ rfl, (hY.cell (p := ⟨ab, aoff + k * 3 + 1, none⟩) habv).trans c1⟩
        have HCELLS2 := Lib.hid hcells2
        have HBv := Lib.hid hBv
        have HIv : Hid (IntsR v A5 m5 a.l) := Lib.hid (HI.out.up hbc)
        have HPv := Lib.hid (HP.out.up hbwv)
        have HQv := Lib.hid (HQ.out.up hbwv)
        have HSv := Lib.hid (HS.out.up hbwv)
        clear hW hBv hcells2
        go_upto_region 10 with fail
        go_cut [7, 8, 9] from 49 to 61 (fun s7 s8 s9 wx => ∃ (g : Nat) (Bp Ba Bs Bf : Option Addr) (dp da ds df : Nat), s7 = .pointer (some ⟨g, 0, none⟩) ∧ s8 = .slice Bf n6 df ∧ s9 = .int .i64 0 ∧ Blk wx g 68 [.slice Bp pn dp, .slice Ba qn da, .slice Bs n5 ds, .int .i64 ec] ∧ Hid (PairsR wx Bp pn D.e.p ∧ AcctsR wx Ba qn D.e.q ∧ IntsR wx Bs n5 (D.e.s ++ freshL D.e.s a.l) ∧ IntsR wx Bf n6 (freshL D.e.s a.l)) ∧ Below v.heap.size v wx)
        case first =>
          clear b_0 b_1 b_2 b_3 b_4 c1
          go_region_held3 (fun Y => Y.cell? ⟨w.heap.size, 0, none⟩ = some (.slice pA pn pc) ∧ Y.cell? ⟨w.heap.size, 1, none⟩ = some (.slice qA qn qc) ∧ Y.cell? ⟨w.heap.size, 2, none⟩ = some (.slice sA sn sc) ∧ Y.cell? ⟨w.heap.size, 3, none⟩ = some (.int .i64 ec) ∧ Y.cell? ⟨w.heap.size, 4, none⟩ = some (.slice (some ⟨ab, aoff, none⟩) ln lc) ∧ Y.cell? ⟨ab, aoff + k * 3 + 1, none⟩ = some (.slice A5 m5 d5))
            (exact HCELLS2.out _ (by (repeat (first | (with_reducible exact Below.refl _ _) | (with_reducible assumption) | (with_reducible apply bel_alloc) | (with_reducible apply bel_drew) | (with_reducible apply bel_drewN) | (with_reducible refine bel_trans ?_ (by with_reducible assumption)) | (with_reducible refine bel_trans ?_ (HF.out _)) | ((with_reducible refine bel_set3 ?_ ?_); rotate_left; omega)))))
            ((go_at_call 37; refine (exec_Push_ok pA qA sA A5 pn pc qn qc sn sc m5 d5 D.e.p D.e.q D.e.s a.l ec _ (HPv.out.up (by (repeat (first | (with_reducible exact Below.refl _ _) | (with_reducible assumption) | (with_reducible apply bel_alloc) | (with_reducible apply bel_drew) | (with_reducible apply bel_drewN) | (with_reducible refine bel_trans ?_ (by with_reducible assumption)) | (with_reducible refine bel_trans ?_ (HF.out _)) | (with_reducible refine bel_set ?_ (by simp) _) | (with_reducible refine bel_set ?_ (by simp; omega) _) | (with_reducible refine bel_set ?_ (by omega) _))))) (HQv.out.up (by (repeat (first | (with_reducible exact Below.refl _ _) | (with_reducible assumption) | (with_reducible apply bel_alloc) | (with_reducible apply bel_drew) | (with_reducible apply bel_drewN) | (with_reducible refine bel_trans ?_ (by with_reducible assumption)) | (with_reducible refine bel_trans ?_ (HF.out _)) | (with_reducible refine bel_set ?_ (by simp) _) | (with_reducible refine bel_set ?_ (by simp; omega) _) | (with_reducible refine bel_set ?_ (by omega) _))))) (HSv.out.up (by (repeat (first | (with_reducible exact Below.refl _ _) | (with_reducible assumption) | (with_reducible apply bel_alloc) | (with_reducible apply bel_drew) | (with_reducible apply bel_drewN) | (with_reducible refine bel_trans ?_ (by with_reducible assumption)) | (with_reducible refine bel_trans ?_ (HF.out _)) | (with_reducible refine bel_set ?_ (by simp) _) | (with_reducible refine bel_set ?_ (by simp; omega) _) | (with_reducible refine bel_set ?_ (by omega) _))))) (HIv.out.up (by (repeat (first | (with_reducible exact Below.refl _ _) | (with_reducible assumption) | (with_reducible apply bel_alloc) | (with_reducible apply bel_drew) | (with_reducible apply bel_drewN) | (with_reducible refine bel_trans ?_ (by with_reducible assumption)) | (with_reducible refine bel_trans ?_ (HF.out _)) | (with_reducible refine bel_set ?_ (by simp) _) | (with_reducible refine bel_set ?_ (by simp; omega) _) | (with_reducible refine bel_set ?_ (by omega) _))))) HYE.out HYD.out (by omega) (by omega)).mono ?_; rintro e w7 ⟨vp, va, vs, vf, rfl, hPO, hb7⟩; obtain ⟨Bp, dp, rfl, hr1⟩ := nmP hPO.e.p HP.out.1 (by omega); obtain ⟨Ba, da, rfl, hr2⟩ := nmA hPO.e.a HQ.out.1 (by omega); obtain ⟨Bs, ds, rfl, hr3⟩ := nmI hPO.e.s HN5.out (by omega); obtain ⟨Bf, df, rfl, hr4⟩ := nmI hPO.f HN6.out (by omega); have HPO := Lib.hid hPO; clear hPO hr1 hr2 hr3 hr4; (try have hcA := fun o => (bcell hb7).1 v.heap.size o (by first | (simp; done) | (simp; omega) | omega)); (try have hfA := fun o => (bcell hb7).2 v.heap.size o (by first | (simp; done) | (simp; omega) | omega)); have hzA := hb7.size; (try simp at hzA)))
          · go_wp2_with fail
            go_meet
            have hP8 := HPO.out.up (w' := w7.alloc (.cells #[.slice Bp pn dp, .slice Ba qn da, .slice Bs n5 ds, .int .i64 ec] 68)) (by (repeat (first | (with_reducible exact Below.refl _ _) | (with_reducible assumption) | (with_reducible apply bel_alloc) | (with_reducible apply bel_drew) | (with_reducible apply bel_drewN) | (with_reducible refine bel_trans ?_ (by with_reducible assumption)) | (with_reducible refine bel_trans ?_ (HF.out _)) | (with_reducible refine bel_set ?_ (by simp) _) | (with_reducible refine bel_set ?_ (by simp; omega) _) | (with_reducible refine bel_set ?_ (by omega) _))))
            refine ⟨_, Bp, Ba, Bs, Bf, dp, da, ds, df, rfl, rfl, rfl, Blk.new w7 68 [.slice Bp pn dp, .slice Ba qn da, .slice Bs n5 ds, .int .i64 ec], Lib.hid ⟨?_, ?_, ?_, ?_⟩, by (repeat (first | (with_reducible exact Below.refl _ _) | (with_reducible assumption) | (with_reducible apply bel_alloc) | (with_reducible apply bel_drew) | (with_reducible apply bel_drewN) | (with_reducible refine bel_trans ?_ (by with_reducible assumption)) | (with_reducible refine bel_trans ?_ (HF.out _)) | ((with_reducible refine bel_set3 ?_ ?_); rotate_left; omega)))⟩
            · obtain ⟨A', c', e', h'⟩ := nmP hP8.e.p HP.out.1 (by omega); injection e' with e1 e2 e3; subst e1; exact h'
            · obtain ⟨A', c', e', h'⟩ := nmA hP8.e.a HQ.out.1 (by omega); injection e' with e1 e2 e3; subst e1; exact h'
            · obtain ⟨A', c', e', h'⟩ := nmI hP8.e.s HN5.out (by omega); injection e' with e1 e2 e3; subst e1; exact h'
            · obtain ⟨A', c', e', h'⟩ := nmI hP8.f HN6.out (by omega); injection e' with e1 e2 e3; subst e1; exact h'
          · go_wp2_with fail
            go_meet
            have hk : Blk w7 v.heap.size 68 [.slice none 0 0, .slice none 0 0, .slice none 0 0, .int .i64 0] := Blk.up (Blk.new v.drew 68 [.slice none 0 0, .slice none 0 0, .slice none 0 0, .int .i64 0]) hb7
            have hP8 := (((HPO.out.set (b := v.heap.size) (o := 0) (by simp) (.slice Bp pn dp)).set (b := v.heap.size) (o := 1) (by simp) (.slice Ba qn da)).set (b := v.heap.size) (o := 2) (by simp) (.slice Bs n5 ds)).set (b := v.heap.size) (o := 3) (by simp) (.int .i64 ec)
            refine ⟨_, Bp, Ba, Bs, Bf, dp, da, ds, df, rfl, rfl, rfl, set4 hk _ _ _ _, Lib.hid ⟨?_, ?_, ?_, ?_⟩, by (repeat (first | (with_reducible exact Below.refl _ _) | (with_reducible assumption) | (with_reducible apply bel_alloc) | (with_reducible apply bel_drew) | (with_reducible apply bel_drewN) | (with_reducible refine bel_trans ?_ (by with_reducible assumption)) | (with_reducible refine bel_trans ?_ (HF.out _)) | ((with_reducible refine bel_set3 ?_ ?_); rotate_left; omega)))⟩
            · obtain ⟨A', c', e', h'⟩ := nmP hP8.e.p HP.out.1 (by omega); injection e' with e1 e2 e3; subst e1; exact h'
            · obtain ⟨A', c', e', h'⟩ := nmA hP8.e.a HQ.out.1 (by omega); injection e' with e1 e2 e3; subst e1; exact h'
            · obtain ⟨A', c', e', h'⟩ := nmI hP8.e.s HN5.out (by omega); injection e' with e1 e2 e3; subst e1; exact h'
            · obtain ⟨A', c', e', h'⟩ := nmI hP8.f HN6.out (by omega); injection e' with e1 e2 e3; subst e1; exact h'
        case rest =>
        obtain ⟨g, Bp, Ba, Bs, Bf, dp, da, ds, df, rfl, rfl, rfl, hG, hRe, hbd⟩ := hcut
        obtain ⟨u, hu⟩ : ∃ x, x = wc := ⟨_, rfl⟩
        subst hu
        have HG := Lib.hid hG
        have HWu := Lib.hid (HW.out.up hbd)
        have hgl := hG.lt
        have hxlc := HWu.out.lt
        clear b_0 b_1 b_2 b_3 b_4 c1
        have g_0 := (hG.box).2 0 _ rfl; have g_1 := (hG.box).2 1 _ rfl; have g_2 := (hG.box).2 2 _ rfl; have g_3 := (hG.box).2 3 _ rfl
        have x_0 := (HWu.out.box).2 0 _ rfl; have x_1 := (HWu.out.box).2 1 _ rfl; have x_2 := (HWu.out.box).2 2 _ rfl; have x_3 := (HWu.out.box).2 3 _ rfl
        clear hG
        have HRu : Hid (PairsR u Ap pn D.e.p ∧ AcctsR u Aa qn D.e.q ∧ IntsR u As n5 (D.e.s ++ freshL D.e.s a.l) ∧ IntsR u Af n6 (freshL D.e.s a.l)) := Lib.hid ⟨hRd.out.1.up hbd, hRd.out.2.1.up hbd, hRd.out.2.2.1.up hbd, hRd.out.2.2.2.up hbd⟩
        go_wp2_with (first
          | (go_at_call 38; refine (law23_num _ _).mono ?_; rintro e w' ⟨rfl, rfl⟩)
          | (go_at_call 39; refine (ref0_EqExec Bp Ba Bs Ap Aa As pn dp qn da n5 ds pn cp qn ca n5 cs D.e.p D.e.q (D.e.s ++ freshL D.e.s a.l) ec _ hRe.out.1 hRe.out.2.1 hRe.out.2.2.1 HRu.out.1 HRu.out.2.1 HRu.out.2.2.1).mono ?_; rintro e w8 ⟨rfl, hb8⟩)
          | (go_at_call 43; refine (ref0_EqNumbers_same Bf n6 df (freshL D.e.s a.l) Af n6 cf _ (hRe.out.2.2.2.up hb8) (HRu.out.2.2.2.up hb8)).mono ?_; rintro e w9 ⟨rfl, hb9⟩))
        have hbe : Below v.heap.size v w9 := bel_trans hbd (bel_trans hb8 hb9)
        (first | (go_round; (case rel => exact ⟨k + 1, by omega, by go_num, Lib.hid (HBv.out.up hbe), bel_trans hbwv hbe⟩); (case measure => (simp [intOf] <;> omega))) | (go_roundw; (case rel => exact ⟨k + 1, by omega, by go_num, Lib.hid (HBv.out.up hbe), bel_trans hbwv hbe⟩); (case measure => (simp [intOf] <;> omega))) | (refine ⟨?_, by simp [intOf] <;> omega⟩; (repeat apply Exists.intro); refine ⟨?rel, ?fr⟩; (case fr => ((repeat' apply And.intro) <;> rfl)); (case rel => exact ⟨k + 1, by omega, by go_num, Lib.hid (HBv.out.up hbe), bel_trans hbwv hbe⟩)))
    · go_wp2_with (go_at_call 41; refine (law23_wakes _).mono ?_; rintro e w9 ⟨rfl, hb9⟩)
      all_goals
        go_ret
        exact ⟨rfl, bel_trans hbw hb9⟩
end Go.Proofs.Ytgljmljmljccgaa
