/- The law TableParts. -/
import Derived.Test.YtffoglofijffpaaPc
import Derived.Deep.Cut
import Derived.Deep.CutRange
namespace Go.Proofs.Ytffoglofijffpaa
open Go.RowKit
set_option linter.unusedSimpArgs false
set_option linter.unusedVariables false

/-- A table in a box becomes another one. -/
theorem TabR.put {w w1 : World} {C bt : Nat} {vp va vp2 va2 : Value} {l l2 : List PairD} {q q2 : List AcctD} (h : TabR w C bt vp va l q) (hb : Below w.heap.size w w1) (hp : OwnP w1 w.heap.size vp2 l2) (ha : OwnA w1 w.heap.size va2 q2) (hd : Disj vp2 va2) :
    TabR ((w1.setCell ⟨bt, 0, none⟩ vp2).setCell ⟨bt, 1, none⟩ va2) C bt vp2 va2 l2 q2 := by
  have hbt := h.blk.lt
  have hn : vp2.ownBlock ≠ some bt := fun e => by have := (own_lt hp bt e).1; omega
  have hn2 : va2.ownBlock ≠ some bt := fun e => by have := (own_lt ha bt e).1; omega
  have hC : C ≤ w.heap.size := Nat.le_trans h.cb (Nat.le_of_lt hbt)
  exact { blk := ((h.blk.up hb).set_ 0 vp2).set_ 1 va2, p := own_setD (own_setD (hp.mono hC) hn vp2) hn va2, a := own_setD (own_setD (ha.mono hC) hn2 vp2) hn2 va2, d := hd, np := hn, na := hn2, cb := h.cb }
theorem pnamed {w : World} {B : Nat} {v : Value} {l : List PairD} (h : OwnP w B v l) (hl : l.length ≤ 9223372036854775807) : ∃ A n c, v = .slice A n c ∧ l.length = n := by
  obtain ⟨A, c, e, _⟩ := h.pairs hl
  exact ⟨A, _, c, e, rfl⟩
theorem anamed {w : World} {B : Nat} {v : Value} {l : List AcctD} (h : OwnA w B v l) (hl : l.length ≤ 9223372036854775807) : ∃ A n c, v = .slice A n c ∧ l.length = n := by
  obtain ⟨A, c, e, _⟩ := h.accts hl
  exact ⟨A, _, c, e, rfl⟩
theorem tab_put {w w1 : World} {C g : Nat} {a b vp2 va2 : Value} {l2 : List PairD} {q2 : List AcctD} (hk : Blk w g 25 [a, b]) (hb : Below w.heap.size w w1) (hp : OwnP w1 w.heap.size vp2 l2) (ha : OwnA w1 w.heap.size va2 q2) (hd : Disj vp2 va2) (hC : C ≤ g) :
    TabR ((w1.setCell ⟨g, 0, none⟩ vp2).setCell ⟨g, 1, none⟩ va2) C g vp2 va2 l2 q2 := by
  have hbt := hk.lt
  have hn : vp2.ownBlock ≠ some g := fun e => by have := (own_lt hp g e).1; omega
  have hn2 : va2.ownBlock ≠ some g := fun e => by have := (own_lt ha g e).1; omega
  exact { blk := ((hk.up hb).set_ 0 vp2).set_ 1 va2, p := own_setD (own_setD (hp.mono (by omega)) hn vp2) hn va2, a := own_setD (own_setD (ha.mono (by omega)) hn2 vp2) hn2 va2, d := hd, np := hn, na := hn2, cb := hC }
theorem tab_new {w1 : World} {C B : Nat} {vp va : Value} {l : List PairD} {q : List AcctD} (hp : OwnP w1 B vp l) (ha : OwnA w1 B va q) (hd : Disj vp va) (hB : C ≤ B) (hC : C ≤ w1.heap.size) : TabR (w1.alloc (.cells #[vp, va] 25)) C w1.heap.size vp va l q :=
  { blk := Blk.new w1 25 [vp, va], p := OwnP.mono (hp.up (bel_alloc (Below.refl _ _))) hB, a := OwnA.mono (ha.up (bel_alloc (Below.refl _ _))) hB, d := hd, np := fun e => (by have := (own_lt hp _ e).2; omega), na := fun e => (by have := (own_lt ha _ e).2; omega), cb := hC }
set_option maxRecDepth 100000 in
set_option maxHeartbeats 16000000 in
theorem law_TableParts (P : AskP) (D : AskD) (w : World) (h : AskR w P D) :
    Calls Try.prog 12 #[P.val] w fun e w' => e = .returned (.bool true) ∧ Below w.heap.size w w' := by
  obtain ⟨⟨pA, pn, pc⟩, ⟨qA, qn, qc⟩, ⟨xA, xn, xc⟩, ⟨bA, bn, bc⟩, ⟨kA, kn, kc⟩⟩ := P
  have H := Lib.hid h
  have HP : Hid (PairsR w pA pn D.p) := Lib.hid h.p
  have HQ : Hid (AcctsR w qA qn D.q) := Lib.hid h.q
  have HB : Hid (BatchesR w bA bn D.b) := Lib.hid h.b
  clear h
  show Calls Try.prog 12 #[.agg #[.slice pA pn pc, .slice qA qn qc, .slice xA xn xc, .slice bA bn bc, .slice kA kn kc]] w _
  go_enter Try.func12, Try.ntmps12
  go_wp2_with fail
  refine (law22_heavy ⟨⟨pA, pn, pc⟩, ⟨qA, qn, qc⟩, ⟨xA, xn, xc⟩, ⟨bA, bn, bc⟩, ⟨kA, kn, kc⟩⟩ D _ (H.out.up (by (repeat (first | (with_reducible exact Below.refl _ _) | (with_reducible assumption) | (with_reducible apply bel_alloc) | (with_reducible apply bel_drew) | (with_reducible apply bel_drewN) | (with_reducible refine bel_trans ?_ (by with_reducible assumption)) | (with_reducible refine bel_trans ?_ (HF.out _)) | (with_reducible refine bel_set ?_ (by simp) _) | (with_reducible refine bel_set ?_ (by simp; omega) _) | (with_reducible refine bel_set ?_ (by omega) _)))))).mono ?_
  rintro e w1 ⟨x, rfl, hx, hb1⟩
  cases x
  case true =>
    clear hx
    go_wp2_with fail
    go_ret
    exact ⟨rfl, by (repeat (first | (with_reducible exact Below.refl _ _) | (with_reducible assumption) | (with_reducible apply bel_alloc) | (with_reducible apply bel_drew) | (with_reducible apply bel_drewN) | (with_reducible refine bel_trans ?_ (by with_reducible assumption)) | (with_reducible refine bel_trans ?_ (HF.out _)) | (with_reducible refine bel_set ?_ (by simp) _) | (with_reducible refine bel_set ?_ (by simp; omega) _) | (with_reducible refine bel_set ?_ (by omega) _)))⟩
  case false =>
    have hLt := hx rfl
    have hp6 : pn ≤ 6000 := hLt.p
    have hq6 : qn ≤ 6000 := hLt.q
    have hb6 : bn ≤ 6000 := hLt.b
    have HLT := Lib.hid hLt
    clear hx hLt
    have hB1 : BoxR w1 w.heap.size [.slice pA pn pc, .slice qA qn qc, .slice xA xn xc, .slice bA bn bc, .slice kA kn kc] := (BoxR.new w [.slice pA pn pc, .slice qA qn qc, .slice xA xn xc, .slice bA bn bc, .slice kA kn kc] 30).up hb1
    have hbw1 : Below w.heap.size w w1 := by (repeat (first | (with_reducible exact Below.refl _ _) | (with_reducible assumption) | (with_reducible apply bel_alloc) | (with_reducible apply bel_drew) | (with_reducible apply bel_drewN) | (with_reducible refine bel_trans ?_ (by with_reducible assumption)) | (with_reducible refine bel_trans ?_ (HF.out _)) | (with_reducible refine bel_set ?_ (by simp) _) | (with_reducible refine bel_set ?_ (by simp; omega) _) | (with_reducible refine bel_set ?_ (by omega) _)))
    clear hb1
    go_wp2_with fail
    go_loopw [3] (fun ix wr => ∃ i : Nat, i ≤ bn ∧ ix = .int .i64 i ∧ Below w1.heap.size w1 wr) (fun ix _ => bn - (intOf ix).toNat)
    case atStart => exact ⟨0, Nat.zero_le _, rfl, Below.refl _ _⟩
    case round =>
      obtain ⟨i, hi, rfl, hbx⟩ := hrel
      (obtain ⟨wi, hwi⟩ : ∃ x, x = wr := ⟨_, rfl⟩); subst hwi
      have hBi := hB1.up hbx
      have hbwi : Below w.heap.size w wi := bel_trans hbw1 hbx
      have HBI := Lib.hid hBi
      have b_0 := (hBi).2 0 _ rfl; have b_1 := (hBi).2 1 _ rfl; have b_2 := (hBi).2 2 _ rfl; have b_3 := (hBi).2 3 _ rfl; have b_4 := (hBi).2 4 _ rfl
      have hg0 := hBi.1
      clear hBi
      by_cases hlt : i < bn ∧ i < 10
      · obtain ⟨hlt1, hlt2⟩ := hlt
        obtain ⟨bb, boff, rfl, hbb, hbc⟩ := (HB.out.up hbwi).2.2 (by omega)
        obtain ⟨tA, tn, tc, d0, d1, d2, htx⟩ := hbc i hlt1
        obtain ⟨bat, hbat⟩ : ∃ bat, bth D.b i = bat := ⟨_, rfl⟩
        rw [hbat] at d0 d1 htx
        have HTX := Lib.hid htx
        have HTN : Hid (bat.tx.length = tn) := Lib.hid htx.1
        clear hbc htx hbat
        cases hbm : bmT bat
        case' false =>
          have HBM := Lib.hid hbm
          clear hbm
          go_wp2_with (go_at_call 41; refine (ref4_Batch bat tA tn tc false _ HTX.out HBM.out).mono ?_; rintro e w2 ⟨rfl, hb2⟩)
          (first | (go_round; (case rel => exact ⟨i + 1, by omega, by go_num, bel_trans hbx hb2⟩); (case measure => (simp [intOf] <;> omega))) | (go_roundw; (case rel => exact ⟨i + 1, by omega, by go_num, bel_trans hbx hb2⟩); (case measure => (simp [intOf] <;> omega))) | (refine ⟨?_, by simp [intOf] <;> omega⟩; (repeat apply Exists.intro); refine ⟨?rel, ?fr⟩; (case fr => ((repeat' apply And.intro) <;> rfl)); (case rel => exact ⟨i + 1, by omega, by go_num, bel_trans hbx hb2⟩)))
        case' true =>
          have HBM := Lib.hid hbm
          have htn8 : tn ≤ 8 := by rw [← HTN.out]; exact (bmT_iff.1 hbm).2.2.2.2.2.1
          clear hbm
          go_upto_region 7 with (go_at_call 41; refine (ref4_Batch bat tA tn tc true _ HTX.out HBM.out).mono ?_; rintro e w2 ⟨rfl, hb2⟩)
          have hbw2 := bel_trans hbwi hb2
          have HB2 := Lib.hid (HBI.out.up hb2)
          have e0 := (hb2.cell (p := ⟨bb, boff + i * 3, none⟩) hbb).trans d0
          have e1 := (hb2.cell (p := ⟨bb, boff + i * 3 + 1, none⟩) hbb).trans d1
          have e2 := (hb2.cell (p := ⟨bb, boff + i * 3 + 2, none⟩) hbb).trans d2
          have hbb2 : bb < w2.heap.size := Nat.lt_of_lt_of_le hbb hb2.size
          have HTX2 := Lib.hid (HTX.out.up hb2)
          have HP2 := Lib.hid (HP.out.up hbw2)
          have HQ2 := Lib.hid (HQ.out.up hbw2)
          have hg2 := HB2.out.1
          have hbx2 := bel_trans hbx hb2
          clear b_0 b_1 b_2 b_3 b_4 d0 d1 d2 hbb HBI
          have b_0 := (HB2.out).2 0 _ rfl; have b_1 := (HB2.out).2 1 _ rfl; have b_2 := (HB2.out).2 2 _ rfl; have b_3 := (HB2.out).2 3 _ rfl; have b_4 := (HB2.out).2 4 _ rfl
          cases hm : mayT D.p D.q
          · have HM := Lib.hid hm
            have HNO : Hid (¬ (mayT D.p D.q = true ∧ bmT bat = true)) := Lib.hid (fun h => by rw [hm] at h; cases h.1)
            clear hm
            go_cut [4, 5, 6] from 15 to 103 (fun s4 s5 s6 wx => ∃ g : Nat, s4 = .pointer (some ⟨g, 0, none⟩) ∧ s5 = .int .i64 0 ∧ s6 = .int .i64 1 ∧ Below w2.heap.size w2 wx)
            case first =>
              go_region_with (go_at_call 44; refine (table_Batch_bad pA pn pc D.p qA qn qc D.q bat tA tn tc _ (HP2.out.up (by (repeat (first | (with_reducible exact Below.refl _ _) | (with_reducible assumption) | (with_reducible apply bel_alloc) | (with_reducible apply bel_drew) | (with_reducible apply bel_drewN) | (with_reducible refine bel_trans ?_ (by with_reducible assumption)) | (with_reducible refine bel_trans ?_ (HF.out _)) | (with_reducible refine bel_set ?_ (by simp) _) | (with_reducible refine bel_set ?_ (by simp; omega) _) | (with_reducible refine bel_set ?_ (by omega) _))))) (HQ2.out.up (by (repeat (first | (with_reducible exact Below.refl _ _) | (with_reducible assumption) | (with_reducible apply bel_alloc) | (with_reducible apply bel_drew) | (with_reducible apply bel_drewN) | (with_reducible refine bel_trans ?_ (by with_reducible assumption)) | (with_reducible refine bel_trans ?_ (HF.out _)) | (with_reducible refine bel_set ?_ (by simp) _) | (with_reducible refine bel_set ?_ (by simp; omega) _) | (with_reducible refine bel_set ?_ (by omega) _))))) (HTX2.out.up (by (repeat (first | (with_reducible exact Below.refl _ _) | (with_reducible assumption) | (with_reducible apply bel_alloc) | (with_reducible apply bel_drew) | (with_reducible apply bel_drewN) | (with_reducible refine bel_trans ?_ (by with_reducible assumption)) | (with_reducible refine bel_trans ?_ (HF.out _)) | (with_reducible refine bel_set ?_ (by simp) _) | (with_reducible refine bel_set ?_ (by simp; omega) _) | (with_reducible refine bel_set ?_ (by omega) _))))) HNO.out).mono ?_; rintro e w3 ⟨rfl, hb3⟩; (try have hcA := fun o => (bcell hb3).1 w2.heap.size o (by first | (simp; done) | (simp; omega) | omega)); (try have hfA := fun o => (bcell hb3).2 w2.heap.size o (by first | (simp; done) | (simp; omega) | omega)); have hzA := hb3.size; (try simp at hzA))
              all_goals
                go_wp2_with fail
                go_meet
                exact ⟨_, rfl, rfl, rfl, by (repeat (first | (with_reducible exact Below.refl _ _) | (with_reducible assumption) | (with_reducible apply bel_alloc) | (with_reducible apply bel_drew) | (with_reducible apply bel_drewN) | (with_reducible refine bel_trans ?_ (by with_reducible assumption)) | (with_reducible refine bel_trans ?_ (HF.out _)) | ((with_reducible refine bel_set3 ?_ ?_); rotate_left; omega)))⟩
            case rest =>
              obtain ⟨g, rfl, rfl, rfl, hbc⟩ := hcut
              have HBc := Lib.hid (HB2.out.up hbc)
              have hgc := HBc.out.1
              have hbwc := bel_trans hbw2 hbc
              clear b_0 b_1 b_2 b_3 b_4 e0 e1 e2
              have b_0 := (HBc.out).2 0 _ rfl; have b_1 := (HBc.out).2 1 _ rfl; have b_2 := (HBc.out).2 2 _ rfl; have b_3 := (HBc.out).2 3 _ rfl; have b_4 := (HBc.out).2 4 _ rfl
              go_wp2_with (go_at_call 18; refine (law22_num _ _).mono ?_; rintro e w' ⟨rfl, rfl⟩)
              refine (table_Check pA pn pc D.p qA qn qc D.q 1 _ (HP.out.up hbwc) (HQ.out.up hbwc) (by rw [HM.out]; rfl)).mono ?_
              rintro e w4 ⟨rfl, hb4⟩
              go_wp2_with (go_at_call 18; refine (law22_num _ _).mono ?_; rintro e w' ⟨rfl, rfl⟩)
              (first | (go_round; (case rel => exact ⟨i + 1, by omega, by go_num, bel_trans hbx2 (bel_trans hbc hb4)⟩); (case measure => (simp [intOf] <;> omega))) | (go_roundw; (case rel => exact ⟨i + 1, by omega, by go_num, bel_trans hbx2 (bel_trans hbc hb4)⟩); (case measure => (simp [intOf] <;> omega))) | (refine ⟨?_, by simp [intOf] <;> omega⟩; (repeat apply Exists.intro); refine ⟨?rel, ?fr⟩; (case fr => ((repeat' apply And.intro) <;> rfl)); (case rel => exact ⟨i + 1, by omega, by go_num, bel_trans hbx2 (bel_trans hbc hb4)⟩)))
          · have hMT := mayT_iff.1 hm
            have HM := Lib.hid hMT
            obtain ⟨⟨LF, QF⟩, hR⟩ : ∃ p, runT bat.tx D.p D.q = p := ⟨_, rfl⟩
            obtain ⟨N, hN⟩ : ∃ N, runN bat.tx D.p D.q = N := ⟨_, rfl⟩
            have hMF : MayT LF QF := by have := runT_may bat.tx hMT; rw [hR] at this; exact this
            have HR := Lib.hid hR
            have HN := Lib.hid hN
            have HMF := Lib.hid hMF
            have hN8 : N ≤ 8 := by have := runN_le bat.tx D.p D.q; rw [hN, HTN.out] at this; omega
            clear hm hMT hR hN hMF
            go_cut [4, 5, 6] from 15 to 103 (fun s4 s5 s6 wx => ∃ (g : Nat) (vp va : Value), s4 = .pointer (some ⟨g, 0, none⟩) ∧ s5 = .int .i64 N ∧ s6 = .int .i64 0 ∧ Below w2.heap.size w2 wx ∧ TabR wx w2.heap.size g vp va LF QF)
            case first =>
              go_region_with (go_at_call 44; refine (table_Batch_ok pA pn pc D.p qA qn qc D.q bat tA tn tc LF QF N _ (HP2.out.up (by (repeat (first | (with_reducible exact Below.refl _ _) | (with_reducible assumption) | (with_reducible apply bel_alloc) | (with_reducible apply bel_drew) | (with_reducible apply bel_drewN) | (with_reducible refine bel_trans ?_ (by with_reducible assumption)) | (with_reducible refine bel_trans ?_ (HF.out _)) | (with_reducible refine bel_set ?_ (by simp) _) | (with_reducible refine bel_set ?_ (by simp; omega) _) | (with_reducible refine bel_set ?_ (by omega) _))))) (HQ2.out.up (by (repeat (first | (with_reducible exact Below.refl _ _) | (with_reducible assumption) | (with_reducible apply bel_alloc) | (with_reducible apply bel_drew) | (with_reducible apply bel_drewN) | (with_reducible refine bel_trans ?_ (by with_reducible assumption)) | (with_reducible refine bel_trans ?_ (HF.out _)) | (with_reducible refine bel_set ?_ (by simp) _) | (with_reducible refine bel_set ?_ (by simp; omega) _) | (with_reducible refine bel_set ?_ (by omega) _))))) (HTX2.out.up (by (repeat (first | (with_reducible exact Below.refl _ _) | (with_reducible assumption) | (with_reducible apply bel_alloc) | (with_reducible apply bel_drew) | (with_reducible apply bel_drewN) | (with_reducible refine bel_trans ?_ (by with_reducible assumption)) | (with_reducible refine bel_trans ?_ (HF.out _)) | (with_reducible refine bel_set ?_ (by simp) _) | (with_reducible refine bel_set ?_ (by simp; omega) _) | (with_reducible refine bel_set ?_ (by omega) _))))) HM.out (bmT_iff.1 HBM.out) HR.out HN.out).mono ?_; rintro e w3 ⟨vp, va, rfl, hp3, ha3, hd3, hb3⟩; obtain ⟨A3, n3, c3, rfl, _⟩ := pnamed hp3 (by have := HMF.out.1.1; omega); obtain ⟨A4, n4, c4, rfl, _⟩ := anamed ha3 (by have := HMF.out.2.1; omega); (try have hcA := fun o => (bcell hb3).1 w2.heap.size o (by first | (simp; done) | (simp; omega) | omega)); (try have hfA := fun o => (bcell hb3).2 w2.heap.size o (by first | (simp; done) | (simp; omega) | omega)); have hzA := hb3.size; (try simp at hzA))
              all_goals
                go_wp2_with fail
                go_meet
                first
                  | exact ⟨_, _, _, rfl, rfl, rfl, by (repeat (first | (with_reducible exact Below.refl _ _) | (with_reducible assumption) | (with_reducible apply bel_alloc) | (with_reducible apply bel_drew) | (with_reducible apply bel_drewN) | (with_reducible refine bel_trans ?_ (by with_reducible assumption)) | (with_reducible refine bel_trans ?_ (HF.out _)) | ((with_reducible refine bel_set3 ?_ ?_); rotate_left; omega))), tab_new hp3 ha3 hd3 (by first | omega | (simp; done) | (simp; omega)) (by omega)⟩
                  | exact ⟨_, _, _, rfl, rfl, rfl, by (repeat (first | (with_reducible exact Below.refl _ _) | (with_reducible assumption) | (with_reducible apply bel_alloc) | (with_reducible apply bel_drew) | (with_reducible apply bel_drewN) | (with_reducible refine bel_trans ?_ (by with_reducible assumption)) | (with_reducible refine bel_trans ?_ (HF.out _)) | ((with_reducible refine bel_set3 ?_ ?_); rotate_left; omega))), tab_put (Blk.new w2.drew 25 [.slice none 0 0, .slice none 0 0]) hb3 hp3 ha3 hd3 (Nat.le_refl _)⟩
                  | exact ⟨_, _, _, rfl, rfl, rfl, by (repeat (first | (with_reducible exact Below.refl _ _) | (with_reducible assumption) | (with_reducible apply bel_alloc) | (with_reducible apply bel_drew) | (with_reducible apply bel_drewN) | (with_reducible refine bel_trans ?_ (by with_reducible assumption)) | (with_reducible refine bel_trans ?_ (HF.out _)) | ((with_reducible refine bel_set3 ?_ ?_); rotate_left; omega))), tab_put (w := (w2.alloc (.cells #[.slice none 0 0, .slice none 0 0] 25)).drew) (Blk.new w2 25 [.slice none 0 0, .slice none 0 0]) hb3 hp3 ha3 hd3 (Nat.le_refl _)⟩
            case rest =>
              obtain ⟨g, vp, va, rfl, rfl, rfl, hbc, hTa⟩ := hcut
              obtain ⟨A3, n3, c3, rfl, hn3⟩ := pnamed hTa.p (by have := HMF.out.1.1; omega)
              obtain ⟨A4, n4, c4, rfl, hn4⟩ := anamed hTa.a (by have := HMF.out.2.1; omega)
              have HTA := Lib.hid hTa
              have HN3 := Lib.hid hn3
              have HN4 := Lib.hid hn4
              have HBc := Lib.hid (HB2.out.up hbc)
              have hgc := HBc.out.1
              have hgl := hTa.blk.lt
              have hbwc := bel_trans hbw2 hbc
              clear b_0 b_1 b_2 b_3 b_4 hTa hn3 hn4
              have b_0 := (HBc.out).2 0 _ rfl; have b_1 := (HBc.out).2 1 _ rfl; have b_2 := (HBc.out).2 2 _ rfl; have b_3 := (HBc.out).2 3 _ rfl; have b_4 := (HBc.out).2 4 _ rfl
              go_wp2_with (go_at_call 18; refine (law22_num _ _).mono ?_; rintro e w' ⟨rfl, rfl⟩)
              refine (ref0_CopyTable pA pn pc D.p qA qn qc D.q _ (HP.out.up hbwc) (HQ.out.up hbwc) (by omega) (by omega)).mono ?_
              rintro e w5 ⟨vp5, va5, rfl, hp5, ha5, hd5, hb5⟩
              obtain ⟨A5, n5, c5, rfl, hn5⟩ := pnamed hp5 (by rw [HP.out.1]; omega)
              obtain ⟨A6, n6, c6, rfl, hn6⟩ := anamed ha5 (by rw [HQ.out.1]; omega)
              have hz5 := hb5.size
              have hzc := hbc.size
              have hT7 : TabR (w5.alloc (.cells #[.slice A5 n5 c5, .slice A6 n6 c6] 25)) w2.heap.size w5.heap.size (.slice A5 n5 c5) (.slice A6 n6 c6) D.p D.q := tab_new hp5 ha5 hd5 hzc (by omega)
              have HT7 := Lib.hid hT7
              have hbc5 := bel_trans hbc hb5
              clear hp5 ha5 hd5 hT7 hn5 hn6 b_0 b_1 b_2 b_3 b_4
              go_wp2_with fail
              go_loopw [8, 9] (fun s8 s9 wr => ∃ (k c' : Nat) (vp' va' : Value) (l' : List PairD) (q' : List AcctD), k ≤ tn ∧ c' ≤ k ∧ s9 = .int .i64 k ∧ s8 = .int .i64 c' ∧ Hid (TabR wr w2.heap.size w5.heap.size vp' va' l' q') ∧ Hid (MayT l' q') ∧ Hid (runT (bat.tx.drop k) l' q' = (LF, QF)) ∧ Hid (c' + runN (bat.tx.drop k) l' q' = N) ∧ Below w5.heap.size w5 wr) (fun _ s9 _ => tn - (intOf s9).toNat)
              case atStart => exact ⟨0, 0, _, _, D.p, D.q, Nat.zero_le _, Nat.le_refl _, rfl, rfl, HT7, HM, Lib.hid (by rw [List.drop_zero]; exact HR.out), Lib.hid (by rw [List.drop_zero, Nat.zero_add]; exact HN.out), by (repeat (first | (with_reducible exact Below.refl _ _) | (with_reducible assumption) | (with_reducible apply bel_alloc) | (with_reducible apply bel_drew) | (with_reducible apply bel_drewN) | (with_reducible refine bel_trans ?_ (by with_reducible assumption)) | (with_reducible refine bel_trans ?_ (HF.out _)) | (with_reducible refine bel_set ?_ (by simp) _) | (with_reducible refine bel_set ?_ (by simp; omega) _) | (with_reducible refine bel_set ?_ (by omega) _)))⟩
              case round =>
                obtain ⟨k, c', vp', va', l', q', hk, hck, rfl, rfl, HT', HM', HR', HN', hbr⟩ := hrel
                (obtain ⟨wk, hwk⟩ : ∃ x, x = wr := ⟨_, rfl⟩); subst hwk
                obtain ⟨A7, n7, c7, rfl, hn7⟩ := pnamed HT'.out.p (by have := HM'.out.1.1; omega)
                obtain ⟨A8, n8, c8, rfl, hn8⟩ := anamed HT'.out.a (by have := HM'.out.2.1; omega)
                have hb2k : Below w2.heap.size w2 wk := bel_trans hbc5 hbr
                have HBk := Lib.hid (HB2.out.up hb2k)
                have hgk := HBk.out.1
                have hbwk := bel_trans hbw2 hb2k
                have f0 := (hb2k.cell (p := ⟨bb, boff + i * 3, none⟩) hbb2).trans e0
                have f1 := (hb2k.cell (p := ⟨bb, boff + i * 3 + 1, none⟩) hbb2).trans e1
                have f2 := (hb2k.cell (p := ⟨bb, boff + i * 3 + 2, none⟩) hbb2).trans e2
                have hbbk : bb < wk.heap.size := Nat.lt_of_lt_of_le hbb2 hb2k.size
                have h7l := HT'.out.blk.lt
                have b_0 := (HBk.out).2 0 _ rfl; have b_1 := (HBk.out).2 1 _ rfl; have b_2 := (HBk.out).2 2 _ rfl; have b_3 := (HBk.out).2 3 _ rfl; have b_4 := (HBk.out).2 4 _ rfl
                have t_0 := (HT'.out.blk.box).2 0 _ rfl; have t_1 := (HT'.out.blk.box).2 1 _ rfl
                by_cases hkt : k < tn
                · have htk := HTX2.out.up hb2k
                  obtain ⟨xb, xoff, rfl, hxb, hxc⟩ := htk.at (by omega)
                  obtain ⟨x0, x1, x2, x3⟩ := hxc k hkt
                  obtain ⟨hr1, hn1⟩ := runT_step (tx := bat.tx) (k := k) (by rw [HTN.out]; exact hkt) l' q'
                  rw [HR'.out] at hr1
                  have hn2 := HN'.out
                  rw [hn1] at hn2
                  obtain ⟨x, hx⟩ : ∃ x, xth bat.tx k = x := ⟨_, rfl⟩
                  rw [hx] at x0 x1 x2 x3 hr1 hn2
                  obtain ⟨y, hy⟩ : ∃ y, okT l' q' x = y := ⟨_, rfl⟩
                  rw [hy] at hn2
                  have HY := Lib.hid hy
                  have HR1 := Lib.hid hr1.symm
                  have HN2 := Lib.hid hn2
                  have hM2 : MayT (doP l' q' x) (doA l' q' x) := HM'.out.do_
                  have HM2 := Lib.hid hM2
                  have HPR : Hid (PairsR wk A7 n7 l') := Lib.hid (by obtain ⟨A', c', e', h', _⟩ := HT'.out.p.pairs (by have := HM'.out.1.1; omega); rw [hn7] at e' h'; injection e' with q1 q2 q3; subst q1; exact h')
                  have HAR : Hid (AcctsR wk A8 n8 q') := Lib.hid (by obtain ⟨A', c', e', h', _⟩ := HT'.out.a.accts (by have := HM'.out.2.1; omega); rw [hn8] at e' h'; injection e' with q1 q2 q3; subst q1; exact h')
                  clear hxc htk hr1 hn1 hn2 hx hy hM2
                  go_upto_region 15 with fail
                  go_cut [10, 11, 12] from 56 to 88 (fun s10 s11 s12 wx => ∃ (g9 : Nat) (vp2 va2 : Value), s10 = .pointer (some ⟨g9, 0, none⟩) ∧ s11 = .bool y ∧ s12 = .int .i64 0 ∧ Below wk.heap.size wk wx ∧ TabR wx wk.heap.size g9 vp2 va2 (doP l' q' x) (doA l' q' x))
                  case first =>
                    go_region_with (go_at_call 21; refine (table_Apply_ok A7 n7 c7 l' A8 n8 c8 q' x _ (HPR.out.up (by (repeat (first | (with_reducible exact Below.refl _ _) | (with_reducible assumption) | (with_reducible apply bel_alloc) | (with_reducible apply bel_drew) | (with_reducible apply bel_drewN) | (with_reducible refine bel_trans ?_ (by with_reducible assumption)) | (with_reducible refine bel_trans ?_ (HF.out _)) | (with_reducible refine bel_set ?_ (by simp) _) | (with_reducible refine bel_set ?_ (by simp; omega) _) | (with_reducible refine bel_set ?_ (by omega) _))))) (HAR.out.up (by (repeat (first | (with_reducible exact Below.refl _ _) | (with_reducible assumption) | (with_reducible apply bel_alloc) | (with_reducible apply bel_drew) | (with_reducible apply bel_drewN) | (with_reducible refine bel_trans ?_ (by with_reducible assumption)) | (with_reducible refine bel_trans ?_ (HF.out _)) | (with_reducible refine bel_set ?_ (by simp) _) | (with_reducible refine bel_set ?_ (by simp; omega) _) | (with_reducible refine bel_set ?_ (by omega) _))))) HM'.out).mono ?_; rw [HY.out]; rintro e w6 ⟨vp6, va6, rfl, hp6, ha6, hd6, hb6⟩; obtain ⟨A3', n3', c3', rfl, _⟩ := pnamed hp6 (by have := HM2.out.1.1; omega); obtain ⟨A4', n4', c4', rfl, _⟩ := anamed ha6 (by have := HM2.out.2.1; omega); (try have hcA := fun o => (bcell hb6).1 wk.heap.size o (by first | (simp; done) | (simp; omega) | omega)); (try have hfA := fun o => (bcell hb6).2 wk.heap.size o (by first | (simp; done) | (simp; omega) | omega)); have hzA := hb6.size; (try simp at hzA))
                    all_goals
                      go_wp2_with fail
                      go_meet
                      first
                        | exact ⟨_, _, _, rfl, rfl, rfl, by (repeat (first | (with_reducible exact Below.refl _ _) | (with_reducible assumption) | (with_reducible apply bel_alloc) | (with_reducible apply bel_drew) | (with_reducible apply bel_drewN) | (with_reducible refine bel_trans ?_ (by with_reducible assumption)) | (with_reducible refine bel_trans ?_ (HF.out _)) | ((with_reducible refine bel_set3 ?_ ?_); rotate_left; omega))), tab_new hp6 ha6 hd6 (by first | omega | (simp; done) | (simp; omega)) (by omega)⟩
                        | exact ⟨_, _, _, rfl, rfl, rfl, by (repeat (first | (with_reducible exact Below.refl _ _) | (with_reducible assumption) | (with_reducible apply bel_alloc) | (with_reducible apply bel_drew) | (with_reducible apply bel_drewN) | (with_reducible refine bel_trans ?_ (by with_reducible assumption)) | (with_reducible refine bel_trans ?_ (HF.out _)) | ((with_reducible refine bel_set3 ?_ ?_); rotate_left; omega))), tab_put (Blk.new wk.drew 25 [.slice none 0 0, .slice none 0 0]) hb6 hp6 ha6 hd6 (Nat.le_refl _)⟩
                        | exact ⟨_, _, _, rfl, rfl, rfl, by (repeat (first | (with_reducible exact Below.refl _ _) | (with_reducible assumption) | (with_reducible apply bel_alloc) | (with_reducible apply bel_drew) | (with_reducible apply bel_drewN) | (with_reducible refine bel_trans ?_ (by with_reducible assumption)) | (with_reducible refine bel_trans ?_ (HF.out _)) | ((with_reducible refine bel_set3 ?_ ?_); rotate_left; omega))), tab_put (w := (wk.alloc (.cells #[.slice none 0 0, .slice none 0 0] 25)).drew) (Blk.new wk 25 [.slice none 0 0, .slice none 0 0]) hb6 hp6 ha6 hd6 (Nat.le_refl _)⟩
                  case rest =>
                    obtain ⟨g9, vp2, va2, rfl, rfl, rfl, hb9, hT9⟩ := hcut
                    obtain ⟨A3', n3', c3', rfl, _⟩ := pnamed hT9.p (by have := HM2.out.1.1; omega)
                    obtain ⟨A4', n4', c4', rfl, _⟩ := anamed hT9.a (by have := HM2.out.2.1; omega)
                    have hT7n := TabR.put HT'.out hb9 hT9.p hT9.a hT9.d
                    have HT7n := Lib.hid hT7n
                    have hk7 := HT'.out.blk.up hb9
                    have hf7 := hk7.frozen
                    have h9l := hT9.blk.lt
                    have h7l2 := hk7.lt
                    have hbr2 : Below w5.heap.size w5 ((wc.setCell ⟨w5.heap.size, 0, none⟩ (.slice A3' n3' c3')).setCell ⟨w5.heap.size, 1, none⟩ (.slice A4' n4' c4')) := ((bel_trans hbr hb9).setCell (p := ⟨w5.heap.size, 0, none⟩) (Nat.le_refl _) _).setCell (p := ⟨w5.heap.size, 1, none⟩) (Nat.le_refl _) _
                    have hg97 : g9 ≠ w5.heap.size := by have := hT9.cb; omega
                    clear b_0 b_1 b_2 b_3 b_4 t_0 t_1 f0 f1 f2 x0 x1 x2 x3
                    have u_0 := (hT9.blk.box).2 0 _ rfl; have u_1 := (hT9.blk.box).2 1 _ rfl
                    have t_0 := (hk7.box).2 0 _ rfl; have t_1 := (hk7.box).2 1 _ rfl
                    clear hT9 hk7 hT7n
                    cases y
                    · go_wp2_with (go_at_call 18; refine (law22_num _ _).mono ?_; rintro e w' ⟨rfl, rfl⟩)
                      (first | (go_round; (case rel => exact ⟨k + 1, c', _, _, _, _, by omega, by omega, by go_num, rfl, HT7n, HM2, HR1, Lib.hid (by have := HN2.out; simpa using this), hbr2⟩); (case measure => (simp [intOf] <;> omega))) | (go_roundw; (case rel => exact ⟨k + 1, c', _, _, _, _, by omega, by omega, by go_num, rfl, HT7n, HM2, HR1, Lib.hid (by have := HN2.out; simpa using this), hbr2⟩); (case measure => (simp [intOf] <;> omega))) | (refine ⟨?_, by simp [intOf] <;> omega⟩; (repeat apply Exists.intro); refine ⟨?rel, ?fr⟩; (case fr => ((repeat' apply And.intro) <;> rfl)); (case rel => exact ⟨k + 1, c', _, _, _, _, by omega, by omega, by go_num, rfl, HT7n, HM2, HR1, Lib.hid (by have := HN2.out; simpa using this), hbr2⟩)))
                    · go_wp2_with (go_at_call 18; refine (law22_num _ _).mono ?_; rintro e w' ⟨rfl, rfl⟩)
                      (first | (go_round; (case rel => exact ⟨k + 1, c' + 1, _, _, _, _, by omega, by omega, by go_num, by go_num, HT7n, HM2, HR1, Lib.hid (by have := HN2.out; simp at this; omega), hbr2⟩); (case measure => (simp [intOf] <;> omega))) | (go_roundw; (case rel => exact ⟨k + 1, c' + 1, _, _, _, _, by omega, by omega, by go_num, by go_num, HT7n, HM2, HR1, Lib.hid (by have := HN2.out; simp at this; omega), hbr2⟩); (case measure => (simp [intOf] <;> omega))) | (refine ⟨?_, by simp [intOf] <;> omega⟩; (repeat apply Exists.intro); refine ⟨?rel, ?fr⟩; (case fr => ((repeat' apply And.intro) <;> rfl)); (case rel => exact ⟨k + 1, c' + 1, _, _, _, _, by omega, by omega, by go_num, by go_num, HT7n, HM2, HR1, Lib.hid (by have := HN2.out; simp at this; omega), hbr2⟩)))
                · have hd : bat.tx.drop k = [] := List.drop_of_length_le (by rw [HTN.out]; omega)
                  have hR2 := HR'.out
                  rw [hd] at hR2
                  have hN3 := HN'.out
                  rw [hd] at hN3
                  have e9 : l' = LF ∧ q' = QF := by have := hR2; unfold runT at this; exact ⟨congrArg Prod.fst this, congrArg Prod.snd this⟩
                  obtain ⟨rfl, rfl⟩ := e9
                  have e8 : c' = N := by have := hN3; unfold runN at this; omega
                  subst e8
                  have hTak := HTA.out.up (bel_trans hb5 hbr)
                  have hgk9 := hTak.blk.lt
                  have HTAK := Lib.hid hTak
                  have HPa : Hid (PairsR wk A3 n3 l') := Lib.hid (by obtain ⟨A', c', e', h', _⟩ := hTak.p.pairs (by have := HM'.out.1.1; omega); rw [HN3.out] at e' h'; injection e' with q1 q2 q3; subst q1; exact h')
                  have HAa : Hid (AcctsR wk A4 n4 q') := Lib.hid (by obtain ⟨A', c', e', h', _⟩ := hTak.a.accts (by have := HM'.out.2.1; omega); rw [HN4.out] at e' h'; injection e' with q1 q2 q3; subst q1; exact h')
                  have HPR : Hid (PairsR wk A7 n7 l') := Lib.hid (by obtain ⟨A', c', e', h', _⟩ := HT'.out.p.pairs (by have := HM'.out.1.1; omega); rw [hn7] at e' h'; injection e' with q1 q2 q3; subst q1; exact h')
                  have HAR : Hid (AcctsR wk A8 n8 q') := Lib.hid (by obtain ⟨A', c', e', h', _⟩ := HT'.out.a.accts (by have := HM'.out.2.1; omega); rw [hn8] at e' h'; injection e' with q1 q2 q3; subst q1; exact h')
                  have u_0 := (hTak.blk.box).2 0 _ rfl; have u_1 := (hTak.blk.box).2 1 _ rfl
                  clear hd hR2 hN3 hTak
                  go_wp2_with fail
                  refine (ref0_EqTable A3 n3 c3 A4 n4 c4 A7 n7 c7 A8 n8 c8 l' q' _ HPa.out HAa.out HPR.out HAR.out).mono ?_
                  rintro e w7 ⟨rfl, hb7⟩
                  have hT8 := HTAK.out.up hb7
                  have hg8 := hT8.blk.lt
                  clear u_0 u_1 t_0 t_1 b_0 b_1 b_2 b_3 b_4
                  have u_0 := (hT8.blk.box).2 0 _ rfl; have u_1 := (hT8.blk.box).2 1 _ rfl
                  go_wp2_with fail
                  refine (table_Check A3 n3 c3 l' A4 n4 c4 q' 0 _ (HPa.out.up hb7) (HAa.out.up hb7) (by rw [if_pos (mayT_iff.2 HMF.out)])).mono ?_
                  rintro e w8 ⟨rfl, hb8⟩
                  go_wp2_with (go_at_call 18; refine (law22_num _ _).mono ?_; rintro e w' ⟨rfl, rfl⟩)
                  (first | (go_round; (case rel => exact ⟨i + 1, by omega, by go_num, bel_trans hbx2 (bel_trans hb2k (bel_trans hb7 hb8))⟩); (case measure => (simp [intOf] <;> omega))) | (go_roundw; (case rel => exact ⟨i + 1, by omega, by go_num, bel_trans hbx2 (bel_trans hb2k (bel_trans hb7 hb8))⟩); (case measure => (simp [intOf] <;> omega))) | (refine ⟨?_, by simp [intOf] <;> omega⟩; (repeat apply Exists.intro); refine ⟨?rel, ?fr⟩; (case fr => ((repeat' apply And.intro) <;> rfl)); (case rel => exact ⟨i + 1, by omega, by go_num, bel_trans hbx2 (bel_trans hb2k (bel_trans hb7 hb8))⟩)))
      · clear b_0 b_1 b_2 b_4
        by_cases h1 : i < bn
        · have h2 : ¬ i < 10 := fun h => hlt ⟨h1, h⟩
          clear hlt
          go_wp2_with (go_at_call 19; refine (law22_wakes _).mono ?_; rintro e w9 ⟨rfl, hb9⟩)
          go_ret
          exact ⟨rfl, bel_trans hbwi hb9⟩
        · clear hlt
          go_wp2_with (go_at_call 19; refine (law22_wakes _).mono ?_; rintro e w9 ⟨rfl, hb9⟩)
          go_ret
          exact ⟨rfl, bel_trans hbwi hb9⟩
end Go.Proofs.Ytffoglofijffpaa
