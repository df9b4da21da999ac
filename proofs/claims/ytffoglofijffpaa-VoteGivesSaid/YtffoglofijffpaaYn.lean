/- The law VoteGives. -/
import Derived.Test.YtffoglofijffpaaYm
namespace Go.Proofs.Ytffoglofijffpaa
open Go.RowKit
set_option linter.unusedSimpArgs false
set_option linter.unusedVariables false

theorem votes_nil (w : World) : VotesR w none 0 [] := ⟨rfl, by simp [flat], by omega, fun h => absurd h (by omega)⟩
theorem giB_len (l : List VoteD) (v : VoteD) : (giB l v).length ≤ l.length + 1 := by
  unfold giB
  split
  · rw [insV_len]; exact Nat.le_refl _
  · simp
set_option maxRecDepth 100000 in
set_option maxHeartbeats 8000000 in
theorem law_VoteGives (A : Option Addr) (n c : Nat) (l : List VoteD) (mA : Option Addr) (mn mc : Nat) (ml : List VoteD) (pA : Option Addr) (pn pc : Nat) (pl : List (Nat × Nat)) (lA : Option Addr) (lm lc : Nat) (Lo : List Int) (w : World) (hl : VotesR w A n l) (hm : VotesR w mA mn ml) (hp : FloatsR w pA pn pl) (hL : IntsR w lA lm Lo) :
    Calls Try.prog 9 #[.agg #[.slice A n c, .slice mA mn mc, .slice pA pn pc, .slice lA lm lc]] w fun e w' => e = .returned (.bool true) ∧ Below w.heap.size w w' := by
  have HL := Lib.hid hl
  have HN := Lib.hid hl.1
  have HM := Lib.hid hm
  clear hl hm hp hL
  go_enter Try.func9, Try.ntmps9
  go_wp2_with fail
  refine (law19_heavy _ _ _ _ _ _ _ _ _ _ _ _ _).mono ?_
  rintro e w1 ⟨x, rfl, hx, hb1⟩
  cases x
  case true =>
    clear hx
    go_wp2_with fail
    go_ret
    exact ⟨rfl, by (repeat (first | (with_reducible exact Below.refl _ _) | (with_reducible assumption) | (with_reducible apply bel_alloc) | (with_reducible apply bel_drew) | (with_reducible apply bel_drewN) | (with_reducible refine bel_trans ?_ (by with_reducible assumption)) | (with_reducible refine bel_trans ?_ (HF.out _)) | (with_reducible refine bel_set ?_ (by simp) _) | (with_reducible refine bel_set ?_ (by simp; omega) _) | (with_reducible refine bel_set ?_ (by omega) _)))⟩
  case false =>
    obtain ⟨hn3, hmn, hpn, hlm⟩ := hx rfl
    clear hx
    have hB1 : BoxR w1 w.heap.size [.slice A n c, .slice mA mn mc, .slice pA pn pc, .slice lA lm lc] := (BoxR.new w [.slice A n c, .slice mA mn mc, .slice pA pn pc, .slice lA lm lc] 55).up hb1
    have hbw1 : Below w.heap.size w w1 := by (repeat (first | (with_reducible exact Below.refl _ _) | (with_reducible assumption) | (with_reducible apply bel_alloc) | (with_reducible apply bel_drew) | (with_reducible apply bel_drewN) | (with_reducible refine bel_trans ?_ (by with_reducible assumption)) | (with_reducible refine bel_trans ?_ (HF.out _)) | (with_reducible refine bel_set ?_ (by simp) _) | (with_reducible refine bel_set ?_ (by simp; omega) _) | (with_reducible refine bel_set ?_ (by omega) _)))
    clear hb1
    have b_0 := (hB1).2 0 _ rfl; have b_1 := (hB1).2 1 _ rfl; have b_2 := (hB1).2 2 _ rfl; have b_3 := (hB1).2 3 _ rfl
    go_wp2_with fail
    refine (ref0_CopyVotes A n c l _ (HL.out.up hbw1) (by omega)).mono ?_
    rintro e w2 ⟨vi, rfl, hown, hb2⟩
    have hB2 := hB1.up hb2
    have hbw2 : Below w.heap.size w w2 := bel_trans hbw1 hb2
    have hs12 : w.heap.size ≤ w1.heap.size := Nat.le_of_lt hB1.1
    have HOW := Lib.hid (hown.mono hs12)
    clear hown b_0 b_1 b_2 b_3
    go_wp2_with fail
    go_loopw [3, 4] (fun vl ix wr => ∃ (i : Nat) (cur : List VoteD), i ≤ mn ∧ i ≤ 30 ∧ ix = .int .i64 i ∧ OwnV wr w.heap.size vl cur ∧ cur.length ≤ 300 + i ∧ Below w2.heap.size w2 wr) (fun _ ix _ => mn - (intOf ix).toNat)
    case atStart => exact ⟨0, l, Nat.zero_le _, Nat.zero_le _, rfl, HOW.out, by rw [HN.out]; omega, Below.refl _ _⟩
    case round =>
      obtain ⟨i, cur, hi, hi30, rfl, hown, hcl, hbx⟩ := hrel
      obtain ⟨aA, ac, rfl, har, hac, hac2⟩ := hown.votes (by omega)
      obtain ⟨q, hq⟩ : ∃ q, q = cur.length := ⟨_, rfl⟩
      rw [← hq] at har hac hcl hown ⊢
      have HQ := Lib.hid hq
      have HAR := Lib.hid har
      have HOWN := Lib.hid hown
      clear hq har hown
      (obtain ⟨wi, hwi⟩ : ∃ x, x = wr := ⟨_, rfl⟩); subst hwi
      have hBi := hB2.up hbx
      have hbwi : Below w.heap.size w wi := bel_trans hbw2 hbx
      have b_0 := (hBi).2 0 _ rfl; have b_1 := (hBi).2 1 _ rfl; have b_2 := (hBi).2 2 _ rfl; have b_3 := (hBi).2 3 _ rfl
      have hg0 := hBi.1
      by_cases hlt : i < mn ∧ i < 30
      · obtain ⟨hlt1, hlt2⟩ := hlt
        obtain ⟨mb, moff, rfl, hmb, hmc⟩ := (HM.out.up hbwi).at (by omega)
        have hat0 := hmc i hlt1
        obtain ⟨v, hv⟩ : ∃ v, v = vth ml i := ⟨_, rfl⟩
        rw [← hv] at hat0
        clear hmc hv
        have hatX : ∀ X, Below wi.heap.size wi X → VoteAt X mb (moff + i * 3) v := fun X hX =>
          ⟨(hX.cell (p := ⟨mb, moff + i * 3, none⟩) hmb).trans hat0.1, (hX.cell (p := ⟨mb, moff + i * 3 + 1, none⟩) hmb).trans hat0.2.1, (hX.cell (p := ⟨mb, moff + i * 3 + 2, none⟩) hmb).trans hat0.2.2⟩
        have HAT := Lib.hid hatX
        clear hatX hat0
        obtain ⟨M, hM⟩ : ∃ M, giB cur v = M := ⟨_, rfl⟩
        obtain ⟨y, hy⟩ : ∃ y, giE cur v = y := ⟨_, rfl⟩
        have hMl : M.length ≤ 332 := by rw [← hM]; have := giB_len cur v; rw [← HQ.out] at this; omega
        have HMM := Lib.hid hM
        have HYY := Lib.hid hy
        rcases hm : mayV cur with _ | _
        · have hy1 : y = 1 := by rw [← HYY.out]; simp [giE, hm]
          have hM0 : M = [] := by rw [← HMM.out]; unfold giB; rw [HYY.out, hy1, if_neg (by omega)]
          subst hy1
          have HCK : Hid ((if mayV cur = true then 0 else 1) = (1 : Int)) := Lib.hid (by rw [hm]; rfl)
          clear hm hy hM
          go_wp2_with fail
          refine (law19_check _ _ _ cur 1 _ HAR.out HCK.out).mono ?_
          rintro e wT ⟨rfl, hbT⟩
          have hBT := hBi.up hbT
          have hwr : VotesR wT none 0 M := by rw [hM0]; exact votes_nil _
          have HWR := Lib.hid hwr
          clear hwr hM0 b_0 b_1 b_2 b_3
          go_wp2_with fail
          refine (ref0_CopyVotes _ _ _ cur _ (HAR.out.up hbT) (by omega)).mono ?_
          rintro e wa ⟨vin, rfl, hin, hba⟩
          obtain ⟨nA, nc, rfl, hnr, _, _⟩ := hin.votes (by rw [← HQ.out]; omega)
          rw [← HQ.out] at hnr ⊢
          have HNR := Lib.hid hnr
          have hBa := hBT.up hba
          have hbia := bel_trans hbT hba
          obtain ⟨c0, c1, c2⟩ := HAT.out wa hbia
          have hgT := hBT.1
          have hga := hBa.1
          clear hin hnr
          have b_0 := (hBa).2 0 _ rfl; have b_1 := (hBa).2 1 _ rfl; have b_2 := (hBa).2 2 _ rfl; have b_3 := (hBa).2 3 _ rfl
          go_wp2_with fail
          refine (vote_Give _ _ _ cur v 1 M _ HNR.out HYY.out HMM.out).mono ?_
          rintro e wb ⟨u, rfl, hu, hbb⟩
          obtain ⟨uA, uc, rfl, hur, _, _⟩ := hu.votes (by omega)
          have HU := Lib.hid hu
          obtain ⟨qm, hqm⟩ : ∃ qm, qm = M.length := ⟨_, rfl⟩
          rw [← hqm] at hur ⊢
          have HUR := Lib.hid hur
          have HQM := Lib.hid hqm
          clear hu hur hqm b_0 b_1 b_2 b_3 c0 c1 c2
          go_wp2_with fail
          refine (vote_Check _ _ _ cur 1 _ (HNR.out.up hbb) HCK.out).mono ?_
          rintro e wc ⟨rfl, hbc⟩
          have hbac : Below wa.heap.size wa wc := bel_trans hbb hbc
          have hbic := bel_trans hbia hbac
          go_wp2_with (go_at_call 28; refine (law19_num _ _).mono ?_; rintro e w' ⟨rfl, rfl⟩)
          refine (law19_check _ _ _ cur 1 _ (HAR.out.up hbic) HCK.out).mono ?_
          rintro e wd ⟨rfl, hbd⟩
          have hbad := bel_trans hbac hbd
          have hbid := bel_trans hbic hbd
          have hbbd : Below wb.heap.size wb wd := bel_trans hbc hbd
          go_wp2_with (go_at_call 28; refine (law19_num _ _).mono ?_; rintro e w' ⟨rfl, rfl⟩)
          refine (ref0_EqVotes _ _ _ _ _ _ M _ (HUR.out.up hbbd) (HWR.out.up (bel_trans hba hbad))).mono ?_
          rintro e we ⟨rfl, hbe⟩
          have hbae := bel_trans hbad hbe
          have hbie := bel_trans hbid hbe
          have hbbe := bel_trans hbbd hbe
          go_wp2_with fail
          refine (ref0_EqVotes _ _ _ _ _ _ cur _ (HNR.out.up hbae) (HAR.out.up hbie)).mono ?_
          rintro e wg ⟨rfl, hbg⟩
          have hbag := bel_trans hbae hbg
          have hbig := bel_trans hbie hbg
          have hbbg := bel_trans hbbe hbg
          have HUG := Lib.hid (HU.out.up hbbg)
          have hszag := hbag.size
          go_wp2_with fail
          refine (law0_Votes _ M wa.heap.size _ (by have := HUG.out; rw [← HQM.out] at this; exact this) (by omega) hszag).mono ?_
          rintro e wh ⟨rfl, hbh⟩
          have hbah : Below wa.heap.size wa wh := hbag.trans hbh
          have hbih : Below wi.heap.size wi wh := hbig.trans (hbh.mono hbia.size)
          have hbTh : Below wT.heap.size wT wh := bel_trans hba hbah
          have hb2h : Below w2.heap.size w2 wh := bel_trans hbx hbih
          go_wp2_with fail
          refine (ref0_EqVotes _ _ _ _ _ _ cur _ (HNR.out.up hbah) (HAR.out.up hbih)).mono ?_
          rintro e wk ⟨rfl, hbk⟩
          have HOK := Lib.hid (HOWN.out.up (bel_trans hbih hbk))
          go_wp2_with fail
          (first | (go_round; (case rel => exact ⟨i + 1, cur, by omega, by omega, by go_num, HOK.out, by rw [← HQ.out]; omega, bel_trans hb2h hbk⟩); (case measure => (simp [intOf] <;> omega))) | (go_roundw; (case rel => exact ⟨i + 1, cur, by omega, by omega, by go_num, HOK.out, by rw [← HQ.out]; omega, bel_trans hb2h hbk⟩); (case measure => (simp [intOf] <;> omega))) | (refine ⟨?_, by simp [intOf] <;> omega⟩; (repeat apply Exists.intro); refine ⟨?rel, ?fr⟩; (case fr => ((repeat' apply And.intro) <;> rfl)); (case rel => exact ⟨i + 1, cur, by omega, by omega, by go_num, HOK.out, by rw [← HQ.out]; omega, bel_trans hb2h hbk⟩)))
        · have hmv := mayV_iff.1 hm
          have HMV := Lib.hid hmv
          have HCK : Hid ((if mayV cur = true then 0 else 1) = (0 : Int)) := Lib.hid (by rw [hm]; rfl)
          clear hm hmv
          go_wp2_with fail
          refine (law19_check _ _ _ cur 0 _ HAR.out HCK.out).mono ?_
          rintro e ws ⟨rfl, hbs⟩
          have hBs := hBi.up hbs
          obtain ⟨c0, c1, c2⟩ := HAT.out ws hbs
          clear b_0 b_1 b_2 b_3
          have b_0 := (hBs).2 0 _ rfl; have b_1 := (hBs).2 1 _ rfl; have b_2 := (hBs).2 2 _ rfl; have b_3 := (hBs).2 3 _ rfl
          go_wp2_with fail
          by_cases hy0 : y = 0
          · subst hy0
            have hMi : M = insV cur v := by rw [← HMM.out, giB_zero HYY.out]
            refine (ref19_Give_ok _ _ _ cur v _ (HAR.out.up hbs) HMV.out HYY.out hac hac2).mono ?_
            rintro e wT ⟨vw, rfl, hwn, hbT0⟩
            rw [← hMi] at hwn
            have hbT := bel_trans hbs hbT0
            have hBT := hBs.up hbT0
            obtain ⟨wA, wcc, rfl, hwr, _, _⟩ := hwn.votes (by omega)
            obtain ⟨qw, hqw⟩ : ∃ qw, qw = M.length := ⟨_, rfl⟩
            rw [← hqw] at hwr ⊢
            have HWR := Lib.hid hwr
            clear hwn hwr hqw hMi b_0 b_1 b_2 b_3 c0 c1 c2 hy hM
            go_wp2_with fail
            refine (ref0_CopyVotes _ _ _ cur _ (HAR.out.up hbT) (by omega)).mono ?_
            rintro e wa ⟨vin, rfl, hin, hba⟩
            obtain ⟨nA, nc, rfl, hnr, _, _⟩ := hin.votes (by rw [← HQ.out]; omega)
            rw [← HQ.out] at hnr ⊢
            have HNR := Lib.hid hnr
            have hBa := hBT.up hba
            have hbia := bel_trans hbT hba
            obtain ⟨c0, c1, c2⟩ := HAT.out wa hbia
            have hgT := hBT.1
            have hga := hBa.1
            clear hin hnr
            have b_0 := (hBa).2 0 _ rfl; have b_1 := (hBa).2 1 _ rfl; have b_2 := (hBa).2 2 _ rfl; have b_3 := (hBa).2 3 _ rfl
            go_wp2_with fail
            refine (vote_Give _ _ _ cur v 0 M _ HNR.out HYY.out HMM.out).mono ?_
            rintro e wb ⟨u, rfl, hu, hbb⟩
            obtain ⟨uA, uc, rfl, hur, _, _⟩ := hu.votes (by omega)
            have HU := Lib.hid hu
            obtain ⟨qm, hqm⟩ : ∃ qm, qm = M.length := ⟨_, rfl⟩
            rw [← hqm] at hur ⊢
            have HUR := Lib.hid hur
            have HQM := Lib.hid hqm
            clear hu hur hqm b_0 b_1 b_2 b_3 c0 c1 c2
            go_wp2_with fail
            refine (vote_Check _ _ _ cur 0 _ (HNR.out.up hbb) HCK.out).mono ?_
            rintro e wc ⟨rfl, hbc⟩
            have hbac : Below wa.heap.size wa wc := bel_trans hbb hbc
            have hbic := bel_trans hbia hbac
            go_wp2_with (go_at_call 28; refine (law19_num _ _).mono ?_; rintro e w' ⟨rfl, rfl⟩)
            refine (law19_check _ _ _ cur 0 _ (HAR.out.up hbic) HCK.out).mono ?_
            rintro e wd ⟨rfl, hbd⟩
            have hbad := bel_trans hbac hbd
            have hbid := bel_trans hbic hbd
            have hbbd : Below wb.heap.size wb wd := bel_trans hbc hbd
            go_wp2_with (go_at_call 28; refine (law19_num _ _).mono ?_; rintro e w' ⟨rfl, rfl⟩)
            refine (ref0_EqVotes _ _ _ _ _ _ M _ (HUR.out.up hbbd) (HWR.out.up (bel_trans hba hbad))).mono ?_
            rintro e we ⟨rfl, hbe⟩
            have hbae := bel_trans hbad hbe
            have hbie := bel_trans hbid hbe
            have hbbe := bel_trans hbbd hbe
            go_wp2_with fail
            refine (ref0_EqVotes _ _ _ _ _ _ cur _ (HNR.out.up hbae) (HAR.out.up hbie)).mono ?_
            rintro e wg ⟨rfl, hbg⟩
            have hbag := bel_trans hbae hbg
            have hbig := bel_trans hbie hbg
            have hbbg := bel_trans hbbe hbg
            have HUG := Lib.hid (HU.out.up hbbg)
            have hszag := hbag.size
            go_wp2_with fail
            refine (law0_Votes _ M wa.heap.size _ (by have := HUG.out; rw [← HQM.out] at this; exact this) (by omega) hszag).mono ?_
            rintro e wh ⟨rfl, hbh⟩
            have hbah : Below wa.heap.size wa wh := hbag.trans hbh
            have hbih : Below wi.heap.size wi wh := hbig.trans (hbh.mono hbia.size)
            have hbTh : Below wT.heap.size wT wh := bel_trans hba hbah
            have hb2h : Below w2.heap.size w2 wh := bel_trans hbx hbih
            go_wp2_with fail
            refine (ref0_EqVotes _ _ _ _ _ _ cur _ (HNR.out.up hbah) (HAR.out.up hbih)).mono ?_
            rintro e wk ⟨rfl, hbk⟩
            have HOK := Lib.hid (HOWN.out.up (bel_trans hbih hbk))
            go_wp2_with fail
            refine (ref0_CopyVotes _ _ _ M _ (HWR.out.up (bel_trans hbTh hbk)) (by have := HWR.out.1; omega)).mono ?_
            rintro e wz ⟨vz, rfl, hz, hbz⟩
            have hszk : w.heap.size ≤ wk.heap.size := by have := (bel_trans hbih hbk).size; omega
            have HZ := Lib.hid (hz.mono hszk)
            have hML : M.length ≤ 301 + i := by rw [← HMM.out]; have := giB_len cur v; rw [← HQ.out] at this; omega
            clear hz
            go_wp2_with fail
            (first | (go_round; (case rel => exact ⟨i + 1, M, by omega, by omega, by go_num, HZ.out, by omega, bel_trans (bel_trans hb2h hbk) hbz⟩); (case measure => (simp [intOf] <;> omega))) | (go_roundw; (case rel => exact ⟨i + 1, M, by omega, by omega, by go_num, HZ.out, by omega, bel_trans (bel_trans hb2h hbk) hbz⟩); (case measure => (simp [intOf] <;> omega))) | (refine ⟨?_, by simp [intOf] <;> omega⟩; (repeat apply Exists.intro); refine ⟨?rel, ?fr⟩; (case fr => ((repeat' apply And.intro) <;> rfl)); (case rel => exact ⟨i + 1, M, by omega, by omega, by go_num, HZ.out, by omega, bel_trans (bel_trans hb2h hbk) hbz⟩)))
          · have hM0 : M = [] := by rw [← HMM.out]; unfold giB; rw [HYY.out, if_neg hy0]
            have hyb : (y == 0) = false := by simpa using hy0
            have hyb2 : (y != 0) = true := by simpa using hy0
            refine (ref19_Give_no _ _ _ cur v y _ (HAR.out.up hbs) HMV.out HYY.out hy0).mono ?_
            rintro e wT ⟨rfl, hbT0⟩
            have hbT := bel_trans hbs hbT0
            have hBT := hBs.up hbT0
            have hwr : VotesR wT none 0 M := by rw [hM0]; exact votes_nil _
            have HWR := Lib.hid hwr
            clear hwr hM0 b_0 b_1 b_2 b_3 c0 c1 c2 hy0 hy hM
            go_wp2_with fail
            refine (ref0_CopyVotes _ _ _ cur _ (HAR.out.up hbT) (by omega)).mono ?_
            rintro e wa ⟨vin, rfl, hin, hba⟩
            obtain ⟨nA, nc, rfl, hnr, _, _⟩ := hin.votes (by rw [← HQ.out]; omega)
            rw [← HQ.out] at hnr ⊢
            have HNR := Lib.hid hnr
            have hBa := hBT.up hba
            have hbia := bel_trans hbT hba
            obtain ⟨c0, c1, c2⟩ := HAT.out wa hbia
            have hgT := hBT.1
            have hga := hBa.1
            clear hin hnr
            have b_0 := (hBa).2 0 _ rfl; have b_1 := (hBa).2 1 _ rfl; have b_2 := (hBa).2 2 _ rfl; have b_3 := (hBa).2 3 _ rfl
            go_wp2_with fail
            refine (vote_Give _ _ _ cur v y M _ HNR.out HYY.out HMM.out).mono ?_
            rintro e wb ⟨u, rfl, hu, hbb⟩
            obtain ⟨uA, uc, rfl, hur, _, _⟩ := hu.votes (by omega)
            have HU := Lib.hid hu
            obtain ⟨qm, hqm⟩ : ∃ qm, qm = M.length := ⟨_, rfl⟩
            rw [← hqm] at hur ⊢
            have HUR := Lib.hid hur
            have HQM := Lib.hid hqm
            clear hu hur hqm b_0 b_1 b_2 b_3 c0 c1 c2
            go_wp2_with fail
            refine (vote_Check _ _ _ cur 0 _ (HNR.out.up hbb) HCK.out).mono ?_
            rintro e wc ⟨rfl, hbc⟩
            have hbac : Below wa.heap.size wa wc := bel_trans hbb hbc
            have hbic := bel_trans hbia hbac
            go_wp2_with (go_at_call 28; refine (law19_num _ _).mono ?_; rintro e w' ⟨rfl, rfl⟩)
            refine (law19_check _ _ _ cur 0 _ (HAR.out.up hbic) HCK.out).mono ?_
            rintro e wd ⟨rfl, hbd⟩
            have hbad := bel_trans hbac hbd
            have hbid := bel_trans hbic hbd
            have hbbd : Below wb.heap.size wb wd := bel_trans hbc hbd
            go_wp2_with (go_at_call 28; refine (law19_num _ _).mono ?_; rintro e w' ⟨rfl, rfl⟩)
            refine (ref0_EqVotes _ _ _ _ _ _ M _ (HUR.out.up hbbd) (HWR.out.up (bel_trans hba hbad))).mono ?_
            rintro e we ⟨rfl, hbe⟩
            have hbae := bel_trans hbad hbe
            have hbie := bel_trans hbid hbe
            have hbbe := bel_trans hbbd hbe
            go_wp2_with fail
            refine (ref0_EqVotes _ _ _ _ _ _ cur _ (HNR.out.up hbae) (HAR.out.up hbie)).mono ?_
            rintro e wg ⟨rfl, hbg⟩
            have hbag := bel_trans hbae hbg
            have hbig := bel_trans hbie hbg
            have hbbg := bel_trans hbbe hbg
            have HUG := Lib.hid (HU.out.up hbbg)
            have hszag := hbag.size
            go_wp2_with fail
            refine (law0_Votes _ M wa.heap.size _ (by have := HUG.out; rw [← HQM.out] at this; exact this) (by omega) hszag).mono ?_
            rintro e wh ⟨rfl, hbh⟩
            have hbah : Below wa.heap.size wa wh := hbag.trans hbh
            have hbih : Below wi.heap.size wi wh := hbig.trans (hbh.mono hbia.size)
            have hbTh : Below wT.heap.size wT wh := bel_trans hba hbah
            have hb2h : Below w2.heap.size w2 wh := bel_trans hbx hbih
            go_wp2_with fail
            refine (ref0_EqVotes _ _ _ _ _ _ cur _ (HNR.out.up hbah) (HAR.out.up hbih)).mono ?_
            rintro e wk ⟨rfl, hbk⟩
            have HOK := Lib.hid (HOWN.out.up (bel_trans hbih hbk))
            go_wp2_with fail
            (first | (go_round; (case rel => exact ⟨i + 1, cur, by omega, by omega, by go_num, HOK.out, by rw [← HQ.out]; omega, bel_trans hb2h hbk⟩); (case measure => (simp [intOf] <;> omega))) | (go_roundw; (case rel => exact ⟨i + 1, cur, by omega, by omega, by go_num, HOK.out, by rw [← HQ.out]; omega, bel_trans hb2h hbk⟩); (case measure => (simp [intOf] <;> omega))) | (refine ⟨?_, by simp [intOf] <;> omega⟩; (repeat apply Exists.intro); refine ⟨?rel, ?fr⟩; (case fr => ((repeat' apply And.intro) <;> rfl)); (case rel => exact ⟨i + 1, cur, by omega, by omega, by go_num, HOK.out, by rw [← HQ.out]; omega, bel_trans hb2h hbk⟩)))
      · clear b_0 b_2 b_3
        by_cases h1 : i < mn
        · have h2 : ¬ i < 30 := fun h => hlt ⟨h1, h⟩
          clear hlt
          go_wp2_with (go_at_call 29; refine (law19_wakes _).mono ?_; rintro e w9 ⟨rfl, hb9⟩)
          go_ret
          exact ⟨rfl, bel_trans hbwi hb9⟩
        · clear hlt
          go_wp2_with (go_at_call 29; refine (law19_wakes _).mono ?_; rintro e w9 ⟨rfl, hb9⟩)
          go_ret
          exact ⟨rfl, bel_trans hbwi hb9⟩
end Go.Proofs.Ytffoglofijffpaa
