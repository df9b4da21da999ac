/- The law VoteTrims. -/
import Derived.Test.YtffoglofijffpaaYk
namespace Go.Proofs.Ytffoglofijffpaa
open Go.RowKit
set_option linter.unusedSimpArgs false
set_option linter.unusedVariables false

set_option maxRecDepth 100000 in
set_option maxHeartbeats 4000000 in
theorem law_VoteTrims (A : Option Addr) (n c : Nat) (l : List VoteD) (mA : Option Addr) (mn mc : Nat) (ml : List VoteD) (pA : Option Addr) (pn pc : Nat) (pl : List (Nat × Nat)) (lA : Option Addr) (lm lc : Nat) (Lo : List Int) (w : World) (hl : VotesR w A n l) (hm : VotesR w mA mn ml) (hp : FloatsR w pA pn pl) (hL : IntsR w lA lm Lo) :
    Calls Try.prog 11 #[.agg #[.slice A n c, .slice mA mn mc, .slice pA pn pc, .slice lA lm lc]] w fun e w' => e = .returned (.bool true) ∧ Below w.heap.size w w' := by
  have HL := Lib.hid hl
  have HN := Lib.hid hl.1
  have HO := Lib.hid hL
  clear hl hm hp hL
  go_enter Try.func11, Try.ntmps11
  go_wp2_with fail
  refine (law19_heavy _ _ _ _ _ _ _ _ _ _ _ _ _).mono ?_
  rintro e w1 ⟨x, rfl, hx, hb1⟩
  cases x
  case true =>
    clear hx
    go_wp2_with fail
    go_ret
    exact ⟨rfl, by (repeat (first | (with_reducible exact Below.refl _ _) | (with_reducible assumption) | (with_reducible apply bel_alloc) | (with_reducible apply bel_drew) | (with_reducible apply bel_drewN) | (with_reducible refine bel_trans ?_ (by with_reducible assumption)) | (with_reducible refine bel_trans ?_ (HF.out _)) | (with_reducible refine bel_set ?_ (by simp) _) | (with_reducible refine bel_set ?_ (by simp; omega) _) | (with_reducible refine bel_set ?_ (by omega) _)))⟩
  case false =>
    obtain ⟨hn3, hmn, hpn, hlm⟩ := hx rfl
    clear hx
    have hB1 : BoxR w1 w.heap.size [.slice A n c, .slice mA mn mc, .slice pA pn pc, .slice lA lm lc] := (BoxR.new w [.slice A n c, .slice mA mn mc, .slice pA pn pc, .slice lA lm lc] 55).up hb1
    have hbw1 : Below w.heap.size w w1 := by (repeat (first | (with_reducible exact Below.refl _ _) | (with_reducible assumption) | (with_reducible apply bel_alloc) | (with_reducible apply bel_drew) | (with_reducible apply bel_drewN) | (with_reducible refine bel_trans ?_ (by with_reducible assumption)) | (with_reducible refine bel_trans ?_ (HF.out _)) | (with_reducible refine bel_set ?_ (by simp) _) | (with_reducible refine bel_set ?_ (by simp; omega) _) | (with_reducible refine bel_set ?_ (by omega) _)))
    clear hb1
    have b_0 := (hB1).2 0 _ rfl; have b_1 := (hB1).2 1 _ rfl; have b_2 := (hB1).2 2 _ rfl; have b_3 := (hB1).2 3 _ rfl
    go_wp2_with fail
    refine (ref0_CopyVotes A n c l _ (HL.out.up hbw1) (by omega)).mono ?_
    rintro e w2 ⟨vi, rfl, hown, hb2⟩
    obtain ⟨iA, ic, rfl, hir, _, _⟩ := hown.votes (by rw [HN.out]; omega)
    rw [HN.out] at hir ⊢
    have HIR := Lib.hid hir
    have hB2 := hB1.up hb2
    have hbw2 : Below w.heap.size w w2 := bel_trans hbw1 hb2
    clear hir hown b_0 b_1 b_2 b_3
    go_wp2_with fail
    go_loopw [4] (fun ix wr => ∃ i : Nat, i ≤ lm ∧ ix = .int .i64 i ∧ Below w2.heap.size w2 wr) (fun ix _ => lm - (intOf ix).toNat)
    case atStart => exact ⟨0, Nat.zero_le _, rfl, Below.refl _ _⟩
    case round =>
      obtain ⟨i, hi, rfl, hbx⟩ := hrel
      (obtain ⟨wi, hwi⟩ : ∃ x, x = wr := ⟨_, rfl⟩); subst hwi
      have hBi := hB2.up hbx
      have hbwi : Below w.heap.size w wi := bel_trans hbw2 hbx
      have b_0 := (hBi).2 0 _ rfl; have b_1 := (hBi).2 1 _ rfl; have b_2 := (hBi).2 2 _ rfl; have b_3 := (hBi).2 3 _ rfl
      have hg0 := hBi.1
      by_cases hlt : i < lm ∧ i < 30
      · obtain ⟨hlt1, hlt2⟩ := hlt
        obtain ⟨lb, loff, rfl, hlb, hlc⟩ := (HO.out.up hbwi).2.2 (by omega)
        have hci := hlc i hlt1
        obtain ⟨low, hlow⟩ : ∃ low, low = nth Lo i := ⟨_, rfl⟩
        rw [← hlow] at hci
        clear hlc hlow
        cases hm : mayV l
        case' false =>
          have htr : trE l = 1 ∧ trB l low = [] := by simp [trE, trB, hm]
          have HC : Hid ((if mayV l = true then 0 else 1) = (1 : Int)) := Lib.hid (by rw [hm]; rfl)
        case' true =>
          have htr : trE l = 0 ∧ trB l low = cutV l low := by simp [trE, trB, hm]
          have HC : Hid ((if mayV l = true then 0 else 1) = (0 : Int)) := Lib.hid (by rw [hm]; rfl)
        all_goals
          have HT := Lib.hid htr
          clear htr hm
          go_wp2_with fail
          refine (law19_check A n c l _ _ (HL.out.up hbwi) HC.out).mono ?_
          rintro e w3 ⟨rfl, hb3⟩
          have hB3 := hBi.up hb3
          have hci3 := (hb3.cell (p := ⟨lb, loff + i, none⟩) hlb).trans hci
          have hlb3 : lb < w3.heap.size := Nat.lt_of_lt_of_le hlb hb3.size
          have hg3 := hB3.1
          have hbw3 : Below w.heap.size w w3 := bel_trans hbwi hb3
          have hb23 : Below w2.heap.size w2 w3 := bel_trans hbx hb3
          clear b_0 b_1 b_2 b_3 hci
          have b_0 := (hB3).2 0 _ rfl; have b_1 := (hB3).2 1 _ rfl; have b_2 := (hB3).2 2 _ rfl; have b_3 := (hB3).2 3 _ rfl
          go_wp2_with fail
        · go_region_with (go_at_call 46; refine (ref19_Trim A n c l low _ (HL.out.up (by (repeat (first | (with_reducible exact Below.refl _ _) | (with_reducible assumption) | (with_reducible apply bel_alloc) | (with_reducible apply bel_drew) | (with_reducible apply bel_drewN) | (with_reducible refine bel_trans ?_ (by with_reducible assumption)) | (with_reducible refine bel_trans ?_ (HF.out _)) | (with_reducible refine bel_set ?_ (by simp) _) | (with_reducible refine bel_set ?_ (by simp; omega) _) | (with_reducible refine bel_set ?_ (by omega) _))))) (by omega)).mono ?_; rintro e w4 ⟨vw, rfl, hwn, hb4⟩; have hz_w4 : w.heap.size + 1 ≤ w4.heap.size := (by have hq := (hb4).size; (try simp at hq); omega); have hc0_w4 := fun o => (bcell hb4).1 (w.heap.size) o (by first | (simp; done) | (simp; omega) | omega); have hc1_w4 := fun o => (bcell hb4).1 (lb) o (by first | (simp; done) | (simp; omega) | omega))
          all_goals
            have hb34 : Below w3.heap.size w3 w4 := by (repeat (first | (with_reducible exact Below.refl _ _) | (with_reducible assumption) | (with_reducible apply bel_alloc) | (with_reducible apply bel_drew) | (with_reducible apply bel_drewN) | (with_reducible refine bel_trans ?_ (by with_reducible assumption)) | (with_reducible refine bel_trans ?_ (HF.out _)) | (with_reducible refine bel_set ?_ (by simp) _) | (with_reducible refine bel_set ?_ (by simp; omega) _) | (with_reducible refine bel_set ?_ (by omega) _)))
            obtain ⟨M, hM⟩ : ∃ M : List VoteD, M = cutV l low := ⟨_, rfl⟩
            rw [← hM] at hwn
            have hTM : trB l low = M := by rw [hM]; exact HT.out.2
            have hlen : M.length ≤ 300 := by rw [hM]; have := cutV_le l low n; rw [List.take_of_length_le (by rw [HN.out]; exact Nat.le_refl _)] at this; omega
            obtain ⟨wA, wc, rfl, hwr, _, _⟩ := hwn.votes (by omega)
            obtain ⟨q, hq⟩ : ∃ q, q = M.length := ⟨_, rfl⟩
            rw [← hq] at hwr ⊢
            have HTM := Lib.hid hTM
            have HWR := Lib.hid hwr
            have HQ := Lib.hid hq
            have hB4 := hB3.up hb34
            have hb24 := bel_trans hb23 hb34
            have hbw4 := bel_trans hbw3 hb34
            have hci4 := (hb34.cell (p := ⟨lb, loff + i, none⟩) hlb3).trans hci3
            clear hTM hwr hq hM hwn b_0 b_1 b_2 b_3 hb4 hc0_w4 hc1_w4 hz_w4
            have b_0 := (hB4).2 0 _ rfl; have b_1 := (hB4).2 1 _ rfl; have b_2 := (hB4).2 2 _ rfl; have b_3 := (hB4).2 3 _ rfl
            go_wp2_with fail
            refine (vote_Trim iA n ic l low _ M _ (HIR.out.up hb24) HT.out.1 HTM.out).mono ?_
            rintro e w5 ⟨u, rfl, hu, hb5⟩
            obtain ⟨uA, uc, rfl, hur, _, _⟩ := hu.votes (by omega)
            rw [← HQ.out] at hur ⊢
            have HU := Lib.hid hu
            have HUR := Lib.hid hur
            have hB5 := hB4.up hb5
            have hb25 := bel_trans hb24 hb5
            have hbw5 := bel_trans hbw4 hb5
            clear b_0 b_1 b_2 b_3 hci4 hu hur
            have b_0 := (hB5).2 0 _ rfl; have b_1 := (hB5).2 1 _ rfl; have b_2 := (hB5).2 2 _ rfl; have b_3 := (hB5).2 3 _ rfl
            go_wp2_with (go_at_call 28; refine (law19_num _ _).mono ?_; rintro e w' ⟨rfl, rfl⟩)
            refine (ref0_EqVotes _ _ _ _ _ _ M _ HUR.out (HWR.out.up hb5)).mono ?_
            rintro e w6 ⟨rfl, hb6⟩
            have hB6 := hB5.up hb6
            have hb26 := bel_trans hb25 hb6
            have hbw6 := bel_trans hbw5 hb6
            clear b_0 b_1 b_2 b_3
            have b_0 := (hB6).2 0 _ rfl; have b_1 := (hB6).2 1 _ rfl; have b_2 := (hB6).2 2 _ rfl; have b_3 := (hB6).2 3 _ rfl
            go_wp2_with fail
            refine (ref0_EqVotes _ _ _ _ _ _ l _ (HIR.out.up hb26) (HL.out.up hbw6)).mono ?_
            rintro e w7 ⟨rfl, hb7⟩
            have hB7 := hB6.up hb7
            have hb27 := bel_trans hb26 hb7
            have hbw7 := bel_trans hbw6 hb7
            have hb47 : Below w4.heap.size w4 w7 := bel_trans (bel_trans hb5 hb6) hb7
            have hsz47 := hb47.size
            have HU7 := Lib.hid (HU.out.up (bel_trans hb6 hb7))
            clear b_0 b_1 b_2 b_3
            go_wp2_with fail
            refine (law0_Votes _ M w4.heap.size _ (by have := HU7.out; rw [← HQ.out] at this; exact this) (by omega) hsz47).mono ?_
            rintro e w8 ⟨rfl, hb8⟩
            have hB8 := hB7.below hb8 (by have := hB4.1; omega)
            have hb28 : Below w2.heap.size w2 w8 := hb27.trans (hb8.mono (by have := hb24.size; omega))
            have hbw8 : Below w.heap.size w w8 := hbw7.trans (hb8.mono (by have := hB4.1; omega))
            have b_0 := (hB8).2 0 _ rfl; have b_1 := (hB8).2 1 _ rfl; have b_2 := (hB8).2 2 _ rfl; have b_3 := (hB8).2 3 _ rfl
            go_wp2_with fail
            refine (ref0_EqVotes _ _ _ _ _ _ l _ (HIR.out.up hb28) (HL.out.up hbw8)).mono ?_
            rintro e w9 ⟨rfl, hb9⟩
            clear b_0 b_1 b_2 b_3
            go_wp2_with fail
            (first | (go_round; (case rel => exact ⟨i + 1, by omega, by go_num, bel_trans hb28 hb9⟩); (case measure => (simp [intOf] <;> omega))) | (go_roundw; (case rel => exact ⟨i + 1, by omega, by go_num, bel_trans hb28 hb9⟩); (case measure => (simp [intOf] <;> omega))) | (refine ⟨?_, by simp [intOf] <;> omega⟩; (repeat apply Exists.intro); refine ⟨?rel, ?fr⟩; (case fr => ((repeat' apply And.intro) <;> rfl)); (case rel => exact ⟨i + 1, by omega, by go_num, bel_trans hb28 hb9⟩)))
        · obtain ⟨M, hM⟩ : ∃ M : List VoteD, M = [] := ⟨_, rfl⟩
          have hTM : trB l low = M := by rw [hM]; exact HT.out.2
          have hwr : VotesR w3 none 0 M := by rw [hM]; exact ⟨rfl, by simp [flat], by omega, fun h => absurd h (by omega)⟩
          have hq : (0 : Nat) = M.length := by rw [hM]; rfl
          have hlen : M.length ≤ 300 := by omega
          have HTM := Lib.hid hTM
          have HWR := Lib.hid hwr
          have HQ := Lib.hid hq
          obtain ⟨w4, hw4⟩ : ∃ w4, w4 = w3 := ⟨_, rfl⟩
          subst hw4
          have hB4 := hB3
          have hb24 := hb23
          have hbw4 := hbw3
          have hci4 := hci3
          clear hTM hwr hq hM
          refine (vote_Trim iA n ic l low _ M _ (HIR.out.up hb24) HT.out.1 HTM.out).mono ?_
          rintro e w5 ⟨u, rfl, hu, hb5⟩
          obtain ⟨uA, uc, rfl, hur, _, _⟩ := hu.votes (by omega)
          rw [← HQ.out] at hur ⊢
          have HU := Lib.hid hu
          have HUR := Lib.hid hur
          have hB5 := hB4.up hb5
          have hb25 := bel_trans hb24 hb5
          have hbw5 := bel_trans hbw4 hb5
          clear b_0 b_1 b_2 b_3 hci4 hu hur
          have b_0 := (hB5).2 0 _ rfl; have b_1 := (hB5).2 1 _ rfl; have b_2 := (hB5).2 2 _ rfl; have b_3 := (hB5).2 3 _ rfl
          go_wp2_with (go_at_call 28; refine (law19_num _ _).mono ?_; rintro e w' ⟨rfl, rfl⟩)
          refine (ref0_EqVotes _ _ _ _ _ _ M _ HUR.out (HWR.out.up hb5)).mono ?_
          rintro e w6 ⟨rfl, hb6⟩
          have hB6 := hB5.up hb6
          have hb26 := bel_trans hb25 hb6
          have hbw6 := bel_trans hbw5 hb6
          clear b_0 b_1 b_2 b_3
          have b_0 := (hB6).2 0 _ rfl; have b_1 := (hB6).2 1 _ rfl; have b_2 := (hB6).2 2 _ rfl; have b_3 := (hB6).2 3 _ rfl
          go_wp2_with fail
          refine (ref0_EqVotes _ _ _ _ _ _ l _ (HIR.out.up hb26) (HL.out.up hbw6)).mono ?_
          rintro e w7 ⟨rfl, hb7⟩
          have hB7 := hB6.up hb7
          have hb27 := bel_trans hb26 hb7
          have hbw7 := bel_trans hbw6 hb7
          have hb47 : Below w4.heap.size w4 w7 := bel_trans (bel_trans hb5 hb6) hb7
          have hsz47 := hb47.size
          have HU7 := Lib.hid (HU.out.up (bel_trans hb6 hb7))
          clear b_0 b_1 b_2 b_3
          go_wp2_with fail
          refine (law0_Votes _ M w4.heap.size _ (by have := HU7.out; rw [← HQ.out] at this; exact this) (by omega) hsz47).mono ?_
          rintro e w8 ⟨rfl, hb8⟩
          have hB8 := hB7.below hb8 (by have := hB4.1; omega)
          have hb28 : Below w2.heap.size w2 w8 := hb27.trans (hb8.mono (by have := hb24.size; omega))
          have hbw8 : Below w.heap.size w w8 := hbw7.trans (hb8.mono (by have := hB4.1; omega))
          have b_0 := (hB8).2 0 _ rfl; have b_1 := (hB8).2 1 _ rfl; have b_2 := (hB8).2 2 _ rfl; have b_3 := (hB8).2 3 _ rfl
          go_wp2_with fail
          refine (ref0_EqVotes _ _ _ _ _ _ l _ (HIR.out.up hb28) (HL.out.up hbw8)).mono ?_
          rintro e w9 ⟨rfl, hb9⟩
          clear b_0 b_1 b_2 b_3
          go_wp2_with fail
          (first | (go_round; (case rel => exact ⟨i + 1, by omega, by go_num, bel_trans hb28 hb9⟩); (case measure => (simp [intOf] <;> omega))) | (go_roundw; (case rel => exact ⟨i + 1, by omega, by go_num, bel_trans hb28 hb9⟩); (case measure => (simp [intOf] <;> omega))) | (refine ⟨?_, by simp [intOf] <;> omega⟩; (repeat apply Exists.intro); refine ⟨?rel, ?fr⟩; (case fr => ((repeat' apply And.intro) <;> rfl)); (case rel => exact ⟨i + 1, by omega, by go_num, bel_trans hb28 hb9⟩)))
      · clear b_0 b_1 b_2
        by_cases h1 : i < lm
        · have h2 : ¬ i < 30 := fun h => hlt ⟨h1, h⟩
          clear hlt
          go_wp2_with (go_at_call 29; refine (law19_wakes _).mono ?_; rintro e w9 ⟨rfl, hb9⟩)
          go_ret
          exact ⟨rfl, bel_trans hbwi hb9⟩
        · clear hlt
          go_wp2_with (go_at_call 29; refine (law19_wakes _).mono ?_; rintro e w9 ⟨rfl, hb9⟩)
          go_ret
          exact ⟨rfl, bel_trans hbwi hb9⟩
end Go.Proofs.Ytffoglofijffpaa
