/- The law VoteOnce. -/
import Derived.Test.YtffoglofijffpaaYh
namespace Go.Proofs.Ytffoglofijffpaa
open Go.RowKit
set_option linter.unusedSimpArgs false
set_option linter.unusedVariables false

set_option maxRecDepth 100000 in
set_option maxHeartbeats 4000000 in
theorem law_VoteOnce (A : Option Addr) (n c : Nat) (l : List VoteD) (mA : Option Addr) (mn mc : Nat) (ml : List VoteD) (pA : Option Addr) (pn pc : Nat) (pl : List (Nat × Nat)) (lA : Option Addr) (lm lc : Nat) (Lo : List Int) (w : World) (hl : VotesR w A n l) (hm : VotesR w mA mn ml) (hp : FloatsR w pA pn pl) (hL : IntsR w lA lm Lo) :
    Calls Try.prog 7 #[.agg #[.slice A n c, .slice mA mn mc, .slice pA pn pc, .slice lA lm lc]] w fun e w' => e = .returned (.bool true) ∧ Below w.heap.size w w' := by
  have HM := Lib.hid hm
  clear hl hm hp hL
  go_enter Try.func7, Try.ntmps7
  go_wp2_with fail
  refine (law19_heavy _ _ _ _ _ _ _ _ _ _ _ _ _).mono ?_
  rintro e w1 ⟨x, rfl, hx, hb1⟩
  cases x
  case true =>
    clear hx
    go_wp2_with fail
    go_ret
    exact ⟨rfl, by (repeat (first | (with_reducible exact Below.refl _ _) | (with_reducible assumption) | (with_reducible apply bel_alloc) | (with_reducible apply bel_drew) | (with_reducible apply bel_drewN) | (with_reducible refine bel_trans ?_ (by with_reducible assumption)) | (with_reducible refine bel_trans ?_ (HF.out _)) | (with_reducible refine bel_set ?_ (by simp) _) | (with_reducible refine bel_set ?_ (by simp; omega) _) | (with_reducible refine bel_set ?_ (by omega) _)))⟩
  case false =>
    obtain ⟨hn3, hmn, hpn, hlm⟩ := hx rfl
    clear hx
    have hB1 : BoxR w1 w.heap.size [.slice A n c, .slice mA mn mc, .slice pA pn pc, .slice lA lm lc] := (BoxR.new w [.slice A n c, .slice mA mn mc, .slice pA pn pc, .slice lA lm lc] 55).up hb1
    have hbw1 : Below w.heap.size w w1 := by (repeat (first | (with_reducible exact Below.refl _ _) | (with_reducible assumption) | (with_reducible apply bel_alloc) | (with_reducible apply bel_drew) | (with_reducible apply bel_drewN) | (with_reducible refine bel_trans ?_ (by with_reducible assumption)) | (with_reducible refine bel_trans ?_ (HF.out _)) | (with_reducible refine bel_set ?_ (by simp) _) | (with_reducible refine bel_set ?_ (by simp; omega) _) | (with_reducible refine bel_set ?_ (by omega) _)))
    clear hb1
    go_wp2_with fail
    go_loopw [3, 5] (fun va ix wr => ∃ (i : Nat) (cur : List VoteD), i ≤ mn ∧ i ≤ 30 ∧ ix = .int .i64 i ∧ OwnV wr w.heap.size va cur ∧ cur.length ≤ i ∧ Hid (mayV cur = true) ∧ Below w1.heap.size w1 wr) (fun _ ix _ => mn - (intOf ix).toNat)
    case atStart => exact ⟨0, [], Nat.zero_le _, Nat.zero_le _, rfl, OwnV.nil _ _, Nat.le_refl _, Lib.hid wk_may0, Below.refl _ _⟩
    case round =>
      obtain ⟨i, cur, hi, hi30, rfl, hown, hcl, HCM, hbx⟩ := hrel
      obtain ⟨aA, ac, rfl, har, hac, hac2⟩ := hown.votes (by omega)
      obtain ⟨q, hq⟩ : ∃ q, q = cur.length := ⟨_, rfl⟩
      rw [← hq] at har hac hcl ⊢
      have HQ := Lib.hid hq
      have HAR := Lib.hid har
      have HOWN := Lib.hid hown
      clear hq har hown
      (obtain ⟨wi, hwi⟩ : ∃ x, x = wr := ⟨_, rfl⟩); subst hwi
      have hBi := hB1.up hbx
      have hbwi : Below w.heap.size w wi := bel_trans hbw1 hbx
      have b_0 := (hBi).2 0 _ rfl; have b_1 := (hBi).2 1 _ rfl; have b_2 := (hBi).2 2 _ rfl; have b_3 := (hBi).2 3 _ rfl
      have hg0 := hBi.1
      by_cases hlt : i < mn ∧ i < 30
      · obtain ⟨hlt1, hlt2⟩ := hlt
        obtain ⟨mb, moff, rfl, hmb, hmc⟩ := (HM.out.up hbwi).at (by omega)
        obtain ⟨c0, c1, c2⟩ := hmc i hlt1
        obtain ⟨v, hv⟩ : ∃ v, v = vth ml i := ⟨_, rfl⟩
        rw [← hv] at c0 c1 c2
        clear hmc hv
        have hcl2 : cur.length < 65536 := by rw [← HQ.out]; omega
        have hBA : BoxR (wi.alloc (.cells #[.int .i64 v.ro, .int .i64 v.au, .int .i64 v.di] 67)) wi.heap.size [.int .i64 v.ro, .int .i64 v.au, .int .i64 v.di] := BoxR.new wi [.int .i64 v.ro, .int .i64 v.au, .int .i64 v.di] 67
        have hbwa : Below wi.heap.size wi (wi.alloc (.cells #[.int .i64 v.ro, .int .i64 v.au, .int .i64 v.di] 67)) := by (repeat (first | (with_reducible exact Below.refl _ _) | (with_reducible assumption) | (with_reducible apply bel_alloc) | (with_reducible apply bel_drew) | (with_reducible apply bel_drewN) | (with_reducible refine bel_trans ?_ (by with_reducible assumption)) | (with_reducible refine bel_trans ?_ (HF.out _)) | (with_reducible refine bel_set ?_ (by simp) _) | (with_reducible refine bel_set ?_ (by simp; omega) _) | (with_reducible refine bel_set ?_ (by omega) _)))
        obtain ⟨gb, hgb⟩ : ∃ gb, giB cur v = gb := ⟨_, rfl⟩
        have HGB := Lib.hid hgb
        clear hgb
        rcases giE_cases (v := v) HCM.out hcl2 with ⟨hg, hvo⟩ | ⟨hvo, ⟨hg, h0⟩ | ⟨hg, h0, h1⟩ | ⟨hg, h0, h1⟩⟩
        · obtain ⟨u, hu⟩ : ∃ u, hsB cur (fl v.ro) (fl v.au) = u := ⟨_, rfl⟩
          obtain ⟨z, hz⟩ : ∃ z, hsE cur (fl v.ro) (fl v.au) = z := ⟨_, rfl⟩
          have HG := Lib.hid hg
          have HU := Lib.hid hu
          have HZ := Lib.hid hz
          clear hg hu hz hvo
          go_wp2_with fail
          refine (vote_Has _ _ _ cur _ _ _ _ _ (HAR.out.up hbwa) HU.out HZ.out).mono ?_
          rintro e w4 ⟨rfl, hb4⟩
          have hB4 := hBA.up hb4
          have hbi4 : Below wi.heap.size wi w4 := bel_trans hbwa hb4
          clear b_0 b_1 b_2 b_3 c0 c1 c2
          have d_0 := (hB4).2 0 _ rfl; have d_1 := (hB4).2 1 _ rfl; have d_2 := (hB4).2 2 _ rfl
          go_wp2_with fail
          refine (vote_Give _ _ _ cur v _ gb _ (HAR.out.up hbi4) HG.out HGB.out).mono ?_
          rintro e w5 ⟨xv, rfl, hxo, hb5⟩
          have hB5 := hB4.up hb5
          have hbi5 : Below wi.heap.size wi w5 := bel_trans hbi4 hb5
          have hown5 := HOWN.out.up hbi5
          rw [← HQ.out] at hown5
          have HO5 := Lib.hid hown5
          clear d_0 d_1 d_2 hown5
          have d_0 := (hB5).2 0 _ rfl; have d_1 := (hB5).2 1 _ rfl; have d_2 := (hB5).2 2 _ rfl
          have hsz4 : w.heap.size ≤ w4.heap.size := Nat.le_trans (Nat.le_of_lt hg0) hbi4.size
          go_wp2_with (go_at_call 28; refine (law19_num _ _).mono ?_; rintro e w' ⟨rfl, rfl⟩)
          (first | (go_round; (case rel => exact ⟨i + 1, cur, by omega, by omega, by go_num, HO5.out, by rw [← HQ.out]; omega, HCM, bel_trans hbx hbi5⟩); (case measure => (simp [intOf] <;> omega))) | (go_roundw; (case rel => exact ⟨i + 1, cur, by omega, by omega, by go_num, HO5.out, by rw [← HQ.out]; omega, HCM, bel_trans hbx hbi5⟩); (case measure => (simp [intOf] <;> omega))) | (refine ⟨?_, by simp [intOf] <;> omega⟩; (repeat apply Exists.intro); refine ⟨?rel, ?fr⟩; (case fr => ((repeat' apply And.intro) <;> rfl)); (case rel => exact ⟨i + 1, cur, by omega, by omega, by go_num, HO5.out, by rw [← HQ.out]; omega, HCM, bel_trans hbx hbi5⟩)))
        · obtain ⟨hu, hz⟩ := hs_fl HCM.out hvo
          rw [if_pos h0] at hz
          rw [h0] at hu
          have hgz := giB_zero hg
          have hmay := insV_may (mayV_iff.1 HCM.out) hvo h0 hcl2
          rw [HGB.out] at hgz
          have HGZ := Lib.hid hgz
          have HMAY := Lib.hid hmay
          clear hgz hmay
          have HG := Lib.hid hg
          have HU := Lib.hid hu
          have HZ := Lib.hid hz
          clear hg hu hz hvo h0
          go_wp2_with fail
          refine (vote_Has _ _ _ cur _ _ _ _ _ (HAR.out.up hbwa) HU.out HZ.out).mono ?_
          rintro e w4 ⟨rfl, hb4⟩
          have hB4 := hBA.up hb4
          have hbi4 : Below wi.heap.size wi w4 := bel_trans hbwa hb4
          clear b_0 b_1 b_2 b_3 c0 c1 c2
          have d_0 := (hB4).2 0 _ rfl; have d_1 := (hB4).2 1 _ rfl; have d_2 := (hB4).2 2 _ rfl
          go_wp2_with fail
          refine (vote_Give _ _ _ cur v _ gb _ (HAR.out.up hbi4) HG.out HGB.out).mono ?_
          rintro e w5 ⟨xv, rfl, hxo, hb5⟩
          have hB5 := hB4.up hb5
          have hbi5 : Below wi.heap.size wi w5 := bel_trans hbi4 hb5
          have hown5 := HOWN.out.up hbi5
          rw [← HQ.out] at hown5
          have HO5 := Lib.hid hown5
          clear d_0 d_1 d_2 hown5
          have d_0 := (hB5).2 0 _ rfl; have d_1 := (hB5).2 1 _ rfl; have d_2 := (hB5).2 2 _ rfl
          have hsz4 : w.heap.size ≤ w4.heap.size := Nat.le_trans (Nat.le_of_lt hg0) hbi4.size
          obtain ⟨xA, xc, rfl, hxr, _, _⟩ := hxo.votes (by rw [HGZ.out, insV_len]; omega)
          have hxo2 := hxo.mono hsz4
          obtain ⟨q2, hq2⟩ : ∃ q2, q2 = gb.length := ⟨_, rfl⟩
          have hgl : q2 = q + 1 := by rw [hq2, HGZ.out, insV_len, HQ.out]
          rw [← hq2, hgl] at hxo2 ⊢
          have HXO := Lib.hid hxo2
          have HGL := Lib.hid (hq2.symm.trans hgl)
          clear hxo hxr hxo2 hgl hq2
          go_wp2_with (go_at_call 28; refine (law19_num _ _).mono ?_; rintro e w' ⟨rfl, rfl⟩)
          (first | (go_round; (case rel => exact ⟨i + 1, gb, by omega, by omega, by go_num, HXO.out, by rw [HGL.out]; omega, Lib.hid (mayV_iff.2 (HGZ.out ▸ HMAY.out)), bel_trans hbx hbi5⟩); (case measure => (simp [intOf] <;> omega))) | (go_roundw; (case rel => exact ⟨i + 1, gb, by omega, by omega, by go_num, HXO.out, by rw [HGL.out]; omega, Lib.hid (mayV_iff.2 (HGZ.out ▸ HMAY.out)), bel_trans hbx hbi5⟩); (case measure => (simp [intOf] <;> omega))) | (refine ⟨?_, by simp [intOf] <;> omega⟩; (repeat apply Exists.intro); refine ⟨?rel, ?fr⟩; (case fr => ((repeat' apply And.intro) <;> rfl)); (case rel => exact ⟨i + 1, gb, by omega, by omega, by go_num, HXO.out, by rw [HGL.out]; omega, Lib.hid (mayV_iff.2 (HGZ.out ▸ HMAY.out)), bel_trans hbx hbi5⟩)))
        · obtain ⟨hu, hz⟩ := hs_fl HCM.out hvo
          rw [if_neg h0] at hz
          rw [h1] at hu
          have HG := Lib.hid hg
          have HU := Lib.hid hu
          have HZ := Lib.hid hz
          clear hg hu hz hvo h0 h1
          go_wp2_with fail
          refine (vote_Has _ _ _ cur _ _ _ _ _ (HAR.out.up hbwa) HU.out HZ.out).mono ?_
          rintro e w4 ⟨rfl, hb4⟩
          have hB4 := hBA.up hb4
          have hbi4 : Below wi.heap.size wi w4 := bel_trans hbwa hb4
          clear b_0 b_1 b_2 b_3 c0 c1 c2
          have d_0 := (hB4).2 0 _ rfl; have d_1 := (hB4).2 1 _ rfl; have d_2 := (hB4).2 2 _ rfl
          go_wp2_with fail
          refine (vote_Give _ _ _ cur v _ gb _ (HAR.out.up hbi4) HG.out HGB.out).mono ?_
          rintro e w5 ⟨xv, rfl, hxo, hb5⟩
          have hB5 := hB4.up hb5
          have hbi5 : Below wi.heap.size wi w5 := bel_trans hbi4 hb5
          have hown5 := HOWN.out.up hbi5
          rw [← HQ.out] at hown5
          have HO5 := Lib.hid hown5
          clear d_0 d_1 d_2 hown5
          have d_0 := (hB5).2 0 _ rfl; have d_1 := (hB5).2 1 _ rfl; have d_2 := (hB5).2 2 _ rfl
          have hsz4 : w.heap.size ≤ w4.heap.size := Nat.le_trans (Nat.le_of_lt hg0) hbi4.size
          go_wp2_with (go_at_call 28; refine (law19_num _ _).mono ?_; rintro e w' ⟨rfl, rfl⟩)
          (first | (go_round; (case rel => exact ⟨i + 1, cur, by omega, by omega, by go_num, HO5.out, by rw [← HQ.out]; omega, HCM, bel_trans hbx hbi5⟩); (case measure => (simp [intOf] <;> omega))) | (go_roundw; (case rel => exact ⟨i + 1, cur, by omega, by omega, by go_num, HO5.out, by rw [← HQ.out]; omega, HCM, bel_trans hbx hbi5⟩); (case measure => (simp [intOf] <;> omega))) | (refine ⟨?_, by simp [intOf] <;> omega⟩; (repeat apply Exists.intro); refine ⟨?rel, ?fr⟩; (case fr => ((repeat' apply And.intro) <;> rfl)); (case rel => exact ⟨i + 1, cur, by omega, by omega, by go_num, HO5.out, by rw [← HQ.out]; omega, HCM, bel_trans hbx hbi5⟩)))
        · obtain ⟨hu, hz⟩ := hs_fl HCM.out hvo
          rw [if_neg h0] at hz
          obtain ⟨u, hu2⟩ : ∃ u, u = hasV cur v.ro v.au := ⟨_, rfl⟩
          rw [← hu2] at hu h1
          have hub : (u == v.di) = false := by simpa using h1
          clear hu2
          have HG := Lib.hid hg
          have HU := Lib.hid hu
          have HZ := Lib.hid hz
          clear hg hu hz hvo h0 h1
          go_wp2_with fail
          refine (vote_Has _ _ _ cur _ _ _ _ _ (HAR.out.up hbwa) HU.out HZ.out).mono ?_
          rintro e w4 ⟨rfl, hb4⟩
          have hB4 := hBA.up hb4
          have hbi4 : Below wi.heap.size wi w4 := bel_trans hbwa hb4
          clear b_0 b_1 b_2 b_3 c0 c1 c2
          have d_0 := (hB4).2 0 _ rfl; have d_1 := (hB4).2 1 _ rfl; have d_2 := (hB4).2 2 _ rfl
          go_wp2_with fail
          refine (vote_Give _ _ _ cur v _ gb _ (HAR.out.up hbi4) HG.out HGB.out).mono ?_
          rintro e w5 ⟨xv, rfl, hxo, hb5⟩
          have hB5 := hB4.up hb5
          have hbi5 : Below wi.heap.size wi w5 := bel_trans hbi4 hb5
          have hown5 := HOWN.out.up hbi5
          rw [← HQ.out] at hown5
          have HO5 := Lib.hid hown5
          clear d_0 d_1 d_2 hown5
          have d_0 := (hB5).2 0 _ rfl; have d_1 := (hB5).2 1 _ rfl; have d_2 := (hB5).2 2 _ rfl
          have hsz4 : w.heap.size ≤ w4.heap.size := Nat.le_trans (Nat.le_of_lt hg0) hbi4.size
          go_wp2_with (go_at_call 28; refine (law19_num _ _).mono ?_; rintro e w' ⟨rfl, rfl⟩)
          (first | (go_round; (case rel => exact ⟨i + 1, cur, by omega, by omega, by go_num, HO5.out, by rw [← HQ.out]; omega, HCM, bel_trans hbx hbi5⟩); (case measure => (simp [intOf] <;> omega))) | (go_roundw; (case rel => exact ⟨i + 1, cur, by omega, by omega, by go_num, HO5.out, by rw [← HQ.out]; omega, HCM, bel_trans hbx hbi5⟩); (case measure => (simp [intOf] <;> omega))) | (refine ⟨?_, by simp [intOf] <;> omega⟩; (repeat apply Exists.intro); refine ⟨?rel, ?fr⟩; (case fr => ((repeat' apply And.intro) <;> rfl)); (case rel => exact ⟨i + 1, cur, by omega, by omega, by go_num, HO5.out, by rw [← HQ.out]; omega, HCM, bel_trans hbx hbi5⟩)))
      · clear b_0 b_2 b_3
        have hq30 : q ≤ 30 := by omega
        have HLAST : ∀ X, Below wi.heap.size wi X → VotesR X aA q cur := fun X hX => HAR.out.up hX
        have HLA := Lib.hid HLAST
        clear HLAST
        by_cases h1 : i < mn
        case' pos => have h2 : ¬ i < 30 := fun h => hlt ⟨h1, h⟩
        all_goals
          clear hlt
          go_wp2_with fail
          go_loopw [4, 12] (fun vb ix wr => ∃ (k : Nat), k ≤ q ∧ ix = .int .i64 ((k : Int) - 1) ∧ OwnV wr w.heap.size vb (cur.drop k) ∧ Below wi.heap.size wi wr) (fun _ ix _ => (intOf ix + 1).toNat)
          case atStart => exact ⟨q, Nat.le_refl _, rfl, by rw [List.drop_of_length_le (by rw [HQ.out]; exact Nat.le_refl _)]; exact OwnV.nil _ _, Below.refl _ _⟩
          case round =>
            obtain ⟨k, hk, rfl, hown, hby⟩ := hrel
            obtain ⟨bA, bc, rfl, hbr, _, _⟩ := hown.votes (by rw [List.length_drop, ← HQ.out]; omega)
            obtain ⟨q2, hq2⟩ : ∃ q2, q2 = (cur.drop k).length := ⟨_, rfl⟩
            have hq22 : q2 = q - k := by rw [hq2, List.length_drop, ← HQ.out]
            rw [← hq2, hq22] at hbr ⊢
            have HBR := Lib.hid hbr
            clear hbr hown hq2 hq22
            (obtain ⟨wk, hwk⟩ : ∃ x, x = wr := ⟨_, rfl⟩); subst hwk
            rcases Nat.eq_zero_or_pos k with hk0 | hk0
            · subst hk0
              rw [List.drop_zero] at HBR
              go_wp2_with fail
              refine (ref0_EqVotes _ _ _ _ _ _ cur _ (HLA.out _ hby) HBR.out).mono ?_
              rintro e w7 ⟨rfl, hb7⟩
              go_wp2_with (go_at_call 29; refine (law19_wakes _).mono ?_; rintro e w9 ⟨rfl, hb9⟩)
              go_ret
              exact ⟨rfl, bel_trans hbwi (bel_trans hby (bel_trans hb7 hb9))⟩
            · obtain ⟨j, rfl⟩ : ∃ j, k = j + 1 := ⟨k - 1, by omega⟩
              obtain ⟨cb, coff, rfl, hcb, hcc⟩ := (HLA.out _ hby).at (by omega)
              obtain ⟨c0, c1, c2⟩ := hcc j (by omega)
              obtain ⟨d1, d2, d3⟩ := drop_give (mayV_iff.1 HCM.out) (i := j) (by rw [← HQ.out]; omega)
              have HD1 := Lib.hid d1
              have HD2 := Lib.hid d2
              have hd4 := giB_zero d1
              rw [d2] at hd4
              have HD4 := Lib.hid hd4
              have hj1 : ((j + 1 : Nat) : Int) - 1 = (j : Int) := by omega
              clear hcc d1 d2 d3 hd4
              have hszk : w.heap.size ≤ wk.heap.size := Nat.le_trans (Nat.le_of_lt hg0) hby.size
              go_wp2_with fail
              refine (vote_Give _ _ _ (cur.drop (j + 1)) (vth cur j) 0 (cur.drop j) _ HBR.out HD1.out HD4.out).mono ?_
              rintro e w7 ⟨u, rfl, hxo, hb7⟩
              have HXO := Lib.hid (hxo.mono hszk)
              clear hxo c0 c1 c2
              go_wp2_with (go_at_call 28; refine (law19_num _ _).mono ?_; rintro e w' ⟨rfl, rfl⟩)
              (first | (go_round; (case rel => exact ⟨j, by omega, by first | rfl | go_num | (congr 1; omega), HXO.out, bel_trans hby hb7⟩); (case measure => (simp [intOf] <;> omega))) | (go_roundw; (case rel => exact ⟨j, by omega, by first | rfl | go_num | (congr 1; omega), HXO.out, bel_trans hby hb7⟩); (case measure => (simp [intOf] <;> omega))) | (refine ⟨?_, by simp [intOf] <;> omega⟩; (repeat apply Exists.intro); refine ⟨?rel, ?fr⟩; (case fr => ((repeat' apply And.intro) <;> rfl)); (case rel => exact ⟨j, by omega, by first | rfl | go_num | (congr 1; omega), HXO.out, bel_trans hby hb7⟩)))
end Go.Proofs.Ytffoglofijffpaa
