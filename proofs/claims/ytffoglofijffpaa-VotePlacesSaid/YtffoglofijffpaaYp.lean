/- The law VotePlaces. -/
import Derived.Test.YtffoglofijffpaaYk
namespace Go.Proofs.Ytffoglofijffpaa
open Go.RowKit
set_option linter.unusedSimpArgs false
set_option linter.unusedVariables false

def allV : List VoteD := (List.range 96).map fun t => ⟨((t / 16 + 1 : Nat) : Int), ((t % 16 + 1 : Nat) : Int), ((100 * (t / 16 + 1) + (t % 16 + 1) : Nat) : Int)⟩
theorem all_len : allV.length = 96 := by simp [allV]
theorem all_at {j : Nat} (h : j < 96) : vth allV j = ⟨((j / 16 + 1 : Nat) : Int), ((j % 16 + 1 : Nat) : Int), ((100 * (j / 16 + 1) + (j % 16 + 1) : Nat) : Int)⟩ := by simp [vth, allV, h]
theorem all_may : MayV allV := by
  refine ⟨by rw [all_len]; omega, fun j hj => ?_⟩
  rw [all_len] at hj
  constructor
  · rw [all_at hj, voteS_iff]
    dsimp only
    omega
  · intro h0
    rw [all_at hj, all_at (show j - 1 < 96 by omega), befV_iff]
    dsimp only
    omega
theorem all_give {R a : Nat} (h1 : 1 ≤ R) (h2 : R ≤ 6) (h3 : 1 ≤ a) (h4 : a ≤ 16) : giE (allV.drop (16 * (R - 1) + a)) ⟨(R : Int), (a : Int), 100 * (R : Int) + (a : Int)⟩ = 0 ∧ giB (allV.drop (16 * (R - 1) + a)) ⟨(R : Int), (a : Int), 100 * (R : Int) + (a : Int)⟩ = allV.drop (16 * (R - 1) + (a - 1)) := by
  obtain ⟨t, ht⟩ : ∃ t, t = 16 * (R - 1) + (a - 1) := ⟨_, rfl⟩
  have hv : vth allV t = ⟨(R : Int), (a : Int), 100 * (R : Int) + (a : Int)⟩ := by
    rw [all_at (by omega)]
    have e1 : t / 16 + 1 = R := by omega
    have e2 : t % 16 + 1 = a := by omega
    rw [e1, e2]
    simp
  obtain ⟨d1, d2, _⟩ := drop_give all_may (i := t) (by rw [all_len]; omega)
  rw [hv] at d1 d2
  have e : t + 1 = 16 * (R - 1) + a := by omega
  rw [e] at d1 d2
  exact ⟨d1, by rw [giB_zero d1, d2, ht]⟩
theorem cut_may {l : List VoteD} (h : MayV l) (low : Int) : MayV (cutV l low) := by
  have h := mayV_pw.1 h
  have hs : (cutV l low).Sublist l := List.filter_sublist
  exact mayV_pw.2 ⟨Nat.le_trans hs.length_le h.1, fun x hx => h.2.1 x (hs.subset hx), h.2.2.sublist hs⟩
theorem all_cut : ∀ lw, lw < 7 → (cutV allV (lw : Nat)).length = (6 - lw) * 16 := by decide +kernel
theorem all_has : ∀ lw, lw < 7 → ∀ r, r < 7 → 1 ≤ r → hasV (cutV allV ((lw : Nat) : Int)) ((r : Nat) : Int) 3 = (if lw < r then 100 * ((r : Nat) : Int) + 3 else 0) := by decide +kernel
theorem fl_3 : (4613937818241073152 : Nat) = fl 3 := by decide +kernel
set_option maxRecDepth 100000 in
set_option maxHeartbeats 4000000 in
theorem law_VotePlaces (A : Option Addr) (n c : Nat) (l : List VoteD) (mA : Option Addr) (mn mc : Nat) (ml : List VoteD) (pA : Option Addr) (pn pc : Nat) (pl : List (Nat × Nat)) (lA : Option Addr) (lm lc : Nat) (Lo : List Int) (w : World) (hl : VotesR w A n l) (hm : VotesR w mA mn ml) (hp : FloatsR w pA pn pl) (hL : IntsR w lA lm Lo) :
    Calls Try.prog 13 #[.agg #[.slice A n c, .slice mA mn mc, .slice pA pn pc, .slice lA lm lc]] w fun e w' => e = .returned (.bool true) ∧ Below w.heap.size w w' := by
  have hnn : n ≤ 9223372036854775807 := hl.2.2.1
  clear hl hm hp hL
  have hB0 : BoxR (w.alloc (.cells #[.slice A n c, .slice mA mn mc, .slice pA pn pc, .slice lA lm lc] 55)) w.heap.size [.slice A n c, .slice mA mn mc, .slice pA pn pc, .slice lA lm lc] := BoxR.new w [.slice A n c, .slice mA mn mc, .slice pA pn pc, .slice lA lm lc] 55
  have hb0 : Below w.heap.size w (w.alloc (.cells #[.slice A n c, .slice mA mn mc, .slice pA pn pc, .slice lA lm lc] 55)) := by (repeat (first | (with_reducible exact Below.refl _ _) | (with_reducible assumption) | (with_reducible apply bel_alloc) | (with_reducible apply bel_drew) | (with_reducible apply bel_drewN) | (with_reducible refine bel_trans ?_ (by with_reducible assumption)) | (with_reducible refine bel_trans ?_ (HF.out _)) | (with_reducible refine bel_set ?_ (by simp) _) | (with_reducible refine bel_set ?_ (by simp; omega) _) | (with_reducible refine bel_set ?_ (by omega) _)))
  obtain ⟨w0, hw0⟩ : ∃ w0, w0 = w.alloc (.cells #[.slice A n c, .slice mA mn mc, .slice pA pn pc, .slice lA lm lc] 55) := ⟨_, rfl⟩
  have HW0 := Lib.hid hw0
  rw [← hw0] at hB0 hb0
  clear hw0
  have hg0 := hB0.1
  go_enter Try.func13, Try.ntmps13
  go_wp2_with fail
  rw [← HW0.out]
  go_loopw [3, 4] (fun vl ir wr => ∃ R : Nat, R ≤ 6 ∧ ir = .int .i64 R ∧ OwnV wr w.heap.size vl (allV.drop (16 * R)) ∧ Below w0.heap.size w0 wr) (fun _ ir _ => (intOf ir).toNat)
  case atStart => exact ⟨6, Nat.le_refl _, rfl, by rw [List.drop_of_length_le (by rw [all_len]; omega)]; exact OwnV.nil _ _, Below.refl _ _⟩
  case round =>
    obtain ⟨R, hR, rfl, hown, hbx⟩ := hrel
    (obtain ⟨wi, hwi⟩ : ∃ x, x = wr := ⟨_, rfl⟩); subst hwi
    rcases Nat.eq_zero_or_pos R with hR0 | hR0
    · subst hR0
      rw [Nat.mul_zero, List.drop_zero] at hown
      obtain ⟨aA, ac, rfl, har, _, _⟩ := hown.votes (by rw [all_len]; omega)
      rw [all_len] at har ⊢
      have HAR := Lib.hid har
      have hBi := hB0.up hbx
      clear hown har
      go_wp2_with fail
      refine (vote_Check _ _ _ allV 0 _ HAR.out (by rw [if_pos (mayV_iff.2 all_may)])).mono ?_
      rintro e w2 ⟨rfl, hb2⟩
      have hB2 := hBi.up hb2
      go_wp2_with (go_at_call 28; refine (law19_num _ _).mono ?_; rintro e w' ⟨rfl, rfl⟩)
      go_loopw [8] (fun il wr => ∃ lw : Nat, lw ≤ 7 ∧ il = .int .i64 lw ∧ Below w2.heap.size w2 wr) (fun il _ => 7 - (intOf il).toNat)
      case atStart => exact ⟨0, Nat.zero_le _, rfl, Below.refl _ _⟩
      case round =>
        obtain ⟨lw, hlw, rfl, hby⟩ := hrel
        (obtain ⟨wk, hwk⟩ : ∃ x, x = wr := ⟨_, rfl⟩); subst hwk
        by_cases hlt : lw < 7
        · have hb2k : Below wi.heap.size wi wk := bel_trans hb2 hby
          have htr : trE allV = 0 ∧ trB allV (lw : Int) = cutV allV (lw : Int) := by simp [trE, trB, mayV_iff.2 all_may]
          obtain ⟨M, hM⟩ : ∃ M, M = cutV allV (lw : Int) := ⟨_, rfl⟩
          rw [← hM] at htr
          have HT := Lib.hid htr
          have HM := Lib.hid hM
          have hmm : mayV M = true := mayV_iff.2 (by rw [hM]; exact cut_may all_may _)
          have HMM := Lib.hid hmm
          have hlen : M.length = (6 - lw) * 16 := by rw [hM]; exact all_cut lw hlt
          have HLEN := Lib.hid hlen
          have hlw2 : (lw : Int) ≤ 6 := by omega
          clear htr hM hmm hlen
          go_wp2_with fail
          refine (vote_Trim _ _ _ allV (lw : Int) 0 M _ (HAR.out.up hb2k) HT.out.1 HT.out.2).mono ?_
          rintro e w3 ⟨u, rfl, hu, hb3⟩
          obtain ⟨uA, uc, rfl, hur, _, _⟩ := hu.votes (by rw [HLEN.out]; omega)
          obtain ⟨q, hq⟩ : ∃ q, q = M.length := ⟨_, rfl⟩
          rw [← hq] at hur ⊢
          have hqq : (q : Int) = (6 - (lw : Int)) * 16 := by rw [hq, HLEN.out]; omega
          have hqb : ((q : Int) != (6 - (lw : Int)) * 16) = false := by rw [hqq]; simp
          have HUR := Lib.hid hur
          clear hq hur hu hqq
          go_wp2_with (go_at_call 28; refine (law19_num _ _).mono ?_; rintro e w' ⟨rfl, rfl⟩)
          go_loopw [11] (fun ir wr => ∃ r : Nat, 1 ≤ r ∧ r ≤ 7 ∧ ir = .int .i64 r ∧ Below w3.heap.size w3 wr) (fun ir _ => 7 - (intOf ir).toNat)
          case atStart => exact ⟨1, by omega, by omega, rfl, Below.refl _ _⟩
          case round =>
            obtain ⟨r, hr1, hr2, rfl, hbz⟩ := hrel
            (obtain ⟨wz, hwz⟩ : ∃ x, x = wr := ⟨_, rfl⟩); subst hwz
            by_cases hrt : r < 7
            · obtain ⟨f1, f2⟩ := hs_fl (v := ⟨(r : Int), 3, 1⟩) HMM.out (voteS_iff.2 ⟨by dsimp only; omega, by dsimp only; omega, by dsimp only; omega, by dsimp only; omega, by dsimp only; omega, by dsimp only; omega⟩)
              have hh := all_has lw hlt r hrt hr1
              rw [← HM.out] at hh
              dsimp only at f1 f2
              rw [← fl_3] at f1 f2
              rw [hh] at f1 f2
              by_cases hlr : lw < r
              · rw [if_pos hlr] at f1 f2
                rw [if_neg (by omega)] at f2
                have F1 := Lib.hid f1
                have F2 := Lib.hid f2
                have hgt : decide ((lw : Int) < (r : Int)) = true := by simp; omega
                have hle : decide ((r : Int) ≤ (lw : Int)) = false := by simp; omega
                clear f1 f2 hh
                go_wp2_with fail
                refine (vote_Has _ _ _ M _ _ _ _ _ (HUR.out.up hbz) F1.out F2.out).mono ?_
                rintro e w4 ⟨rfl, hb4⟩
                go_wp2_with (go_at_call 28; refine (law19_num _ _).mono ?_; rintro e w' ⟨rfl, rfl⟩)
                (first | (go_round; (case rel => exact ⟨r + 1, by omega, by omega, by go_num, bel_trans hbz hb4⟩); (case measure => (simp [intOf] <;> omega))) | (go_roundw; (case rel => exact ⟨r + 1, by omega, by omega, by go_num, bel_trans hbz hb4⟩); (case measure => (simp [intOf] <;> omega))) | (refine ⟨?_, by simp [intOf] <;> omega⟩; (repeat apply Exists.intro); refine ⟨?rel, ?fr⟩; (case fr => ((repeat' apply And.intro) <;> rfl)); (case rel => exact ⟨r + 1, by omega, by omega, by go_num, bel_trans hbz hb4⟩)))
              · rw [if_neg hlr] at f1 f2
                rw [if_pos rfl] at f2
                have F1 := Lib.hid f1
                have F2 := Lib.hid f2
                have hgt : decide ((lw : Int) < (r : Int)) = false := by simp; omega
                have hle : decide ((r : Int) ≤ (lw : Int)) = true := by simp; omega
                clear f1 f2 hh
                go_wp2_with fail
                refine (vote_Has _ _ _ M _ _ _ _ _ (HUR.out.up hbz) F1.out F2.out).mono ?_
                rintro e w4 ⟨rfl, hb4⟩
                go_wp2_with (go_at_call 28; refine (law19_num _ _).mono ?_; rintro e w' ⟨rfl, rfl⟩)
                (first | (go_round; (case rel => exact ⟨r + 1, by omega, by omega, by go_num, bel_trans hbz hb4⟩); (case measure => (simp [intOf] <;> omega))) | (go_roundw; (case rel => exact ⟨r + 1, by omega, by omega, by go_num, bel_trans hbz hb4⟩); (case measure => (simp [intOf] <;> omega))) | (refine ⟨?_, by simp [intOf] <;> omega⟩; (repeat apply Exists.intro); refine ⟨?rel, ?fr⟩; (case fr => ((repeat' apply And.intro) <;> rfl)); (case rel => exact ⟨r + 1, by omega, by omega, by go_num, bel_trans hbz hb4⟩)))
            · have hr7 : ¬ (r : Int) ≤ 6 := by omega
              go_wp2_with fail
              (first | (go_round; (case rel => exact ⟨lw + 1, by omega, by go_num, bel_trans hby (bel_trans hb3 hbz)⟩); (case measure => (simp [intOf] <;> omega))) | (go_roundw; (case rel => exact ⟨lw + 1, by omega, by go_num, bel_trans hby (bel_trans hb3 hbz)⟩); (case measure => (simp [intOf] <;> omega))) | (refine ⟨?_, by simp [intOf] <;> omega⟩; (repeat apply Exists.intro); refine ⟨?rel, ?fr⟩; (case fr => ((repeat' apply And.intro) <;> rfl)); (case rel => exact ⟨lw + 1, by omega, by go_num, bel_trans hby (bel_trans hb3 hbz)⟩)))
        · have hl7 : ¬ (lw : Int) ≤ 6 := by omega
          have hBk := hB2.up hby
          have b_0 := (hBk).2 0 _ rfl; have b_1 := (hBk).2 1 _ rfl; have b_2 := (hBk).2 2 _ rfl; have b_3 := (hBk).2 3 _ rfl
          go_wp2_with (go_at_call 29; refine (law19_wakes _).mono ?_; rintro e w9 ⟨rfl, hb9⟩)
          go_ret
          exact ⟨rfl, bel_trans hb0 (bel_trans hbx (bel_trans hb2 (bel_trans hby hb9)))⟩
    · have hR1 : (1 : Int) ≤ (R : Int) := by omega
      have HOWN := Lib.hid hown
      go_wp2_with fail
      go_loopw [3, 5] (fun vl ia wr => ∃ a : Nat, a ≤ 16 ∧ ia = .int .i64 a ∧ OwnV wr w.heap.size vl (allV.drop (16 * (R - 1) + a)) ∧ Below wi.heap.size wi wr) (fun _ ia _ => (intOf ia).toNat)
      case atStart => exact ⟨16, Nat.le_refl _, rfl, by rw [show 16 * (R - 1) + 16 = 16 * R by omega]; exact HOWN.out, Below.refl _ _⟩
      case round =>
        clear hown
        obtain ⟨a, ha, rfl, hown, hby⟩ := hrel
        (obtain ⟨wk, hwk⟩ : ∃ x, x = wr := ⟨_, rfl⟩); subst hwk
        rcases Nat.eq_zero_or_pos a with ha0 | ha0
        · subst ha0
          rw [Nat.add_zero] at hown
          have HO2 := Lib.hid hown
          clear hown
          go_wp2_with fail
          (first | (go_round; (case rel => exact ⟨R - 1, by omega, by go_num, HO2.out, bel_trans hbx hby⟩); (case measure => (simp [intOf] <;> omega))) | (go_roundw; (case rel => exact ⟨R - 1, by omega, by go_num, HO2.out, bel_trans hbx hby⟩); (case measure => (simp [intOf] <;> omega))) | (refine ⟨?_, by simp [intOf] <;> omega⟩; (repeat apply Exists.intro); refine ⟨?rel, ?fr⟩; (case fr => ((repeat' apply And.intro) <;> rfl)); (case rel => exact ⟨R - 1, by omega, by go_num, HO2.out, bel_trans hbx hby⟩)))
        · have ha1 : (1 : Int) ≤ (a : Int) := by omega
          obtain ⟨g1, g2⟩ := all_give (R := R) (a := a) (by omega) hR (by omega) ha
          obtain ⟨P, hP⟩ : ∃ P, P = allV.drop (16 * (R - 1) + a) := ⟨_, rfl⟩
          obtain ⟨N, hN⟩ : ∃ N, N = allV.drop (16 * (R - 1) + (a - 1)) := ⟨_, rfl⟩
          rw [← hP] at g1 g2 hown
          rw [← hN] at g2
          have hpl : P.length ≤ 96 := by rw [hP, List.length_drop, all_len]; omega
          obtain ⟨bA, bc, rfl, hbr, _, _⟩ := hown.votes (by omega)
          obtain ⟨q, hq⟩ : ∃ q, q = P.length := ⟨_, rfl⟩
          rw [← hq] at hbr ⊢
          have HBR := Lib.hid hbr
          have HG1 := Lib.hid g1
          have HG2 := Lib.hid g2
          have HNN := Lib.hid hN
          have hszk : w.heap.size ≤ wk.heap.size := by
            have := hb0.size; have := hbx.size; have := hby.size; omega
          clear hP hq hbr g1 g2 hown hpl hN
          go_wp2_with fail
          refine (vote_Give _ _ _ P ⟨(R : Int), (a : Int), 100 * (R : Int) + (a : Int)⟩ 0 N _ HBR.out HG1.out HG2.out).mono ?_
          rintro e w3 ⟨u, rfl, hu, hb3⟩
          have HU := Lib.hid (hu.mono hszk)
          clear hu
          go_wp2_with (go_at_call 28; refine (law19_num _ _).mono ?_; rintro e w' ⟨rfl, rfl⟩)
          (first | (go_round; (case rel => exact ⟨a - 1, by omega, by go_num, HNN.out ▸ HU.out, bel_trans hby hb3⟩); (case measure => (simp [intOf] <;> omega))) | (go_roundw; (case rel => exact ⟨a - 1, by omega, by go_num, HNN.out ▸ HU.out, bel_trans hby hb3⟩); (case measure => (simp [intOf] <;> omega))) | (refine ⟨?_, by simp [intOf] <;> omega⟩; (repeat apply Exists.intro); refine ⟨?rel, ?fr⟩; (case fr => ((repeat' apply And.intro) <;> rfl)); (case rel => exact ⟨a - 1, by omega, by go_num, HNN.out ▸ HU.out, bel_trans hby hb3⟩)))
end Go.Proofs.Ytffoglofijffpaa
