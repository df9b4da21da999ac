/- The law AnchorSettled: the walk. -/
import Derived.Test.YthpljlffjbodpaaPm
import Derived.Test.YthpljlffjbodpaaLr
namespace Go.Proofs.Ythpljlffjbodpaa
open Go.RowKit
set_option linter.unusedSimpArgs false
set_option linter.unusedVariables false

def topS (l : List CertD) : Int := if l.length = 0 then 0 else (cth l (l.length - 1)).h.ro
set_option maxRecDepth 100000 in
set_option maxHeartbeats 1000000 in
theorem ref14_Top (A : Option Addr) (n c : Nat) (l : List CertD) (nodes low y : Int) (w : World) (hl : CertsR w A n l) (hy : topS l = y) :
    Calls Try.prog 49 #[.agg #[.int .i64 nodes, .int .i64 low, .slice A n c]] w fun e w' => e = .returned (.int .i64 y) ∧ Below w.heap.size w w' := by
  subst hy
  obtain ⟨h1, h2, h3⟩ := hl
  rcases Nat.eq_zero_or_pos n with h0 | h0
  · have H : Hid (topS l = 0) := Lib.hid (by unfold topS; rw [if_pos (by omega)])
    subst h0
    clear h1 h2 h3
    go_enter Try.func49, Try.ntmps49
    go_wp2_with fail
    go_ret
    exact ⟨ret_int H.out.symm, by (repeat (first | (with_reducible exact Below.refl _ _) | (with_reducible assumption) | (with_reducible apply bel_alloc) | (with_reducible apply bel_drew) | (with_reducible apply bel_drewN) | (with_reducible refine bel_trans ?_ (by with_reducible assumption)) | (with_reducible refine bel_trans ?_ (HF.out _)) | (with_reducible refine bel_set ?_ (by simp) _) | (with_reducible refine bel_set ?_ (by simp; omega) _) | (with_reducible refine bel_set ?_ (by omega) _)))⟩
  · obtain ⟨m, rfl⟩ : ∃ m, n = m + 1 := ⟨n - 1, by omega⟩
    obtain ⟨b, off, rfl, hb, hcc⟩ := h3 (by omega)
    obtain ⟨p, hat, _⟩ := hcc m (by omega)
    have H : Hid (topS l = (cth l m).h.ro) := Lib.hid (by unfold topS; rw [if_neg (by omega), h1]; rfl)
    obtain ⟨c0, c1, c2, c3, c4, c5⟩ := hat
    clear hcc h3 h1 c0 c2 c3 c4 c5
    go_enter Try.func49, Try.ntmps49
    go_wp2_with fail
    go_ret
    exact ⟨ret_int H.out.symm, by (repeat (first | (with_reducible exact Below.refl _ _) | (with_reducible assumption) | (with_reducible apply bel_alloc) | (with_reducible apply bel_drew) | (with_reducible apply bel_drewN) | (with_reducible refine bel_trans ?_ (by with_reducible assumption)) | (with_reducible refine bel_trans ?_ (HF.out _)) | (with_reducible refine bel_set ?_ (by simp) _) | (with_reducible refine bel_set ?_ (by simp; omega) _) | (with_reducible refine bel_set ?_ (by omega) _)))⟩
theorem ref0_InAt' (A : Option Addr) (n c : Nat) (l : List Int) (x y : Int) (w : World) (hl : IntsR w A n l) (hy : inS l x = y) :
    Calls Try.prog 28 #[.slice A n c, .int .i64 x] w fun e w' => e = .returned (.int .i64 y) ∧ w = w' := hy ▸ ref0_In A n c l x w hl
theorem topS_le {D : DagD} (h : mayS D = true) : 0 ≤ topS D.certs ∧ topS D.certs ≤ 1099511627776 := by
  unfold topS
  split
  · omega
  · have := mayS_ro h (k := D.certs.length - 1) (by omega); omega
set_option maxRecDepth 100000 in
set_option maxHeartbeats 4000000 in
theorem law_AnchorSettled (A : Option Addr) (n c : Nat) (D : DagD) (iA : Option Addr) (im ic : Nat) (Is : List Int) (lA : Option Addr) (lm lc : Nat) (Lo : List Int) (w : World) (hl : CertsR w A n D.certs) (hi : IntsR w iA im Is) (hL : IntsR w lA lm Lo) (hcap : n ≤ c) (hcb : c ≤ 9223372036854775807) :
    Calls Try.prog 13 #[.agg #[.int .i64 D.nodes, .int .i64 D.low, .slice A n c, .slice iA im ic, .slice lA lm lc]] w fun e w' => e = .returned (.bool true) ∧ Below w.heap.size w w' := by
  have HL := Lib.hid hl
  have HN := Lib.hid hl.1
  clear hl hi hL
  go_enter Try.func13, Try.ntmps13
  go_wp2_with fail
  refine (law16_heavy _ _ _ _ _ D.certs _ _ _ _ _ _ _ (HL.out.up (by (repeat (first | (with_reducible exact Below.refl _ _) | (with_reducible assumption) | (with_reducible apply bel_alloc) | (with_reducible apply bel_drew) | (with_reducible apply bel_drewN) | (with_reducible refine bel_trans ?_ (by with_reducible assumption)) | (with_reducible refine bel_trans ?_ (HF.out _)) | (with_reducible refine bel_set ?_ (by simp) _) | (with_reducible refine bel_set ?_ (by simp; omega) _) | (with_reducible refine bel_set ?_ (by omega) _)))))).mono ?_
  rintro e w1 ⟨⟨x, rfl⟩, hb1⟩
  have hz_w1 : w.heap.size + 1 ≤ w1.heap.size := (by have hq := (hb1).size; (try simp at hq); omega); have hc0_w1 := fun o => (bcell hb1).1 (w.heap.size) o (by first | (simp; done) | (simp; omega) | omega)
  cases x
  case true =>
    go_wp2_with fail
    go_ret
    exact ⟨rfl, by (repeat (first | (with_reducible exact Below.refl _ _) | (with_reducible assumption) | (with_reducible apply bel_alloc) | (with_reducible apply bel_drew) | (with_reducible apply bel_drewN) | (with_reducible refine bel_trans ?_ (by with_reducible assumption)) | (with_reducible refine bel_trans ?_ (HF.out _)) | (with_reducible refine bel_set ?_ (by simp) _) | (with_reducible refine bel_set ?_ (by simp; omega) _) | (with_reducible refine bel_set ?_ (by omega) _)))⟩
  case false =>
    go_wp2_with fail
    refine (ref14_May A n c D _ (HL.out.up (by (repeat (first | (with_reducible exact Below.refl _ _) | (with_reducible assumption) | (with_reducible apply bel_alloc) | (with_reducible apply bel_drew) | (with_reducible apply bel_drewN) | (with_reducible refine bel_trans ?_ (by with_reducible assumption)) | (with_reducible refine bel_trans ?_ (HF.out _)) | (with_reducible refine bel_set ?_ (by simp) _) | (with_reducible refine bel_set ?_ (by simp; omega) _) | (with_reducible refine bel_set ?_ (by omega) _)))))).mono ?_
    rintro e w2 ⟨rfl, hb2⟩
    rw [may_eq]
    have hB2 : BoxR w2 w.heap.size [.int .i64 D.nodes, .int .i64 D.low, .slice A n c, .slice iA im ic, .slice lA lm lc] := ((BoxR.new w [.int .i64 D.nodes, .int .i64 D.low, .slice A n c, .slice iA im ic, .slice lA lm lc] 27).up hb1).up hb2
    have hbw2 : Below w.heap.size w w2 := by (repeat (first | (with_reducible exact Below.refl _ _) | (with_reducible assumption) | (with_reducible apply bel_alloc) | (with_reducible apply bel_drew) | (with_reducible apply bel_drewN) | (with_reducible refine bel_trans ?_ (by with_reducible assumption)) | (with_reducible refine bel_trans ?_ (HF.out _)) | (with_reducible refine bel_set ?_ (by simp) _) | (with_reducible refine bel_set ?_ (by simp; omega) _) | (with_reducible refine bel_set ?_ (by omega) _)))
    clear hc0_w1 hz_w1
    have b_0 := (hB2).2 0 _ rfl; have b_1 := (hB2).2 1 _ rfl; have b_2 := (hB2).2 2 _ rfl; have b_3 := (hB2).2 3 _ rfl; have b_4 := (hB2).2 4 _ rfl
    cases hm : mayS D
    case false =>
      go_wp2_with fail
      go_ret
      exact ⟨rfl, hbw2⟩
    case true =>
      have HM := Lib.hid hm
      clear hm
      obtain ⟨tp, htp⟩ : ∃ tp, topS D.certs = tp := ⟨_, rfl⟩
      have htb := topS_le HM.out
      rw [htp] at htb
      obtain ⟨ht0, ht1⟩ := htb
      have HTP := Lib.hid htp
      clear htp
      go_wp2_with fail
      refine (ref14_Top A n c D.certs _ _ tp _ (HL.out.up hbw2) HTP.out).mono ?_
      rintro e w3 ⟨rfl, hb3⟩
      have hB3 := hB2.up hb3
      have hbw3 : Below w.heap.size w w3 := bel_trans hbw2 hb3
      clear b_0 b_1 b_2 b_3 b_4
      have b_0 := (hB3).2 0 _ rfl; have b_1 := (hB3).2 1 _ rfl; have b_2 := (hB3).2 2 _ rfl; have b_3 := (hB3).2 3 _ rfl; have b_4 := (hB3).2 4 _ rfl
      have hlo0 : 0 ≤ D.low := (mayS_iff.1 HM.out).2.1
      have hlo1 : D.low ≤ 1099511627776 := (mayS_iff.1 HM.out).2.2.1
      by_cases hlp : 0 < D.low
      case' pos =>
        have hmod : Int.tmod D.low 2 = D.low % 2 := by rw [Int.tmod_eq_emod_of_nonneg hlo0]
        have hm0 : 0 ≤ Int.tmod D.low 2 := by omega
        have hm1 : Int.tmod D.low 2 ≤ 1 := by omega
        have hfs0 : (D.low + 2 + D.low % 2) % 2 = 0 := by omega
        go_wp2_with fail
        obtain ⟨fs, hfs⟩ : ∃ fs, fs = D.low + 2 + D.low % 2 := ⟨_, rfl⟩
        rw [← hfs] at hfs0 ⊢
        have hfs1 : D.low < fs := by omega
        have hfs2 : 2 ≤ fs := by omega
        have hfs3 : fs ≤ 1099511627780 := by omega
        clear hfs hmod hm0 hm1
      case' neg =>
        go_wp2_with fail
        obtain ⟨fs, hfs⟩ : ∃ fs : Int, fs = 2 := ⟨_, rfl⟩
        have e2 : Value.int .i64 2 = Value.int .i64 fs := by rw [hfs]
        conv => arg 4; rw [e2]
        have hfs0 : fs % 2 = 0 := by omega
        have hfs1 : D.low < fs := by omega
        have hfs2 : 2 ≤ fs := by omega
        have hfs3 : fs ≤ 1099511627780 := by omega
        clear hfs e2
      all_goals
        clear b_0 b_1 b_2 b_3 b_4 hlp
        go_loopw [5] (fun ir wr => ∃ r : Int, ir = .int .i64 r ∧ 2 ≤ r ∧ r % 2 = 0 ∧ D.low < r ∧ r ≤ 1099511627790 ∧ Below w3.heap.size w3 wr) (fun ir _ => (tp + 12 - intOf ir).toNat)
        case atStart => exact ⟨fs, rfl, hfs2, hfs0, hfs1, by omega, Below.refl _ _⟩
        case round =>
          obtain ⟨r, rfl, hr2, hre, hrl, hrb, hbx⟩ := hrel
          (obtain ⟨wr1, hwr1⟩ : ∃ x, x = wr := ⟨_, rfl⟩); subst hwr1
          have hBr := hB3.up hbx
          have hbwr : Below w.heap.size w wr1 := bel_trans hbw3 hbx
          have b_0 := (hBr).2 0 _ rfl; have b_1 := (hBr).2 1 _ rfl; have b_2 := (hBr).2 2 _ rfl; have b_3 := (hBr).2 3 _ rfl; have b_4 := (hBr).2 4 _ rfl
          by_cases hlt : r ≤ tp ∧ r < fs + 40
          · obtain ⟨hlt1, hlt2⟩ := hlt
            have hev : evenS r = true := evenS_iff.2 ⟨hr2, by omega, hre⟩
            have hask : askS D r = true := by unfold askS; rw [HM.out, hev]; rfl
            have hE : asE D r = 0 := by simp [asE, hask]
            have HE := Lib.hid hE
            have HASK := Lib.hid hask
            clear hE hev hask
            go_wp2_with fail
            cases hd : diB D r
            case false =>
              have HD := Lib.hid hd
              clear hd
              refine (anchor_DirectAt A n c D r false 0 _ (HL.out.up (by (repeat (first | (with_reducible exact Below.refl _ _) | (with_reducible assumption) | (with_reducible apply bel_alloc) | (with_reducible apply bel_drew) | (with_reducible apply bel_drewN) | (with_reducible refine bel_trans ?_ (by with_reducible assumption)) | (with_reducible refine bel_trans ?_ (HF.out _)) | (with_reducible refine bel_set ?_ (by simp) _) | (with_reducible refine bel_set ?_ (by simp; omega) _) | (with_reducible refine bel_set ?_ (by omega) _))))) hcap hcb HD.out HE.out).mono ?_
              rintro e w4 ⟨rfl, hb4⟩
              clear b_0 b_1 b_2 b_3 b_4
              go_wp2_with (go_at_call 43; refine (law16_num _ _).mono ?_; rintro e w' ⟨rfl, rfl⟩)
              (first | (go_round; (case rel => exact ⟨r + 2, by go_num, by omega, by omega, by omega, by omega, bel_trans hbx hb4⟩); (case measure => (simp [intOf] <;> omega))) | (go_roundw; (case rel => exact ⟨r + 2, by go_num, by omega, by omega, by omega, by omega, bel_trans hbx hb4⟩); (case measure => (simp [intOf] <;> omega))) | (refine ⟨?_, by simp [intOf] <;> omega⟩; (repeat apply Exists.intro); refine ⟨?rel, ?fr⟩; (case fr => ((repeat' apply And.intro) <;> rfl)); (case rel => exact ⟨r + 2, by go_num, by omega, by omega, by omega, by omega, bel_trans hbx hb4⟩)))
            case true =>
              have HD := Lib.hid hd
              refine (anchor_DirectAt A n c D r true 0 _ (HL.out.up (by (repeat (first | (with_reducible exact Below.refl _ _) | (with_reducible assumption) | (with_reducible apply bel_alloc) | (with_reducible apply bel_drew) | (with_reducible apply bel_drewN) | (with_reducible refine bel_trans ?_ (by with_reducible assumption)) | (with_reducible refine bel_trans ?_ (HF.out _)) | (with_reducible refine bel_set ?_ (by simp) _) | (with_reducible refine bel_set ?_ (by simp; omega) _) | (with_reducible refine bel_set ?_ (by omega) _))))) hcap hcb HD.out HE.out).mono ?_
              rintro e w4 ⟨rfl, hb4⟩
              have hB4 := hBr.up hb4
              have hbw4 : Below w.heap.size w w4 := bel_trans hbwr hb4
              clear b_0 b_1 b_2 b_3 b_4
              have b_0 := (hB4).2 0 _ rfl; have b_1 := (hB4).2 1 _ rfl; have b_2 := (hB4).2 2 _ rfl; have b_3 := (hB4).2 3 _ rfl; have b_4 := (hB4).2 4 _ rfl
              have hz : ¬ anchS D r = 0 := fun g => by
                unfold diB at hd
                rw [Bool.and_eq_true] at hd
                have h1 := of_decide_eq_true hd.2
                unfold votesS at h1
                rw [if_neg (by omega)] at h1
                have := isS_iff.1 (mayS_iff.1 HM.out).1
                omega
              obtain ⟨a, haa⟩ : ∃ a, a = anchS D r := ⟨_, rfl⟩
              have hx : anB D r = a ∧ anE D r = 0 := by rw [haa]; simp [anB, anE, HASK.out, hz]
              have HX := Lib.hid hx
              have HAA := Lib.hid haa
              clear hd hz hx haa
              go_wp2_with (go_at_call 43; refine (law16_num _ _).mono ?_; rintro e w' ⟨rfl, rfl⟩)
              refine (anchor_AnchorAt A n c D r a 0 _ (HL.out.up (by (repeat (first | (with_reducible exact Below.refl _ _) | (with_reducible assumption) | (with_reducible apply bel_alloc) | (with_reducible apply bel_drew) | (with_reducible apply bel_drewN) | (with_reducible refine bel_trans ?_ (by with_reducible assumption)) | (with_reducible refine bel_trans ?_ (HF.out _)) | (with_reducible refine bel_set ?_ (by simp) _) | (with_reducible refine bel_set ?_ (by simp; omega) _) | (with_reducible refine bel_set ?_ (by omega) _))))) HX.out.1 HX.out.2).mono ?_
              rintro e w5 ⟨rfl, hb5⟩
              have hB5 := hB4.up hb5
              have hbw5 : Below w.heap.size w w5 := bel_trans hbw4 hb5
              clear b_0 b_1 b_2 b_3 b_4
              go_wp2_with (go_at_call 43; refine (law16_num _ _).mono ?_; rintro e w' ⟨rfl, rfl⟩)
              go_loopw [10] (fun iq wr => ∃ q : Int, iq = .int .i64 q ∧ r + 2 ≤ q ∧ q % 2 = 0 ∧ q ≤ 1099511627792 ∧ Below w5.heap.size w5 wr) (fun iq _ => (tp + 12 - intOf iq).toNat)
              case atStart => exact ⟨r + 2, rfl, by omega, by omega, by omega, Below.refl _ _⟩
              case round =>
                obtain ⟨q, rfl, hq1, hq2, hq3, hby⟩ := hrel
                (obtain ⟨wq, hwq⟩ : ∃ x, x = wr := ⟨_, rfl⟩); subst hwq
                have hBq := hB5.up hby
                have hbwq : Below w.heap.size w wq := bel_trans hbw5 hby
                have b_0 := (hBq).2 0 _ rfl; have b_1 := (hBq).2 1 _ rfl; have b_2 := (hBq).2 2 _ rfl; have b_3 := (hBq).2 3 _ rfl; have b_4 := (hBq).2 4 _ rfl
                by_cases hqt : q ≤ tp
                · have hev : evenS q = true := evenS_iff.2 ⟨by omega, by omega, hq2⟩
                  have hask : askS D q = true := by unfold askS; rw [HM.out, hev]; rfl
                  have hcok : chOk (r - 2) q = true := chOk_iff.2 ⟨by omega, by omega, by omega⟩
                  by_cases hz : anchS D q = 0
                  · have HCE : Hid (chE D (r - 2) q = 3) := Lib.hid (by simp [chE, hask, hcok, hz])
                    clear hev hask hcok hz
                    go_wp2_with fail
                    refine (anchor_ChainAt A n c D (r - 2) q 3 _ _ (HL.out.up (by (repeat (first | (with_reducible exact Below.refl _ _) | (with_reducible assumption) | (with_reducible apply bel_alloc) | (with_reducible apply bel_drew) | (with_reducible apply bel_drewN) | (with_reducible refine bel_trans ?_ (by with_reducible assumption)) | (with_reducible refine bel_trans ?_ (HF.out _)) | (with_reducible refine bel_set ?_ (by simp) _) | (with_reducible refine bel_set ?_ (by simp; omega) _) | (with_reducible refine bel_set ?_ (by omega) _))))) rfl HCE.out).mono ?_
                    rintro e w6 ⟨v, rfl, hown, hb6, hlen⟩
                    clear hown hlen b_0 b_1 b_2 b_3 b_4
                    go_wp2_with (go_at_call 43; refine (law16_num _ _).mono ?_; rintro e w' ⟨rfl, rfl⟩)
                    (first | (go_round; (case rel => exact ⟨q + 2, by go_num, by omega, by omega, by omega, bel_trans hby hb6⟩); (case measure => (simp [intOf] <;> omega))) | (go_roundw; (case rel => exact ⟨q + 2, by go_num, by omega, by omega, by omega, bel_trans hby hb6⟩); (case measure => (simp [intOf] <;> omega))) | (refine ⟨?_, by simp [intOf] <;> omega⟩; (repeat apply Exists.intro); refine ⟨?rel, ?fr⟩; (case fr => ((repeat' apply And.intro) <;> rfl)); (case rel => exact ⟨q + 2, by go_num, by omega, by omega, by omega, bel_trans hby hb6⟩)))
                  · have hce : chE D (r - 2) q = 0 := by simp [chE, hask, hcok, hz]
                    obtain ⟨L, hLL⟩ : ∃ L, chB D (r - 2) q = L := ⟨_, rfl⟩
                    have hhas := chain_holds HD.out hrl hce
                    rw [← HAA.out, hLL] at hhas
                    obtain ⟨t, ht⟩ : ∃ t : Nat, inS L a = (t : Int) := ⟨(inS L a).toNat, by have := of_decide_eq_true hhas; omega⟩
                    have HI := Lib.hid ht
                    have HCE := Lib.hid hce
                    have HLL := Lib.hid hLL
                    have ht0 : decide ((t : Int) < 0) = false := by rw [decide_eq_false_iff_not]; omega
                    clear hev hask hcok hz hce hLL hhas ht
                    go_wp2_with fail
                    refine (anchor_ChainAt A n c D (r - 2) q 0 L _ (HL.out.up (by (repeat (first | (with_reducible exact Below.refl _ _) | (with_reducible assumption) | (with_reducible apply bel_alloc) | (with_reducible apply bel_drew) | (with_reducible apply bel_drewN) | (with_reducible refine bel_trans ?_ (by with_reducible assumption)) | (with_reducible refine bel_trans ?_ (HF.out _)) | (with_reducible refine bel_set ?_ (by simp) _) | (with_reducible refine bel_set ?_ (by simp; omega) _) | (with_reducible refine bel_set ?_ (by omega) _))))) HLL.out HCE.out).mono ?_
                    rintro e w6 ⟨v, rfl, hown, hb6, hlen⟩
                    obtain ⟨xA, xc, rfl, hint, _⟩ := hown.ints (by omega)
                    have HINT := Lib.hid hint
                    clear hown hint b_0 b_1 b_2 b_3 b_4
                    go_wp2_with (first
                      | (go_at_call 43; refine (law16_num _ _).mono ?_; rintro e w' ⟨rfl, rfl⟩)
                      | (go_at_call 28; refine (ref0_InAt' _ _ _ L a (t : Int) _ HINT.out HI.out).mono ?_; rintro e w' ⟨rfl, rfl⟩))
                    (first | (go_round; (case rel => exact ⟨q + 2, by go_num, by omega, by omega, by omega, bel_trans hby hb6⟩); (case measure => (simp [intOf] <;> omega))) | (go_roundw; (case rel => exact ⟨q + 2, by go_num, by omega, by omega, by omega, bel_trans hby hb6⟩); (case measure => (simp [intOf] <;> omega))) | (refine ⟨?_, by simp [intOf] <;> omega⟩; (repeat apply Exists.intro); refine ⟨?rel, ?fr⟩; (case fr => ((repeat' apply And.intro) <;> rfl)); (case rel => exact ⟨q + 2, by go_num, by omega, by omega, by omega, bel_trans hby hb6⟩)))
                · clear b_0 b_1 b_2 b_3 b_4
                  go_wp2_with fail
                  (first | (go_round; (case rel => exact ⟨r + 2, by go_num, by omega, by omega, by omega, by omega, bel_trans hbx (bel_trans hb4 (bel_trans hb5 hby))⟩); (case measure => (simp [intOf] <;> omega))) | (go_roundw; (case rel => exact ⟨r + 2, by go_num, by omega, by omega, by omega, by omega, bel_trans hbx (bel_trans hb4 (bel_trans hb5 hby))⟩); (case measure => (simp [intOf] <;> omega))) | (refine ⟨?_, by simp [intOf] <;> omega⟩; (repeat apply Exists.intro); refine ⟨?rel, ?fr⟩; (case fr => ((repeat' apply And.intro) <;> rfl)); (case rel => exact ⟨r + 2, by go_num, by omega, by omega, by omega, by omega, bel_trans hbx (bel_trans hb4 (bel_trans hb5 hby))⟩)))
          · clear b_0 b_1 b_2 b_3 b_4
            by_cases h1 : r ≤ tp
            · have h2 : ¬ r < fs + 40 := fun h => hlt ⟨h1, h⟩
              clear hlt
              go_wp2_with (go_at_call 44; refine (law16_wakes _).mono ?_; rintro e w9 ⟨rfl, hb9⟩)
              go_ret
              exact ⟨rfl, bel_trans hbwr hb9⟩
            · clear hlt
              go_wp2_with (go_at_call 44; refine (law16_wakes _).mono ?_; rintro e w9 ⟨rfl, hb9⟩)
              go_ret
              exact ⟨rfl, bel_trans hbwr hb9⟩
end Go.Proofs.Ythpljlffjbodpaa
