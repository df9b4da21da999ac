/- The law OrderParents: the walk. -/
import Derived.Test.YthpljlffjbodpaaPp
import Derived.Test.YthpljlffjbodpaaLd
namespace Go.Proofs.Ythpljlffjbodpaa
open Go.RowKit
set_option linter.unusedSimpArgs false
set_option linter.unusedVariables false

theorem inF_two (x : Int) : ∀ (l : List Int) (i : Int), 0 ≤ i → inF x i l = -1 ∨ 0 ≤ inF x i l
  | [], _, _ => .inl rfl
  | c :: l, i, h => by
    rw [inF]
    split
    · exact .inr h
    · exact inF_two x l (i + 1) (by omega)
theorem inS_neg {l : List Int} {x : Int} (h : hasS l x = false) : inS l x = -1 := by
  have h1 := of_decide_eq_false h
  rcases inF_two x l 0 (Int.le_refl _) with h2 | h2
  · exact h2
  · exact absurd h2 h1
theorem ref0_InAt (A : Option Addr) (n c : Nat) (l : List Int) (x y : Int) (w : World) (hl : IntsR w A n l) (hy : inS l x = y) :
    Calls Try.prog 28 #[.slice A n c, .int .i64 x] w fun e w' => e = .returned (.int .i64 y) ∧ w = w' := hy ▸ ref0_In A n c l x w hl
theorem IntsR.dropped {w : World} {b off n : Nat} {l : List Int} (h : IntsR w (some ⟨b, off, none⟩) n l) {i : Nat} (hi : i < n) : IntsR w (some ⟨b, off + i, none⟩) (n - i) (l.drop i) := by
  refine ⟨by simp [h.1], by have := h.2.1; omega, fun hn => ?_⟩
  obtain ⟨b', off', e, hb, hc⟩ := h.2.2 (by omega)
  injection e with e; injection e with e1 e2 e3
  subst e1; subst e2
  exact ⟨b, off + i, rfl, hb, fun j hj => by rw [Nat.add_assoc, hc (i + j) (by omega)]; simp [nth, List.getElem?_drop]⟩
set_option maxRecDepth 100000 in
set_option maxHeartbeats 8000000 in
theorem law_OrderParents (A : Option Addr) (n c : Nat) (D : DagD) (iA : Option Addr) (im ic : Nat) (Is : List Int) (lA : Option Addr) (lm lc : Nat) (Lo : List Int) (w : World) (hl : CertsR w A n D.certs) (hi : IntsR w iA im Is) (hL : IntsR w lA lm Lo) (hS : Small D.certs) :
    Calls Try.prog 8 #[.agg #[.int .i64 D.nodes, .int .i64 D.low, .slice A n c, .slice iA im ic, .slice lA lm lc]] w fun e w' => e = .returned (.bool true) ∧ Below w.heap.size w w' := by
  have HL := Lib.hid hl
  have HN := Lib.hid hl.1
  have HO := Lib.hid hL
  have HS := Lib.hid hS
  clear hl hi hL hS
  go_enter Try.func8, Try.ntmps8
  go_wp2_with fail
  refine (law17_heavy' _ _ _ _ _ D.certs _ _ _ _ _ _ _ (HL.out.up (by (repeat (first | (with_reducible exact Below.refl _ _) | (with_reducible assumption) | (with_reducible apply bel_alloc) | (with_reducible apply bel_drew) | (with_reducible apply bel_drewN) | (with_reducible refine bel_trans ?_ (by with_reducible assumption)) | (with_reducible refine bel_trans ?_ (HF.out _)) | (with_reducible refine bel_set ?_ (by simp) _) | (with_reducible refine bel_set ?_ (by simp; omega) _) | (with_reducible refine bel_set ?_ (by omega) _))))) HS.out).mono ?_
  rintro e w1 ⟨⟨x, rfl, hx⟩, hb1⟩
  have hz_w1 : w.heap.size + 1 ≤ w1.heap.size := (by have hq := (hb1).size; (try simp at hq); omega); have hc0_w1 := fun o => (bcell hb1).1 (w.heap.size) o (by first | (simp; done) | (simp; omega) | omega)
  cases x
  case true =>
    clear hx
    go_wp2_with fail
    go_ret
    exact ⟨rfl, by (repeat (first | (with_reducible exact Below.refl _ _) | (with_reducible assumption) | (with_reducible apply bel_alloc) | (with_reducible apply bel_drew) | (with_reducible apply bel_drewN) | (with_reducible refine bel_trans ?_ (by with_reducible assumption)) | (with_reducible refine bel_trans ?_ (HF.out _)) | (with_reducible refine bel_set ?_ (by simp) _) | (with_reducible refine bel_set ?_ (by simp; omega) _) | (with_reducible refine bel_set ?_ (by omega) _)))⟩
  case false =>
    obtain ⟨hLi, him, hlm⟩ := hx rfl
    have hn80 : n ≤ 80 := by have := hLi.1; rw [HN.out] at this; exact this
    clear hx hLi
    go_wp2_with fail
    refine (ref14_May A n c D _ (HL.out.up (by (repeat (first | (with_reducible exact Below.refl _ _) | (with_reducible assumption) | (with_reducible apply bel_alloc) | (with_reducible apply bel_drew) | (with_reducible apply bel_drewN) | (with_reducible refine bel_trans ?_ (by with_reducible assumption)) | (with_reducible refine bel_trans ?_ (HF.out _)) | (with_reducible refine bel_set ?_ (by simp) _) | (with_reducible refine bel_set ?_ (by simp; omega) _) | (with_reducible refine bel_set ?_ (by omega) _)))))).mono ?_
    rintro e w2 ⟨rfl, hb2⟩
    rw [may_eq]
    have hB2 : BoxR w2 w.heap.size [.int .i64 D.nodes, .int .i64 D.low, .slice A n c, .slice iA im ic, .slice lA lm lc] := ((BoxR.new w [.int .i64 D.nodes, .int .i64 D.low, .slice A n c, .slice iA im ic, .slice lA lm lc] 52).up hb1).up hb2
    have hbw2 : Below w.heap.size w w2 := by (repeat (first | (with_reducible exact Below.refl _ _) | (with_reducible assumption) | (with_reducible apply bel_alloc) | (with_reducible apply bel_drew) | (with_reducible apply bel_drewN) | (with_reducible refine bel_trans ?_ (by with_reducible assumption)) | (with_reducible refine bel_trans ?_ (HF.out _)) | (with_reducible refine bel_set ?_ (by simp) _) | (with_reducible refine bel_set ?_ (by simp; omega) _) | (with_reducible refine bel_set ?_ (by omega) _)))
    clear hc0_w1 hz_w1
    have b_0 := (hB2).2 0 _ rfl; have b_1 := (hB2).2 1 _ rfl; have b_2 := (hB2).2 2 _ rfl; have b_3 := (hB2).2 3 _ rfl; have b_4 := (hB2).2 4 _ rfl
    cases hm : mayS D
    case false =>
      go_wp2_with fail
      go_ret
      exact ⟨rfl, hbw2⟩
    case true =>
      have HM := Lib.hid hm
      clear hm
      go_wp2_with fail
      refine (ref0_Rising lA lm lc Lo _ (HO.out.up hbw2)).mono ?_
      rintro e w3 ⟨rfl, hb3⟩
      have hB3 := hB2.up hb3
      have hbw3 : Below w.heap.size w w3 := bel_trans hbw2 hb3
      clear b_0 b_1 b_2 b_3 b_4
      cases hr : risS Lo
      case false =>
        go_wp2_with fail
        go_ret
        exact ⟨rfl, hbw3⟩
      case true =>
        have HR := Lib.hid hr
        clear hr
        go_wp2_with fail
        go_loopw [3] (fun ix wr => ∃ i : Nat, i ≤ n ∧ ix = .int .i64 i ∧ Below w3.heap.size w3 wr) (fun ix _ => n - (intOf ix).toNat)
        case atStart => exact ⟨0, Nat.zero_le _, rfl, Below.refl _ _⟩
        case round =>
          obtain ⟨i, hi, rfl, hby⟩ := hrel
          (obtain ⟨wk, hwk⟩ : ∃ x, x = wr := ⟨_, rfl⟩); subst hwk
          have hBk := hB3.up hby
          have hbwk : Below w.heap.size w wk := bel_trans hbw3 hby
          have b_0 := (hBk).2 0 _ rfl; have b_1 := (hBk).2 1 _ rfl; have b_2 := (hBk).2 2 _ rfl; have b_3 := (hBk).2 3 _ rfl; have b_4 := (hBk).2 4 _ rfl
          by_cases hlt : i < n ∧ i < 20
          · obtain ⟨hin, hi20⟩ := hlt
            obtain ⟨b, off, rfl, hb, hcc⟩ := HL.out.2.2 (by omega)
            obtain ⟨p, hat, hcr⟩ := hcc i hin
            have hatk := hat.up hbwk hb
            obtain ⟨C, hC⟩ : ∃ C, C = cth D.certs i := ⟨_, rfl⟩
            rw [← hC] at hatk
            obtain ⟨c0, c1, c2, c3, c4, c5⟩ := hatk
            have HCC := Lib.hid hC
            clear hcc hat hcr hC
            have hgk : w.heap.size < wk.heap.size := hBk.1
            have hid : i < D.certs.length := by rw [HN.out]; exact hin
            have hfind : findS D.certs C.di = (i : Int) := by rw [HCC.out]; exact (mayS_iff.1 HM.out).dist.find hid
            have HFI := Lib.hid hfind
            clear hfind
            have hBA : BoxR (wk.alloc (.cells #[.int .i64 C.h.au, .int .i64 C.h.ro, .slice p.h.b.A p.h.b.n p.h.b.c, .slice p.h.p.A p.h.p.n p.h.p.c, .int .i64 C.di, .slice p.s.A p.s.n p.s.c] 49)) wk.heap.size [.int .i64 C.h.au, .int .i64 C.h.ro, .slice p.h.b.A p.h.b.n p.h.b.c, .slice p.h.p.A p.h.p.n p.h.p.c, .int .i64 C.di, .slice p.s.A p.s.n p.s.c] := BoxR.new wk [.int .i64 C.h.au, .int .i64 C.h.ro, .slice p.h.b.A p.h.b.n p.h.b.c, .slice p.h.p.A p.h.p.n p.h.p.c, .int .i64 C.di, .slice p.s.A p.s.n p.s.c] 49
            have hBka := hBk.up (w' := wk.alloc (.cells #[.int .i64 C.h.au, .int .i64 C.h.ro, .slice p.h.b.A p.h.b.n p.h.b.c, .slice p.h.p.A p.h.p.n p.h.p.c, .int .i64 C.di, .slice p.s.A p.s.n p.s.c] 49)) (by (repeat (first | (with_reducible exact Below.refl _ _) | (with_reducible assumption) | (with_reducible apply bel_alloc) | (with_reducible apply bel_drew) | (with_reducible apply bel_drewN) | (with_reducible refine bel_trans ?_ (by with_reducible assumption)) | (with_reducible refine bel_trans ?_ (HF.out _)) | (with_reducible refine bel_set ?_ (by simp) _) | (with_reducible refine bel_set ?_ (by simp; omega) _) | (with_reducible refine bel_set ?_ (by omega) _))))
            by_cases hdl : deep D.certs i < D.low
            · have hq := order_old (D := D) (done := Lo) HM.out HR.out HFI.out hdl
              have HQB := Lib.hid hq.1
              have HQE := Lib.hid hq.2
              have hl0 : (D.low == 0) = false := by
                have : 0 ≤ deep D.certs i := by unfold deep; split <;> omega
                simp; omega
              clear hq
              go_wp2_with fail
              refine (order_OrderAt _ n c D C.di lA lm lc Lo [] 6 _ (HL.out.up (by (repeat (first | (with_reducible exact Below.refl _ _) | (with_reducible assumption) | (with_reducible apply bel_alloc) | (with_reducible apply bel_drew) | (with_reducible apply bel_drewN) | (with_reducible refine bel_trans ?_ (by with_reducible assumption)) | (with_reducible refine bel_trans ?_ (HF.out _)) | (with_reducible refine bel_set ?_ (by simp) _) | (with_reducible refine bel_set ?_ (by simp; omega) _) | (with_reducible refine bel_set ?_ (by omega) _))))) (HO.out.up (by (repeat (first | (with_reducible exact Below.refl _ _) | (with_reducible assumption) | (with_reducible apply bel_alloc) | (with_reducible apply bel_drew) | (with_reducible apply bel_drewN) | (with_reducible refine bel_trans ?_ (by with_reducible assumption)) | (with_reducible refine bel_trans ?_ (HF.out _)) | (with_reducible refine bel_set ?_ (by simp) _) | (with_reducible refine bel_set ?_ (by simp; omega) _) | (with_reducible refine bel_set ?_ (by omega) _))))) (by omega) HQB.out HQE.out).mono ?_
              rintro e w5 ⟨v, rfl, hown, hb5⟩
              have hB5 := hBka.up hb5
              have hbk5 : Below wk.heap.size wk w5 := bel_trans (by (repeat (first | (with_reducible exact Below.refl _ _) | (with_reducible assumption) | (with_reducible apply bel_alloc) | (with_reducible apply bel_drew) | (with_reducible apply bel_drewN) | (with_reducible refine bel_trans ?_ (by with_reducible assumption)) | (with_reducible refine bel_trans ?_ (HF.out _)) | (with_reducible refine bel_set ?_ (by simp) _) | (with_reducible refine bel_set ?_ (by simp; omega) _) | (with_reducible refine bel_set ?_ (by omega) _)))) hb5
              clear b_0 b_1 b_2 b_3 b_4
              have b_0 := (hB5).2 0 _ rfl; have b_1 := (hB5).2 1 _ rfl; have b_2 := (hB5).2 2 _ rfl; have b_3 := (hB5).2 3 _ rfl; have b_4 := (hB5).2 4 _ rfl
              go_wp2_with (go_at_call 34; refine (law17_num _ _).mono ?_; rintro e w' ⟨rfl, rfl⟩)
              (first | (go_round; (case rel => exact ⟨i + 1, by omega, by go_num, bel_trans hby hbk5⟩); (case measure => (simp [intOf] <;> omega))) | (go_roundw; (case rel => exact ⟨i + 1, by omega, by go_num, bel_trans hby hbk5⟩); (case measure => (simp [intOf] <;> omega))) | (refine ⟨?_, by simp [intOf] <;> omega⟩; (repeat apply Exists.intro); refine ⟨?rel, ?fr⟩; (case fr => ((repeat' apply And.intro) <;> rfl)); (case rel => exact ⟨i + 1, by omega, by go_num, bel_trans hby hbk5⟩)))
            · obtain ⟨L, hLL⟩ : ∃ L, L = freshL Lo (belowS D.certs D.low (deep D.certs i) i) := ⟨_, rfl⟩
              have hq := order_ok (D := D) (done := Lo) HM.out HR.out HFI.out hdl
              rw [← hLL] at hq
              have hlen : L.length ≤ 65536 := by rw [← hq.1]; exact orderB_len _ _ _
              have HQB := Lib.hid hq.1
              have HQE := Lib.hid hq.2
              have HLL := Lib.hid hLL
              clear hq hLL
              go_wp2_with fail
              refine (order_OrderAt _ n c D C.di lA lm lc Lo L 0 _ (HL.out.up (by (repeat (first | (with_reducible exact Below.refl _ _) | (with_reducible assumption) | (with_reducible apply bel_alloc) | (with_reducible apply bel_drew) | (with_reducible apply bel_drewN) | (with_reducible refine bel_trans ?_ (by with_reducible assumption)) | (with_reducible refine bel_trans ?_ (HF.out _)) | (with_reducible refine bel_set ?_ (by simp) _) | (with_reducible refine bel_set ?_ (by simp; omega) _) | (with_reducible refine bel_set ?_ (by omega) _))))) (HO.out.up (by (repeat (first | (with_reducible exact Below.refl _ _) | (with_reducible assumption) | (with_reducible apply bel_alloc) | (with_reducible apply bel_drew) | (with_reducible apply bel_drewN) | (with_reducible refine bel_trans ?_ (by with_reducible assumption)) | (with_reducible refine bel_trans ?_ (HF.out _)) | (with_reducible refine bel_set ?_ (by simp) _) | (with_reducible refine bel_set ?_ (by simp; omega) _) | (with_reducible refine bel_set ?_ (by omega) _))))) (by omega) HQB.out HQE.out).mono ?_
              rintro e w5 ⟨v, rfl, hown, hb5⟩
              obtain ⟨xA, xc, rfl, hint, _⟩ := hown.ints (by omega)
              have hcap := hown.cap
              have hB5 := hBka.up hb5
              have hA5 := hBA.up hb5
              have hbk5 : Below wk.heap.size wk w5 := bel_trans (by (repeat (first | (with_reducible exact Below.refl _ _) | (with_reducible assumption) | (with_reducible apply bel_alloc) | (with_reducible apply bel_drew) | (with_reducible apply bel_drewN) | (with_reducible refine bel_trans ?_ (by with_reducible assumption)) | (with_reducible refine bel_trans ?_ (HF.out _)) | (with_reducible refine bel_set ?_ (by simp) _) | (with_reducible refine bel_set ?_ (by simp; omega) _) | (with_reducible refine bel_set ?_ (by omega) _)))) hb5
              have hbw5 : Below w.heap.size w w5 := bel_trans hbwk hbk5
              have HINT := Lib.hid hint
              clear b_0 b_1 b_2 b_3 b_4 c0 c1 c2 c3 c4 c5 hint hown hBka hBA hb5
              have b_0 := (hB5).2 0 _ rfl; have b_1 := (hB5).2 1 _ rfl; have b_2 := (hB5).2 2 _ rfl; have b_3 := (hB5).2 3 _ rfl; have b_4 := (hB5).2 4 _ rfl
              have c_0 := (hA5).2 0 _ rfl; have c_1 := (hA5).2 1 _ rfl; have c_2 := (hA5).2 2 _ rfl; have c_3 := (hA5).2 3 _ rfl; have c_4 := (hA5).2 4 _ rfl; have c_5 := (hA5).2 5 _ rfl
              have hg0 := hB5.1
              have hg1 := hA5.1
              obtain ⟨len, hl⟩ : ∃ len, len = L.length := ⟨_, rfl⟩
              rw [← hl] at HINT hcap hlen ⊢
              have HLEN := Lib.hid hl
              clear hl
              go_wp2_with (go_at_call 34; refine (law17_num _ _).mono ?_; rintro e w' ⟨rfl, rfl⟩)
              cases hd : hasS Lo C.di
              case' false =>
                have hlast := par_last (mayS_iff.1 HM.out) hid HLL.out (by rw [← HCC.out]; exact hd)
                rw [← HCC.out] at hlast
                have hd1 : inS Lo C.di < 0 := by have : decide (0 ≤ inS Lo C.di) = false := hd; simpa using this
                have hd2 : decide (inS Lo C.di < 0) = true := by simpa using hd1
                obtain ⟨m, hm⟩ : ∃ m, len = m + 1 := ⟨len - 1, by have := hlast.1; rw [← HLEN.out] at this; omega⟩
                subst hm
                obtain ⟨xb, xoff, rfl, hxb, hxc⟩ := HINT.out.2.2 (by omega)
                have hxm := hxc m (by omega)
                have hlm2 := hlast.2
                rw [← HLEN.out, Nat.add_sub_cancel] at hlm2
                rw [hlm2] at hxm
                clear hxc hlast hlm2 hd
                refine wp_region_fam (by kernel_rfl) (by kernel_rfl) (fun ι F hne hF hcl => ?_)
                have hcF0 := fun n o => (bcell (hF n)).1 (w.heap.size) o (by first | (simp; done) | (simp; omega) | omega)
                have hcF1 := fun n o => (bcell (hF n)).1 (wk.heap.size) o (by first | (simp; done) | (simp; omega) | omega)
                have hcF2 := fun n o => (bcell (hF n)).1 (xb) o (by first | (simp; done) | (simp; omega) | omega)
                have HF := Lib.hid hF; clear hF
                have HC := Lib.hid hcl; clear hcl
                repeat (any_goals (first
                 | go_big_quiet_step (first | (go_at_call 34; exact Calls.fam_same (law17_num _ _)) | (go_at_call 28; exact Calls.fam_same (ref0_In _ _ _ Lo C.di _ (HO.out.up (by (repeat (first | (with_reducible exact Below.refl _ _) | (with_reducible assumption) | (with_reducible apply bel_alloc) | (with_reducible apply bel_drew) | (with_reducible apply bel_drewN) | (with_reducible refine bel_trans ?_ (by with_reducible assumption)) | (with_reducible refine bel_trans ?_ (HF.out _)) | (with_reducible refine bel_set ?_ (by simp) _) | (with_reducible refine bel_set ?_ (by simp; omega) _) | (with_reducible refine bel_set ?_ (by omega) _))))))))
                 | (refine wpQuiet_guard _ _ _ rfl rfl ?_; (fail_if_success (intro b' hb; have h2 := hb.symm; have : b' = true := h2.trans (by with_reducible rfl))); (fail_if_success (intro b' hb; have h2 := hb.symm; have : b' = false := h2.trans (by with_reducible rfl))); intro b' hb; simp only [hb]; cases b' <;> (try simp only [Bool.not_eq_true', Bool.not_eq_false', decide_eq_true_eq, decide_eq_false_iff_not, Int.not_lt, Int.not_le, Bool.and_eq_true, Bool.or_eq_true, Bool.or_eq_false_iff, beq_iff_eq, beq_eq_false_iff_ne, Int.natCast_pos] at hb))))
                all_goals (refine wpQuiet_nil ?_; intro nq)
                have hFwf := HF.out nq
                clear HF HC hne
                generalize F nq = wf at *
                clear hcF0 hcF1 hcF2 hxm
                obtain ⟨len, hlx⟩ : ∃ len, len = m + 1 := ⟨_, rfl⟩
                rw [← hlx] at HINT hcap hlen HLEN ⊢
                clear hlx
              case' true =>
                have hd1 : ¬ inS Lo C.di < 0 := by have : decide (0 ≤ inS Lo C.di) = true := hd; have h2 := of_decide_eq_true this; omega
                have hd2 : decide (inS Lo C.di < 0) = false := by simpa using hd1
                rcases Nat.eq_zero_or_pos len with hz | hz
                case inl =>
                  subst hz
                  clear hd
                  refine wp_region_fam (by kernel_rfl) (by kernel_rfl) (fun ι F hne hF hcl => ?_)
                  have hcF0 := fun n o => (bcell (hF n)).1 (w.heap.size) o (by first | (simp; done) | (simp; omega) | omega)
                  have hcF1 := fun n o => (bcell (hF n)).1 (wk.heap.size) o (by first | (simp; done) | (simp; omega) | omega)
                  have HF := Lib.hid hF; clear hF
                  have HC := Lib.hid hcl; clear hcl
                  repeat (any_goals (first
                   | go_big_quiet_step (first | (go_at_call 34; exact Calls.fam_same (law17_num _ _)) | (go_at_call 28; exact Calls.fam_same (ref0_In _ _ _ Lo C.di _ (HO.out.up (by (repeat (first | (with_reducible exact Below.refl _ _) | (with_reducible assumption) | (with_reducible apply bel_alloc) | (with_reducible apply bel_drew) | (with_reducible apply bel_drewN) | (with_reducible refine bel_trans ?_ (by with_reducible assumption)) | (with_reducible refine bel_trans ?_ (HF.out _)) | (with_reducible refine bel_set ?_ (by simp) _) | (with_reducible refine bel_set ?_ (by simp; omega) _) | (with_reducible refine bel_set ?_ (by omega) _))))))))
                   | (refine wpQuiet_guard _ _ _ rfl rfl ?_; (fail_if_success (intro b' hb; have h2 := hb.symm; have : b' = true := h2.trans (by with_reducible rfl))); (fail_if_success (intro b' hb; have h2 := hb.symm; have : b' = false := h2.trans (by with_reducible rfl))); intro b' hb; simp only [hb]; cases b' <;> (try simp only [Bool.not_eq_true', Bool.not_eq_false', decide_eq_true_eq, decide_eq_false_iff_not, Int.not_lt, Int.not_le, Bool.and_eq_true, Bool.or_eq_true, Bool.or_eq_false_iff, beq_iff_eq, beq_eq_false_iff_ne, Int.natCast_pos] at hb))))
                  all_goals (refine wpQuiet_nil ?_; intro nq)
                  have hFwf := HF.out nq
                  clear HF HC hne
                  generalize F nq = wf at *
                  clear hcF0 hcF1 b_0 b_1 b_2 b_3 b_4 c_0 c_1 c_2 c_3 c_4 c_5
                  go_wp2_with fail
                  go_loopw [7] (fun ix wr => ix = .int .i64 0 ∧ Below wf.heap.size wf wr) (fun ix _ => 0)
                  case atStart => exact ⟨rfl, Below.refl _ _⟩
                  case round =>
                    obtain ⟨rfl, hbx⟩ := hrel
                    (obtain ⟨wg, hwg⟩ : ∃ x, x = wr := ⟨_, rfl⟩); subst hwg
                    go_wp2_with fail
                    (first | (go_round; (case rel => exact ⟨i + 1, by omega, by go_num, bel_trans hby (bel_trans (bel_trans hbk5 hFwf) hbx)⟩); (case measure => (simp [intOf] <;> omega))) | (go_roundw; (case rel => exact ⟨i + 1, by omega, by go_num, bel_trans hby (bel_trans (bel_trans hbk5 hFwf) hbx)⟩); (case measure => (simp [intOf] <;> omega))) | (refine ⟨?_, by simp [intOf] <;> omega⟩; (repeat apply Exists.intro); refine ⟨?rel, ?fr⟩; (case fr => ((repeat' apply And.intro) <;> rfl)); (case rel => exact ⟨i + 1, by omega, by go_num, bel_trans hby (bel_trans (bel_trans hbk5 hFwf) hbx)⟩)))
                case' inr =>
                  have hlast := par_not (mayS_iff.1 HM.out) hid HLL.out (by rw [← HCC.out]; exact hd) (by rw [← HLEN.out]; exact hz)
                  rw [← HCC.out] at hlast
                  obtain ⟨m, hm⟩ : ∃ m, len = m + 1 := ⟨len - 1, by omega⟩
                  subst hm
                  obtain ⟨xb, xoff, rfl, hxb, hxc⟩ := HINT.out.2.2 (by omega)
                  have hxm := hxc m (by omega)
                  rw [← HLEN.out, Nat.add_sub_cancel] at hlast
                  obtain ⟨zz, hzz⟩ : ∃ zz, zz = nth L m := ⟨_, rfl⟩
                  rw [← hzz] at hxm hlast
                  have hzb : (zz == C.di) = false := by simpa using hlast
                  clear hxc hzz hd hz
                  refine wp_region_fam (by kernel_rfl) (by kernel_rfl) (fun ι F hne hF hcl => ?_)
                  have hcF0 := fun n o => (bcell (hF n)).1 (w.heap.size) o (by first | (simp; done) | (simp; omega) | omega)
                  have hcF1 := fun n o => (bcell (hF n)).1 (wk.heap.size) o (by first | (simp; done) | (simp; omega) | omega)
                  have hcF2 := fun n o => (bcell (hF n)).1 (xb) o (by first | (simp; done) | (simp; omega) | omega)
                  have HF := Lib.hid hF; clear hF
                  have HC := Lib.hid hcl; clear hcl
                  repeat (any_goals (first
                   | go_big_quiet_step (first | (go_at_call 34; exact Calls.fam_same (law17_num _ _)) | (go_at_call 28; exact Calls.fam_same (ref0_In _ _ _ Lo C.di _ (HO.out.up (by (repeat (first | (with_reducible exact Below.refl _ _) | (with_reducible assumption) | (with_reducible apply bel_alloc) | (with_reducible apply bel_drew) | (with_reducible apply bel_drewN) | (with_reducible refine bel_trans ?_ (by with_reducible assumption)) | (with_reducible refine bel_trans ?_ (HF.out _)) | (with_reducible refine bel_set ?_ (by simp) _) | (with_reducible refine bel_set ?_ (by simp; omega) _) | (with_reducible refine bel_set ?_ (by omega) _))))))))
                   | (refine wpQuiet_guard _ _ _ rfl rfl ?_; (fail_if_success (intro b' hb; have h2 := hb.symm; have : b' = true := h2.trans (by with_reducible rfl))); (fail_if_success (intro b' hb; have h2 := hb.symm; have : b' = false := h2.trans (by with_reducible rfl))); intro b' hb; simp only [hb]; cases b' <;> (try simp only [Bool.not_eq_true', Bool.not_eq_false', decide_eq_true_eq, decide_eq_false_iff_not, Int.not_lt, Int.not_le, Bool.and_eq_true, Bool.or_eq_true, Bool.or_eq_false_iff, beq_iff_eq, beq_eq_false_iff_ne, Int.natCast_pos] at hb))))
                  all_goals (refine wpQuiet_nil ?_; intro nq)
                  have hFwf := HF.out nq
                  clear HF HC hne
                  generalize F nq = wf at *
                  clear hcF0 hcF1 hcF2 hxm
                  obtain ⟨len, hlx⟩ : ∃ len, len = m + 1 := ⟨_, rfl⟩
                  rw [← hlx] at HINT hcap hlen HLEN ⊢
                  clear hlx
              all_goals
                have hBf := hB5.up hFwf
                have hAf := hA5.up hFwf
                have hbkf : Below wk.heap.size wk wf := bel_trans hbk5 hFwf
                clear b_0 b_1 b_2 b_3 b_4 c_0 c_1 c_2 c_3 c_4 c_5
                go_wp2_with fail
                go_loopw [7] (fun ix wr => ∃ k : Nat, k ≤ len ∧ ix = .int .i64 k ∧ Below wf.heap.size wf wr) (fun ix _ => len - (intOf ix).toNat)
                case atStart => exact ⟨0, Nat.zero_le _, rfl, Below.refl _ _⟩
                case round =>
                  obtain ⟨k, hk, rfl, hbx⟩ := hrel
                  (obtain ⟨wg, hwg⟩ : ∃ x, x = wr := ⟨_, rfl⟩); subst hwg
                  have hBg := hBf.up hbx
                  have hAg := hAf.up hbx
                  have hbwg : Below w.heap.size w wg := bel_trans hbwk (bel_trans hbkf hbx)
                  have b_0 := (hBg).2 0 _ rfl; have b_1 := (hBg).2 1 _ rfl; have b_2 := (hBg).2 2 _ rfl; have b_3 := (hBg).2 3 _ rfl; have b_4 := (hBg).2 4 _ rfl
                  have c_0 := (hAg).2 0 _ rfl; have c_1 := (hAg).2 1 _ rfl; have c_2 := (hAg).2 2 _ rfl; have c_3 := (hAg).2 3 _ rfl; have c_4 := (hAg).2 4 _ rfl; have c_5 := (hAg).2 5 _ rfl
                  have hg2 := hBg.1
                  have hg3 := hAg.1
                  by_cases hklt : k < len
                  · have hok := mayS_iff.1 HM.out
                    have hkL : k < L.length := by rw [← HLEN.out]; exact hklt
                    obtain ⟨j, hj, ej, fj, dj, nj⟩ := par_mem hok HLL.out hkL
                    have EK := Lib.hid ej
                    have hon := par_once hok HLL.out hkL
                    obtain ⟨xb2, xoff2, exb, hxb, hxc⟩ := (HINT.out.up (bel_trans hFwf hbx)).2.2 (by omega)
                    injection exb with exb; injection exb with ex1 ex2 ex3
                    subst ex1; subst ex2; clear ex3
                    have hxk := hxc k hklt
                    obtain ⟨z, hzz⟩ : ∃ z, z = nth L k := ⟨_, rfl⟩
                    rw [← hzz] at hxk fj nj hon ej
                    have FJ := Lib.hid fj
                    have EJ := Lib.hid ej
                    have NJ := Lib.hid (inS_neg nj)
                    have ON := Lib.hid (inS_neg hon)
                    have hkc : k ≤ xc := by omega
                    have hjn : j < n := by rw [← HN.out]; exact hj
                    clear hxc hzz hok fj nj hon ej
                    go_wp2_with fail
                    refine wp_region_fam (by kernel_rfl) (by kernel_rfl) (fun ι F hne hF hcl => ?_)
                    have hcF0 := fun n o => (bcell (hF n)).1 (w.heap.size) o (by first | (simp; done) | (simp; omega) | omega)
                    have hcF1 := fun n o => (bcell (hF n)).1 (xb) o (by first | (simp; done) | (simp; omega) | omega)
                    have HF := Lib.hid hF; clear hF
                    have HC := Lib.hid hcl; clear hcl
                    repeat (any_goals (first
                     | go_big_quiet_step (first | (go_at_call 17; exact Calls.fam HC.out (ref14_FindAt' _ _ _ D.certs _ _ _ (j : Int) _ (HL.out.up (by (repeat (first | (with_reducible exact Below.refl _ _) | (with_reducible assumption) | (with_reducible apply bel_alloc) | (with_reducible apply bel_drew) | (with_reducible apply bel_drewN) | (with_reducible refine bel_trans ?_ (by with_reducible assumption)) | (with_reducible refine bel_trans ?_ (HF.out _)) | (with_reducible refine bel_set ?_ (by simp) _) | (with_reducible refine bel_set ?_ (by simp; omega) _) | (with_reducible refine bel_set ?_ (by omega) _))))) FJ.out)))
                     | (refine wpQuiet_guard _ _ _ rfl rfl ?_; (fail_if_success (intro b' hb; have h2 := hb.symm; have : b' = true := h2.trans (by with_reducible rfl))); (fail_if_success (intro b' hb; have h2 := hb.symm; have : b' = false := h2.trans (by with_reducible rfl))); intro b' hb; simp only [hb]; cases b' <;> (try simp only [Bool.not_eq_true', Bool.not_eq_false', decide_eq_true_eq, decide_eq_false_iff_not, Int.not_lt, Int.not_le, Bool.and_eq_true, Bool.or_eq_true, Bool.or_eq_false_iff, beq_iff_eq, beq_eq_false_iff_ne, Int.natCast_pos] at hb))))
                    all_goals (refine wpQuiet_nil ?_; intro nq)
                    have hFwh := HF.out nq
                    clear HF HC hne
                    generalize F nq = wh at *
                    clear hcF0 hcF1 b_0 b_1 b_2 b_3 b_4 c_0 c_1 c_2 c_3 c_4 c_5
                    have hBh := hBg.up hFwh
                    have hAh := hAg.up hFwh
                    have hbwh : Below w.heap.size w wh := bel_trans hbwg hFwh
                    have hxk2 : wh.cell? ⟨xb, xoff + k, none⟩ = some (.int .i64 z) := (hFwh.cell (p := ⟨xb, xoff + k, none⟩) hxb).trans hxk
                    have hxb2 : xb < wh.heap.size := Nat.lt_of_lt_of_le hxb hFwh.size
                    have b_0 := (hBh).2 0 _ rfl; have b_1 := (hBh).2 1 _ rfl; have b_2 := (hBh).2 2 _ rfl; have b_3 := (hBh).2 3 _ rfl; have b_4 := (hBh).2 4 _ rfl
                    have hg4 := hBh.1
                    have hj0 : decide ((j : Int) < 0) = false := by rw [decide_eq_false_iff_not]; omega
                    have hw5h : Below w5.heap.size w5 wh := bel_trans (bel_trans hFwf hbx) hFwh
                    clear hxk
                    go_wp2_with fail
                    refine wp_region_fam (by kernel_rfl) (by kernel_rfl) (fun ι F hne hF hcl => ?_)
                    have hcF0 := fun n o => (bcell (hF n)).1 (w.heap.size) o (by first | (simp; done) | (simp; omega) | omega)
                    have hcF1 := fun n o => (bcell (hF n)).1 (xb) o (by first | (simp; done) | (simp; omega) | omega)
                    have HF := Lib.hid hF; clear hF
                    have HC := Lib.hid hcl; clear hcl
                    repeat (any_goals (first
                     | go_big_quiet_step (first | (go_at_call 28; exact Calls.fam_same (ref0_InAt _ _ _ (L.take k) z (-1) _ ((HINT.out.taken hk).up (by (repeat (first | (with_reducible exact Below.refl _ _) | (with_reducible assumption) | (with_reducible apply bel_alloc) | (with_reducible apply bel_drew) | (with_reducible apply bel_drewN) | (with_reducible refine bel_trans ?_ (by with_reducible assumption)) | (with_reducible refine bel_trans ?_ (HF.out _)) | (with_reducible refine bel_set ?_ (by simp) _) | (with_reducible refine bel_set ?_ (by simp; omega) _) | (with_reducible refine bel_set ?_ (by omega) _))))) ON.out)) | (go_at_call 28; exact Calls.fam_same (ref0_InAt _ _ _ Lo z (-1) _ (HO.out.up (by (repeat (first | (with_reducible exact Below.refl _ _) | (with_reducible assumption) | (with_reducible apply bel_alloc) | (with_reducible apply bel_drew) | (with_reducible apply bel_drewN) | (with_reducible refine bel_trans ?_ (by with_reducible assumption)) | (with_reducible refine bel_trans ?_ (HF.out _)) | (with_reducible refine bel_set ?_ (by simp) _) | (with_reducible refine bel_set ?_ (by simp; omega) _) | (with_reducible refine bel_set ?_ (by omega) _))))) NJ.out)))
                     | (refine wpQuiet_guard _ _ _ rfl rfl ?_; (fail_if_success (intro b' hb; have h2 := hb.symm; have : b' = true := h2.trans (by with_reducible rfl))); (fail_if_success (intro b' hb; have h2 := hb.symm; have : b' = false := h2.trans (by with_reducible rfl))); intro b' hb; simp only [hb]; cases b' <;> (try simp only [Bool.not_eq_true', Bool.not_eq_false', decide_eq_true_eq, decide_eq_false_iff_not, Int.not_lt, Int.not_le, Bool.and_eq_true, Bool.or_eq_true, Bool.or_eq_false_iff, beq_iff_eq, beq_eq_false_iff_ne, Int.natCast_pos] at hb))))
                    all_goals (refine wpQuiet_nil ?_; intro nq)
                    all_goals (try (exfalso; omega))
                    have hFwi := HF.out nq
                    clear HF HC hne
                    generalize F nq = wi at *
                    clear hcF0 hcF1 b_0 b_1 b_2 b_3 b_4
                    have hBi := hBh.up hFwi
                    have hAi := hAh.up hFwi
                    have hbwi : Below w.heap.size w wi := bel_trans hbwh hFwi
                    have hbgi : Below wg.heap.size wg wi := bel_trans hFwh hFwi
                    have b_0 := (hBi).2 0 _ rfl; have b_1 := (hBi).2 1 _ rfl; have b_2 := (hBi).2 2 _ rfl; have b_3 := (hBi).2 3 _ rfl; have b_4 := (hBi).2 4 _ rfl
                    have c_0 := (hAi).2 0 _ rfl; have c_1 := (hAi).2 1 _ rfl; have c_2 := (hAi).2 2 _ rfl; have c_3 := (hAi).2 3 _ rfl; have c_4 := (hAi).2 4 _ rfl; have c_5 := (hAi).2 5 _ rfl
                    have hg5 := hBi.1
                    have hg6 := hAi.1
                    obtain ⟨b2, off2, eb, hb', hcc⟩ := HL.out.2.2 (by omega)
                    injection eb with eb; injection eb with eb1 eb2 eb3
                    subst eb1; subst eb2; clear eb3
                    obtain ⟨pj, hat, hcr⟩ := hcc j hjn
                    obtain ⟨Cj, hCj⟩ : ∃ Cj, Cj = cth D.certs j := ⟨_, rfl⟩
                    rw [← hCj] at hat hcr dj EJ
                    obtain ⟨d0, d1, d2, d3, d4, d5⟩ := hat.up hbwi hb'
                    have hpa : IntsR wi pj.h.p.A pj.h.p.n Cj.h.pa := hcr.1.2.up hbwi
                    have HPA := Lib.hid hpa
                    have hdeep : C.h.ro - 8 ≤ deep D.certs i := by rw [HCC.out]; unfold deep; split <;> omega
                    have hro := (mayS_ro HM.out (k := i) hid)
                    rw [← HCC.out] at hro
                    have hro1 : 1 ≤ C.h.ro := hro.1
                    have hro2 : C.h.ro ≤ 1099511627776 := hro.2
                    have hrd : ¬ Cj.h.ro ≤ C.h.ro - 8 := by omega
                    have hroj := (mayS_ro HM.out (k := j) hj)
                    rw [← hCj] at hroj
                    have hrj1 : 1 ≤ Cj.h.ro := hroj.1
                    have hrj2 : Cj.h.ro ≤ 1099511627776 := hroj.2
                    have HCJ := Lib.hid hCj
                    clear hcc hat hcr hpa hro hroj hCj
                    generalize pj.h.p.A = pA at *
                    generalize pj.h.p.n = pn at *
                    generalize pj.h.p.c = pc at *
                    have hH : BoxR (wi.alloc (.cells #[.int .i64 Cj.h.au, .int .i64 Cj.h.ro, .slice pj.h.b.A pj.h.b.n pj.h.b.c, .slice pA pn pc] 47)) wi.heap.size [.int .i64 Cj.h.au, .int .i64 Cj.h.ro, .slice pj.h.b.A pj.h.b.n pj.h.b.c, .slice pA pn pc] := BoxR.new wi [.int .i64 Cj.h.au, .int .i64 Cj.h.ro, .slice pj.h.b.A pj.h.b.n pj.h.b.c, .slice pA pn pc] 47
                    clear d4 d5 hxk2
                    go_wp2_with fail
                    clear b_0 b_1 b_2 b_3 b_4 c_0 c_1 c_2 c_3 c_4 c_5 d0 d1 d2 d3
                    go_loopw [10] (fun ix wr => ∃ m : Nat, m ≤ pn ∧ ix = .int .i64 m ∧ Below wi.heap.size wi wr ∧ BoxR wr wi.heap.size [.int .i64 Cj.h.au, .int .i64 Cj.h.ro, .slice pj.h.b.A pj.h.b.n pj.h.b.c, .slice pA pn pc]) (fun ix _ => pn - (intOf ix).toNat)
                    case atStart => exact ⟨0, Nat.zero_le _, rfl, by (repeat (first | (with_reducible exact Below.refl _ _) | (with_reducible assumption) | (with_reducible apply bel_alloc) | (with_reducible apply bel_drew) | (with_reducible apply bel_drewN) | (with_reducible refine bel_trans ?_ (by with_reducible assumption)) | (with_reducible refine bel_trans ?_ (HF.out _)) | (with_reducible refine bel_set ?_ (by simp) _) | (with_reducible refine bel_set ?_ (by simp; omega) _) | (with_reducible refine bel_set ?_ (by omega) _))), hH⟩
                    case round =>
                      clear hH
                      obtain ⟨m, hmm, rfl, hbm, hHm⟩ := hrel
                      (obtain ⟨wm, hwm⟩ : ∃ x, x = wr := ⟨_, rfl⟩); subst hwm
                      have hBm := hBi.up hbm
                      have b_0 := (hBm).2 0 _ rfl; have b_1 := (hBm).2 1 _ rfl; have b_2 := (hBm).2 2 _ rfl; have b_3 := (hBm).2 3 _ rfl; have b_4 := (hBm).2 4 _ rfl
                      have h_0 := (hHm).2 0 _ rfl; have h_1 := (hHm).2 1 _ rfl; have h_2 := (hHm).2 2 _ rfl; have h_3 := (hHm).2 3 _ rfl
                      by_cases hml : m < pn
                      · obtain ⟨pb, poff, rfl, hpb, hpc⟩ := (HPA.out.up hbm).2.2 (by omega)
                        have hpn : pn ≤ 9223372036854775807 := HPA.out.2.1
                        have hxm := hpc m hml
                        obtain ⟨x, hx⟩ : ∃ x, x = nth Cj.h.pa m := ⟨_, rfl⟩
                        rw [← hx] at hxm
                        have hkx : k ≠ xc := by omega
                        have HDR := Lib.hid (HINT.out.dropped hklt)
                        have hw5m : Below w5.heap.size w5 wm := bel_trans (bel_trans hw5h hFwi) hbm
                        have hbwm : Below w.heap.size w wm := bel_trans hbwi hbm
                        have hgm0 := hBm.1
                        have hgm1 := hHm.1
                        clear hpc hx
                        rcases hs : hasS (L.drop k) x with _ | _
                        · have HI := Lib.hid (inS_neg hs)
                          clear hs
                          go_wp2_with fail
                          refine wp_region_fam (by kernel_rfl) (by kernel_rfl) (fun ι F hne hF hcl => ?_)
                          have hcF0 := fun n o => (bcell (hF n)).1 (w.heap.size) o (by first | (simp; done) | (simp; omega) | omega)
                          have hcF1 := fun n o => (bcell (hF n)).1 (wi.heap.size) o (by first | (simp; done) | (simp; omega) | omega)
                          have hcF2 := fun n o => (bcell (hF n)).1 (pb) o (by first | (simp; done) | (simp; omega) | omega)
                          have HF := Lib.hid hF; clear hF
                          have HC := Lib.hid hcl; clear hcl
                          repeat (any_goals (first
                           | go_big_quiet_step (first | (go_at_call 28; exact Calls.fam_same (ref0_InAt _ _ _ (L.drop k) x (-1) _ (HDR.out.up (by (repeat (first | (with_reducible exact Below.refl _ _) | (with_reducible assumption) | (with_reducible apply bel_alloc) | (with_reducible apply bel_drew) | (with_reducible apply bel_drewN) | (with_reducible refine bel_trans ?_ (by with_reducible assumption)) | (with_reducible refine bel_trans ?_ (HF.out _)) | (with_reducible refine bel_set ?_ (by simp) _) | (with_reducible refine bel_set ?_ (by simp; omega) _) | (with_reducible refine bel_set ?_ (by omega) _))))) HI.out)))
                           | (refine wpQuiet_guard _ _ _ rfl rfl ?_; (fail_if_success (intro b' hb; have h2 := hb.symm; have : b' = true := h2.trans (by with_reducible rfl))); (fail_if_success (intro b' hb; have h2 := hb.symm; have : b' = false := h2.trans (by with_reducible rfl))); intro b' hb; simp only [hb]; cases b' <;> (try simp only [Bool.not_eq_true', Bool.not_eq_false', decide_eq_true_eq, decide_eq_false_iff_not, Int.not_lt, Int.not_le, Bool.and_eq_true, Bool.or_eq_true, Bool.or_eq_false_iff, beq_iff_eq, beq_eq_false_iff_ne, Int.natCast_pos] at hb))))
                          all_goals (refine wpQuiet_nil ?_; intro nq)
                          all_goals (try (exfalso; omega))
                          have hFwj := HF.out nq
                          clear HF HC hne
                          generalize F nq = wj at *
                          clear hcF0 hcF1 hcF2
                          have hHj := hHm.up hFwj
                          clear b_0 b_1 b_2 b_3 b_4 h_0 h_1 h_2 h_3 hxm
                          go_wp2_with fail
                          (first | (go_round; (case rel => exact ⟨m + 1, by omega, by go_num, bel_trans hbm hFwj, hHj⟩); (case measure => (simp [intOf] <;> omega))) | (go_roundw; (case rel => exact ⟨m + 1, by omega, by go_num, bel_trans hbm hFwj, hHj⟩); (case measure => (simp [intOf] <;> omega))) | (refine ⟨?_, by simp [intOf] <;> omega⟩; (repeat apply Exists.intro); refine ⟨?rel, ?fr⟩; (case fr => ((repeat' apply And.intro) <;> rfl)); (case rel => exact ⟨m + 1, by omega, by go_num, bel_trans hbm hFwj, hHj⟩)))
                        · obtain ⟨t, ht⟩ : ∃ t : Nat, inS (L.drop k) x = (t : Int) := ⟨(inS (L.drop k) x).toNat, by have := of_decide_eq_true hs; omega⟩
                          have ht0 : decide (0 ≤ (t : Int)) = true := by simp
                          have HI := Lib.hid ht
                          have HSX := Lib.hid hs
                          clear ht hs
                          rcases findS_cases D.certs x with ⟨hf, _⟩ | ⟨q, hq, hf, _, _⟩
                          · have HFX := Lib.hid hf
                            clear hf
                            go_wp2_with fail
                            refine wp_region_fam (by kernel_rfl) (by kernel_rfl) (fun ι F hne hF hcl => ?_)
                            have hcF0 := fun n o => (bcell (hF n)).1 (w.heap.size) o (by first | (simp; done) | (simp; omega) | omega)
                            have hcF1 := fun n o => (bcell (hF n)).1 (wi.heap.size) o (by first | (simp; done) | (simp; omega) | omega)
                            have hcF2 := fun n o => (bcell (hF n)).1 (pb) o (by first | (simp; done) | (simp; omega) | omega)
                            have HF := Lib.hid hF; clear hF
                            have HC := Lib.hid hcl; clear hcl
                            repeat (any_goals (first
                             | go_big_quiet_step (first | (go_at_call 28; exact Calls.fam_same (ref0_InAt _ _ _ (L.drop k) x (t : Int) _ (HDR.out.up (by (repeat (first | (with_reducible exact Below.refl _ _) | (with_reducible assumption) | (with_reducible apply bel_alloc) | (with_reducible apply bel_drew) | (with_reducible apply bel_drewN) | (with_reducible refine bel_trans ?_ (by with_reducible assumption)) | (with_reducible refine bel_trans ?_ (HF.out _)) | (with_reducible refine bel_set ?_ (by simp) _) | (with_reducible refine bel_set ?_ (by simp; omega) _) | (with_reducible refine bel_set ?_ (by omega) _))))) HI.out)) | (go_at_call 17; exact Calls.fam HC.out (ref14_FindAt' _ _ _ D.certs _ _ _ (-1) _ (HL.out.up (by (repeat (first | (with_reducible exact Below.refl _ _) | (with_reducible assumption) | (with_reducible apply bel_alloc) | (with_reducible apply bel_drew) | (with_reducible apply bel_drewN) | (with_reducible refine bel_trans ?_ (by with_reducible assumption)) | (with_reducible refine bel_trans ?_ (HF.out _)) | (with_reducible refine bel_set ?_ (by simp) _) | (with_reducible refine bel_set ?_ (by simp; omega) _) | (with_reducible refine bel_set ?_ (by omega) _))))) HFX.out)))
                             | (refine wpQuiet_guard _ _ _ rfl rfl ?_; (fail_if_success (intro b' hb; have h2 := hb.symm; have : b' = true := h2.trans (by with_reducible rfl))); (fail_if_success (intro b' hb; have h2 := hb.symm; have : b' = false := h2.trans (by with_reducible rfl))); intro b' hb; simp only [hb]; cases b' <;> (try simp only [Bool.not_eq_true', Bool.not_eq_false', decide_eq_true_eq, decide_eq_false_iff_not, Int.not_lt, Int.not_le, Bool.and_eq_true, Bool.or_eq_true, Bool.or_eq_false_iff, beq_iff_eq, beq_eq_false_iff_ne, Int.natCast_pos] at hb))))
                            all_goals (refine wpQuiet_nil ?_; intro nq)
                            all_goals (try (exfalso; omega))
                            have hFwj := HF.out nq
                            clear HF HC hne
                            generalize F nq = wj at *
                            clear hcF0 hcF1 hcF2
                            have hHj := hHm.up hFwj
                            clear b_0 b_1 b_2 b_3 b_4 h_0 h_1 h_2 h_3 hxm
                            go_wp2_with fail
                            (first | (go_round; (case rel => exact ⟨m + 1, by omega, by go_num, bel_trans hbm hFwj, hHj⟩); (case measure => (simp [intOf] <;> omega))) | (go_roundw; (case rel => exact ⟨m + 1, by omega, by go_num, bel_trans hbm hFwj, hHj⟩); (case measure => (simp [intOf] <;> omega))) | (refine ⟨?_, by simp [intOf] <;> omega⟩; (repeat apply Exists.intro); refine ⟨?rel, ?fr⟩; (case fr => ((repeat' apply And.intro) <;> rfl)); (case rel => exact ⟨m + 1, by omega, by go_num, bel_trans hbm hFwj, hHj⟩)))
                          · have hbeh := par_behind (mayS_iff.1 HM.out) HLL.out hkL hj EK.out HSX.out hq hf
                            obtain ⟨b4, off4, eb, hb4, hcc4⟩ := HL.out.2.2 (by omega)
                            injection eb with eb; injection eb with eb1 eb2 eb3
                            subst eb1; subst eb2; clear eb3
                            obtain ⟨pq, hatq, _⟩ := hcc4 q (by rw [← HN.out]; exact hq)
                            obtain ⟨_, q1, _, _, _, _⟩ := hatq.up hbwm hb4
                            obtain ⟨roq, hroq⟩ : ∃ r, r = (cth D.certs q).h.ro := ⟨_, rfl⟩
                            rw [← hroq] at q1 hbeh
                            rw [← HCJ.out] at hbeh
                            have hqe : (roq == Cj.h.ro - 1) = false := by simp; omega
                            have hbm2 : b < wm.heap.size := Nat.lt_of_lt_of_le hb4 hbwm.size
                            have hqn : q < n := by rw [← HN.out]; exact hq
                            have hq0 : decide (0 ≤ (q : Int)) = true := by simp
                            have HFX := Lib.hid hf
                            clear hf hcc4 hatq hroq hq
                            go_wp2_with fail
                            refine wp_region_fam (by kernel_rfl) (by kernel_rfl) (fun ι F hne hF hcl => ?_)
                            have hcF0 := fun n o => (bcell (hF n)).1 (w.heap.size) o (by first | (simp; done) | (simp; omega) | omega)
                            have hcF1 := fun n o => (bcell (hF n)).1 (wi.heap.size) o (by first | (simp; done) | (simp; omega) | omega)
                            have hcF2 := fun n o => (bcell (hF n)).1 (pb) o (by first | (simp; done) | (simp; omega) | omega)
                            have hcF3 := fun n o => (bcell (hF n)).1 (b) o (by first | (simp; done) | (simp; omega) | omega)
                            have HF := Lib.hid hF; clear hF
                            have HC := Lib.hid hcl; clear hcl
                            repeat (any_goals (first
                             | go_big_quiet_step (first | (go_at_call 28; exact Calls.fam_same (ref0_InAt _ _ _ (L.drop k) x (t : Int) _ (HDR.out.up (by (repeat (first | (with_reducible exact Below.refl _ _) | (with_reducible assumption) | (with_reducible apply bel_alloc) | (with_reducible apply bel_drew) | (with_reducible apply bel_drewN) | (with_reducible refine bel_trans ?_ (by with_reducible assumption)) | (with_reducible refine bel_trans ?_ (HF.out _)) | (with_reducible refine bel_set ?_ (by simp) _) | (with_reducible refine bel_set ?_ (by simp; omega) _) | (with_reducible refine bel_set ?_ (by omega) _))))) HI.out)) | (go_at_call 17; exact Calls.fam HC.out (ref14_FindAt' _ _ _ D.certs _ _ _ (q : Int) _ (HL.out.up (by (repeat (first | (with_reducible exact Below.refl _ _) | (with_reducible assumption) | (with_reducible apply bel_alloc) | (with_reducible apply bel_drew) | (with_reducible apply bel_drewN) | (with_reducible refine bel_trans ?_ (by with_reducible assumption)) | (with_reducible refine bel_trans ?_ (HF.out _)) | (with_reducible refine bel_set ?_ (by simp) _) | (with_reducible refine bel_set ?_ (by simp; omega) _) | (with_reducible refine bel_set ?_ (by omega) _))))) HFX.out)))
                             | (refine wpQuiet_guard _ _ _ rfl rfl ?_; (fail_if_success (intro b' hb; have h2 := hb.symm; have : b' = true := h2.trans (by with_reducible rfl))); (fail_if_success (intro b' hb; have h2 := hb.symm; have : b' = false := h2.trans (by with_reducible rfl))); intro b' hb; simp only [hb]; cases b' <;> (try simp only [Bool.not_eq_true', Bool.not_eq_false', decide_eq_true_eq, decide_eq_false_iff_not, Int.not_lt, Int.not_le, Bool.and_eq_true, Bool.or_eq_true, Bool.or_eq_false_iff, beq_iff_eq, beq_eq_false_iff_ne, Int.natCast_pos] at hb))))
                            all_goals (refine wpQuiet_nil ?_; intro nq)
                            all_goals (try (exfalso; omega))
                            have hFwj := HF.out nq
                            clear HF HC hne
                            generalize F nq = wj at *
                            clear hcF0 hcF1 hcF2 hcF3
                            have hHj := hHm.up hFwj
                            clear b_0 b_1 b_2 b_3 b_4 h_0 h_1 h_2 h_3 hxm
                            go_wp2_with fail
                            (first | (go_round; (case rel => exact ⟨m + 1, by omega, by go_num, bel_trans hbm hFwj, hHj⟩); (case measure => (simp [intOf] <;> omega))) | (go_roundw; (case rel => exact ⟨m + 1, by omega, by go_num, bel_trans hbm hFwj, hHj⟩); (case measure => (simp [intOf] <;> omega))) | (refine ⟨?_, by simp [intOf] <;> omega⟩; (repeat apply Exists.intro); refine ⟨?rel, ?fr⟩; (case fr => ((repeat' apply And.intro) <;> rfl)); (case rel => exact ⟨m + 1, by omega, by go_num, bel_trans hbm hFwj, hHj⟩)))
                      · go_wp2_with fail
                        (first | (go_round; (case rel => exact ⟨k + 1, by omega, by go_num, bel_trans (bel_trans hbx hbgi) hbm⟩); (case measure => (simp [intOf] <;> omega))) | (go_roundw; (case rel => exact ⟨k + 1, by omega, by go_num, bel_trans (bel_trans hbx hbgi) hbm⟩); (case measure => (simp [intOf] <;> omega))) | (refine ⟨?_, by simp [intOf] <;> omega⟩; (repeat apply Exists.intro); refine ⟨?rel, ?fr⟩; (case fr => ((repeat' apply And.intro) <;> rfl)); (case rel => exact ⟨k + 1, by omega, by go_num, bel_trans (bel_trans hbx hbgi) hbm⟩)))
                  · go_wp2_with fail
                    (first | (go_round; (case rel => exact ⟨i + 1, by omega, by go_num, bel_trans hby (bel_trans hbkf hbx)⟩); (case measure => (simp [intOf] <;> omega))) | (go_roundw; (case rel => exact ⟨i + 1, by omega, by go_num, bel_trans hby (bel_trans hbkf hbx)⟩); (case measure => (simp [intOf] <;> omega))) | (refine ⟨?_, by simp [intOf] <;> omega⟩; (repeat apply Exists.intro); refine ⟨?rel, ?fr⟩; (case fr => ((repeat' apply And.intro) <;> rfl)); (case rel => exact ⟨i + 1, by omega, by go_num, bel_trans hby (bel_trans hbkf hbx)⟩)))
          · have hge : n ≤ i ∨ 20 ≤ i := by omega
            by_cases hin : i < n
            · have h20 : 20 ≤ i := by omega
              go_wp2_with (go_at_call 35; refine (law17_wakes _).mono ?_; rintro e w9 ⟨rfl, hb9⟩)
              go_ret
              exact ⟨rfl, bel_trans hbwk hb9⟩
            · go_wp2_with (go_at_call 35; refine (law17_wakes _).mono ?_; rintro e w9 ⟨rfl, hb9⟩)
              go_ret
              exact ⟨rfl, bel_trans hbwk hb9⟩
end Go.Proofs.Ythpljlffjbodpaa
