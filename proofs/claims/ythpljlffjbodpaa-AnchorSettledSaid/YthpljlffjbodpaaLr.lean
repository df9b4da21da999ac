/- The law AnchorRises: the walk. -/
import Derived.Test.YthpljlffjbodpaaCl
import Derived.Test.YthpljlffjbodpaaLn
import Derived.Test.YthpljlffjbodpaaCb
namespace Go.Proofs.Ythpljlffjbodpaa
open Go.RowKit
set_option linter.unusedSimpArgs false
set_option linter.unusedVariables false

theorem anchor_ChainAt (A : Option Addr) (n c : Nat) (D : DagD) (after r y : Int) (L : List Int) (w : World) (hl : CertsR w A n D.certs) (hx : chB D after r = L) (hy : chE D after r = y) :
    Calls Try.prog 48 #[.agg #[.int .i64 D.nodes, .int .i64 D.low, .slice A n c], .int .i64 after, .int .i64 r] w fun e w' => ∃ v, e = .returned (.tuple #[v, .int .i64 y]) ∧ OwnI w' w.heap.size v L ∧ Below w.heap.size w w' ∧ L.length ≤ 65536 := hx ▸ hy ▸ anchor_Chain A n c D after r w hl
theorem rise_next {D : DagD} {r last : Int} {L : List Int} {j : Nat} (hj : j < L.length) (h : RiseTo D r last (L.drop j)) : ∃ q, nth L j = anchS D q ∧ evenS q = true ∧ ¬ anchS D q = 0 ∧ last < q ∧ RiseTo D r q (L.drop (j + 1)) := by
  rw [List.drop_eq_getElem_cons hj] at h
  obtain ⟨q, h1, h2⟩ := h
  exact ⟨q, by rw [← h1]; simp [nth, hj], h2⟩
set_option maxRecDepth 100000 in
set_option maxHeartbeats 4000000 in
theorem law_AnchorRises (A : Option Addr) (n c : Nat) (D : DagD) (iA : Option Addr) (im ic : Nat) (Is : List Int) (lA : Option Addr) (lm lc : Nat) (Lo : List Int) (w : World) (hl : CertsR w A n D.certs) (hi : IntsR w iA im Is) (hL : IntsR w lA lm Lo) :
    Calls Try.prog 14 #[.agg #[.int .i64 D.nodes, .int .i64 D.low, .slice A n c, .slice iA im ic, .slice lA lm lc]] w fun e w' => e = .returned (.bool true) ∧ Below w.heap.size w w' := by
  have HL := Lib.hid hl
  have HN := Lib.hid hl.1
  have HO := Lib.hid hL
  have hlm : lm ≤ 9223372036854775807 := hL.2.1
  clear hl hi hL
  go_enter Try.func14, Try.ntmps14
  go_wp2_with fail
  refine (law16_heavy _ _ _ _ _ D.certs _ _ _ _ _ _ _ (HL.out.up (by (repeat (first | (with_reducible exact Below.refl _ _) | (with_reducible assumption) | (with_reducible apply bel_alloc) | (with_reducible apply bel_drew) | (with_reducible apply bel_drewN) | (with_reducible refine bel_trans ?_ (by with_reducible assumption)) | (with_reducible refine bel_trans ?_ (HF.out _)) | (with_reducible refine bel_set ?_ (by simp) _) | (with_reducible refine bel_set ?_ (by simp; omega) _) | (with_reducible refine bel_set ?_ (by omega) _)))))).mono ?_
  rintro e w1 ⟨⟨x, rfl⟩, hb1⟩
  have hz_w1 : w.heap.size + 1 ≤ w1.heap.size := (by have hq := (hb1).size; (try simp at hq); omega); have hc0_w1 := fun o => (bcell hb1).1 (w.heap.size) o (by first | (simp; done) | (simp; omega) | omega)
  cases x
  case true =>
    go_wp2_with fail
    go_ret
    exact ⟨rfl, by (repeat (first | (with_reducible exact Below.refl _ _) | (with_reducible assumption) | (with_reducible apply bel_alloc) | (with_reducible apply bel_drew) | (with_reducible apply bel_drewN) | (with_reducible refine bel_trans ?_ (by with_reducible assumption)) | (with_reducible refine bel_trans ?_ (HF.out _)) | (with_reducible refine bel_set ?_ (by simp) _) | (with_reducible refine bel_set ?_ (by simp; omega) _) | (with_reducible refine bel_set ?_ (by omega) _)))⟩
  case false =>
    go_wp2_with fail
    refine (ref14_May A n c D _ (HL.out.up (by (repeat (first | (with_reducible exact Below.refl _ _) | (with_reducible assumption) | (with_reducible apply bel_alloc) | (with_reducible apply bel_drew) | (with_reducible apply bel_drewN) | (with_reducible refine bel_trans ?_ (by with_reducible assumption)) | (with_reducible refine bel_trans ?_ (HF.out _)) | (with_reducible refine bel_set ?_ (by simp) _) | (with_reducible refine bel_set ?_ (by simp; omega) _) | (with_reducible refine bel_set ?_ (by omega) _)))))).mono ?_
    rintro e w2 ⟨rfl, hb2⟩
    rw [may_eq]
    have hB2 : BoxR w2 w.heap.size [.int .i64 D.nodes, .int .i64 D.low, .slice A n c, .slice iA im ic, .slice lA lm lc] := ((BoxR.new w [.int .i64 D.nodes, .int .i64 D.low, .slice A n c, .slice iA im ic, .slice lA lm lc] 27).up hb1).up hb2
    have hbw2 : Below w.heap.size w w2 := by (repeat (first | (with_reducible exact Below.refl _ _) | (with_reducible assumption) | (with_reducible apply bel_alloc) | (with_reducible apply bel_drew) | (with_reducible apply bel_drewN) | (with_reducible refine bel_trans ?_ (by with_reducible assumption)) | (with_reducible refine bel_trans ?_ (HF.out _)) | (with_reducible refine bel_set ?_ (by simp) _) | (with_reducible refine bel_set ?_ (by simp; omega) _) | (with_reducible refine bel_set ?_ (by omega) _)))
    clear hc0_w1 hz_w1
    have b_0 := (hB2).2 0 _ rfl; have b_1 := (hB2).2 1 _ rfl; have b_2 := (hB2).2 2 _ rfl; have b_3 := (hB2).2 3 _ rfl; have b_4 := (hB2).2 4 _ rfl
    cases hm : mayS D
    case false =>
      go_wp2_with fail
      go_ret
      exact ⟨rfl, hbw2⟩
    case true =>
      have HM := Lib.hid hm
      clear hm
      go_wp2_with fail
      go_loopw [3] (fun ix wr => ∃ i : Nat, i ≤ lm ∧ ix = .int .i64 i ∧ Below w2.heap.size w2 wr) (fun ix _ => lm - (intOf ix).toNat)
      case atStart => exact ⟨0, Nat.zero_le _, rfl, Below.refl _ _⟩
      case round =>
        clear b_0 b_1 b_2 b_3 b_4
        obtain ⟨i, hi, rfl, hbx⟩ := hrel
        (obtain ⟨wi, hwi⟩ : ∃ x, x = wr := ⟨_, rfl⟩); subst hwi
        have hBi := hB2.up hbx
        have b_0 := (hBi).2 0 _ rfl; have b_1 := (hBi).2 1 _ rfl; have b_2 := (hBi).2 2 _ rfl; have b_3 := (hBi).2 3 _ rfl; have b_4 := (hBi).2 4 _ rfl
        by_cases hlt : i < lm
        · go_wp2_with fail
          go_loopw [4] (fun ix wr => ∃ k : Nat, k ≤ lm ∧ ix = .int .i64 k ∧ Below w2.heap.size w2 wr) (fun ix _ => lm - (intOf ix).toNat)
          case atStart => exact ⟨0, Nat.zero_le _, rfl, hbx⟩
          case round =>
            clear hBi b_0 b_1 b_2 b_3 b_4 hbx
            obtain ⟨k, hk, rfl, hby⟩ := hrel
            (obtain ⟨wk, hwk⟩ : ∃ x, x = wr := ⟨_, rfl⟩); subst hwk
            have hBk := hB2.up hby
            have hbwk : Below w.heap.size w wk := bel_trans hbw2 hby
            have b_0 := (hBk).2 0 _ rfl; have b_1 := (hBk).2 1 _ rfl; have b_2 := (hBk).2 2 _ rfl; have b_3 := (hBk).2 3 _ rfl; have b_4 := (hBk).2 4 _ rfl
            by_cases hlt2 : k < lm
            · obtain ⟨lb, loff, rfl, hlb, hlc⟩ := HO.out.2.2 (by omega)
              have hcells : ∀ X, Below wk.heap.size wk X → X.cell? ⟨w.heap.size, 0, none⟩ = some (.int .i64 D.nodes) ∧ X.cell? ⟨w.heap.size, 1, none⟩ = some (.int .i64 D.low) ∧ X.cell? ⟨w.heap.size, 2, none⟩ = some (.slice A n c) ∧ X.cell? ⟨w.heap.size, 3, none⟩ = some (.slice iA im ic) ∧ X.cell? ⟨w.heap.size, 4, none⟩ = some (.slice (some ⟨lb, loff, none⟩) lm lc) ∧ X.cell? ⟨lb, loff + i, none⟩ = some (.int .i64 (nth Lo i)) ∧ X.cell? ⟨lb, loff + k, none⟩ = some (.int .i64 (nth Lo k)) := fun X hX => by
                have hbX := bel_trans hbwk hX
                exact ⟨(hBk.up hX).2 0 _ rfl, (hBk.up hX).2 1 _ rfl, (hBk.up hX).2 2 _ rfl, (hBk.up hX).2 3 _ rfl, (hBk.up hX).2 4 _ rfl, (hbX.cell (p := ⟨lb, loff + i, none⟩) hlb).trans (hlc i hlt), (hbX.cell (p := ⟨lb, loff + k, none⟩) hlb).trans (hlc k hlt2)⟩
              have HC := Lib.hid hcells
              clear hcells hlc
              obtain ⟨af, haf⟩ : ∃ af, af = nth Lo i := ⟨_, rfl⟩
              obtain ⟨rr, hrr⟩ : ∃ rr, rr = nth Lo k := ⟨_, rfl⟩
              rw [← haf, ← hrr] at HC
              clear haf hrr
              have hg0 : w.heap.size < wk.heap.size := hBk.1
              obtain ⟨L, hLL⟩ : ∃ L, chB D af rr = L := ⟨_, rfl⟩
              obtain ⟨ce, hce⟩ : ∃ ce, chE D af rr = ce := ⟨_, rfl⟩
              have HLL := Lib.hid hLL
              have HCE := Lib.hid hce
              have hrise : ce = 0 → RiseTo D rr af L := fun h => by
                obtain ⟨a1, a2, a3⟩ := chE_zero (hce.trans h)
                rw [← hLL]; exact chain_rise a1 a2 a3
              have HRI := Lib.hid hrise
              clear hLL hce hrise
              go_wp2_with fail
              go_region_held3 (fun X => X.cell? ⟨w.heap.size, 0, none⟩ = some (.int .i64 D.nodes) ∧ X.cell? ⟨w.heap.size, 1, none⟩ = some (.int .i64 D.low) ∧ X.cell? ⟨w.heap.size, 2, none⟩ = some (.slice A n c) ∧ X.cell? ⟨w.heap.size, 3, none⟩ = some (.slice iA im ic) ∧ X.cell? ⟨w.heap.size, 4, none⟩ = some (.slice (some ⟨lb, loff, none⟩) lm lc) ∧ X.cell? ⟨lb, loff + i, none⟩ = some (.int .i64 af) ∧ X.cell? ⟨lb, loff + k, none⟩ = some (.int .i64 rr))
                (exact HC.out _ (by (repeat (first | (with_reducible exact Below.refl _ _) | (with_reducible assumption) | (with_reducible apply bel_alloc) | (with_reducible apply bel_drew) | (with_reducible apply bel_drewN) | (with_reducible refine bel_trans ?_ (by with_reducible assumption)) | (with_reducible refine bel_trans ?_ (HF.out _)) | (with_reducible refine bel_set ?_ (by simp) _) | (with_reducible refine bel_set ?_ (by simp; omega) _) | (with_reducible refine bel_set ?_ (by omega) _)))))
                ((go_at_call 48; refine (anchor_ChainAt _ _ _ D af rr ce L _ (HL.out.up (by (repeat (first | (with_reducible exact Below.refl _ _) | (with_reducible assumption) | (with_reducible apply bel_alloc) | (with_reducible apply bel_drew) | (with_reducible apply bel_drewN) | (with_reducible refine bel_trans ?_ (by with_reducible assumption)) | (with_reducible refine bel_trans ?_ (HF.out _)) | (with_reducible refine bel_set ?_ (by simp) _) | (with_reducible refine bel_set ?_ (by simp; omega) _) | (with_reducible refine bel_set ?_ (by omega) _))))) HLL.out HCE.out).mono ?_; rintro e w5 ⟨v, rfl, hown, hb5, hlen⟩; obtain ⟨xA, xc, rfl, hint, _⟩ := hown.ints (by omega); have hb5k : Below wk.heap.size wk w5 := (by (repeat (first | (with_reducible exact Below.refl _ _) | (with_reducible assumption) | (with_reducible apply bel_alloc) | (with_reducible apply bel_drew) | (with_reducible apply bel_drewN) | (with_reducible refine bel_trans ?_ (by with_reducible assumption)) | (with_reducible refine bel_trans ?_ (HF.out _)) | (with_reducible refine bel_set ?_ (by simp) _) | (with_reducible refine bel_set ?_ (by simp; omega) _) | (with_reducible refine bel_set ?_ (by omega) _))))))
              have HINT := Lib.hid hint
              clear hint hown hb5 b_0 b_1 b_2 b_3 b_4
              obtain ⟨k0, k1, k2, k3, k4, k5, k6⟩ := HC.out w5 hb5k
              by_cases hc0 : ce = 0
              case neg =>
                have hcb : (ce == 0) = false := by simpa using hc0
                go_wp2_with (go_at_call 43; refine (law16_num _ _).mono ?_; rintro e w' ⟨rfl, rfl⟩)
                (first | (go_round; (case rel => exact ⟨k + 1, by omega, by go_num, bel_trans hby hb5k⟩); (case measure => (simp [intOf] <;> omega))) | (go_roundw; (case rel => exact ⟨k + 1, by omega, by go_num, bel_trans hby hb5k⟩); (case measure => (simp [intOf] <;> omega))) | (refine ⟨?_, by simp [intOf] <;> omega⟩; (repeat apply Exists.intro); refine ⟨?rel, ?fr⟩; (case fr => ((repeat' apply And.intro) <;> rfl)); (case rel => exact ⟨k + 1, by omega, by go_num, bel_trans hby hb5k⟩)))
              case pos =>
                have hri := HRI.out hc0
                have HRS := Lib.hid hri
                subst hc0
                clear hri
                go_wp2_with (go_at_call 43; refine (law16_num _ _).mono ?_; rintro e w' ⟨rfl, rfl⟩)
                clear k0 k1 k2 k3 k4 k5 k6
                go_loopw [7, 8] (fun il ij wr => ∃ j : Nat, j ≤ L.length ∧ ∃ last : Int, il = .int .i64 last ∧ ij = .int .i64 j ∧ Hid (RiseTo D rr last (L.drop j)) ∧ Below w5.heap.size w5 wr) (fun _ ij _ => L.length - (intOf ij).toNat)
                case atStart => exact ⟨0, Nat.zero_le _, af, rfl, rfl, HRS, Below.refl _ _⟩
                case round =>
                  obtain ⟨j, hj, last, rfl, rfl, HR, hbj⟩ := hrel
                  (obtain ⟨wj, hwj⟩ : ∃ x, x = wr := ⟨_, rfl⟩); subst hwj
                  have hbkj : Below wk.heap.size wk wj := bel_trans hb5k hbj
                  obtain ⟨k0, k1, k2, k3, k4, k5, k6⟩ := HC.out wj hbkj
                  by_cases hlt3 : j < L.length
                  · obtain ⟨q, hx, hev, hz, hla, hrest⟩ := rise_next hlt3 HR.out
                    obtain ⟨p0, hp0, hpf, hpd, hpr⟩ := anch_at (mayS_iff.1 HM.out) hz
                    obtain ⟨xb, xoff, rfl, hxb, hxc⟩ := (HINT.out.up hbj).2.2 (by omega)
                    have hxj := hxc j hlt3
                    clear hxc
                    obtain ⟨z, hzz⟩ : ∃ z, z = nth L j := ⟨_, rfl⟩
                    rw [← hzz] at hxj hx
                    have HFI := Lib.hid (show findS D.certs z = (p0 : Int) by rw [hx]; exact hpf)
                    have hp0n : p0 < n := by rw [← HN.out]; exact hp0
                    have hask : askS D q = true := by unfold askS; rw [HM.out, hev]; rfl
                    have hxx : anB D q = z ∧ anE D q = 0 := by rw [hx]; simp [anB, anE, hask, hz]
                    have HXX := Lib.hid hxx
                    have HREST := Lib.hid hrest
                    have hgj : w.heap.size < wj.heap.size := Nat.lt_of_lt_of_le hg0 hbkj.size
                    obtain ⟨e1, e2, e3⟩ := evenS_iff.1 hev
                    have hq2 : q.tmod 2 = 0 := by rw [Int.tmod_eq_emod_of_nonneg (by omega)]; exact e3
                    have hql : ¬ q ≤ last := by omega
                    clear hx hev hz hrest hpf hpd hask hxx HR hzz
                    go_wp2_with fail
                    refine wp_region_fam (by kernel_rfl) (by kernel_rfl) (fun ι F hne hF hcl => ?_)
                    have hcF0 := fun n o => (bcell (hF n)).1 (w.heap.size) o (by first | (simp; done) | (simp; omega) | omega)
                    have hcF1 := fun n o => (bcell (hF n)).1 (xb) o (by first | (simp; done) | (simp; omega) | omega)
                    have HF := Lib.hid hF; clear hF
                    have HC := Lib.hid hcl; clear hcl
                    repeat (any_goals (first
                     | go_big_quiet_step (first | (go_at_call 17; exact Calls.fam HC.out (ref14_FindAt' _ _ _ D.certs _ _ _ (p0 : Int) _ (HL.out.up (by (repeat (first | (with_reducible exact Below.refl _ _) | (with_reducible assumption) | (with_reducible apply bel_alloc) | (with_reducible apply bel_drew) | (with_reducible apply bel_drewN) | (with_reducible refine bel_trans ?_ (by with_reducible assumption)) | (with_reducible refine bel_trans ?_ (HF.out _)) | (with_reducible refine bel_set ?_ (by simp) _) | (with_reducible refine bel_set ?_ (by simp; omega) _) | (with_reducible refine bel_set ?_ (by omega) _))))) HFI.out)))
                     | (refine wpQuiet_guard _ _ _ rfl rfl ?_; (fail_if_success (intro b' hb; have h2 := hb.symm; have : b' = true := h2.trans (by with_reducible rfl))); (fail_if_success (intro b' hb; have h2 := hb.symm; have : b' = false := h2.trans (by with_reducible rfl))); intro b' hb; simp only [hb]; cases b' <;> (try simp only [Bool.not_eq_true', Bool.not_eq_false', decide_eq_true_eq, decide_eq_false_iff_not, Int.not_lt, Int.not_le, Bool.and_eq_true, Bool.or_eq_true, Bool.or_eq_false_iff, beq_iff_eq, beq_eq_false_iff_ne, Int.natCast_pos] at hb))))
                    all_goals (refine wpQuiet_nil ?_; intro nq)
                    have hFwf := HF.out nq
                    clear HF HC hne
                    generalize F nq = wf at *
                    clear k0 k1 k2 k3 k4 k5 k6 hcF0 hcF1
                    have hbkf : Below wk.heap.size wk wf := bel_trans hbkj hFwf
                    have hbwf : Below w.heap.size w wf := bel_trans hbwk hbkf
                    obtain ⟨k0, k1, k2, k3, k4, k5, k6⟩ := HC.out wf hbkf
                    obtain ⟨b, off, rfl, hb, hcc⟩ := HL.out.2.2 (by omega)
                    obtain ⟨p, hat, hcr⟩ := hcc p0 hp0n
                    obtain ⟨c0, c1, c2, c3, c4, c5⟩ := hat.up hbwf hb
                    rw [hpr] at c1
                    clear hcc hat hcr c0 c2 c3 c4 c5
                    go_wp2_with fail
                    refine (anchor_AnchorAt _ _ _ D q z 0 _ (HL.out.up hbwf) HXX.out.1 HXX.out.2).mono ?_
                    rintro e wg ⟨rfl, hbg⟩
                    have hxg : wg.cell? ⟨xb, xoff + j, none⟩ = some (.int .i64 z) := ((bel_trans hFwf hbg).cell (p := ⟨xb, xoff + j, none⟩) hxb).trans hxj
                    clear k0 k1 k2 k3 k4 k5 k6 c1 hxj
                    go_wp2_with (go_at_call 43; refine (law16_num _ _).mono ?_; rintro e w' ⟨rfl, rfl⟩)
                    (first | (go_round; (case rel => exact ⟨j + 1, by omega, q, rfl, by go_num, HREST, bel_trans (bel_trans hbj hFwf) hbg⟩); (case measure => (simp [intOf] <;> omega))) | (go_roundw; (case rel => exact ⟨j + 1, by omega, q, rfl, by go_num, HREST, bel_trans (bel_trans hbj hFwf) hbg⟩); (case measure => (simp [intOf] <;> omega))) | (refine ⟨?_, by simp [intOf] <;> omega⟩; (repeat apply Exists.intro); refine ⟨?rel, ?fr⟩; (case fr => ((repeat' apply And.intro) <;> rfl)); (case rel => exact ⟨j + 1, by omega, q, rfl, by go_num, HREST, bel_trans (bel_trans hbj hFwf) hbg⟩)))
                  · have hjl : j = L.length := by omega
                    have hlast : last = rr := by have := HR.out; rw [hjl, List.drop_length] at this; exact this
                    subst hlast
                    go_wp2_with fail
                    (first | (go_round; (case rel => exact ⟨k + 1, by omega, by go_num, bel_trans hby hbkj⟩); (case measure => (simp [intOf] <;> omega))) | (go_roundw; (case rel => exact ⟨k + 1, by omega, by go_num, bel_trans hby hbkj⟩); (case measure => (simp [intOf] <;> omega))) | (refine ⟨?_, by simp [intOf] <;> omega⟩; (repeat apply Exists.intro); refine ⟨?rel, ?fr⟩; (case fr => ((repeat' apply And.intro) <;> rfl)); (case rel => exact ⟨k + 1, by omega, by go_num, bel_trans hby hbkj⟩)))
            · go_wp2_with fail
              (first | (go_round; (case rel => exact ⟨i + 1, by omega, by go_num, hby⟩); (case measure => (simp [intOf] <;> omega))) | (go_roundw; (case rel => exact ⟨i + 1, by omega, by go_num, hby⟩); (case measure => (simp [intOf] <;> omega))) | (refine ⟨?_, by simp [intOf] <;> omega⟩; (repeat apply Exists.intro); refine ⟨?rel, ?fr⟩; (case fr => ((repeat' apply And.intro) <;> rfl)); (case rel => exact ⟨i + 1, by omega, by go_num, hby⟩)))
        · go_wp2_with (go_at_call 44; refine (law16_wakes _).mono ?_; rintro e w4 ⟨rfl, hb4⟩)
          go_ret
          exact ⟨rfl, bel_trans (bel_trans hbw2 hbx) hb4⟩
end Go.Proofs.Ythpljlffjbodpaa
