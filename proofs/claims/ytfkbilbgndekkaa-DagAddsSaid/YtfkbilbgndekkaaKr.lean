/- The law DagRounds. -/
import Derived.Test.YtfkbilbgndekkaaKm
import Derived.Test.YtfkbilbgndekkaaKo
import Derived.Test.YtfkbilbgndekkaaKq
import Derived.Deep.RegionHeld3
namespace Go.Proofs.Ytfkbilbgndekkaa
open Go.RowKit
set_option linter.unusedSimpArgs false
set_option linter.unusedVariables false

theorem OwnC.cs' {w : World} {B : Nat} {A : Option Addr} {m c : Nat} {ps : List CertP} {l : List CertD} (h : OwnC w B (.slice A m c) ps l) (hl : l.length ≤ 9223372036854775807) : CertsR w A m l := by
  obtain ⟨A', c', e, h1, _⟩ := h.certs hl
  injection e with e1 e2 e3
  subst e1; subst e2
  exact h1
theorem OwnD.cs' {w : World} {B : Nat} {A : Option Addr} {m c : Nat} {ps : List CertP} {l : List CertD} (h : OwnD w B (.slice A m c) ps l) (hs : Short l) (hl : l.length ≤ 9223372036854775807) : CertsR w A m l := (h.toC hs).cs' hl
set_option maxRecDepth 100000 in
set_option maxHeartbeats 16000000 in
theorem law_DagRounds (P : AskP) (D : AskD) (w : World) (h : AskR w P D) :
    Calls Try.prog 12 #[askV P D] w fun e w' => e = .returned (.bool true) ∧ Below w.heap.size w w' := by
  obtain ⟨⟨dA, dn, dc⟩, ⟨cA, cn, cc⟩, ⟨iA, im, ic⟩, ⟨pA, pn, pc⟩⟩ := P
  have H := Lib.hid h
  have HD : Hid (CertsR w dA dn D.D.certs) := Lib.hid h.d
  have HC : Hid (CertsR w cA cn D.C) := Lib.hid h.c
  have HI : Hid (IntsR w iA im D.I) := Lib.hid h.i
  have HP : Hid (FloatsR w pA pn D.P) := Lib.hid h.p
  have hdc : dn ≤ dc := h.dc
  have hdm : dc ≤ 9223372036854775807 := h.dm
  clear h
  show Calls Try.prog 12 #[.agg #[.int .i64 D.D.nodes, .int .i64 D.D.low, .slice dA dn dc, .slice cA cn cc, .slice iA im ic, .slice pA pn pc]] w _
  go_enter Try.func12, Try.ntmps12
  go_wp2_with fail
  refine (law14_heavy ⟨⟨dA, dn, dc⟩, ⟨cA, cn, cc⟩, ⟨iA, im, ic⟩, ⟨pA, pn, pc⟩⟩ D _ (H.out.up (by (repeat (first | (with_reducible exact Below.refl _ _) | (with_reducible assumption) | (with_reducible apply bel_alloc) | (with_reducible apply bel_drew) | (with_reducible apply bel_drewN) | (with_reducible refine bel_trans ?_ (by with_reducible assumption)) | (with_reducible refine bel_trans ?_ (HF.out _)) | (with_reducible refine bel_set ?_ (by simp) _) | (with_reducible refine bel_set ?_ (by simp; omega) _) | (with_reducible refine bel_set ?_ (by omega) _)))))).mono ?_
  rintro e w1 ⟨⟨x, rfl, hx⟩, hb1⟩
  cases x
  case true =>
    clear hx
    go_wp2_with fail
    go_ret
    exact ⟨rfl, by (repeat (first | (with_reducible exact Below.refl _ _) | (with_reducible assumption) | (with_reducible apply bel_alloc) | (with_reducible apply bel_drew) | (with_reducible apply bel_drewN) | (with_reducible refine bel_trans ?_ (by with_reducible assumption)) | (with_reducible refine bel_trans ?_ (HF.out _)) | (with_reducible refine bel_set ?_ (by simp) _) | (with_reducible refine bel_set ?_ (by simp; omega) _) | (with_reducible refine bel_set ?_ (by omega) _)))⟩
  case false =>
  have hLt := hx rfl
  have hLd : Light D.D.certs := hLt.d
  have hd80 : dn ≤ 80 := by rw [← HD.out.1]; exact hLd.1
  have hc40 : cn ≤ 40 := hLt.cn
  have hi40 : im ≤ 40 := hLt.i
  have hp40 : pn ≤ 40 := hLt.p
  have hlc : ∀ k, k < cn → LightC (cth D.C k) := hLt.c
  have HLD := Lib.hid hLd
  have HLC := Lib.hid hlc
  have hB1 : BoxR w1 w.heap.size [.int .i64 D.D.nodes, .int .i64 D.D.low, .slice dA dn dc, .slice cA cn cc, .slice iA im ic, .slice pA pn pc] := (BoxR.new w [.int .i64 D.D.nodes, .int .i64 D.D.low, .slice dA dn dc, .slice cA cn cc, .slice iA im ic, .slice pA pn pc] 58).up hb1
  have hbw1 : Below w.heap.size w w1 := by (repeat (first | (with_reducible exact Below.refl _ _) | (with_reducible assumption) | (with_reducible apply bel_alloc) | (with_reducible apply bel_drew) | (with_reducible apply bel_drewN) | (with_reducible refine bel_trans ?_ (by with_reducible assumption)) | (with_reducible refine bel_trans ?_ (HF.out _)) | (with_reducible refine bel_set ?_ (by simp) _) | (with_reducible refine bel_set ?_ (by simp; omega) _) | (with_reducible refine bel_set ?_ (by omega) _)))
  clear hx hLt hLd hlc hb1
  have HB1 := Lib.hid hB1
  have hg1 := hB1.1
  have b_0 := (hB1).2 0 _ rfl; have b_1 := (hB1).2 1 _ rfl; have b_2 := (hB1).2 2 _ rfl; have b_3 := (hB1).2 3 _ rfl; have b_4 := (hB1).2 4 _ rfl; have b_5 := (hB1).2 5 _ rfl
  clear hB1
  cases hm : mayS D.D
  · have HCK : Hid (chkE D.D = 1) := Lib.hid (by unfold chkE; rw [hm]; rfl)
    have HM := Lib.hid hm
    obtain ⟨tp, htp⟩ : ∃ tp, topE D.D = tp := ⟨_, rfl⟩
    have HTP := Lib.hid htp
    have HT0 : tp = 0 := by rw [← htp]; unfold topE; rw [if_neg (by rw [hm]; simp)]
    clear hm htp
    go_wp2_with fail
    refine (law14_check dA dn dc D.D 1 _ (HD.out.up hbw1) HCK.out).mono ?_
    rintro e w2 ⟨rfl, hb2⟩
    replace hbw1 := bel_trans hbw1 hb2
    clear b_0 b_1 b_2 b_3 b_4 b_5; replace HB1 := Lib.hid (HB1.out.up hb2); replace hgHB1 := HB1.out.1; have b_0 := (HB1.out).2 0 _ rfl; have b_1 := (HB1.out).2 1 _ rfl; have b_2 := (HB1.out).2 2 _ rfl; have b_3 := (HB1.out).2 3 _ rfl; have b_4 := (HB1.out).2 4 _ rfl; have b_5 := (HB1.out).2 5 _ rfl
    go_wp2_with fail
    subst HT0
    refine (dag_Top dA dn dc D.D 0 1 _ (HD.out.up hbw1) HTP.out HCK.out).mono ?_
    rintro e w4 ⟨rfl, hb4⟩
    replace hbw1 := bel_trans hbw1 hb4
    clear b_0 b_1 b_2 b_3 b_4 b_5; replace HB1 := Lib.hid (HB1.out.up hb4); replace hgHB1 := HB1.out.1; have b_0 := (HB1.out).2 0 _ rfl; have b_1 := (HB1.out).2 1 _ rfl; have b_2 := (HB1.out).2 2 _ rfl; have b_3 := (HB1.out).2 3 _ rfl; have b_4 := (HB1.out).2 4 _ rfl; have b_5 := (HB1.out).2 5 _ rfl
    go_wp2_with (go_at_call 44; refine (law14_num _ _).mono ?_; rintro e w' ⟨rfl, rfl⟩)
    go_loopw [7] (fun si wr => ∃ i : Nat, i ≤ im ∧ si = .int .i64 i ∧ BoxR wr w.heap.size [.int .i64 D.D.nodes, .int .i64 D.D.low, .slice dA dn dc, .slice cA cn cc, .slice iA im ic, .slice pA pn pc] ∧ Below w.heap.size w wr) (fun si _ => im - (intOf si).toNat)
    case atStart => exact ⟨0, Nat.zero_le _, rfl, HB1.out, hbw1⟩
    case round =>
      obtain ⟨i, hi, rfl, hB, hbw⟩ := hrel
      (obtain ⟨wk, hwk⟩ : ∃ x, x = wr := ⟨_, rfl⟩); subst hwk
      have hgHB := hB.1
      have HB := Lib.hid hB
      clear hB
      by_cases hlt : i < im
      · obtain ⟨ib, ioff, rfl, hib, hic⟩ := (HI.out.up hbw).2.2 (by omega)
        obtain ⟨x, hx⟩ : ∃ x, x = nth D.I i := ⟨_, rfl⟩
        have hq0 := hic i hlt
        rw [← hx] at hq0
        have hcells : ∀ X, Below wk.heap.size wk X → X.cell? ⟨w.heap.size, 0, none⟩ = some (.int .i64 D.D.nodes) ∧ X.cell? ⟨w.heap.size, 1, none⟩ = some (.int .i64 D.D.low) ∧ X.cell? ⟨w.heap.size, 2, none⟩ = some (.slice dA dn dc) ∧ X.cell? ⟨w.heap.size, 3, none⟩ = some (.slice cA cn cc) ∧ X.cell? ⟨w.heap.size, 4, none⟩ = some (.slice (some ⟨ib, ioff, none⟩) im ic) ∧ X.cell? ⟨w.heap.size, 5, none⟩ = some (.slice pA pn pc) ∧ X.cell? ⟨ib, ioff + i, none⟩ = some (.int .i64 x) := fun X hX =>
          ⟨(HB.out.up hX).2 0 _ rfl, (HB.out.up hX).2 1 _ rfl, (HB.out.up hX).2 2 _ rfl, (HB.out.up hX).2 3 _ rfl, (HB.out.up hX).2 4 _ rfl, (HB.out.up hX).2 5 _ rfl, (hX.cell (p := ⟨ib, ioff + i, none⟩) hib).trans hq0⟩
        have HC12 := Lib.hid hcells
        obtain ⟨L, hL⟩ : ∃ L, rnL D.D x = L := ⟨_, rfl⟩
        have HL := Lib.hid hL
        have hll : L.length ≤ 80 := by
          rw [← hL]; unfold rnL; split
          · exact Nat.le_trans (List.length_filter_le _ _) HLD.out.1
          · simp
        have hlight : ∀ k, k < L.length → LightC (cth L k) := by
          rw [← hL]; unfold rnL; split
          · intro k hk
            have hm := cth_mem hk
            obtain ⟨j, hj, e⟩ := mem_cth (List.mem_filter.1 hm).1
            rw [← e]
            exact HLD.out.2 j hj
          · intro k hk; simp at hk
        have HLI := Lib.hid hlight
        have HLR : Hid (L = []) := Lib.hid (by rw [← hL]; unfold rnL; rw [if_neg (by rw [HM.out]; simp)])
        clear hic hq0 hcells hx hL hlight
        obtain ⟨b_0, b_1, b_2, b_3, b_4, b_5, q0⟩ := HC12.out wk (by (repeat (first | (with_reducible exact Below.refl _ _) | (with_reducible assumption) | (with_reducible apply bel_alloc) | (with_reducible apply bel_drew) | (with_reducible apply bel_drewN) | (with_reducible refine bel_trans ?_ (by with_reducible assumption)) | (with_reducible refine bel_trans ?_ (HF.out _)) | ((with_reducible refine bel_set3 ?_ ?_); rotate_left; omega))))
        go_wp2_with fail
        have hb5k : Below wk.heap.size wk wk := Below.refl _ _
        clear b_0 b_1 b_2 b_3 b_4 b_5 q0
        go_region_held3 (fun X => X.cell? ⟨w.heap.size, 0, none⟩ = some (.int .i64 D.D.nodes) ∧ X.cell? ⟨w.heap.size, 1, none⟩ = some (.int .i64 D.D.low) ∧ X.cell? ⟨w.heap.size, 2, none⟩ = some (.slice dA dn dc) ∧ X.cell? ⟨w.heap.size, 3, none⟩ = some (.slice cA cn cc) ∧ X.cell? ⟨w.heap.size, 4, none⟩ = some (.slice (some ⟨ib, ioff, none⟩) im ic) ∧ X.cell? ⟨w.heap.size, 5, none⟩ = some (.slice pA pn pc) ∧ X.cell? ⟨ib, ioff + i, none⟩ = some (.int .i64 x))
          (exact HC12.out _ (by (repeat (first | (with_reducible exact Below.refl _ _) | (with_reducible assumption) | (with_reducible apply bel_alloc) | (with_reducible apply bel_drew) | (with_reducible apply bel_drewN) | (with_reducible refine bel_trans ?_ (by with_reducible assumption)) | (with_reducible refine bel_trans ?_ (HF.out _)) | (with_reducible refine bel_set ?_ (by simp) _) | (with_reducible refine bel_set ?_ (by simp; omega) _) | (with_reducible refine bel_set ?_ (by omega) _)))))
          ((go_at_call 58; refine (dag_Round dA dn dc D.D x 1 L _ (HD.out.up (bel_trans hbw (by (repeat (first | (with_reducible exact Below.refl _ _) | (with_reducible assumption) | (with_reducible apply bel_alloc) | (with_reducible apply bel_drew) | (with_reducible apply bel_drewN) | (with_reducible refine bel_trans ?_ (by with_reducible assumption)) | (with_reducible refine bel_trans ?_ (HF.out _)) | (with_reducible refine bel_set ?_ (by simp) _) | (with_reducible refine bel_set ?_ (by simp; omega) _) | (with_reducible refine bel_set ?_ (by omega) _)))))) hdc hdm HCK.out HL.out).mono ?_; rintro e w6 ⟨v6, ps6, rfl, hown6, hb6⟩; obtain ⟨A6, c6, rfl, _⟩ := own_row hown6.1 (by omega); have ho6 := OwnD.mono hown6 (Below.size (B := wk.heap.size) (w := wk) (by (repeat (first | (with_reducible exact Below.refl _ _) | (with_reducible assumption) | (with_reducible apply bel_alloc) | (with_reducible apply bel_drew) | (with_reducible apply bel_drewN) | (with_reducible refine bel_trans ?_ (by with_reducible assumption)) | (with_reducible refine bel_trans ?_ (HF.out _)) | (with_reducible refine bel_set ?_ (by simp) _) | (with_reducible refine bel_set ?_ (by simp; omega) _) | (with_reducible refine bel_set ?_ (by omega) _))))); have hb6k : Below wk.heap.size wk w6 := (by (repeat (first | (with_reducible exact Below.refl _ _) | (with_reducible assumption) | (with_reducible apply bel_alloc) | (with_reducible apply bel_drew) | (with_reducible apply bel_drewN) | (with_reducible refine bel_trans ?_ (by with_reducible assumption)) | (with_reducible refine bel_trans ?_ (HF.out _)) | (with_reducible refine bel_set ?_ (by simp) _) | (with_reducible refine bel_set ?_ (by simp; omega) _) | (with_reducible refine bel_set ?_ (by omega) _))))))
        have hb56 : Below wk.heap.size wk w6 := bel_trans (bel_drew (Below.refl _ _)) hb6
        have HO6 := Lib.hid ho6
        have hsh : Short L := fun k hk => by
          obtain ⟨a1, a2, a3⟩ := HLI.out k hk
          exact ⟨Nat.le_trans a1 (by omega), Nat.le_trans a2 (by omega), Nat.le_trans a3 (by omega)⟩
        have HSH := Lib.hid hsh
        have hg6 : w.heap.size < w6.heap.size := Nat.lt_of_lt_of_le hgHB hb6k.size
        have hi6 : ib < w6.heap.size := Nat.lt_of_lt_of_le hib hb6k.size
        clear hown6 ho6 hsh
        obtain ⟨b_0, b_1, b_2, b_3, b_4, b_5, q0⟩ := HC12.out w6 (by (repeat (first | (with_reducible exact Below.refl _ _) | (with_reducible assumption) | (with_reducible apply bel_alloc) | (with_reducible apply bel_drew) | (with_reducible apply bel_drewN) | (with_reducible refine bel_trans ?_ (by with_reducible assumption)) | (with_reducible refine bel_trans ?_ (HF.out _)) | ((with_reducible refine bel_set3 ?_ ?_); rotate_left; omega))))
        go_wp2_with (go_at_call 44; refine (law14_num _ _).mono ?_; rintro e w' ⟨rfl, rfl⟩)
        have hL0 := HLR.out
        subst hL0
        refine (ref0_EqCerts A6 0 c6 none 0 [] _ (OwnD.cs' HO6.out HSH.out (by simp)) CertsR.none).mono ?_
        rintro e w7 ⟨rfl, hb7⟩
        have hb7k := bel_trans hb6k hb7
        have hg7 : w.heap.size < w7.heap.size := Nat.lt_of_lt_of_le hgHB hb7k.size
        clear b_0 b_1 b_2 b_3 b_4 b_5 q0
        obtain ⟨b_0, b_1, b_2, b_3, b_4, b_5, q0⟩ := HC12.out w7 (by (repeat (first | (with_reducible exact Below.refl _ _) | (with_reducible assumption) | (with_reducible apply bel_alloc) | (with_reducible apply bel_drew) | (with_reducible apply bel_drewN) | (with_reducible refine bel_trans ?_ (by with_reducible assumption)) | (with_reducible refine bel_trans ?_ (HF.out _)) | ((with_reducible refine bel_set3 ?_ ?_); rotate_left; omega))))
        go_wp2_with fail
        refine (ref0_CopyDagO dA dn dc D.D _ (HD.out.up (bel_trans hbw hb7k)) HLD.out).mono ?_
        rintro e w8 ⟨A8, c8, ps8, rfl, hD8, hb8⟩
        have hb8k := bel_trans hb7k hb8
        have HD8 := Lib.hid hD8
        clear hD8
        clear b_0 b_1 b_2 b_3 b_4 b_5 q0
        obtain ⟨b_0, b_1, b_2, b_3, b_4, b_5, q0⟩ := HC12.out w8 (by (repeat (first | (with_reducible exact Below.refl _ _) | (with_reducible assumption) | (with_reducible apply bel_alloc) | (with_reducible apply bel_drew) | (with_reducible apply bel_drewN) | (with_reducible refine bel_trans ?_ (by with_reducible assumption)) | (with_reducible refine bel_trans ?_ (HF.out _)) | ((with_reducible refine bel_set3 ?_ ?_); rotate_left; omega))))
        go_wp2_with fail
        have hX8 : Below w7.heap.size w7 (w8.alloc (.cells #[.int .i64 D.D.nodes, .int .i64 D.D.low, .slice A8 dn c8] 24)) := bel_trans hb8 (bel_alloc (Below.refl _ _))
        have hbox : BoxR (w8.alloc (.cells #[.int .i64 D.D.nodes, .int .i64 D.D.low, .slice A8 dn c8] 24)) w8.heap.size [.int .i64 D.D.nodes, .int .i64 D.D.low, .slice A8 dn c8] := BoxR.new w8 [.int .i64 D.D.nodes, .int .i64 D.D.low, .slice A8 dn c8] 24
        have hOX : OwnC (w8.alloc (.cells #[.int .i64 D.D.nodes, .int .i64 D.D.low, .slice A8 dn c8] 24)) w7.heap.size (.slice A8 dn c8) ps8 D.D.certs := HD8.out.up (bel_alloc (Below.refl _ _))
        generalize (w8.alloc (.cells #[.int .i64 D.D.nodes, .int .i64 D.D.low, .slice A8 dn c8] 24)) = X at *
        have hbX : Below wk.heap.size wk X := bel_trans hb7k hX8
        have h6 := HO6.out.up hb7
        refine (law0_Certs _ 0 (rowCells ps6 []) wk.heap.size w7.heap.size _ (own_up h6.1 hX8) (fun j hj => (OwnD.rows h6 (Nat.le_refl _) (fun k hk => (by obtain ⟨a1, a2, a3⟩ := HLI.out k hk; exact ⟨Nat.le_trans a1 (by omega), Nat.le_trans a2 (by omega), Nat.le_trans a3 (by omega)⟩)) j hj).keep (KeepT.of_below hX8)) (by omega) hbX.size (fun g hg => (own_lt h6.1 g hg).2)).mono ?_
        rintro e w10 ⟨rfl, hm10⟩
        have hb10k : Below wk.heap.size wk w10 := hbX.trans (hm10.below hbX.size)
        have hz10 := hbox.mid hm10 hb8.size
        have HO10 := Lib.hid (hOX.mid hm10)
        clear hbox hOX h6
        clear b_0 b_1 b_2 b_3 b_4 b_5 q0
        obtain ⟨b_0, b_1, b_2, b_3, b_4, b_5, q0⟩ := HC12.out w10 (by (repeat (first | (with_reducible exact Below.refl _ _) | (with_reducible assumption) | (with_reducible apply bel_alloc) | (with_reducible apply bel_drew) | (with_reducible apply bel_drewN) | (with_reducible refine bel_trans ?_ (by with_reducible assumption)) | (with_reducible refine bel_trans ?_ (HF.out _)) | ((with_reducible refine bel_set3 ?_ ?_); rotate_left; omega))))
        have z_0 := (hz10).2 0 _ rfl; have z_1 := (hz10).2 1 _ rfl; have z_2 := (hz10).2 2 _ rfl
        clear hz10
        go_wp2_with fail
        refine (ref0_EqDag A8 dn c8 dA dc D.D _ (HO10.out.cs' (Nat.le_trans HLD.out.1 (by omega))) (HD.out.up (bel_trans hbw hb10k))).mono ?_
        rintro e w11 ⟨rfl, hb11⟩
        go_wp2_with fail
        (first | (go_round; (case rel => exact ⟨i + 1, by omega, by go_num, HB.out.up (bel_trans hb10k hb11), bel_trans hbw (bel_trans hb10k hb11)⟩); (case measure => (simp [intOf] <;> omega))) | (go_roundw; (case rel => exact ⟨i + 1, by omega, by go_num, HB.out.up (bel_trans hb10k hb11), bel_trans hbw (bel_trans hb10k hb11)⟩); (case measure => (simp [intOf] <;> omega))) | (refine ⟨?_, by simp [intOf] <;> omega⟩; (repeat apply Exists.intro); refine ⟨?rel, ?fr⟩; (case fr => ((repeat' apply And.intro) <;> rfl)); (case rel => exact ⟨i + 1, by omega, by go_num, HB.out.up (bel_trans hb10k hb11), bel_trans hbw (bel_trans hb10k hb11)⟩)))
      · have b_0 := (HB.out).2 0 _ rfl; have b_1 := (HB.out).2 1 _ rfl; have b_2 := (HB.out).2 2 _ rfl; have b_3 := (HB.out).2 3 _ rfl; have b_4 := (HB.out).2 4 _ rfl; have b_5 := (HB.out).2 5 _ rfl
        go_wp2_with fail
        refine (law14_wakes _).mono ?_
        rintro e w9 ⟨rfl, hb9⟩
        go_wp2_with fail
        go_ret
        exact ⟨rfl, bel_trans hbw hb9⟩
  · have HCK : Hid (chkE D.D = 0) := Lib.hid (by unfold chkE; rw [hm]; rfl)
    have HM := Lib.hid hm
    obtain ⟨tp, htp⟩ : ∃ tp, topE D.D = tp := ⟨_, rfl⟩
    have HTP := Lib.hid htp
    have HTL : Hid (topL D.D.certs = tp) := Lib.hid (by rw [← htp]; unfold topE; rw [if_pos hm])
    clear hm htp
    go_wp2_with fail
    refine (law14_check dA dn dc D.D 0 _ (HD.out.up hbw1) HCK.out).mono ?_
    rintro e w2 ⟨rfl, hb2⟩
    replace hbw1 := bel_trans hbw1 hb2
    clear b_0 b_1 b_2 b_3 b_4 b_5; replace HB1 := Lib.hid (HB1.out.up hb2); replace hgHB1 := HB1.out.1; have b_0 := (HB1.out).2 0 _ rfl; have b_1 := (HB1.out).2 1 _ rfl; have b_2 := (HB1.out).2 2 _ rfl; have b_3 := (HB1.out).2 3 _ rfl; have b_4 := (HB1.out).2 4 _ rfl; have b_5 := (HB1.out).2 5 _ rfl
    go_wp2_with fail
    refine (ref14_Top dA dn dc D.D.certs _ _ tp _ (HD.out.up hbw1) HTL.out).mono ?_
    rintro e w3 ⟨rfl, hb3⟩
    replace hbw1 := bel_trans hbw1 hb3
    clear b_0 b_1 b_2 b_3 b_4 b_5; replace HB1 := Lib.hid (HB1.out.up hb3); replace hgHB1 := HB1.out.1; have b_0 := (HB1.out).2 0 _ rfl; have b_1 := (HB1.out).2 1 _ rfl; have b_2 := (HB1.out).2 2 _ rfl; have b_3 := (HB1.out).2 3 _ rfl; have b_4 := (HB1.out).2 4 _ rfl; have b_5 := (HB1.out).2 5 _ rfl
    go_wp2_with fail
    refine (dag_Top dA dn dc D.D tp 0 _ (HD.out.up hbw1) HTP.out HCK.out).mono ?_
    rintro e w4 ⟨rfl, hb4⟩
    replace hbw1 := bel_trans hbw1 hb4
    clear b_0 b_1 b_2 b_3 b_4 b_5; replace HB1 := Lib.hid (HB1.out.up hb4); replace hgHB1 := HB1.out.1; have b_0 := (HB1.out).2 0 _ rfl; have b_1 := (HB1.out).2 1 _ rfl; have b_2 := (HB1.out).2 2 _ rfl; have b_3 := (HB1.out).2 3 _ rfl; have b_4 := (HB1.out).2 4 _ rfl; have b_5 := (HB1.out).2 5 _ rfl
    go_wp2_with (go_at_call 44; refine (law14_num _ _).mono ?_; rintro e w' ⟨rfl, rfl⟩)
    go_loopw [7] (fun si wr => ∃ i : Nat, i ≤ im ∧ si = .int .i64 i ∧ BoxR wr w.heap.size [.int .i64 D.D.nodes, .int .i64 D.D.low, .slice dA dn dc, .slice cA cn cc, .slice iA im ic, .slice pA pn pc] ∧ Below w.heap.size w wr) (fun si _ => im - (intOf si).toNat)
    case atStart => exact ⟨0, Nat.zero_le _, rfl, HB1.out, hbw1⟩
    case round =>
      obtain ⟨i, hi, rfl, hB, hbw⟩ := hrel
      (obtain ⟨wk, hwk⟩ : ∃ x, x = wr := ⟨_, rfl⟩); subst hwk
      have hgHB := hB.1
      have HB := Lib.hid hB
      clear hB
      by_cases hlt : i < im
      · obtain ⟨ib, ioff, rfl, hib, hic⟩ := (HI.out.up hbw).2.2 (by omega)
        obtain ⟨x, hx⟩ : ∃ x, x = nth D.I i := ⟨_, rfl⟩
        have hq0 := hic i hlt
        rw [← hx] at hq0
        have hcells : ∀ X, Below wk.heap.size wk X → X.cell? ⟨w.heap.size, 0, none⟩ = some (.int .i64 D.D.nodes) ∧ X.cell? ⟨w.heap.size, 1, none⟩ = some (.int .i64 D.D.low) ∧ X.cell? ⟨w.heap.size, 2, none⟩ = some (.slice dA dn dc) ∧ X.cell? ⟨w.heap.size, 3, none⟩ = some (.slice cA cn cc) ∧ X.cell? ⟨w.heap.size, 4, none⟩ = some (.slice (some ⟨ib, ioff, none⟩) im ic) ∧ X.cell? ⟨w.heap.size, 5, none⟩ = some (.slice pA pn pc) ∧ X.cell? ⟨ib, ioff + i, none⟩ = some (.int .i64 x) := fun X hX =>
          ⟨(HB.out.up hX).2 0 _ rfl, (HB.out.up hX).2 1 _ rfl, (HB.out.up hX).2 2 _ rfl, (HB.out.up hX).2 3 _ rfl, (HB.out.up hX).2 4 _ rfl, (HB.out.up hX).2 5 _ rfl, (hX.cell (p := ⟨ib, ioff + i, none⟩) hib).trans hq0⟩
        have HC12 := Lib.hid hcells
        obtain ⟨L, hL⟩ : ∃ L, rnL D.D x = L := ⟨_, rfl⟩
        have HL := Lib.hid hL
        have hll : L.length ≤ 80 := by
          rw [← hL]; unfold rnL; split
          · exact Nat.le_trans (List.length_filter_le _ _) HLD.out.1
          · simp
        have hlight : ∀ k, k < L.length → LightC (cth L k) := by
          rw [← hL]; unfold rnL; split
          · intro k hk
            have hm := cth_mem hk
            obtain ⟨j, hj, e⟩ := mem_cth (List.mem_filter.1 hm).1
            rw [← e]
            exact HLD.out.2 j hj
          · intro k hk; simp at hk
        have HLI := Lib.hid hlight
        have HLR : Hid (L = roundL D.D.certs x) := Lib.hid (by rw [← hL]; unfold rnL; rw [if_pos HM.out])
        clear hic hq0 hcells hx hL hlight
        obtain ⟨b_0, b_1, b_2, b_3, b_4, b_5, q0⟩ := HC12.out wk (by (repeat (first | (with_reducible exact Below.refl _ _) | (with_reducible assumption) | (with_reducible apply bel_alloc) | (with_reducible apply bel_drew) | (with_reducible apply bel_drewN) | (with_reducible refine bel_trans ?_ (by with_reducible assumption)) | (with_reducible refine bel_trans ?_ (HF.out _)) | ((with_reducible refine bel_set3 ?_ ?_); rotate_left; omega))))
        go_wp2_with fail
        clear b_0 b_1 b_2 b_3 b_4 b_5 q0
        go_region_held3 (fun X => X.cell? ⟨w.heap.size, 0, none⟩ = some (.int .i64 D.D.nodes) ∧ X.cell? ⟨w.heap.size, 1, none⟩ = some (.int .i64 D.D.low) ∧ X.cell? ⟨w.heap.size, 2, none⟩ = some (.slice dA dn dc) ∧ X.cell? ⟨w.heap.size, 3, none⟩ = some (.slice cA cn cc) ∧ X.cell? ⟨w.heap.size, 4, none⟩ = some (.slice (some ⟨ib, ioff, none⟩) im ic) ∧ X.cell? ⟨w.heap.size, 5, none⟩ = some (.slice pA pn pc) ∧ X.cell? ⟨ib, ioff + i, none⟩ = some (.int .i64 x))
          (exact HC12.out _ (by (repeat (first | (with_reducible exact Below.refl _ _) | (with_reducible assumption) | (with_reducible apply bel_alloc) | (with_reducible apply bel_drew) | (with_reducible apply bel_drewN) | (with_reducible refine bel_trans ?_ (by with_reducible assumption)) | (with_reducible refine bel_trans ?_ (HF.out _)) | (with_reducible refine bel_set ?_ (by simp) _) | (with_reducible refine bel_set ?_ (by simp; omega) _) | (with_reducible refine bel_set ?_ (by omega) _)))))
          ((go_at_call 57; refine (ref14_Round dA dn dc D.D.certs _ _ x _ (HD.out.up (bel_trans hbw (by (repeat (first | (with_reducible exact Below.refl _ _) | (with_reducible assumption) | (with_reducible apply bel_alloc) | (with_reducible apply bel_drew) | (with_reducible apply bel_drewN) | (with_reducible refine bel_trans ?_ (by with_reducible assumption)) | (with_reducible refine bel_trans ?_ (HF.out _)) | (with_reducible refine bel_set ?_ (by simp) _) | (with_reducible refine bel_set ?_ (by simp; omega) _) | (with_reducible refine bel_set ?_ (by omega) _)))))) HLD.out).mono ?_; rw [← HLR.out]; rintro e w5 ⟨v5, ps5, rfl, hown5, hb5⟩; obtain ⟨A5, n5, c5, rfl, hn5⟩ := hown5.named2 (by omega); have hb5k : Below wk.heap.size wk w5 := (by (repeat (first | (with_reducible exact Below.refl _ _) | (with_reducible assumption) | (with_reducible apply bel_alloc) | (with_reducible apply bel_drew) | (with_reducible apply bel_drewN) | (with_reducible refine bel_trans ?_ (by with_reducible assumption)) | (with_reducible refine bel_trans ?_ (HF.out _)) | (with_reducible refine bel_set ?_ (by simp) _) | (with_reducible refine bel_set ?_ (by simp; omega) _) | (with_reducible refine bel_set ?_ (by omega) _))))))
        have HC5 := Lib.hid (OwnC.cs' hown5 (by omega))
        have HN5 := Lib.hid hn5
        clear hown5 hb5 hn5
        obtain ⟨b_0, b_1, b_2, b_3, b_4, b_5, q0⟩ := HC12.out w5 (by (repeat (first | (with_reducible exact Below.refl _ _) | (with_reducible assumption) | (with_reducible apply bel_alloc) | (with_reducible apply bel_drew) | (with_reducible apply bel_drewN) | (with_reducible refine bel_trans ?_ (by with_reducible assumption)) | (with_reducible refine bel_trans ?_ (HF.out _)) | ((with_reducible refine bel_set3 ?_ ?_); rotate_left; omega))))
        go_wp2_with fail
        clear b_0 b_1 b_2 b_3 b_4 b_5 q0
        go_region_held3 (fun X => X.cell? ⟨w.heap.size, 0, none⟩ = some (.int .i64 D.D.nodes) ∧ X.cell? ⟨w.heap.size, 1, none⟩ = some (.int .i64 D.D.low) ∧ X.cell? ⟨w.heap.size, 2, none⟩ = some (.slice dA dn dc) ∧ X.cell? ⟨w.heap.size, 3, none⟩ = some (.slice cA cn cc) ∧ X.cell? ⟨w.heap.size, 4, none⟩ = some (.slice (some ⟨ib, ioff, none⟩) im ic) ∧ X.cell? ⟨w.heap.size, 5, none⟩ = some (.slice pA pn pc) ∧ X.cell? ⟨ib, ioff + i, none⟩ = some (.int .i64 x))
          (exact HC12.out _ (by (repeat (first | (with_reducible exact Below.refl _ _) | (with_reducible assumption) | (with_reducible apply bel_alloc) | (with_reducible apply bel_drew) | (with_reducible apply bel_drewN) | (with_reducible refine bel_trans ?_ (by with_reducible assumption)) | (with_reducible refine bel_trans ?_ (HF.out _)) | (with_reducible refine bel_set ?_ (by simp) _) | (with_reducible refine bel_set ?_ (by simp; omega) _) | (with_reducible refine bel_set ?_ (by omega) _)))))
          ((go_at_call 58; refine (dag_Round dA dn dc D.D x 0 L _ (HD.out.up (bel_trans hbw (by (repeat (first | (with_reducible exact Below.refl _ _) | (with_reducible assumption) | (with_reducible apply bel_alloc) | (with_reducible apply bel_drew) | (with_reducible apply bel_drewN) | (with_reducible refine bel_trans ?_ (by with_reducible assumption)) | (with_reducible refine bel_trans ?_ (HF.out _)) | (with_reducible refine bel_set ?_ (by simp) _) | (with_reducible refine bel_set ?_ (by simp; omega) _) | (with_reducible refine bel_set ?_ (by omega) _)))))) hdc hdm HCK.out HL.out).mono ?_; rintro e w6 ⟨v6, ps6, rfl, hown6, hb6⟩; obtain ⟨A6, c6, rfl, _⟩ := own_row hown6.1 (by omega); have ho6 := OwnD.mono hown6 (Below.size (B := wk.heap.size) (w := wk) (by (repeat (first | (with_reducible exact Below.refl _ _) | (with_reducible assumption) | (with_reducible apply bel_alloc) | (with_reducible apply bel_drew) | (with_reducible apply bel_drewN) | (with_reducible refine bel_trans ?_ (by with_reducible assumption)) | (with_reducible refine bel_trans ?_ (HF.out _)) | (with_reducible refine bel_set ?_ (by simp) _) | (with_reducible refine bel_set ?_ (by simp; omega) _) | (with_reducible refine bel_set ?_ (by omega) _))))); have hb6k : Below wk.heap.size wk w6 := (by (repeat (first | (with_reducible exact Below.refl _ _) | (with_reducible assumption) | (with_reducible apply bel_alloc) | (with_reducible apply bel_drew) | (with_reducible apply bel_drewN) | (with_reducible refine bel_trans ?_ (by with_reducible assumption)) | (with_reducible refine bel_trans ?_ (HF.out _)) | (with_reducible refine bel_set ?_ (by simp) _) | (with_reducible refine bel_set ?_ (by simp; omega) _) | (with_reducible refine bel_set ?_ (by omega) _))))))
        have hb56 : Below w5.heap.size w5 w6 := bel_trans (bel_drew (Below.refl _ _)) hb6
        have HO6 := Lib.hid ho6
        have hsh : Short L := fun k hk => by
          obtain ⟨a1, a2, a3⟩ := HLI.out k hk
          exact ⟨Nat.le_trans a1 (by omega), Nat.le_trans a2 (by omega), Nat.le_trans a3 (by omega)⟩
        have HSH := Lib.hid hsh
        have hg6 : w.heap.size < w6.heap.size := Nat.lt_of_lt_of_le hgHB hb6k.size
        have hi6 : ib < w6.heap.size := Nat.lt_of_lt_of_le hib hb6k.size
        clear hown6 ho6 hsh
        obtain ⟨b_0, b_1, b_2, b_3, b_4, b_5, q0⟩ := HC12.out w6 (by (repeat (first | (with_reducible exact Below.refl _ _) | (with_reducible assumption) | (with_reducible apply bel_alloc) | (with_reducible apply bel_drew) | (with_reducible apply bel_drewN) | (with_reducible refine bel_trans ?_ (by with_reducible assumption)) | (with_reducible refine bel_trans ?_ (HF.out _)) | ((with_reducible refine bel_set3 ?_ ?_); rotate_left; omega))))
        go_wp2_with (go_at_call 44; refine (law14_num _ _).mono ?_; rintro e w' ⟨rfl, rfl⟩)
        have hn56 : n5 = L.length := HN5.out.symm
        subst hn56
        refine (ref0_EqCerts A6 L.length c6 A5 c5 L _ (OwnD.cs' HO6.out HSH.out (by omega)) (HC5.out.up hb56)).mono ?_
        rintro e w7 ⟨rfl, hb7⟩
        have hb7k := bel_trans hb6k hb7
        have hg7 : w.heap.size < w7.heap.size := Nat.lt_of_lt_of_le hgHB hb7k.size
        clear b_0 b_1 b_2 b_3 b_4 b_5 q0
        obtain ⟨b_0, b_1, b_2, b_3, b_4, b_5, q0⟩ := HC12.out w7 (by (repeat (first | (with_reducible exact Below.refl _ _) | (with_reducible assumption) | (with_reducible apply bel_alloc) | (with_reducible apply bel_drew) | (with_reducible apply bel_drewN) | (with_reducible refine bel_trans ?_ (by with_reducible assumption)) | (with_reducible refine bel_trans ?_ (HF.out _)) | ((with_reducible refine bel_set3 ?_ ?_); rotate_left; omega))))
        go_wp2_with fail
        refine (ref0_CopyDagO dA dn dc D.D _ (HD.out.up (bel_trans hbw hb7k)) HLD.out).mono ?_
        rintro e w8 ⟨A8, c8, ps8, rfl, hD8, hb8⟩
        have hb8k := bel_trans hb7k hb8
        have HD8 := Lib.hid hD8
        clear hD8
        clear b_0 b_1 b_2 b_3 b_4 b_5 q0
        obtain ⟨b_0, b_1, b_2, b_3, b_4, b_5, q0⟩ := HC12.out w8 (by (repeat (first | (with_reducible exact Below.refl _ _) | (with_reducible assumption) | (with_reducible apply bel_alloc) | (with_reducible apply bel_drew) | (with_reducible apply bel_drewN) | (with_reducible refine bel_trans ?_ (by with_reducible assumption)) | (with_reducible refine bel_trans ?_ (HF.out _)) | ((with_reducible refine bel_set3 ?_ ?_); rotate_left; omega))))
        go_wp2_with fail
        have hX8 : Below w7.heap.size w7 (w8.alloc (.cells #[.int .i64 D.D.nodes, .int .i64 D.D.low, .slice A8 dn c8] 24)) := bel_trans hb8 (bel_alloc (Below.refl _ _))
        have hbox : BoxR (w8.alloc (.cells #[.int .i64 D.D.nodes, .int .i64 D.D.low, .slice A8 dn c8] 24)) w8.heap.size [.int .i64 D.D.nodes, .int .i64 D.D.low, .slice A8 dn c8] := BoxR.new w8 [.int .i64 D.D.nodes, .int .i64 D.D.low, .slice A8 dn c8] 24
        have hOX : OwnC (w8.alloc (.cells #[.int .i64 D.D.nodes, .int .i64 D.D.low, .slice A8 dn c8] 24)) w7.heap.size (.slice A8 dn c8) ps8 D.D.certs := HD8.out.up (bel_alloc (Below.refl _ _))
        generalize (w8.alloc (.cells #[.int .i64 D.D.nodes, .int .i64 D.D.low, .slice A8 dn c8] 24)) = X at *
        have hbX : Below wk.heap.size wk X := bel_trans hb7k hX8
        have h6 := HO6.out.up hb7
        refine (law0_Certs _ L.length (rowCells ps6 L) wk.heap.size w7.heap.size _ (own_up h6.1 hX8) (fun j hj => (OwnD.rows h6 (Nat.le_refl _) (fun k hk => (by obtain ⟨a1, a2, a3⟩ := HLI.out k hk; exact ⟨Nat.le_trans a1 (by omega), Nat.le_trans a2 (by omega), Nat.le_trans a3 (by omega)⟩)) j hj).keep (KeepT.of_below hX8)) (by omega) hbX.size (fun g hg => (own_lt h6.1 g hg).2)).mono ?_
        rintro e w10 ⟨rfl, hm10⟩
        have hb10k : Below wk.heap.size wk w10 := hbX.trans (hm10.below hbX.size)
        have hz10 := hbox.mid hm10 hb8.size
        have HO10 := Lib.hid (hOX.mid hm10)
        clear hbox hOX h6
        clear b_0 b_1 b_2 b_3 b_4 b_5 q0
        obtain ⟨b_0, b_1, b_2, b_3, b_4, b_5, q0⟩ := HC12.out w10 (by (repeat (first | (with_reducible exact Below.refl _ _) | (with_reducible assumption) | (with_reducible apply bel_alloc) | (with_reducible apply bel_drew) | (with_reducible apply bel_drewN) | (with_reducible refine bel_trans ?_ (by with_reducible assumption)) | (with_reducible refine bel_trans ?_ (HF.out _)) | ((with_reducible refine bel_set3 ?_ ?_); rotate_left; omega))))
        have z_0 := (hz10).2 0 _ rfl; have z_1 := (hz10).2 1 _ rfl; have z_2 := (hz10).2 2 _ rfl
        clear hz10
        go_wp2_with fail
        refine (ref0_EqDag A8 dn c8 dA dc D.D _ (HO10.out.cs' (Nat.le_trans HLD.out.1 (by omega))) (HD.out.up (bel_trans hbw hb10k))).mono ?_
        rintro e w11 ⟨rfl, hb11⟩
        go_wp2_with fail
        (first | (go_round; (case rel => exact ⟨i + 1, by omega, by go_num, HB.out.up (bel_trans hb10k hb11), bel_trans hbw (bel_trans hb10k hb11)⟩); (case measure => (simp [intOf] <;> omega))) | (go_roundw; (case rel => exact ⟨i + 1, by omega, by go_num, HB.out.up (bel_trans hb10k hb11), bel_trans hbw (bel_trans hb10k hb11)⟩); (case measure => (simp [intOf] <;> omega))) | (refine ⟨?_, by simp [intOf] <;> omega⟩; (repeat apply Exists.intro); refine ⟨?rel, ?fr⟩; (case fr => ((repeat' apply And.intro) <;> rfl)); (case rel => exact ⟨i + 1, by omega, by go_num, HB.out.up (bel_trans hb10k hb11), bel_trans hbw (bel_trans hb10k hb11)⟩)))
      · have b_0 := (HB.out).2 0 _ rfl; have b_1 := (HB.out).2 1 _ rfl; have b_2 := (HB.out).2 2 _ rfl; have b_3 := (HB.out).2 3 _ rfl; have b_4 := (HB.out).2 4 _ rfl; have b_5 := (HB.out).2 5 _ rfl
        go_wp2_with fail
        refine (law14_wakes _).mono ?_
        rintro e w9 ⟨rfl, hb9⟩
        go_wp2_with fail
        go_ret
        exact ⟨rfl, bel_trans hbw hb9⟩
end Go.Proofs.Ytfkbilbgndekkaa
