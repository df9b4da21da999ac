/- The law DagParents. -/
import Derived.Test.YtfkbilbgndekkaaKt
import Derived.Deep.CutBlock
import Derived.Deep.RegionHeld3
namespace Go.Proofs.Ytfkbilbgndekkaa
open Go.RowKit
set_option linter.unusedSimpArgs false
set_option linter.unusedVariables false

theorem OwnD.csP {w : World} {B : Nat} {A : Option Addr} {m c : Nat} {ps : List CertP} {l : List CertD} (h : OwnD w B (.slice A m c) ps l) (hs : Short l) (hl : l.length ≤ 9223372036854775807) : CertsR w A m l := by
  obtain ⟨A', c', e, h1, _⟩ := (h.toC hs).certs hl
  injection e with e1 e2 e3
  subst e1; subst e2
  exact h1
set_option maxRecDepth 100000 in
set_option maxHeartbeats 16000000 in
theorem law_DagParents (P : AskP) (D : AskD) (w : World) (h : AskR w P D) :
    Calls Try.prog 13 #[askV P D] w fun e w' => e = .returned (.bool true) ∧ Below w.heap.size w w' := by
  obtain ⟨⟨dA, dn, dc⟩, ⟨cA, cn, cc⟩, ⟨iA, im, ic⟩, ⟨pA, pn, pc⟩⟩ := P
  have H := Lib.hid h
  have HD : Hid (CertsR w dA dn D.D.certs) := Lib.hid h.d
  have HC : Hid (CertsR w cA cn D.C) := Lib.hid h.c
  have HI : Hid (IntsR w iA im D.I) := Lib.hid h.i
  have HP : Hid (FloatsR w pA pn D.P) := Lib.hid h.p
  have hdc : dn ≤ dc := h.dc
  have hdm : dc ≤ 9223372036854775807 := h.dm
  clear h
  show Calls Try.prog 13 #[.agg #[.int .i64 D.D.nodes, .int .i64 D.D.low, .slice dA dn dc, .slice cA cn cc, .slice iA im ic, .slice pA pn pc]] w _
  go_enter Try.func13, Try.ntmps13
  go_wp2_with fail
  refine (law14_heavy ⟨⟨dA, dn, dc⟩, ⟨cA, cn, cc⟩, ⟨iA, im, ic⟩, ⟨pA, pn, pc⟩⟩ D _ (H.out.up (by (repeat (first | (with_reducible exact Below.refl _ _) | (with_reducible assumption) | (with_reducible apply bel_alloc) | (with_reducible apply bel_drew) | (with_reducible apply bel_drewN) | (with_reducible refine bel_trans ?_ (by with_reducible assumption)) | (with_reducible refine bel_trans ?_ (HF.out _)) | (with_reducible refine bel_set ?_ (by simp) _) | (with_reducible refine bel_set ?_ (by simp; omega) _) | (with_reducible refine bel_set ?_ (by omega) _)))))).mono ?_
  rintro e w1 ⟨⟨x, rfl, hx⟩, hb1⟩
  cases x
  case true =>
    clear hx
    go_wp2_with fail
    go_ret
    exact ⟨rfl, by (repeat (first | (with_reducible exact Below.refl _ _) | (with_reducible assumption) | (with_reducible apply bel_alloc) | (with_reducible apply bel_drew) | (with_reducible apply bel_drewN) | (with_reducible refine bel_trans ?_ (by with_reducible assumption)) | (with_reducible refine bel_trans ?_ (HF.out _)) | (with_reducible refine bel_set ?_ (by simp) _) | (with_reducible refine bel_set ?_ (by simp; omega) _) | (with_reducible refine bel_set ?_ (by omega) _)))⟩
  case false =>
  have hLt := hx rfl
  have hLd : Light D.D.certs := hLt.d
  have hd80 : dn ≤ 80 := by rw [← HD.out.1]; exact hLd.1
  have hc40 : cn ≤ 40 := hLt.cn
  have hi40 : im ≤ 40 := hLt.i
  have hp40 : pn ≤ 40 := hLt.p
  have hlc : ∀ k, k < cn → LightC (cth D.C k) := hLt.c
  have HLD := Lib.hid hLd
  have HLC := Lib.hid hlc
  have hB1 : BoxR w1 w.heap.size [.int .i64 D.D.nodes, .int .i64 D.D.low, .slice dA dn dc, .slice cA cn cc, .slice iA im ic, .slice pA pn pc] := (BoxR.new w [.int .i64 D.D.nodes, .int .i64 D.D.low, .slice dA dn dc, .slice cA cn cc, .slice iA im ic, .slice pA pn pc] 58).up hb1
  have hbw1 : Below w.heap.size w w1 := by (repeat (first | (with_reducible exact Below.refl _ _) | (with_reducible assumption) | (with_reducible apply bel_alloc) | (with_reducible apply bel_drew) | (with_reducible apply bel_drewN) | (with_reducible refine bel_trans ?_ (by with_reducible assumption)) | (with_reducible refine bel_trans ?_ (HF.out _)) | (with_reducible refine bel_set ?_ (by simp) _) | (with_reducible refine bel_set ?_ (by simp; omega) _) | (with_reducible refine bel_set ?_ (by omega) _)))
  clear hx hLt hLd hlc hb1
  have HB1 := Lib.hid hB1
  have hg1 := hB1.1
  have b_0 := (hB1).2 0 _ rfl; have b_1 := (hB1).2 1 _ rfl; have b_2 := (hB1).2 2 _ rfl; have b_3 := (hB1).2 3 _ rfl; have b_4 := (hB1).2 4 _ rfl; have b_5 := (hB1).2 5 _ rfl
  clear hB1
  cases hm : mayS D.D
  · have HM : Hid (chkE D.D = 1) := Lib.hid (by unfold chkE; rw [hm]; rfl)
    clear hm
    go_wp2_with fail
    refine (dag_Check dA dn dc D.D 1 _ (HD.out.up hbw1) HM.out).mono ?_
    rintro e w2 ⟨rfl, hb2⟩
    go_wp2_with (go_at_call 44; refine (law14_num _ _).mono ?_; rintro e w' ⟨rfl, rfl⟩)
    go_ret
    exact ⟨rfl, bel_trans hbw1 hb2⟩
  · have HCK : Hid (chkE D.D = 0) := Lib.hid (by unfold chkE; rw [hm]; rfl)
    have HM := Lib.hid hm
    obtain ⟨g1, g2, g3, g4, -⟩ := mayS_iff.1 hm
    have hnd := isS_bd g1
    obtain ⟨tp, htp⟩ : ∃ tp, topE D.D = tp := ⟨_, rfl⟩
    have HTP := Lib.hid htp
    have HTL : Hid (topL D.D.certs = tp) := Lib.hid (by rw [← htp]; unfold topE; rw [if_pos hm])
    have htb : tp ≤ 1099511627776 := by
      rw [← HTL.out]; unfold topL; split
      · omega
      · exact (mayS_ro hm (by omega)).2
    clear hm htp g1 g4
    go_wp2_with fail
    refine (dag_Check dA dn dc D.D 0 _ (HD.out.up hbw1) HCK.out).mono ?_
    rintro e w2 ⟨rfl, hb2⟩
    replace hbw1 := bel_trans hbw1 hb2
    clear b_0 b_1 b_2 b_3 b_4 b_5; replace HB1 := Lib.hid (HB1.out.up hb2); replace hgHB1 := HB1.out.1; have b_0 := (HB1.out).2 0 _ rfl; have b_1 := (HB1.out).2 1 _ rfl; have b_2 := (HB1.out).2 2 _ rfl; have b_3 := (HB1.out).2 3 _ rfl; have b_4 := (HB1.out).2 4 _ rfl; have b_5 := (HB1.out).2 5 _ rfl
    go_wp2_with (go_at_call 44; refine (law14_num _ _).mono ?_; rintro e w' ⟨rfl, rfl⟩)
    refine (dag_Top dA dn dc D.D tp 0 _ (HD.out.up hbw1) HTP.out HCK.out).mono ?_
    rintro e w4 ⟨rfl, hb4⟩
    replace hbw1 := bel_trans hbw1 hb4
    clear b_0 b_1 b_2 b_3 b_4 b_5; replace HB1 := Lib.hid (HB1.out.up hb4); replace hgHB1 := HB1.out.1; have b_0 := (HB1.out).2 0 _ rfl; have b_1 := (HB1.out).2 1 _ rfl; have b_2 := (HB1.out).2 2 _ rfl; have b_3 := (HB1.out).2 3 _ rfl; have b_4 := (HB1.out).2 4 _ rfl; have b_5 := (HB1.out).2 5 _ rfl
    go_wp2_with (go_at_call 44; refine (law14_num _ _).mono ?_; rintro e w' ⟨rfl, rfl⟩)
    go_loopw [5] (fun si wr => ∃ r : Int, D.D.low + 1 ≤ r ∧ r ≤ 1099511627777 ∧ si = .int .i64 r ∧ BoxR wr w.heap.size [.int .i64 D.D.nodes, .int .i64 D.D.low, .slice dA dn dc, .slice cA cn cc, .slice iA im ic, .slice pA pn pc] ∧ Below w.heap.size w wr) (fun si _ => (1099511627777 - intOf si).toNat)
    case atStart => exact ⟨D.D.low + 1, by omega, by omega, by go_num, HB1.out, hbw1⟩
    case round =>
      obtain ⟨r, hr1, hr2, rfl, hB, hbw⟩ := hrel
      (obtain ⟨wk, hwk⟩ : ∃ x, x = wr := ⟨_, rfl⟩); subst hwk
      have hgHB := hB.1
      have HB := Lib.hid hB
      clear hB
      have hcells : ∀ X, Below wk.heap.size wk X → X.cell? ⟨w.heap.size, 0, none⟩ = some (.int .i64 D.D.nodes) ∧ X.cell? ⟨w.heap.size, 1, none⟩ = some (.int .i64 D.D.low) ∧ X.cell? ⟨w.heap.size, 2, none⟩ = some (.slice dA dn dc) ∧ X.cell? ⟨w.heap.size, 3, none⟩ = some (.slice cA cn cc) ∧ X.cell? ⟨w.heap.size, 4, none⟩ = some (.slice iA im ic) ∧ X.cell? ⟨w.heap.size, 5, none⟩ = some (.slice pA pn pc) := fun X hX =>
        ⟨(HB.out.up hX).2 0 _ rfl, (HB.out.up hX).2 1 _ rfl, (HB.out.up hX).2 2 _ rfl, (HB.out.up hX).2 3 _ rfl, (HB.out.up hX).2 4 _ rfl, (HB.out.up hX).2 5 _ rfl⟩
      have HCB := Lib.hid hcells
      clear hcells
      by_cases hc : r ≤ tp ∧ r < D.D.low + 100
      · have hcnt := round_counts HM.out (r := r) (by omega) (by rw [HTL.out]; exact hc.1)
        obtain ⟨L, hL⟩ : ∃ L, roundL D.D.certs r = L := ⟨_, rfl⟩
        rw [hL, HTL.out] at hcnt
        obtain ⟨hn1, hn2, hn3⟩ := hcnt
        have HLR : Hid (L = roundL D.D.certs r) := Lib.hid hL.symm
        have HL : Hid (rnL D.D r = L) := Lib.hid (by unfold rnL; rw [if_pos HM.out]; exact hL)
        have hsh : Short L := fun k hk => by
          have hm := cth_mem hk
          rw [← hL] at hm
          obtain ⟨i', hi', e⟩ := mem_cth (List.mem_filter.1 hm).1
          rw [← hL] at hk ⊢
          rw [← e]
          exact mayS_short HM.out i' hi'
        have HSH := Lib.hid hsh
        have h80 : L.length ≤ 80 := by rw [← hL]; exact Nat.le_trans (List.length_filter_le _ _) HLD.out.1
        have hs1 : decide (r ≤ tp) = true := by simpa using hc.1
        have hs2 : decide (r < D.D.low + 100) = true := by simpa using hc.2
        clear hsh hL
        obtain ⟨b_0, b_1, b_2, b_3, b_4, b_5⟩ := HCB.out wk (by (repeat (first | (with_reducible exact Below.refl _ _) | (with_reducible assumption) | (with_reducible apply bel_alloc) | (with_reducible apply bel_drew) | (with_reducible apply bel_drewN) | (with_reducible refine bel_trans ?_ (by with_reducible assumption)) | (with_reducible refine bel_trans ?_ (HF.out _)) | ((with_reducible refine bel_set3 ?_ ?_); rotate_left; omega))))
        go_wp2_with fail
        refine (dag_Round dA dn dc D.D r 0 L _ (HD.out.up hbw) hdc hdm HCK.out HL.out).mono ?_
        rintro e w6 ⟨v6, ps6, rfl, hown6, hb6⟩
        obtain ⟨A6, c6, rfl, _⟩ := own_row hown6.1 (by omega)
        have HO6 := Lib.hid hown6
        clear hown6
        clear b_0 b_1 b_2 b_3 b_4 b_5
        obtain ⟨b_0, b_1, b_2, b_3, b_4, b_5⟩ := HCB.out w6 (by (repeat (first | (with_reducible exact Below.refl _ _) | (with_reducible assumption) | (with_reducible apply bel_alloc) | (with_reducible apply bel_drew) | (with_reducible apply bel_drewN) | (with_reducible refine bel_trans ?_ (by with_reducible assumption)) | (with_reducible refine bel_trans ?_ (HF.out _)) | ((with_reducible refine bel_set3 ?_ ?_); rotate_left; omega))))
        have he0 : ((L.length : Int) == 0) = false := by rw [beq_eq_false_iff_ne]; omega
        have he1 : decide (D.D.nodes < (L.length : Int)) = false := by rw [decide_eq_false_iff_not]; omega
        by_cases htop : r < tp
        · have hs3 : decide (r < tp) = true := by simpa using htop
          have he2 : decide ((L.length : Int) < 2 * (D.D.nodes / 3) + 1) = false := by rw [decide_eq_false_iff_not]; have := hn3 htop; omega
          clear hn3
          go_wp2_with (go_at_call 44; refine (law14_num _ _).mono ?_; rintro e w' ⟨rfl, rfl⟩)
          refine (ref2_Quorum D.D.nodes _ (by omega) (by omega)).mono ?_
          rintro e w9 ⟨rfl, rfl⟩
          go_wp2_with fail
          clear b_0 b_1 b_2 b_3 b_4 b_5
          go_loopw [8] (fun si wr => ∃ j : Nat, j ≤ L.length ∧ si = .int .i64 j ∧ OwnD wr wk.heap.size (.slice A6 L.length c6) ps6 L ∧ Below wk.heap.size wk wr) (fun si _ => L.length - (intOf si).toNat)
          case atStart => exact ⟨0, Nat.zero_le _, rfl, HO6.out, hb6⟩
          case round =>
            clear hb6
            obtain ⟨j, hj, rfl, hO, hbvk⟩ := hrel
            (obtain ⟨wv, hwv⟩ : ∃ x, x = wr := ⟨_, rfl⟩); subst hwv
            by_cases hlt2 : j < L.length ∧ D.D.low + 1 < r
            · obtain ⟨hlt2, hlow2⟩ := hlt2
              obtain ⟨lb, loff, rfl, hlb, hlc⟩ := (OwnD.csP hO HSH.out (by omega)).2.2 (by omega)
              obtain ⟨p, hat, hcr⟩ := hlc j hlt2
              obtain ⟨c0, c1, c2, c3, c4, c5⟩ := hat
              have HPL := Lib.hid hcr.1.2.1
              have HPA : Hid (IntsR wv p.h.p.A p.h.p.n (cth L j).h.pa) := Lib.hid hcr.1.2
              have hpm : p.h.p.n ≤ 9223372036854775807 := hcr.1.2.2.1
              have hmem := cth_mem hlt2
              have hm2 : cth L j ∈ D.D.certs ∧ (cth L j).h.ro = r := by
                rw [HLR.out] at hmem ⊢
                have h5 := List.mem_filter.1 hmem
                exact ⟨h5.1, by simpa using h5.2⟩
              have HCM := Lib.hid hm2.1
              have HRO := Lib.hid hm2.2
              have hquo := par_quo HM.out hm2.1 (by rw [hm2.2]; exact hlow2)
              rw [hcr.1.2.1] at hquo
              have HQ3 : Hid (wv.cell? ⟨lb, loff + j * 6 + 3, none⟩ = some (.slice p.h.p.A p.h.p.n p.h.p.c)) := Lib.hid c3
              obtain ⟨⟨⟨uA, un, uc⟩, ⟨vA, vn, vc⟩⟩, ⟨rA, rn, rc⟩⟩ := p
              dsimp only at hquo HPL HPA HQ3 hpm
              have hs1 : decide ((j : Int) < (L.length : Int)) = true := by simpa using hlt2
              have hs2 : decide (D.D.low + 1 < r) = true := by simpa using hlow2
              have hgv : w.heap.size < wv.heap.size := Nat.lt_of_lt_of_le hgHB hbvk.size
              clear hlc hcr hmem hm2 c0 c1 c2 c4 c5
              obtain ⟨b_0, b_1, b_2, b_3, b_4, b_5⟩ := HCB.out wv (by (repeat (first | (with_reducible exact Below.refl _ _) | (with_reducible assumption) | (with_reducible apply bel_alloc) | (with_reducible apply bel_drew) | (with_reducible apply bel_drewN) | (with_reducible refine bel_trans ?_ (by with_reducible assumption)) | (with_reducible refine bel_trans ?_ (HF.out _)) | ((with_reducible refine bel_set3 ?_ ?_); rotate_left; omega))))
              have HO := Lib.hid hO
              clear hO
              go_wp2_with fail
              clear b_0 b_1 b_2 b_3 b_4 b_5
              clear c3
              go_loopw [9, 10] (fun s9 s10 wr => ∃ k : Nat, k ≤ vn ∧ s9 = .int .i64 k ∧ s10 = .int .i64 k ∧ Below wv.heap.size wv wr) (fun _ s10 _ => vn - (intOf s10).toNat)
              case atStart => exact ⟨0, Nat.zero_le _, rfl, rfl, Below.refl _ _⟩
              case round =>
                obtain ⟨k, hk, rfl, rfl, hbr⟩ := hrel
                (obtain ⟨wr, hwr⟩ : ∃ x, x = wr := ⟨_, rfl⟩); subst hwr
                by_cases hlt3 : k < vn
                · have hkl : k < (cth L j).h.pa.length := by rw [HPL.out]; exact hlt3
                  obtain ⟨qb, qoff, rfl, hqb, hqc⟩ := (HPA.out.up hbr).2.2 (by omega)
                  obtain ⟨x, hx⟩ : ∃ x, x = nth (cth L j).h.pa k := ⟨_, rfl⟩
                  have hq0 := hqc k hlt3
                  rw [← hx] at hq0
                  have hxm : x ∈ (cth L j).h.pa := by rw [hx]; simp [nth, hkl]
                  obtain ⟨f1, f2⟩ := par_find HM.out HCM.out (by rw [HRO.out]; omega) hxm
                  rw [HRO.out] at f2
                  obtain ⟨C, hC⟩ : ∃ C, pkC D.D (findS D.D.certs x) = C := ⟨_, rfl⟩
                  rw [hC] at f2
                  have hcells : ∀ X, Below wr.heap.size wr X → X.cell? ⟨w.heap.size, 0, none⟩ = some (.int .i64 D.D.nodes) ∧ X.cell? ⟨w.heap.size, 1, none⟩ = some (.int .i64 D.D.low) ∧ X.cell? ⟨w.heap.size, 2, none⟩ = some (.slice dA dn dc) ∧ X.cell? ⟨w.heap.size, 3, none⟩ = some (.slice cA cn cc) ∧ X.cell? ⟨w.heap.size, 4, none⟩ = some (.slice iA im ic) ∧ X.cell? ⟨w.heap.size, 5, none⟩ = some (.slice pA pn pc) ∧ X.cell? ⟨lb, loff + j * 6 + 3, none⟩ = some (.slice (some ⟨qb, qoff, none⟩) vn vc) ∧ X.cell? ⟨qb, qoff + k, none⟩ = some (.int .i64 x) := fun X hX => by
                    have hX2 := bel_trans hbr hX
                    obtain ⟨a0, a1, a2, a3, a4, a5⟩ := HCB.out X (bel_trans hbvk hX2)
                    exact ⟨a0, a1, a2, a3, a4, a5, (hX2.cell (p := ⟨lb, loff + j * 6 + 3, none⟩) hlb).trans HQ3.out, (hX.cell (p := ⟨qb, qoff + k, none⟩) hqb).trans hq0⟩
                  have HC3 := Lib.hid hcells
                  have HF1 := Lib.hid f1
                  have HPC := Lib.hid hC
                  have hbrk : Below wk.heap.size wk wr := bel_trans hbvk hbr
                  have hgr : w.heap.size < wr.heap.size := Nat.lt_of_lt_of_le hgHB hbrk.size
                  have hlr : lb < wr.heap.size := Nat.lt_of_lt_of_le hlb hbr.size
                  have hkr := hbrk.size
                  have hf2 : (C.h.ro == r - 1) = true := by rw [f2]; simp
                  clear hqc hq0 hxm f1 f2 hC hcells hx hkl
                  obtain ⟨b_0, b_1, b_2, b_3, b_4, b_5, q3, q0⟩ := HC3.out wr (by (repeat (first | (with_reducible exact Below.refl _ _) | (with_reducible assumption) | (with_reducible apply bel_alloc) | (with_reducible apply bel_drew) | (with_reducible apply bel_drewN) | (with_reducible refine bel_trans ?_ (by with_reducible assumption)) | (with_reducible refine bel_trans ?_ (HF.out _)) | ((with_reducible refine bel_set3 ?_ ?_); rotate_left; omega))))
                  go_upto_region 19 with fail
                  go_cut [11, 12] from 110 to 124 (fun s11 s12 wx => ∃ (g : Nat) (q : CertP), s11 = .pointer (some ⟨g, 0, none⟩) ∧ s12 = .int .i64 0 ∧ Blk wx g 48 [.int .i64 C.h.au, .int .i64 C.h.ro, .slice q.h.b.A q.h.b.n q.h.b.c, .slice q.h.p.A q.h.p.n q.h.p.c, .int .i64 C.di, .slice q.s.A q.s.n q.s.c] ∧ Below wr.heap.size wr wx)
                  case first =>
                    clear b_0 b_1 b_2 b_3 b_4 b_5 q3 q0
                    go_region_held3 (fun X => X.cell? ⟨w.heap.size, 0, none⟩ = some (.int .i64 D.D.nodes) ∧ X.cell? ⟨w.heap.size, 1, none⟩ = some (.int .i64 D.D.low) ∧ X.cell? ⟨w.heap.size, 2, none⟩ = some (.slice dA dn dc) ∧ X.cell? ⟨w.heap.size, 3, none⟩ = some (.slice cA cn cc) ∧ X.cell? ⟨w.heap.size, 4, none⟩ = some (.slice iA im ic) ∧ X.cell? ⟨w.heap.size, 5, none⟩ = some (.slice pA pn pc) ∧ X.cell? ⟨lb, loff + j * 6 + 3, none⟩ = some (.slice (some ⟨qb, qoff, none⟩) vn vc) ∧ X.cell? ⟨qb, qoff + k, none⟩ = some (.int .i64 x))
                      (exact HC3.out _ (by (repeat (first | (with_reducible exact Below.refl _ _) | (with_reducible assumption) | (with_reducible apply bel_alloc) | (with_reducible apply bel_drew) | (with_reducible apply bel_drewN) | (with_reducible refine bel_trans ?_ (by with_reducible assumption)) | (with_reducible refine bel_trans ?_ (HF.out _)) | ((with_reducible refine bel_set3 ?_ ?_); rotate_left; omega)))))
                      ((go_at_call 61; refine (dag_Find _ dn dc D.D x 0 C _ (HD.out.up (bel_trans hbw (bel_trans hbrk (by (repeat (first | (with_reducible exact Below.refl _ _) | (with_reducible assumption) | (with_reducible apply bel_alloc) | (with_reducible apply bel_drew) | (with_reducible apply bel_drewN) | (with_reducible refine bel_trans ?_ (by with_reducible assumption)) | (with_reducible refine bel_trans ?_ (HF.out _)) | (with_reducible refine bel_set ?_ (by simp) _) | (with_reducible refine bel_set ?_ (by simp; omega) _) | (with_reducible refine bel_set ?_ (by omega) _))))))) HF1.out HPC.out).mono ?_; rintro e w7 ⟨q, rfl, ho, hb7⟩; (try have hcA := fun o => (bcell hb7).1 wr.heap.size o (by first | (simp; done) | (simp; omega) | omega)); (try have hfA := fun o => (bcell hb7).2 wr.heap.size o (by first | (simp; done) | (simp; omega) | omega)); have hzA := hb7.size; (try simp at hzA)))
                    · go_wp2_with fail
                      go_meet
                      exact ⟨_, q, rfl, rfl, Blk.new w7 48 [.int .i64 C.h.au, .int .i64 C.h.ro, .slice q.h.b.A q.h.b.n q.h.b.c, .slice q.h.p.A q.h.p.n q.h.p.c, .int .i64 C.di, .slice q.s.A q.s.n q.s.c], by (repeat (first | (with_reducible exact Below.refl _ _) | (with_reducible assumption) | (with_reducible apply bel_alloc) | (with_reducible apply bel_drew) | (with_reducible apply bel_drewN) | (with_reducible refine bel_trans ?_ (by with_reducible assumption)) | (with_reducible refine bel_trans ?_ (HF.out _)) | ((with_reducible refine bel_set3 ?_ ?_); rotate_left; omega)))⟩
                    · go_wp2_with fail
                      go_meet
                      have hk : Blk w7 wr.heap.size 48 [.int .i64 0, .int .i64 0, .slice none 0 0, .slice none 0 0, .int .i64 0, .slice none 0 0] := Blk.up (Blk.new wr.drew 48 [.int .i64 0, .int .i64 0, .slice none 0 0, .slice none 0 0, .int .i64 0, .slice none 0 0]) hb7
                      have hbw7 : Below wr.heap.size wr w7 := by (repeat (first | (with_reducible exact Below.refl _ _) | (with_reducible assumption) | (with_reducible apply bel_alloc) | (with_reducible apply bel_drew) | (with_reducible apply bel_drewN) | (with_reducible refine bel_trans ?_ (by with_reducible assumption)) | (with_reducible refine bel_trans ?_ (HF.out _)) | ((with_reducible refine bel_set3 ?_ ?_); rotate_left; omega)))
                      exact ⟨_, q, rfl, rfl, ((((((hk.set_ 0 (.int .i64 C.h.au)).set_ 1 (.int .i64 C.h.ro)).set_ 2 (.slice q.h.b.A q.h.b.n q.h.b.c)).set_ 3 (.slice q.h.p.A q.h.p.n q.h.p.c)).set_ 4 (.int .i64 C.di)).set_ 5 (.slice q.s.A q.s.n q.s.c)), by (repeat (first | (with_reducible exact Below.refl _ _) | (with_reducible assumption) | (with_reducible apply bel_alloc) | (with_reducible apply bel_drew) | (with_reducible apply bel_drewN) | (with_reducible refine bel_trans ?_ (by with_reducible assumption)) | (with_reducible refine bel_trans ?_ (HF.out _)) | ((with_reducible refine bel_set3 ?_ ?_); rotate_left; omega)))⟩
                  case rest =>
                  obtain ⟨g, q, rfl, rfl, hX7, hb7⟩ := hcut
                  have hx7l := hX7.lt
                  clear b_0 b_1 b_2 b_3 b_4 b_5 q3 q0
                  have y_0 := (hX7.box).2 0 _ rfl; have y_1 := (hX7.box).2 1 _ rfl; have y_2 := (hX7.box).2 2 _ rfl; have y_3 := (hX7.box).2 3 _ rfl; have y_4 := (hX7.box).2 4 _ rfl; have y_5 := (hX7.box).2 5 _ rfl
                  clear hX7
                  go_wp2_with (go_at_call 44; refine (law14_num _ _).mono ?_; rintro e w' ⟨rfl, rfl⟩)
                  (first | (go_round; (case rel => exact ⟨k + 1, by omega, by go_num, by go_num, bel_trans hbr hb7⟩); (case measure => (simp [intOf] <;> omega))) | (go_roundw; (case rel => exact ⟨k + 1, by omega, by go_num, by go_num, bel_trans hbr hb7⟩); (case measure => (simp [intOf] <;> omega))) | (refine ⟨?_, by simp [intOf] <;> omega⟩; (repeat apply Exists.intro); refine ⟨?rel, ?fr⟩; (case fr => ((repeat' apply And.intro) <;> rfl)); (case rel => exact ⟨k + 1, by omega, by go_num, by go_num, bel_trans hbr hb7⟩)))
                · obtain rfl : k = vn := by omega
                  have hbrk : Below wk.heap.size wk wr := bel_trans hbvk hbr
                  have q3 := (hbr.cell (p := ⟨lb, loff + j * 6 + 3, none⟩) hlb).trans HQ3.out
                  have hlr : lb < wr.heap.size := Nat.lt_of_lt_of_le hlb hbr.size
                  have hsq : decide ((k : Int) < 2 * (D.D.nodes / 3) + 1) = false := by rw [decide_eq_false_iff_not]; omega
                  obtain ⟨b_0, b_1, b_2, b_3, b_4, b_5⟩ := HCB.out wr (by (repeat (first | (with_reducible exact Below.refl _ _) | (with_reducible assumption) | (with_reducible apply bel_alloc) | (with_reducible apply bel_drew) | (with_reducible apply bel_drewN) | (with_reducible refine bel_trans ?_ (by with_reducible assumption)) | (with_reducible refine bel_trans ?_ (HF.out _)) | ((with_reducible refine bel_set3 ?_ ?_); rotate_left; omega))))
                  go_wp2_with fail
                  refine (ref2_Quorum D.D.nodes _ (by omega) (by omega)).mono ?_
                  rintro e w9 ⟨rfl, rfl⟩
                  go_wp2_with fail
                  (first | (go_round; (case rel => exact ⟨j + 1, by omega, by go_num, HO.out.up hbr, hbrk⟩); (case measure => (simp [intOf] <;> omega))) | (go_roundw; (case rel => exact ⟨j + 1, by omega, by go_num, HO.out.up hbr, hbrk⟩); (case measure => (simp [intOf] <;> omega))) | (refine ⟨?_, by simp [intOf] <;> omega⟩; (repeat apply Exists.intro); refine ⟨?rel, ?fr⟩; (case fr => ((repeat' apply And.intro) <;> rfl)); (case rel => exact ⟨j + 1, by omega, by go_num, HO.out.up hbr, hbrk⟩)))
            · clear hO
              obtain ⟨b_0, b_1, b_2, b_3, b_4, b_5⟩ := HCB.out wv (by (repeat (first | (with_reducible exact Below.refl _ _) | (with_reducible assumption) | (with_reducible apply bel_alloc) | (with_reducible apply bel_drew) | (with_reducible apply bel_drewN) | (with_reducible refine bel_trans ?_ (by with_reducible assumption)) | (with_reducible refine bel_trans ?_ (HF.out _)) | ((with_reducible refine bel_set3 ?_ ?_); rotate_left; omega))))
              by_cases hj2 : j < L.length
              · have hs1 : decide ((j : Int) < (L.length : Int)) = true := by simpa using hj2
                have hs2 : decide (D.D.low + 1 < r) = false := by rw [decide_eq_false_iff_not]; intro h; exact hlt2 ⟨hj2, h⟩
                clear hlt2
                go_wp2_with fail
                (first | (go_round; (case rel => exact ⟨r + 1, by omega, by omega, by go_num, HB.out.up hbvk, bel_trans hbw hbvk⟩); (case measure => (simp [intOf] <;> omega))) | (go_roundw; (case rel => exact ⟨r + 1, by omega, by omega, by go_num, HB.out.up hbvk, bel_trans hbw hbvk⟩); (case measure => (simp [intOf] <;> omega))) | (refine ⟨?_, by simp [intOf] <;> omega⟩; (repeat apply Exists.intro); refine ⟨?rel, ?fr⟩; (case fr => ((repeat' apply And.intro) <;> rfl)); (case rel => exact ⟨r + 1, by omega, by omega, by go_num, HB.out.up hbvk, bel_trans hbw hbvk⟩)))
              · have hs1 : decide ((j : Int) < (L.length : Int)) = false := by simpa using hj2
                clear hlt2
                go_wp2_with fail
                (first | (go_round; (case rel => exact ⟨r + 1, by omega, by omega, by go_num, HB.out.up hbvk, bel_trans hbw hbvk⟩); (case measure => (simp [intOf] <;> omega))) | (go_roundw; (case rel => exact ⟨r + 1, by omega, by omega, by go_num, HB.out.up hbvk, bel_trans hbw hbvk⟩); (case measure => (simp [intOf] <;> omega))) | (refine ⟨?_, by simp [intOf] <;> omega⟩; (repeat apply Exists.intro); refine ⟨?rel, ?fr⟩; (case fr => ((repeat' apply And.intro) <;> rfl)); (case rel => exact ⟨r + 1, by omega, by omega, by go_num, HB.out.up hbvk, bel_trans hbw hbvk⟩)))
        · have hs3 : decide (r < tp) = false := by simpa using htop
          clear hn3
          go_wp2_with (go_at_call 44; refine (law14_num _ _).mono ?_; rintro e w' ⟨rfl, rfl⟩)
          clear b_0 b_1 b_2 b_3 b_4 b_5
          go_loopw [8] (fun si wr => ∃ j : Nat, j ≤ L.length ∧ si = .int .i64 j ∧ OwnD wr wk.heap.size (.slice A6 L.length c6) ps6 L ∧ Below wk.heap.size wk wr) (fun si _ => L.length - (intOf si).toNat)
          case atStart => exact ⟨0, Nat.zero_le _, rfl, HO6.out, hb6⟩
          case round =>
            clear hb6
            obtain ⟨j, hj, rfl, hO, hbvk⟩ := hrel
            (obtain ⟨wv, hwv⟩ : ∃ x, x = wr := ⟨_, rfl⟩); subst hwv
            by_cases hlt2 : j < L.length ∧ D.D.low + 1 < r
            · obtain ⟨hlt2, hlow2⟩ := hlt2
              obtain ⟨lb, loff, rfl, hlb, hlc⟩ := (OwnD.csP hO HSH.out (by omega)).2.2 (by omega)
              obtain ⟨p, hat, hcr⟩ := hlc j hlt2
              obtain ⟨c0, c1, c2, c3, c4, c5⟩ := hat
              have HPL := Lib.hid hcr.1.2.1
              have HPA : Hid (IntsR wv p.h.p.A p.h.p.n (cth L j).h.pa) := Lib.hid hcr.1.2
              have hpm : p.h.p.n ≤ 9223372036854775807 := hcr.1.2.2.1
              have hmem := cth_mem hlt2
              have hm2 : cth L j ∈ D.D.certs ∧ (cth L j).h.ro = r := by
                rw [HLR.out] at hmem ⊢
                have h5 := List.mem_filter.1 hmem
                exact ⟨h5.1, by simpa using h5.2⟩
              have HCM := Lib.hid hm2.1
              have HRO := Lib.hid hm2.2
              have hquo := par_quo HM.out hm2.1 (by rw [hm2.2]; exact hlow2)
              rw [hcr.1.2.1] at hquo
              have HQ3 : Hid (wv.cell? ⟨lb, loff + j * 6 + 3, none⟩ = some (.slice p.h.p.A p.h.p.n p.h.p.c)) := Lib.hid c3
              obtain ⟨⟨⟨uA, un, uc⟩, ⟨vA, vn, vc⟩⟩, ⟨rA, rn, rc⟩⟩ := p
              dsimp only at hquo HPL HPA HQ3 hpm
              have hs1 : decide ((j : Int) < (L.length : Int)) = true := by simpa using hlt2
              have hs2 : decide (D.D.low + 1 < r) = true := by simpa using hlow2
              have hgv : w.heap.size < wv.heap.size := Nat.lt_of_lt_of_le hgHB hbvk.size
              clear hlc hcr hmem hm2 c0 c1 c2 c4 c5
              obtain ⟨b_0, b_1, b_2, b_3, b_4, b_5⟩ := HCB.out wv (by (repeat (first | (with_reducible exact Below.refl _ _) | (with_reducible assumption) | (with_reducible apply bel_alloc) | (with_reducible apply bel_drew) | (with_reducible apply bel_drewN) | (with_reducible refine bel_trans ?_ (by with_reducible assumption)) | (with_reducible refine bel_trans ?_ (HF.out _)) | ((with_reducible refine bel_set3 ?_ ?_); rotate_left; omega))))
              have HO := Lib.hid hO
              clear hO
              go_wp2_with fail
              clear b_0 b_1 b_2 b_3 b_4 b_5
              clear c3
              go_loopw [9, 10] (fun s9 s10 wr => ∃ k : Nat, k ≤ vn ∧ s9 = .int .i64 k ∧ s10 = .int .i64 k ∧ Below wv.heap.size wv wr) (fun _ s10 _ => vn - (intOf s10).toNat)
              case atStart => exact ⟨0, Nat.zero_le _, rfl, rfl, Below.refl _ _⟩
              case round =>
                obtain ⟨k, hk, rfl, rfl, hbr⟩ := hrel
                (obtain ⟨wr, hwr⟩ : ∃ x, x = wr := ⟨_, rfl⟩); subst hwr
                by_cases hlt3 : k < vn
                · have hkl : k < (cth L j).h.pa.length := by rw [HPL.out]; exact hlt3
                  obtain ⟨qb, qoff, rfl, hqb, hqc⟩ := (HPA.out.up hbr).2.2 (by omega)
                  obtain ⟨x, hx⟩ : ∃ x, x = nth (cth L j).h.pa k := ⟨_, rfl⟩
                  have hq0 := hqc k hlt3
                  rw [← hx] at hq0
                  have hxm : x ∈ (cth L j).h.pa := by rw [hx]; simp [nth, hkl]
                  obtain ⟨f1, f2⟩ := par_find HM.out HCM.out (by rw [HRO.out]; omega) hxm
                  rw [HRO.out] at f2
                  obtain ⟨C, hC⟩ : ∃ C, pkC D.D (findS D.D.certs x) = C := ⟨_, rfl⟩
                  rw [hC] at f2
                  have hcells : ∀ X, Below wr.heap.size wr X → X.cell? ⟨w.heap.size, 0, none⟩ = some (.int .i64 D.D.nodes) ∧ X.cell? ⟨w.heap.size, 1, none⟩ = some (.int .i64 D.D.low) ∧ X.cell? ⟨w.heap.size, 2, none⟩ = some (.slice dA dn dc) ∧ X.cell? ⟨w.heap.size, 3, none⟩ = some (.slice cA cn cc) ∧ X.cell? ⟨w.heap.size, 4, none⟩ = some (.slice iA im ic) ∧ X.cell? ⟨w.heap.size, 5, none⟩ = some (.slice pA pn pc) ∧ X.cell? ⟨lb, loff + j * 6 + 3, none⟩ = some (.slice (some ⟨qb, qoff, none⟩) vn vc) ∧ X.cell? ⟨qb, qoff + k, none⟩ = some (.int .i64 x) := fun X hX => by
                    have hX2 := bel_trans hbr hX
                    obtain ⟨a0, a1, a2, a3, a4, a5⟩ := HCB.out X (bel_trans hbvk hX2)
                    exact ⟨a0, a1, a2, a3, a4, a5, (hX2.cell (p := ⟨lb, loff + j * 6 + 3, none⟩) hlb).trans HQ3.out, (hX.cell (p := ⟨qb, qoff + k, none⟩) hqb).trans hq0⟩
                  have HC3 := Lib.hid hcells
                  have HF1 := Lib.hid f1
                  have HPC := Lib.hid hC
                  have hbrk : Below wk.heap.size wk wr := bel_trans hbvk hbr
                  have hgr : w.heap.size < wr.heap.size := Nat.lt_of_lt_of_le hgHB hbrk.size
                  have hlr : lb < wr.heap.size := Nat.lt_of_lt_of_le hlb hbr.size
                  have hkr := hbrk.size
                  have hf2 : (C.h.ro == r - 1) = true := by rw [f2]; simp
                  clear hqc hq0 hxm f1 f2 hC hcells hx hkl
                  obtain ⟨b_0, b_1, b_2, b_3, b_4, b_5, q3, q0⟩ := HC3.out wr (by (repeat (first | (with_reducible exact Below.refl _ _) | (with_reducible assumption) | (with_reducible apply bel_alloc) | (with_reducible apply bel_drew) | (with_reducible apply bel_drewN) | (with_reducible refine bel_trans ?_ (by with_reducible assumption)) | (with_reducible refine bel_trans ?_ (HF.out _)) | ((with_reducible refine bel_set3 ?_ ?_); rotate_left; omega))))
                  go_upto_region 19 with fail
                  go_cut [11, 12] from 110 to 124 (fun s11 s12 wx => ∃ (g : Nat) (q : CertP), s11 = .pointer (some ⟨g, 0, none⟩) ∧ s12 = .int .i64 0 ∧ Blk wx g 48 [.int .i64 C.h.au, .int .i64 C.h.ro, .slice q.h.b.A q.h.b.n q.h.b.c, .slice q.h.p.A q.h.p.n q.h.p.c, .int .i64 C.di, .slice q.s.A q.s.n q.s.c] ∧ Below wr.heap.size wr wx)
                  case first =>
                    clear b_0 b_1 b_2 b_3 b_4 b_5 q3 q0
                    go_region_held3 (fun X => X.cell? ⟨w.heap.size, 0, none⟩ = some (.int .i64 D.D.nodes) ∧ X.cell? ⟨w.heap.size, 1, none⟩ = some (.int .i64 D.D.low) ∧ X.cell? ⟨w.heap.size, 2, none⟩ = some (.slice dA dn dc) ∧ X.cell? ⟨w.heap.size, 3, none⟩ = some (.slice cA cn cc) ∧ X.cell? ⟨w.heap.size, 4, none⟩ = some (.slice iA im ic) ∧ X.cell? ⟨w.heap.size, 5, none⟩ = some (.slice pA pn pc) ∧ X.cell? ⟨lb, loff + j * 6 + 3, none⟩ = some (.slice (some ⟨qb, qoff, none⟩) vn vc) ∧ X.cell? ⟨qb, qoff + k, none⟩ = some (.int .i64 x))
                      (exact HC3.out _ (by (repeat (first | (with_reducible exact Below.refl _ _) | (with_reducible assumption) | (with_reducible apply bel_alloc) | (with_reducible apply bel_drew) | (with_reducible apply bel_drewN) | (with_reducible refine bel_trans ?_ (by with_reducible assumption)) | (with_reducible refine bel_trans ?_ (HF.out _)) | ((with_reducible refine bel_set3 ?_ ?_); rotate_left; omega)))))
                      ((go_at_call 61; refine (dag_Find _ dn dc D.D x 0 C _ (HD.out.up (bel_trans hbw (bel_trans hbrk (by (repeat (first | (with_reducible exact Below.refl _ _) | (with_reducible assumption) | (with_reducible apply bel_alloc) | (with_reducible apply bel_drew) | (with_reducible apply bel_drewN) | (with_reducible refine bel_trans ?_ (by with_reducible assumption)) | (with_reducible refine bel_trans ?_ (HF.out _)) | (with_reducible refine bel_set ?_ (by simp) _) | (with_reducible refine bel_set ?_ (by simp; omega) _) | (with_reducible refine bel_set ?_ (by omega) _))))))) HF1.out HPC.out).mono ?_; rintro e w7 ⟨q, rfl, ho, hb7⟩; (try have hcA := fun o => (bcell hb7).1 wr.heap.size o (by first | (simp; done) | (simp; omega) | omega)); (try have hfA := fun o => (bcell hb7).2 wr.heap.size o (by first | (simp; done) | (simp; omega) | omega)); have hzA := hb7.size; (try simp at hzA)))
                    · go_wp2_with fail
                      go_meet
                      exact ⟨_, q, rfl, rfl, Blk.new w7 48 [.int .i64 C.h.au, .int .i64 C.h.ro, .slice q.h.b.A q.h.b.n q.h.b.c, .slice q.h.p.A q.h.p.n q.h.p.c, .int .i64 C.di, .slice q.s.A q.s.n q.s.c], by (repeat (first | (with_reducible exact Below.refl _ _) | (with_reducible assumption) | (with_reducible apply bel_alloc) | (with_reducible apply bel_drew) | (with_reducible apply bel_drewN) | (with_reducible refine bel_trans ?_ (by with_reducible assumption)) | (with_reducible refine bel_trans ?_ (HF.out _)) | ((with_reducible refine bel_set3 ?_ ?_); rotate_left; omega)))⟩
                    · go_wp2_with fail
                      go_meet
                      have hk : Blk w7 wr.heap.size 48 [.int .i64 0, .int .i64 0, .slice none 0 0, .slice none 0 0, .int .i64 0, .slice none 0 0] := Blk.up (Blk.new wr.drew 48 [.int .i64 0, .int .i64 0, .slice none 0 0, .slice none 0 0, .int .i64 0, .slice none 0 0]) hb7
                      have hbw7 : Below wr.heap.size wr w7 := by (repeat (first | (with_reducible exact Below.refl _ _) | (with_reducible assumption) | (with_reducible apply bel_alloc) | (with_reducible apply bel_drew) | (with_reducible apply bel_drewN) | (with_reducible refine bel_trans ?_ (by with_reducible assumption)) | (with_reducible refine bel_trans ?_ (HF.out _)) | ((with_reducible refine bel_set3 ?_ ?_); rotate_left; omega)))
                      exact ⟨_, q, rfl, rfl, ((((((hk.set_ 0 (.int .i64 C.h.au)).set_ 1 (.int .i64 C.h.ro)).set_ 2 (.slice q.h.b.A q.h.b.n q.h.b.c)).set_ 3 (.slice q.h.p.A q.h.p.n q.h.p.c)).set_ 4 (.int .i64 C.di)).set_ 5 (.slice q.s.A q.s.n q.s.c)), by (repeat (first | (with_reducible exact Below.refl _ _) | (with_reducible assumption) | (with_reducible apply bel_alloc) | (with_reducible apply bel_drew) | (with_reducible apply bel_drewN) | (with_reducible refine bel_trans ?_ (by with_reducible assumption)) | (with_reducible refine bel_trans ?_ (HF.out _)) | ((with_reducible refine bel_set3 ?_ ?_); rotate_left; omega)))⟩
                  case rest =>
                  obtain ⟨g, q, rfl, rfl, hX7, hb7⟩ := hcut
                  have hx7l := hX7.lt
                  clear b_0 b_1 b_2 b_3 b_4 b_5 q3 q0
                  have y_0 := (hX7.box).2 0 _ rfl; have y_1 := (hX7.box).2 1 _ rfl; have y_2 := (hX7.box).2 2 _ rfl; have y_3 := (hX7.box).2 3 _ rfl; have y_4 := (hX7.box).2 4 _ rfl; have y_5 := (hX7.box).2 5 _ rfl
                  clear hX7
                  go_wp2_with (go_at_call 44; refine (law14_num _ _).mono ?_; rintro e w' ⟨rfl, rfl⟩)
                  (first | (go_round; (case rel => exact ⟨k + 1, by omega, by go_num, by go_num, bel_trans hbr hb7⟩); (case measure => (simp [intOf] <;> omega))) | (go_roundw; (case rel => exact ⟨k + 1, by omega, by go_num, by go_num, bel_trans hbr hb7⟩); (case measure => (simp [intOf] <;> omega))) | (refine ⟨?_, by simp [intOf] <;> omega⟩; (repeat apply Exists.intro); refine ⟨?rel, ?fr⟩; (case fr => ((repeat' apply And.intro) <;> rfl)); (case rel => exact ⟨k + 1, by omega, by go_num, by go_num, bel_trans hbr hb7⟩)))
                · obtain rfl : k = vn := by omega
                  have hbrk : Below wk.heap.size wk wr := bel_trans hbvk hbr
                  have q3 := (hbr.cell (p := ⟨lb, loff + j * 6 + 3, none⟩) hlb).trans HQ3.out
                  have hlr : lb < wr.heap.size := Nat.lt_of_lt_of_le hlb hbr.size
                  have hsq : decide ((k : Int) < 2 * (D.D.nodes / 3) + 1) = false := by rw [decide_eq_false_iff_not]; omega
                  obtain ⟨b_0, b_1, b_2, b_3, b_4, b_5⟩ := HCB.out wr (by (repeat (first | (with_reducible exact Below.refl _ _) | (with_reducible assumption) | (with_reducible apply bel_alloc) | (with_reducible apply bel_drew) | (with_reducible apply bel_drewN) | (with_reducible refine bel_trans ?_ (by with_reducible assumption)) | (with_reducible refine bel_trans ?_ (HF.out _)) | ((with_reducible refine bel_set3 ?_ ?_); rotate_left; omega))))
                  go_wp2_with fail
                  refine (ref2_Quorum D.D.nodes _ (by omega) (by omega)).mono ?_
                  rintro e w9 ⟨rfl, rfl⟩
                  go_wp2_with fail
                  (first | (go_round; (case rel => exact ⟨j + 1, by omega, by go_num, HO.out.up hbr, hbrk⟩); (case measure => (simp [intOf] <;> omega))) | (go_roundw; (case rel => exact ⟨j + 1, by omega, by go_num, HO.out.up hbr, hbrk⟩); (case measure => (simp [intOf] <;> omega))) | (refine ⟨?_, by simp [intOf] <;> omega⟩; (repeat apply Exists.intro); refine ⟨?rel, ?fr⟩; (case fr => ((repeat' apply And.intro) <;> rfl)); (case rel => exact ⟨j + 1, by omega, by go_num, HO.out.up hbr, hbrk⟩)))
            · clear hO
              obtain ⟨b_0, b_1, b_2, b_3, b_4, b_5⟩ := HCB.out wv (by (repeat (first | (with_reducible exact Below.refl _ _) | (with_reducible assumption) | (with_reducible apply bel_alloc) | (with_reducible apply bel_drew) | (with_reducible apply bel_drewN) | (with_reducible refine bel_trans ?_ (by with_reducible assumption)) | (with_reducible refine bel_trans ?_ (HF.out _)) | ((with_reducible refine bel_set3 ?_ ?_); rotate_left; omega))))
              by_cases hj2 : j < L.length
              · have hs1 : decide ((j : Int) < (L.length : Int)) = true := by simpa using hj2
                have hs2 : decide (D.D.low + 1 < r) = false := by rw [decide_eq_false_iff_not]; intro h; exact hlt2 ⟨hj2, h⟩
                clear hlt2
                go_wp2_with fail
                (first | (go_round; (case rel => exact ⟨r + 1, by omega, by omega, by go_num, HB.out.up hbvk, bel_trans hbw hbvk⟩); (case measure => (simp [intOf] <;> omega))) | (go_roundw; (case rel => exact ⟨r + 1, by omega, by omega, by go_num, HB.out.up hbvk, bel_trans hbw hbvk⟩); (case measure => (simp [intOf] <;> omega))) | (refine ⟨?_, by simp [intOf] <;> omega⟩; (repeat apply Exists.intro); refine ⟨?rel, ?fr⟩; (case fr => ((repeat' apply And.intro) <;> rfl)); (case rel => exact ⟨r + 1, by omega, by omega, by go_num, HB.out.up hbvk, bel_trans hbw hbvk⟩)))
              · have hs1 : decide ((j : Int) < (L.length : Int)) = false := by simpa using hj2
                clear hlt2
                go_wp2_with fail
                (first | (go_round; (case rel => exact ⟨r + 1, by omega, by omega, by go_num, HB.out.up hbvk, bel_trans hbw hbvk⟩); (case measure => (simp [intOf] <;> omega))) | (go_roundw; (case rel => exact ⟨r + 1, by omega, by omega, by go_num, HB.out.up hbvk, bel_trans hbw hbvk⟩); (case measure => (simp [intOf] <;> omega))) | (refine ⟨?_, by simp [intOf] <;> omega⟩; (repeat apply Exists.intro); refine ⟨?rel, ?fr⟩; (case fr => ((repeat' apply And.intro) <;> rfl)); (case rel => exact ⟨r + 1, by omega, by omega, by go_num, HB.out.up hbvk, bel_trans hbw hbvk⟩)))
      · obtain ⟨b_0, b_1, b_2, b_3, b_4, b_5⟩ := HCB.out wk (by (repeat (first | (with_reducible exact Below.refl _ _) | (with_reducible assumption) | (with_reducible apply bel_alloc) | (with_reducible apply bel_drew) | (with_reducible apply bel_drewN) | (with_reducible refine bel_trans ?_ (by with_reducible assumption)) | (with_reducible refine bel_trans ?_ (HF.out _)) | ((with_reducible refine bel_set3 ?_ ?_); rotate_left; omega))))
        by_cases h5 : r ≤ tp
        · have hs1 : decide (r ≤ tp) = true := by simpa using h5
          have hs2 : decide (r < D.D.low + 100) = false := by rw [decide_eq_false_iff_not]; intro h; exact hc ⟨h5, h⟩
          clear hc
          go_wp2_with fail
          refine (law14_wakes _).mono ?_
          rintro e w9 ⟨rfl, hb9⟩
          go_wp2_with fail
          go_ret
          exact ⟨rfl, bel_trans hbw hb9⟩
        · have hs1 : decide (r ≤ tp) = false := by simpa using h5
          clear hc
          go_wp2_with fail
          refine (law14_wakes _).mono ?_
          rintro e w9 ⟨rfl, hb9⟩
          go_wp2_with fail
          go_ret
          exact ⟨rfl, bel_trans hbw hb9⟩
end Go.Proofs.Ytfkbilbgndekkaa
