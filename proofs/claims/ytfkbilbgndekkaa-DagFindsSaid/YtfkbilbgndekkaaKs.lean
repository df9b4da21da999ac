/- The law DagFinds. -/
import Derived.Test.YtfkbilbgndekkaaKz
import Derived.Test.YtfkbilbgndekkaaKo
import Derived.Test.YtfkbilbgndekkaaKh
import Derived.Deep.CutBlock
import Derived.Deep.RegionHeld3
namespace Go.Proofs.Ytfkbilbgndekkaa
open Go.RowKit
set_option linter.unusedSimpArgs false
set_option linter.unusedVariables false

theorem ref1_PartsAt (x y : Nat) (r a : Int) (k : Bool) (w : World) (h1 : paR x y = r) (h2 : paA x y = a) (h3 : paOk x y = k) :
    Calls Try.prog 62 #[.complex .f64 x y] w fun e w' => e = .returned (.tuple #[.int .i64 r, .int .i64 a, .bool k]) ∧ w = w' := h1 ▸ h2 ▸ h3 ▸ ref1_Parts x y w
theorem OwnC.cs {w : World} {B : Nat} {A : Option Addr} {m c : Nat} {ps : List CertP} {l : List CertD} (h : OwnC w B (.slice A m c) ps l) (hl : l.length ≤ 9223372036854775807) : CertsR w A m l := by
  obtain ⟨A', c', e, h1, _⟩ := h.certs hl
  injection e with e1 e2 e3
  subst e1; subst e2
  exact h1
theorem ShortC.zero : ShortC default := ⟨Nat.zero_le _, Nat.zero_le _, Nat.zero_le _⟩
theorem LightC.zero : LightC default := ⟨Nat.zero_le _, Nat.zero_le _, Nat.zero_le _⟩
theorem LightC.short {C : CertD} (h : LightC C) : ShortC C := ⟨Nat.le_trans h.1 (by omega), Nat.le_trans h.2.1 (by omega), Nat.le_trans h.2.2 (by omega)⟩
theorem CertR.zero (w : World) : CertR w default default := ((CertO.zero w 0).cert ShortC.zero).1
theorem cth_light {l : List CertD} (h : Light l) (k : Nat) : LightC (cth l k) := by
  by_cases hk : k < l.length
  · exact h.2 k hk
  · have : cth l k = default := by simp [cth, hk]
    rw [this]; exact LightC.zero
theorem pkC_short {D : DagD} {k : Int} (h : Light D.certs) : ShortC (pkC D k) := by
  unfold pkC; split
  · exact (cth_light h _).short
  · exact ShortC.zero
theorem atC_light {D : DagD} {x y : Nat} (h : Light D.certs) : LightC (atC D x y) := by
  unfold atC; split
  · exact cth_light h _
  · exact LightC.zero
set_option maxRecDepth 100000 in
set_option maxHeartbeats 16000000 in
theorem law_DagFinds (P : AskP) (D : AskD) (w : World) (h : AskR w P D) :
    Calls Try.prog 14 #[askV P D] w fun e w' => e = .returned (.bool true) ∧ Below w.heap.size w w' := by
  obtain ⟨⟨dA, dn, dc⟩, ⟨cA, cn, cc⟩, ⟨iA, im, ic⟩, ⟨pA, pn, pc⟩⟩ := P
  have H := Lib.hid h
  have HD : Hid (CertsR w dA dn D.D.certs) := Lib.hid h.d
  have HC : Hid (CertsR w cA cn D.C) := Lib.hid h.c
  have HI : Hid (IntsR w iA im D.I) := Lib.hid h.i
  have HP : Hid (FloatsR w pA pn D.P) := Lib.hid h.p
  have hdc : dn ≤ dc := h.dc
  have hdm : dc ≤ 9223372036854775807 := h.dm
  clear h
  show Calls Try.prog 14 #[.agg #[.int .i64 D.D.nodes, .int .i64 D.D.low, .slice dA dn dc, .slice cA cn cc, .slice iA im ic, .slice pA pn pc]] w _
  go_enter Try.func14, Try.ntmps14
  go_wp2_with fail
  refine (law14_heavy ⟨⟨dA, dn, dc⟩, ⟨cA, cn, cc⟩, ⟨iA, im, ic⟩, ⟨pA, pn, pc⟩⟩ D _ (H.out.up (by (repeat (first | (with_reducible exact Below.refl _ _) | (with_reducible assumption) | (with_reducible apply bel_alloc) | (with_reducible apply bel_drew) | (with_reducible apply bel_drewN) | (with_reducible refine bel_trans ?_ (by with_reducible assumption)) | (with_reducible refine bel_trans ?_ (HF.out _)) | (with_reducible refine bel_set ?_ (by simp) _) | (with_reducible refine bel_set ?_ (by simp; omega) _) | (with_reducible refine bel_set ?_ (by omega) _)))))).mono ?_
  rintro e w1 ⟨⟨x, rfl, hx⟩, hb1⟩
  cases x
  case true =>
    clear hx
    go_wp2_with fail
    go_ret
    exact ⟨rfl, by (repeat (first | (with_reducible exact Below.refl _ _) | (with_reducible assumption) | (with_reducible apply bel_alloc) | (with_reducible apply bel_drew) | (with_reducible apply bel_drewN) | (with_reducible refine bel_trans ?_ (by with_reducible assumption)) | (with_reducible refine bel_trans ?_ (HF.out _)) | (with_reducible refine bel_set ?_ (by simp) _) | (with_reducible refine bel_set ?_ (by simp; omega) _) | (with_reducible refine bel_set ?_ (by omega) _)))⟩
  case false =>
  have hLt := hx rfl
  have hLd : Light D.D.certs := hLt.d
  have hd80 : dn ≤ 80 := by rw [← HD.out.1]; exact hLd.1
  have hc40 : cn ≤ 40 := hLt.cn
  have hi40 : im ≤ 40 := hLt.i
  have hp40 : pn ≤ 40 := hLt.p
  have hlc : ∀ k, k < cn → LightC (cth D.C k) := hLt.c
  have HLD := Lib.hid hLd
  have HLC := Lib.hid hlc
  have hB1 : BoxR w1 w.heap.size [.int .i64 D.D.nodes, .int .i64 D.D.low, .slice dA dn dc, .slice cA cn cc, .slice iA im ic, .slice pA pn pc] := (BoxR.new w [.int .i64 D.D.nodes, .int .i64 D.D.low, .slice dA dn dc, .slice cA cn cc, .slice iA im ic, .slice pA pn pc] 58).up hb1
  have hbw1 : Below w.heap.size w w1 := by (repeat (first | (with_reducible exact Below.refl _ _) | (with_reducible assumption) | (with_reducible apply bel_alloc) | (with_reducible apply bel_drew) | (with_reducible apply bel_drewN) | (with_reducible refine bel_trans ?_ (by with_reducible assumption)) | (with_reducible refine bel_trans ?_ (HF.out _)) | (with_reducible refine bel_set ?_ (by simp) _) | (with_reducible refine bel_set ?_ (by simp; omega) _) | (with_reducible refine bel_set ?_ (by omega) _)))
  clear hx hLt hLd hlc hb1
  have HB1 := Lib.hid hB1
  have hg1 := hB1.1
  have b_0 := (hB1).2 0 _ rfl; have b_1 := (hB1).2 1 _ rfl; have b_2 := (hB1).2 2 _ rfl; have b_3 := (hB1).2 3 _ rfl; have b_4 := (hB1).2 4 _ rfl; have b_5 := (hB1).2 5 _ rfl
  clear hB1
  obtain ⟨f, hf⟩ : ∃ f, chkE D.D = f := ⟨_, rfl⟩
  have HCK := Lib.hid hf
  clear hf
  go_wp2_with fail
  refine (law14_check dA dn dc D.D f _ (HD.out.up hbw1) HCK.out).mono ?_
  rintro e w2 ⟨rfl, hb2⟩
  replace hbw1 := bel_trans hbw1 hb2
  clear b_0 b_1 b_2 b_3 b_4 b_5; replace HB1 := Lib.hid (HB1.out.up hb2); replace hgHB1 := HB1.out.1; have b_0 := (HB1.out).2 0 _ rfl; have b_1 := (HB1.out).2 1 _ rfl; have b_2 := (HB1.out).2 2 _ rfl; have b_3 := (HB1.out).2 3 _ rfl; have b_4 := (HB1.out).2 4 _ rfl; have b_5 := (HB1.out).2 5 _ rfl
  go_wp2_with fail
  go_loopw [4] (fun si wr => ∃ i : Nat, i ≤ im ∧ si = .int .i64 i ∧ BoxR wr w.heap.size [.int .i64 D.D.nodes, .int .i64 D.D.low, .slice dA dn dc, .slice cA cn cc, .slice iA im ic, .slice pA pn pc] ∧ Below w.heap.size w wr) (fun si _ => im - (intOf si).toNat)
  case atStart => exact ⟨0, Nat.zero_le _, rfl, HB1.out, hbw1⟩
  case round =>
    obtain ⟨i, hi, rfl, hB, hbw⟩ := hrel
    (obtain ⟨wk, hwk⟩ : ∃ x, x = wr := ⟨_, rfl⟩); subst hwk
    have hgHB := hB.1
    have HB := Lib.hid hB
    clear hB
    by_cases hlt : i < im
    · obtain ⟨ib, ioff, rfl, hib, hic⟩ := (HI.out.up hbw).2.2 (by omega)
      obtain ⟨x, hx⟩ : ∃ x, x = nth D.I i := ⟨_, rfl⟩
      have hq0 := hic i hlt
      rw [← hx] at hq0
      have hcells : ∀ X, Below wk.heap.size wk X → X.cell? ⟨w.heap.size, 0, none⟩ = some (.int .i64 D.D.nodes) ∧ X.cell? ⟨w.heap.size, 1, none⟩ = some (.int .i64 D.D.low) ∧ X.cell? ⟨w.heap.size, 2, none⟩ = some (.slice dA dn dc) ∧ X.cell? ⟨w.heap.size, 3, none⟩ = some (.slice cA cn cc) ∧ X.cell? ⟨w.heap.size, 4, none⟩ = some (.slice (some ⟨ib, ioff, none⟩) im ic) ∧ X.cell? ⟨w.heap.size, 5, none⟩ = some (.slice pA pn pc) ∧ X.cell? ⟨ib, ioff + i, none⟩ = some (.int .i64 x) := fun X hX =>
        ⟨(HB.out.up hX).2 0 _ rfl, (HB.out.up hX).2 1 _ rfl, (HB.out.up hX).2 2 _ rfl, (HB.out.up hX).2 3 _ rfl, (HB.out.up hX).2 4 _ rfl, (HB.out.up hX).2 5 _ rfl, (hX.cell (p := ⟨ib, ioff + i, none⟩) hib).trans hq0⟩
      have HC12 := Lib.hid hcells
      obtain ⟨K, hK⟩ : ∃ K, findS D.D.certs x = K := ⟨_, rfl⟩
      obtain ⟨y, hy⟩ : ∃ y, pkE D.D (findS D.D.certs x) = y := ⟨_, rfl⟩
      obtain ⟨C, hC⟩ : ∃ C, pkC D.D (findS D.D.certs x) = C := ⟨_, rfl⟩
      have hsc : ShortC C := by rw [← hC]; exact pkC_short HLD.out
      have HK := Lib.hid hK
      have HY := Lib.hid hy
      have HPC := Lib.hid hC
      have HSC := Lib.hid hsc
      clear hic hq0 hcells hx hK hy hC hsc
      obtain ⟨b_0, b_1, b_2, b_3, b_4, b_5, q0⟩ := HC12.out wk (by (repeat (first | (with_reducible exact Below.refl _ _) | (with_reducible assumption) | (with_reducible apply bel_alloc) | (with_reducible apply bel_drew) | (with_reducible apply bel_drewN) | (with_reducible refine bel_trans ?_ (by with_reducible assumption)) | (with_reducible refine bel_trans ?_ (HF.out _)) | ((with_reducible refine bel_set3 ?_ ?_); rotate_left; omega))))
      go_upto_region 8 with fail
      have hX : Blk (wk.alloc (.cells #[.int .i64 0, .int .i64 0, .slice none 0 0, .slice none 0 0, .int .i64 0, .slice none 0 0] 48)) wk.heap.size 48 [.int .i64 0, .int .i64 0, .slice none 0 0, .slice none 0 0, .int .i64 0, .slice none 0 0] := Blk.new wk 48 [.int .i64 0, .int .i64 0, .slice none 0 0, .slice none 0 0, .int .i64 0, .slice none 0 0]
      have hbX : Below wk.heap.size wk (wk.alloc (.cells #[.int .i64 0, .int .i64 0, .slice none 0 0, .slice none 0 0, .int .i64 0, .slice none 0 0] 48)) := by (repeat (first | (with_reducible exact Below.refl _ _) | (with_reducible assumption) | (with_reducible apply bel_alloc) | (with_reducible apply bel_drew) | (with_reducible apply bel_drewN) | (with_reducible refine bel_trans ?_ (by with_reducible assumption)) | (with_reducible refine bel_trans ?_ (HF.out _)) | (with_reducible refine bel_set ?_ (by simp) _) | (with_reducible refine bel_set ?_ (by simp; omega) _) | (with_reducible refine bel_set ?_ (by omega) _)))
      generalize (wk.alloc (.cells #[.int .i64 0, .int .i64 0, .slice none 0 0, .slice none 0 0, .int .i64 0, .slice none 0 0] 48)) = X at *
      have hgX : w.heap.size < X.heap.size := Nat.lt_of_lt_of_le hgHB hbX.size
      have hiX : ib < X.heap.size := Nat.lt_of_lt_of_le hib hbX.size
      have hxl := hX.lt
      have HX := Lib.hid hX
      clear hX
      clear b_0 b_1 b_2 b_3 b_4 b_5 q0
      go_region_held3 (fun X => X.cell? ⟨w.heap.size, 0, none⟩ = some (.int .i64 D.D.nodes) ∧ X.cell? ⟨w.heap.size, 1, none⟩ = some (.int .i64 D.D.low) ∧ X.cell? ⟨w.heap.size, 2, none⟩ = some (.slice dA dn dc) ∧ X.cell? ⟨w.heap.size, 3, none⟩ = some (.slice cA cn cc) ∧ X.cell? ⟨w.heap.size, 4, none⟩ = some (.slice (some ⟨ib, ioff, none⟩) im ic) ∧ X.cell? ⟨w.heap.size, 5, none⟩ = some (.slice pA pn pc) ∧ X.cell? ⟨ib, ioff + i, none⟩ = some (.int .i64 x))
        (exact HC12.out _ (by (repeat (first | (with_reducible exact Below.refl _ _) | (with_reducible assumption) | (with_reducible apply bel_alloc) | (with_reducible apply bel_drew) | (with_reducible apply bel_drewN) | (with_reducible refine bel_trans ?_ (by with_reducible assumption)) | (with_reducible refine bel_trans ?_ (HF.out _)) | (with_reducible refine bel_set ?_ (by simp) _) | (with_reducible refine bel_set ?_ (by simp; omega) _) | (with_reducible refine bel_set ?_ (by omega) _)))))
        ((go_at_call 18; refine (ref14_FindAt' dA dn dc D.D.certs _ _ x K _ (HD.out.up (bel_trans hbw (by (repeat (first | (with_reducible exact Below.refl _ _) | (with_reducible assumption) | (with_reducible apply bel_alloc) | (with_reducible apply bel_drew) | (with_reducible apply bel_drewN) | (with_reducible refine bel_trans ?_ (by with_reducible assumption)) | (with_reducible refine bel_trans ?_ (HF.out _)) | (with_reducible refine bel_set ?_ (by simp) _) | (with_reducible refine bel_set ?_ (by simp; omega) _) | (with_reducible refine bel_set ?_ (by omega) _)))))) HK.out).mono ?_; rintro e w5 ⟨rfl, hb5⟩; have hb5k : Below wk.heap.size wk w5 := (by (repeat (first | (with_reducible exact Below.refl _ _) | (with_reducible assumption) | (with_reducible apply bel_alloc) | (with_reducible apply bel_drew) | (with_reducible apply bel_drewN) | (with_reducible refine bel_trans ?_ (by with_reducible assumption)) | (with_reducible refine bel_trans ?_ (HF.out _)) | (with_reducible refine bel_set ?_ (by simp) _) | (with_reducible refine bel_set ?_ (by simp; omega) _) | (with_reducible refine bel_set ?_ (by omega) _))))))
      have hb5X : Below X.heap.size X w5 := bel_trans (bel_drew (Below.refl _ _)) hb5
      have hX5 := HX.out.up hb5X
      have hg5 : w.heap.size < w5.heap.size := Nat.lt_of_lt_of_le hgHB hb5k.size
      have hi5 : ib < w5.heap.size := Nat.lt_of_lt_of_le hib hb5k.size
      have hk5 : wk.heap.size ≤ w5.heap.size := hb5k.size
      obtain ⟨b_0, b_1, b_2, b_3, b_4, b_5, q0⟩ := HC12.out w5 (by (repeat (first | (with_reducible exact Below.refl _ _) | (with_reducible assumption) | (with_reducible apply bel_alloc) | (with_reducible apply bel_drew) | (with_reducible apply bel_drewN) | (with_reducible refine bel_trans ?_ (by with_reducible assumption)) | (with_reducible refine bel_trans ?_ (HF.out _)) | ((with_reducible refine bel_set3 ?_ ?_); rotate_left; omega))))
      cases hm : mayS D.D
      · obtain rfl : f = 1 := by rw [← HCK.out]; simp [chkE, hm]
        obtain rfl : y = 1 := by rw [← HY.out]; simp [pkE, hm]
        obtain rfl : C = default := by rw [← HPC.out]; simp [pkC, hm]
        clear hm
        go_upto_region 13 with fail
        have hb6k := hb5k
        have HX6 := Lib.hid hX5
        have HC6 : Hid (CertR w5 (⟨⟨⟨none, 0, 0⟩, ⟨none, 0, 0⟩⟩, ⟨none, 0, 0⟩⟩ : CertP) (default : CertD)) := Lib.hid (CertR.zero w5)
        have hg6 : w.heap.size < w5.heap.size := Nat.lt_of_lt_of_le hgHB hb6k.size
        have hkd : wk.heap.size ≤ w5.heap.size := hb6k.size
        have hi6 : ib < w5.heap.size := Nat.lt_of_lt_of_le hib hb6k.size
        go_cut [8, 9] from 57 to 67 (fun s8 s9 wx => ∃ (g : Nat) (q : CertP), s8 = .pointer (some ⟨g, 0, none⟩) ∧ s9 = .int .i64 1 ∧ Blk wx g 48 [.int .i64 (default : CertD).h.au, .int .i64 (default : CertD).h.ro, .slice q.h.b.A q.h.b.n q.h.b.c, .slice q.h.p.A q.h.p.n q.h.p.c, .int .i64 (default : CertD).di, .slice q.s.A q.s.n q.s.c] ∧ CertR wx q (default : CertD) ∧ Below w5.heap.size w5 wx)
        case first =>
          clear b_0 b_1 b_2 b_3 b_4 b_5 q0
          go_region_held3 (fun X => X.cell? ⟨w.heap.size, 0, none⟩ = some (.int .i64 D.D.nodes) ∧ X.cell? ⟨w.heap.size, 1, none⟩ = some (.int .i64 D.D.low) ∧ X.cell? ⟨w.heap.size, 2, none⟩ = some (.slice dA dn dc) ∧ X.cell? ⟨w.heap.size, 3, none⟩ = some (.slice cA cn cc) ∧ X.cell? ⟨w.heap.size, 4, none⟩ = some (.slice (some ⟨ib, ioff, none⟩) im ic) ∧ X.cell? ⟨w.heap.size, 5, none⟩ = some (.slice pA pn pc) ∧ X.cell? ⟨ib, ioff + i, none⟩ = some (.int .i64 x))
            (exact HC12.out _ (by (repeat (first | (with_reducible exact Below.refl _ _) | (with_reducible assumption) | (with_reducible apply bel_alloc) | (with_reducible apply bel_drew) | (with_reducible apply bel_drewN) | (with_reducible refine bel_trans ?_ (by with_reducible assumption)) | (with_reducible refine bel_trans ?_ (HF.out _)) | ((with_reducible refine bel_set3 ?_ ?_); rotate_left; omega)))))
            ((go_at_call 61; refine (dag_Find _ dn dc D.D x 1 (default : CertD) _ (HD.out.up (bel_trans hbw (by (repeat (first | (with_reducible exact Below.refl _ _) | (with_reducible assumption) | (with_reducible apply bel_alloc) | (with_reducible apply bel_drew) | (with_reducible apply bel_drewN) | (with_reducible refine bel_trans ?_ (by with_reducible assumption)) | (with_reducible refine bel_trans ?_ (HF.out _)) | (with_reducible refine bel_set ?_ (by simp) _) | (with_reducible refine bel_set ?_ (by simp; omega) _) | (with_reducible refine bel_set ?_ (by omega) _)))))) HY.out HPC.out).mono ?_; rintro e w7 ⟨q, rfl, ho, hb7⟩; (try have hcA := fun o => (bcell hb7).1 w5.heap.size o (by first | (simp; done) | (simp; omega) | omega)); (try have hfA := fun o => (bcell hb7).2 w5.heap.size o (by first | (simp; done) | (simp; omega) | omega)); have hzA := hb7.size; (try simp at hzA)))
          · go_wp2_with fail
            go_meet
            have hk := Blk.new w7 48 [.int .i64 (default : CertD).h.au, .int .i64 (default : CertD).h.ro, .slice q.h.b.A q.h.b.n q.h.b.c, .slice q.h.p.A q.h.p.n q.h.p.c, .int .i64 (default : CertD).di, .slice q.s.A q.s.n q.s.c]
            have hcr := (CertO.cert ho HSC.out).1.up (w' := w7.alloc (.cells #[.int .i64 (default : CertD).h.au, .int .i64 (default : CertD).h.ro, .slice q.h.b.A q.h.b.n q.h.b.c, .slice q.h.p.A q.h.p.n q.h.p.c, .int .i64 (default : CertD).di, .slice q.s.A q.s.n q.s.c] 48)) (bel_alloc (Below.refl _ _))
            exact ⟨_, q, rfl, rfl, hk, hcr, by (repeat (first | (with_reducible exact Below.refl _ _) | (with_reducible assumption) | (with_reducible apply bel_alloc) | (with_reducible apply bel_drew) | (with_reducible apply bel_drewN) | (with_reducible refine bel_trans ?_ (by with_reducible assumption)) | (with_reducible refine bel_trans ?_ (HF.out _)) | ((with_reducible refine bel_set3 ?_ ?_); rotate_left; omega)))⟩
          · go_wp2_with fail
            go_meet
            have hk : Blk w7 w5.heap.size 48 [.int .i64 0, .int .i64 0, .slice none 0 0, .slice none 0 0, .int .i64 0, .slice none 0 0] := Blk.up (Blk.new w5.drew 48 [.int .i64 0, .int .i64 0, .slice none 0 0, .slice none 0 0, .int .i64 0, .slice none 0 0]) hb7
            have ho1 := ho.mono (B' := w5.heap.size + 1) (by simp)
            have hbw7 : Below w5.heap.size w5 w7 := by (repeat (first | (with_reducible exact Below.refl _ _) | (with_reducible assumption) | (with_reducible apply bel_alloc) | (with_reducible apply bel_drew) | (with_reducible apply bel_drewN) | (with_reducible refine bel_trans ?_ (by with_reducible assumption)) | (with_reducible refine bel_trans ?_ (HF.out _)) | ((with_reducible refine bel_set3 ?_ ?_); rotate_left; omega)))
            refine ⟨_, q, rfl, rfl, ((((((hk.set_ 0 (.int .i64 (default : CertD).h.au)).set_ 1 (.int .i64 (default : CertD).h.ro)).set_ 2 (.slice q.h.b.A q.h.b.n q.h.b.c)).set_ 3 (.slice q.h.p.A q.h.p.n q.h.p.c)).set_ 4 (.int .i64 (default : CertD).di)).set_ 5 (.slice q.s.A q.s.n q.s.c)), (CertO.cert (B := w5.heap.size + 1) ?_ HSC.out).1, by (repeat (first | (with_reducible exact Below.refl _ _) | (with_reducible assumption) | (with_reducible apply bel_alloc) | (with_reducible apply bel_drew) | (with_reducible apply bel_drewN) | (with_reducible refine bel_trans ?_ (by with_reducible assumption)) | (with_reducible refine bel_trans ?_ (HF.out _)) | ((with_reducible refine bel_set3 ?_ ?_); rotate_left; omega)))⟩
            iterate 6 (refine CertO.setLow (b := w5.heap.size) ?_ (by omega))
            exact ho1
        case rest =>
        obtain ⟨g, q, rfl, rfl, hX7, hC7, hb7⟩ := hcut
        have hb7k : Below wk.heap.size wk wc := bel_trans hb6k hb7
        have hX6 := HX6.out.up hb7
        have hC6 := HC6.out.up hb7
        obtain ⟨⟨⟨uA', un', uc'⟩, ⟨vA', vn', vc'⟩⟩, ⟨rA', rn', rc'⟩⟩ := q
        dsimp only at hX7
        have HC6' := Lib.hid hC6
        have HC7 := Lib.hid hC7
        have hg7 : w.heap.size < wc.heap.size := Nat.lt_of_lt_of_le hg6 hb7.size
        have hx6l := hX6.lt
        have hx7l := hX7.lt
        clear b_0 b_1 b_2 b_3 b_4 b_5 q0
        obtain ⟨b_0, b_1, b_2, b_3, b_4, b_5, q0⟩ := HC12.out wc (by (repeat (first | (with_reducible exact Below.refl _ _) | (with_reducible assumption) | (with_reducible apply bel_alloc) | (with_reducible apply bel_drew) | (with_reducible apply bel_drewN) | (with_reducible refine bel_trans ?_ (by with_reducible assumption)) | (with_reducible refine bel_trans ?_ (HF.out _)) | ((with_reducible refine bel_set3 ?_ ?_); rotate_left; omega))))
        have z_0 := (hX6.box).2 0 _ rfl; have z_1 := (hX6.box).2 1 _ rfl; have z_2 := (hX6.box).2 2 _ rfl; have z_3 := (hX6.box).2 3 _ rfl; have z_4 := (hX6.box).2 4 _ rfl; have z_5 := (hX6.box).2 5 _ rfl
        have y_0 := (hX7.box).2 0 _ rfl; have y_1 := (hX7.box).2 1 _ rfl; have y_2 := (hX7.box).2 2 _ rfl; have y_3 := (hX7.box).2 3 _ rfl; have y_4 := (hX7.box).2 4 _ rfl; have y_5 := (hX7.box).2 5 _ rfl
        clear hX6 hX7 hC6 hC7
        go_wp2_with (go_at_call 44; refine (law14_num _ _).mono ?_; rintro e w' ⟨rfl, rfl⟩)
        refine (ref0_EqCert' (default : CertD) _ _ _ _ _ _ _ _ _ _ _ _ _ _ _ _ _ _ _ HC7.out HC6'.out).mono ?_
        rintro e w8 ⟨rfl, hb8⟩
        go_wp2_with fail
        (first | (go_round; (case rel => exact ⟨i + 1, by omega, by go_num, HB.out.up (bel_trans hb7k hb8), bel_trans hbw (bel_trans hb7k hb8)⟩); (case measure => (simp [intOf] <;> omega))) | (go_roundw; (case rel => exact ⟨i + 1, by omega, by go_num, HB.out.up (bel_trans hb7k hb8), bel_trans hbw (bel_trans hb7k hb8)⟩); (case measure => (simp [intOf] <;> omega))) | (refine ⟨?_, by simp [intOf] <;> omega⟩; (repeat apply Exists.intro); refine ⟨?rel, ?fr⟩; (case fr => ((repeat' apply And.intro) <;> rfl)); (case rel => exact ⟨i + 1, by omega, by go_num, HB.out.up (bel_trans hb7k hb8), bel_trans hbw (bel_trans hb7k hb8)⟩)))
      · obtain rfl : f = 0 := by rw [← HCK.out]; simp [chkE, hm]
        rcases findS_cases D.D.certs x with ⟨hk, -⟩ | ⟨k, hkl, hk, -⟩
        · obtain rfl : K = -1 := by rw [← HK.out, hk]
          obtain rfl : y = 3 := by rw [← HY.out, hk]; simp [pkE, hm]
          obtain rfl : C = default := by rw [← HPC.out, hk]; simp [pkC]
          clear hm hk
          go_upto_region 13 with fail
          have hb6k := hb5k
          have HX6 := Lib.hid hX5
          have HC6 : Hid (CertR w5 (⟨⟨⟨none, 0, 0⟩, ⟨none, 0, 0⟩⟩, ⟨none, 0, 0⟩⟩ : CertP) (default : CertD)) := Lib.hid (CertR.zero w5)
          have hg6 : w.heap.size < w5.heap.size := Nat.lt_of_lt_of_le hgHB hb6k.size
          have hkd : wk.heap.size ≤ w5.heap.size := hb6k.size
          have hi6 : ib < w5.heap.size := Nat.lt_of_lt_of_le hib hb6k.size
          go_cut [8, 9] from 57 to 67 (fun s8 s9 wx => ∃ (g : Nat) (q : CertP), s8 = .pointer (some ⟨g, 0, none⟩) ∧ s9 = .int .i64 3 ∧ Blk wx g 48 [.int .i64 (default : CertD).h.au, .int .i64 (default : CertD).h.ro, .slice q.h.b.A q.h.b.n q.h.b.c, .slice q.h.p.A q.h.p.n q.h.p.c, .int .i64 (default : CertD).di, .slice q.s.A q.s.n q.s.c] ∧ CertR wx q (default : CertD) ∧ Below w5.heap.size w5 wx)
          case first =>
            clear b_0 b_1 b_2 b_3 b_4 b_5 q0
            go_region_held3 (fun X => X.cell? ⟨w.heap.size, 0, none⟩ = some (.int .i64 D.D.nodes) ∧ X.cell? ⟨w.heap.size, 1, none⟩ = some (.int .i64 D.D.low) ∧ X.cell? ⟨w.heap.size, 2, none⟩ = some (.slice dA dn dc) ∧ X.cell? ⟨w.heap.size, 3, none⟩ = some (.slice cA cn cc) ∧ X.cell? ⟨w.heap.size, 4, none⟩ = some (.slice (some ⟨ib, ioff, none⟩) im ic) ∧ X.cell? ⟨w.heap.size, 5, none⟩ = some (.slice pA pn pc) ∧ X.cell? ⟨ib, ioff + i, none⟩ = some (.int .i64 x))
              (exact HC12.out _ (by (repeat (first | (with_reducible exact Below.refl _ _) | (with_reducible assumption) | (with_reducible apply bel_alloc) | (with_reducible apply bel_drew) | (with_reducible apply bel_drewN) | (with_reducible refine bel_trans ?_ (by with_reducible assumption)) | (with_reducible refine bel_trans ?_ (HF.out _)) | ((with_reducible refine bel_set3 ?_ ?_); rotate_left; omega)))))
              ((go_at_call 61; refine (dag_Find _ dn dc D.D x 3 (default : CertD) _ (HD.out.up (bel_trans hbw (by (repeat (first | (with_reducible exact Below.refl _ _) | (with_reducible assumption) | (with_reducible apply bel_alloc) | (with_reducible apply bel_drew) | (with_reducible apply bel_drewN) | (with_reducible refine bel_trans ?_ (by with_reducible assumption)) | (with_reducible refine bel_trans ?_ (HF.out _)) | (with_reducible refine bel_set ?_ (by simp) _) | (with_reducible refine bel_set ?_ (by simp; omega) _) | (with_reducible refine bel_set ?_ (by omega) _)))))) HY.out HPC.out).mono ?_; rintro e w7 ⟨q, rfl, ho, hb7⟩; (try have hcA := fun o => (bcell hb7).1 w5.heap.size o (by first | (simp; done) | (simp; omega) | omega)); (try have hfA := fun o => (bcell hb7).2 w5.heap.size o (by first | (simp; done) | (simp; omega) | omega)); have hzA := hb7.size; (try simp at hzA)))
            · go_wp2_with fail
              go_meet
              have hk := Blk.new w7 48 [.int .i64 (default : CertD).h.au, .int .i64 (default : CertD).h.ro, .slice q.h.b.A q.h.b.n q.h.b.c, .slice q.h.p.A q.h.p.n q.h.p.c, .int .i64 (default : CertD).di, .slice q.s.A q.s.n q.s.c]
              have hcr := (CertO.cert ho HSC.out).1.up (w' := w7.alloc (.cells #[.int .i64 (default : CertD).h.au, .int .i64 (default : CertD).h.ro, .slice q.h.b.A q.h.b.n q.h.b.c, .slice q.h.p.A q.h.p.n q.h.p.c, .int .i64 (default : CertD).di, .slice q.s.A q.s.n q.s.c] 48)) (bel_alloc (Below.refl _ _))
              exact ⟨_, q, rfl, rfl, hk, hcr, by (repeat (first | (with_reducible exact Below.refl _ _) | (with_reducible assumption) | (with_reducible apply bel_alloc) | (with_reducible apply bel_drew) | (with_reducible apply bel_drewN) | (with_reducible refine bel_trans ?_ (by with_reducible assumption)) | (with_reducible refine bel_trans ?_ (HF.out _)) | ((with_reducible refine bel_set3 ?_ ?_); rotate_left; omega)))⟩
            · go_wp2_with fail
              go_meet
              have hk : Blk w7 w5.heap.size 48 [.int .i64 0, .int .i64 0, .slice none 0 0, .slice none 0 0, .int .i64 0, .slice none 0 0] := Blk.up (Blk.new w5.drew 48 [.int .i64 0, .int .i64 0, .slice none 0 0, .slice none 0 0, .int .i64 0, .slice none 0 0]) hb7
              have ho1 := ho.mono (B' := w5.heap.size + 1) (by simp)
              have hbw7 : Below w5.heap.size w5 w7 := by (repeat (first | (with_reducible exact Below.refl _ _) | (with_reducible assumption) | (with_reducible apply bel_alloc) | (with_reducible apply bel_drew) | (with_reducible apply bel_drewN) | (with_reducible refine bel_trans ?_ (by with_reducible assumption)) | (with_reducible refine bel_trans ?_ (HF.out _)) | ((with_reducible refine bel_set3 ?_ ?_); rotate_left; omega)))
              refine ⟨_, q, rfl, rfl, ((((((hk.set_ 0 (.int .i64 (default : CertD).h.au)).set_ 1 (.int .i64 (default : CertD).h.ro)).set_ 2 (.slice q.h.b.A q.h.b.n q.h.b.c)).set_ 3 (.slice q.h.p.A q.h.p.n q.h.p.c)).set_ 4 (.int .i64 (default : CertD).di)).set_ 5 (.slice q.s.A q.s.n q.s.c)), (CertO.cert (B := w5.heap.size + 1) ?_ HSC.out).1, by (repeat (first | (with_reducible exact Below.refl _ _) | (with_reducible assumption) | (with_reducible apply bel_alloc) | (with_reducible apply bel_drew) | (with_reducible apply bel_drewN) | (with_reducible refine bel_trans ?_ (by with_reducible assumption)) | (with_reducible refine bel_trans ?_ (HF.out _)) | ((with_reducible refine bel_set3 ?_ ?_); rotate_left; omega)))⟩
              iterate 6 (refine CertO.setLow (b := w5.heap.size) ?_ (by omega))
              exact ho1
          case rest =>
          obtain ⟨g, q, rfl, rfl, hX7, hC7, hb7⟩ := hcut
          have hb7k : Below wk.heap.size wk wc := bel_trans hb6k hb7
          have hX6 := HX6.out.up hb7
          have hC6 := HC6.out.up hb7
          obtain ⟨⟨⟨uA', un', uc'⟩, ⟨vA', vn', vc'⟩⟩, ⟨rA', rn', rc'⟩⟩ := q
          dsimp only at hX7
          have HC6' := Lib.hid hC6
          have HC7 := Lib.hid hC7
          have hg7 : w.heap.size < wc.heap.size := Nat.lt_of_lt_of_le hg6 hb7.size
          have hx6l := hX6.lt
          have hx7l := hX7.lt
          clear b_0 b_1 b_2 b_3 b_4 b_5 q0
          obtain ⟨b_0, b_1, b_2, b_3, b_4, b_5, q0⟩ := HC12.out wc (by (repeat (first | (with_reducible exact Below.refl _ _) | (with_reducible assumption) | (with_reducible apply bel_alloc) | (with_reducible apply bel_drew) | (with_reducible apply bel_drewN) | (with_reducible refine bel_trans ?_ (by with_reducible assumption)) | (with_reducible refine bel_trans ?_ (HF.out _)) | ((with_reducible refine bel_set3 ?_ ?_); rotate_left; omega))))
          have z_0 := (hX6.box).2 0 _ rfl; have z_1 := (hX6.box).2 1 _ rfl; have z_2 := (hX6.box).2 2 _ rfl; have z_3 := (hX6.box).2 3 _ rfl; have z_4 := (hX6.box).2 4 _ rfl; have z_5 := (hX6.box).2 5 _ rfl
          have y_0 := (hX7.box).2 0 _ rfl; have y_1 := (hX7.box).2 1 _ rfl; have y_2 := (hX7.box).2 2 _ rfl; have y_3 := (hX7.box).2 3 _ rfl; have y_4 := (hX7.box).2 4 _ rfl; have y_5 := (hX7.box).2 5 _ rfl
          clear hX6 hX7 hC6 hC7
          go_wp2_with (go_at_call 44; refine (law14_num _ _).mono ?_; rintro e w' ⟨rfl, rfl⟩)
          refine (ref0_EqCert' (default : CertD) _ _ _ _ _ _ _ _ _ _ _ _ _ _ _ _ _ _ _ HC7.out HC6'.out).mono ?_
          rintro e w8 ⟨rfl, hb8⟩
          go_wp2_with fail
          (first | (go_round; (case rel => exact ⟨i + 1, by omega, by go_num, HB.out.up (bel_trans hb7k hb8), bel_trans hbw (bel_trans hb7k hb8)⟩); (case measure => (simp [intOf] <;> omega))) | (go_roundw; (case rel => exact ⟨i + 1, by omega, by go_num, HB.out.up (bel_trans hb7k hb8), bel_trans hbw (bel_trans hb7k hb8)⟩); (case measure => (simp [intOf] <;> omega))) | (refine ⟨?_, by simp [intOf] <;> omega⟩; (repeat apply Exists.intro); refine ⟨?rel, ?fr⟩; (case fr => ((repeat' apply And.intro) <;> rfl)); (case rel => exact ⟨i + 1, by omega, by go_num, HB.out.up (bel_trans hb7k hb8), bel_trans hbw (bel_trans hb7k hb8)⟩)))
        · obtain rfl : K = (k : Int) := by rw [← HK.out, hk]
          obtain rfl : y = 0 := by rw [← HY.out, hk]; simp [pkE, hm]
          obtain rfl : C = cth D.D.certs k := by rw [← HPC.out, hk]; simp [pkC, hm]
          have hkn : k < dn := by rw [← HD.out.1]; exact hkl
          have hd : decide ((k : Int) < 0) = false := by rw [decide_eq_false_iff_not]; omega
          clear hm hk hkl
          obtain ⟨b', off', rfl, hb', hc'⟩ := (HD.out.up hbw).2.2 (by omega)
          obtain ⟨p, hat, hcr⟩ := hc' k hkn
          obtain ⟨c0, c1, c2, c3, c4, c5⟩ := hat.up hb5k hb'
          have z_0 := (hX5.box).2 0 _ rfl; have z_1 := (hX5.box).2 1 _ rfl; have z_2 := (hX5.box).2 2 _ rfl; have z_3 := (hX5.box).2 3 _ rfl; have z_4 := (hX5.box).2 4 _ rfl; have z_5 := (hX5.box).2 5 _ rfl
          have hf5 := hX5.frozen
          have hl5 := hX5.lt
          obtain ⟨⟨⟨uA, un, uc⟩, ⟨vA, vn, vc⟩⟩, ⟨rA, rn, rc⟩⟩ := p
          have HCR := Lib.hid hcr
          dsimp only at c0 c1 c2 c3 c4 c5
          have hX6 := ((((((hX5.set_ 0 (.int .i64 (cth D.D.certs k).h.au)).set_ 1 (.int .i64 (cth D.D.certs k).h.ro)).set_ 2 (.slice uA un uc)).set_ 3 (.slice vA vn vc)).set_ 4 (.int .i64 (cth D.D.certs k).di)).set_ 5 (.slice rA rn rc))
          clear hc' hat hcr
          go_upto_region 13 with fail
          have hb6k : Below wk.heap.size wk ((((((w5.setCell ⟨wk.heap.size, 0, none⟩ (.int .i64 (cth D.D.certs k).h.au)).setCell ⟨wk.heap.size, 1, none⟩ (.int .i64 (cth D.D.certs k).h.ro)).setCell ⟨wk.heap.size, 2, none⟩ (.slice uA un uc)).setCell ⟨wk.heap.size, 3, none⟩ (.slice vA vn vc)).setCell ⟨wk.heap.size, 4, none⟩ (.int .i64 (cth D.D.certs k).di)).setCell ⟨wk.heap.size, 5, none⟩ (.slice rA rn rc)) := by (repeat (first | (with_reducible exact Below.refl _ _) | (with_reducible assumption) | (with_reducible apply bel_alloc) | (with_reducible apply bel_drew) | (with_reducible apply bel_drewN) | (with_reducible refine bel_trans ?_ (by with_reducible assumption)) | (with_reducible refine bel_trans ?_ (HF.out _)) | ((with_reducible refine bel_set3 ?_ ?_); rotate_left; omega)))
          generalize ((((((w5.setCell ⟨wk.heap.size, 0, none⟩ (.int .i64 (cth D.D.certs k).h.au)).setCell ⟨wk.heap.size, 1, none⟩ (.int .i64 (cth D.D.certs k).h.ro)).setCell ⟨wk.heap.size, 2, none⟩ (.slice uA un uc)).setCell ⟨wk.heap.size, 3, none⟩ (.slice vA vn vc)).setCell ⟨wk.heap.size, 4, none⟩ (.int .i64 (cth D.D.certs k).di)).setCell ⟨wk.heap.size, 5, none⟩ (.slice rA rn rc)) = wd at *
          have HX6 := Lib.hid hX6
          have HC6 : Hid (CertR wd (⟨⟨⟨uA, un, uc⟩, ⟨vA, vn, vc⟩⟩, ⟨rA, rn, rc⟩⟩ : CertP) (cth D.D.certs k)) := Lib.hid (HCR.out.up hb6k)
          clear hX6 c0 c1 c2 c3 c4 c5 z_0 z_1 z_2 z_3 z_4 z_5 hf5 hl5
          clear b_0 b_1 b_2 b_3 b_4 b_5 q0
          obtain ⟨b_0, b_1, b_2, b_3, b_4, b_5, q0⟩ := HC12.out wd (by (repeat (first | (with_reducible exact Below.refl _ _) | (with_reducible assumption) | (with_reducible apply bel_alloc) | (with_reducible apply bel_drew) | (with_reducible apply bel_drewN) | (with_reducible refine bel_trans ?_ (by with_reducible assumption)) | (with_reducible refine bel_trans ?_ (HF.out _)) | ((with_reducible refine bel_set3 ?_ ?_); rotate_left; omega))))
          have hg6 : w.heap.size < wd.heap.size := Nat.lt_of_lt_of_le hgHB hb6k.size
          have hkd : wk.heap.size ≤ wd.heap.size := hb6k.size
          have hi6 : ib < wd.heap.size := Nat.lt_of_lt_of_le hib hb6k.size
          go_cut [8, 9] from 57 to 67 (fun s8 s9 wx => ∃ (g : Nat) (q : CertP), s8 = .pointer (some ⟨g, 0, none⟩) ∧ s9 = .int .i64 0 ∧ Blk wx g 48 [.int .i64 (cth D.D.certs k).h.au, .int .i64 (cth D.D.certs k).h.ro, .slice q.h.b.A q.h.b.n q.h.b.c, .slice q.h.p.A q.h.p.n q.h.p.c, .int .i64 (cth D.D.certs k).di, .slice q.s.A q.s.n q.s.c] ∧ CertR wx q (cth D.D.certs k) ∧ Below wd.heap.size wd wx)
          case first =>
            clear b_0 b_1 b_2 b_3 b_4 b_5 q0
            go_region_held3 (fun X => X.cell? ⟨w.heap.size, 0, none⟩ = some (.int .i64 D.D.nodes) ∧ X.cell? ⟨w.heap.size, 1, none⟩ = some (.int .i64 D.D.low) ∧ X.cell? ⟨w.heap.size, 2, none⟩ = some (.slice (some ⟨b', off', none⟩) dn dc) ∧ X.cell? ⟨w.heap.size, 3, none⟩ = some (.slice cA cn cc) ∧ X.cell? ⟨w.heap.size, 4, none⟩ = some (.slice (some ⟨ib, ioff, none⟩) im ic) ∧ X.cell? ⟨w.heap.size, 5, none⟩ = some (.slice pA pn pc) ∧ X.cell? ⟨ib, ioff + i, none⟩ = some (.int .i64 x))
              (exact HC12.out _ (by (repeat (first | (with_reducible exact Below.refl _ _) | (with_reducible assumption) | (with_reducible apply bel_alloc) | (with_reducible apply bel_drew) | (with_reducible apply bel_drewN) | (with_reducible refine bel_trans ?_ (by with_reducible assumption)) | (with_reducible refine bel_trans ?_ (HF.out _)) | ((with_reducible refine bel_set3 ?_ ?_); rotate_left; omega)))))
              ((go_at_call 61; refine (dag_Find _ dn dc D.D x 0 (cth D.D.certs k) _ (HD.out.up (bel_trans hbw (by (repeat (first | (with_reducible exact Below.refl _ _) | (with_reducible assumption) | (with_reducible apply bel_alloc) | (with_reducible apply bel_drew) | (with_reducible apply bel_drewN) | (with_reducible refine bel_trans ?_ (by with_reducible assumption)) | (with_reducible refine bel_trans ?_ (HF.out _)) | (with_reducible refine bel_set ?_ (by simp) _) | (with_reducible refine bel_set ?_ (by simp; omega) _) | (with_reducible refine bel_set ?_ (by omega) _)))))) HY.out HPC.out).mono ?_; rintro e w7 ⟨q, rfl, ho, hb7⟩; (try have hcA := fun o => (bcell hb7).1 wd.heap.size o (by first | (simp; done) | (simp; omega) | omega)); (try have hfA := fun o => (bcell hb7).2 wd.heap.size o (by first | (simp; done) | (simp; omega) | omega)); have hzA := hb7.size; (try simp at hzA)))
            · go_wp2_with fail
              go_meet
              have hk := Blk.new w7 48 [.int .i64 (cth D.D.certs k).h.au, .int .i64 (cth D.D.certs k).h.ro, .slice q.h.b.A q.h.b.n q.h.b.c, .slice q.h.p.A q.h.p.n q.h.p.c, .int .i64 (cth D.D.certs k).di, .slice q.s.A q.s.n q.s.c]
              have hcr := (CertO.cert ho HSC.out).1.up (w' := w7.alloc (.cells #[.int .i64 (cth D.D.certs k).h.au, .int .i64 (cth D.D.certs k).h.ro, .slice q.h.b.A q.h.b.n q.h.b.c, .slice q.h.p.A q.h.p.n q.h.p.c, .int .i64 (cth D.D.certs k).di, .slice q.s.A q.s.n q.s.c] 48)) (bel_alloc (Below.refl _ _))
              exact ⟨_, q, rfl, rfl, hk, hcr, by (repeat (first | (with_reducible exact Below.refl _ _) | (with_reducible assumption) | (with_reducible apply bel_alloc) | (with_reducible apply bel_drew) | (with_reducible apply bel_drewN) | (with_reducible refine bel_trans ?_ (by with_reducible assumption)) | (with_reducible refine bel_trans ?_ (HF.out _)) | ((with_reducible refine bel_set3 ?_ ?_); rotate_left; omega)))⟩
            · go_wp2_with fail
              go_meet
              have hk : Blk w7 wd.heap.size 48 [.int .i64 0, .int .i64 0, .slice none 0 0, .slice none 0 0, .int .i64 0, .slice none 0 0] := Blk.up (Blk.new wd.drew 48 [.int .i64 0, .int .i64 0, .slice none 0 0, .slice none 0 0, .int .i64 0, .slice none 0 0]) hb7
              have ho1 := ho.mono (B' := wd.heap.size + 1) (by simp)
              have hbw7 : Below wd.heap.size wd w7 := by (repeat (first | (with_reducible exact Below.refl _ _) | (with_reducible assumption) | (with_reducible apply bel_alloc) | (with_reducible apply bel_drew) | (with_reducible apply bel_drewN) | (with_reducible refine bel_trans ?_ (by with_reducible assumption)) | (with_reducible refine bel_trans ?_ (HF.out _)) | ((with_reducible refine bel_set3 ?_ ?_); rotate_left; omega)))
              refine ⟨_, q, rfl, rfl, ((((((hk.set_ 0 (.int .i64 (cth D.D.certs k).h.au)).set_ 1 (.int .i64 (cth D.D.certs k).h.ro)).set_ 2 (.slice q.h.b.A q.h.b.n q.h.b.c)).set_ 3 (.slice q.h.p.A q.h.p.n q.h.p.c)).set_ 4 (.int .i64 (cth D.D.certs k).di)).set_ 5 (.slice q.s.A q.s.n q.s.c)), (CertO.cert (B := wd.heap.size + 1) ?_ HSC.out).1, by (repeat (first | (with_reducible exact Below.refl _ _) | (with_reducible assumption) | (with_reducible apply bel_alloc) | (with_reducible apply bel_drew) | (with_reducible apply bel_drewN) | (with_reducible refine bel_trans ?_ (by with_reducible assumption)) | (with_reducible refine bel_trans ?_ (HF.out _)) | ((with_reducible refine bel_set3 ?_ ?_); rotate_left; omega)))⟩
              iterate 6 (refine CertO.setLow (b := wd.heap.size) ?_ (by omega))
              exact ho1
          case rest =>
          obtain ⟨g, q, rfl, rfl, hX7, hC7, hb7⟩ := hcut
          have hb7k : Below wk.heap.size wk wc := bel_trans hb6k hb7
          have hX6 := HX6.out.up hb7
          have hC6 := HC6.out.up hb7
          obtain ⟨⟨⟨uA', un', uc'⟩, ⟨vA', vn', vc'⟩⟩, ⟨rA', rn', rc'⟩⟩ := q
          dsimp only at hX7
          have HC6' := Lib.hid hC6
          have HC7 := Lib.hid hC7
          have hg7 : w.heap.size < wc.heap.size := Nat.lt_of_lt_of_le hg6 hb7.size
          have hx6l := hX6.lt
          have hx7l := hX7.lt
          clear b_0 b_1 b_2 b_3 b_4 b_5 q0
          obtain ⟨b_0, b_1, b_2, b_3, b_4, b_5, q0⟩ := HC12.out wc (by (repeat (first | (with_reducible exact Below.refl _ _) | (with_reducible assumption) | (with_reducible apply bel_alloc) | (with_reducible apply bel_drew) | (with_reducible apply bel_drewN) | (with_reducible refine bel_trans ?_ (by with_reducible assumption)) | (with_reducible refine bel_trans ?_ (HF.out _)) | ((with_reducible refine bel_set3 ?_ ?_); rotate_left; omega))))
          have z_0 := (hX6.box).2 0 _ rfl; have z_1 := (hX6.box).2 1 _ rfl; have z_2 := (hX6.box).2 2 _ rfl; have z_3 := (hX6.box).2 3 _ rfl; have z_4 := (hX6.box).2 4 _ rfl; have z_5 := (hX6.box).2 5 _ rfl
          have y_0 := (hX7.box).2 0 _ rfl; have y_1 := (hX7.box).2 1 _ rfl; have y_2 := (hX7.box).2 2 _ rfl; have y_3 := (hX7.box).2 3 _ rfl; have y_4 := (hX7.box).2 4 _ rfl; have y_5 := (hX7.box).2 5 _ rfl
          clear hX6 hX7 hC6 hC7
          go_wp2_with (go_at_call 44; refine (law14_num _ _).mono ?_; rintro e w' ⟨rfl, rfl⟩)
          refine (ref0_EqCert' (cth D.D.certs k) _ _ _ _ _ _ _ _ _ _ _ _ _ _ _ _ _ _ _ HC7.out HC6'.out).mono ?_
          rintro e w8 ⟨rfl, hb8⟩
          go_wp2_with fail
          (first | (go_round; (case rel => exact ⟨i + 1, by omega, by go_num, HB.out.up (bel_trans hb7k hb8), bel_trans hbw (bel_trans hb7k hb8)⟩); (case measure => (simp [intOf] <;> omega))) | (go_roundw; (case rel => exact ⟨i + 1, by omega, by go_num, HB.out.up (bel_trans hb7k hb8), bel_trans hbw (bel_trans hb7k hb8)⟩); (case measure => (simp [intOf] <;> omega))) | (refine ⟨?_, by simp [intOf] <;> omega⟩; (repeat apply Exists.intro); refine ⟨?rel, ?fr⟩; (case fr => ((repeat' apply And.intro) <;> rfl)); (case rel => exact ⟨i + 1, by omega, by go_num, HB.out.up (bel_trans hb7k hb8), bel_trans hbw (bel_trans hb7k hb8)⟩)))
    · have b_0 := (HB.out).2 0 _ rfl; have b_1 := (HB.out).2 1 _ rfl; have b_2 := (HB.out).2 2 _ rfl; have b_3 := (HB.out).2 3 _ rfl; have b_4 := (HB.out).2 4 _ rfl; have b_5 := (HB.out).2 5 _ rfl
      go_wp2_with fail
      go_loopw [10] (fun si wr => ∃ j : Nat, j ≤ pn ∧ si = .int .i64 j ∧ BoxR wr w.heap.size [.int .i64 D.D.nodes, .int .i64 D.D.low, .slice dA dn dc, .slice cA cn cc, .slice iA im ic, .slice pA pn pc] ∧ Below w.heap.size w wr) (fun si _ => pn - (intOf si).toNat)
      case atStart => exact ⟨0, Nat.zero_le _, rfl, HB.out, hbw⟩
      case round =>
        clear hbw hgHB HB hlt hi b_0 b_1 b_2 b_3 b_4 b_5
        obtain ⟨j, hj, rfl, hB, hbw⟩ := hrel
        (obtain ⟨wk, hwk⟩ : ∃ x, x = wr := ⟨_, rfl⟩); subst hwk
        have hgHB := hB.1
        have HB := Lib.hid hB
        clear hB
        by_cases hlt : j < pn
        · obtain ⟨pb, poff, rfl, hpb, hpc⟩ := (HP.out.up hbw).at (by omega)
          obtain ⟨p0, p1⟩ := hpc j hlt
          obtain ⟨x, hx⟩ : ∃ x, x = (fth D.P j).1 := ⟨_, rfl⟩
          obtain ⟨y, hy⟩ : ∃ y, y = (fth D.P j).2 := ⟨_, rfl⟩
          rw [← hx] at p0
          rw [← hy] at p1
          have hcells : ∀ X, Below wk.heap.size wk X → X.cell? ⟨w.heap.size, 0, none⟩ = some (.int .i64 D.D.nodes) ∧ X.cell? ⟨w.heap.size, 1, none⟩ = some (.int .i64 D.D.low) ∧ X.cell? ⟨w.heap.size, 2, none⟩ = some (.slice dA dn dc) ∧ X.cell? ⟨w.heap.size, 3, none⟩ = some (.slice cA cn cc) ∧ X.cell? ⟨w.heap.size, 4, none⟩ = some (.slice iA im ic) ∧ X.cell? ⟨w.heap.size, 5, none⟩ = some (.slice (some ⟨pb, poff, none⟩) pn pc) := fun X hX =>
            ⟨(HB.out.up hX).2 0 _ rfl, (HB.out.up hX).2 1 _ rfl, (HB.out.up hX).2 2 _ rfl, (HB.out.up hX).2 3 _ rfl, (HB.out.up hX).2 4 _ rfl, (HB.out.up hX).2 5 _ rfl⟩
          have HCB := Lib.hid hcells
          clear hpc hx hy hcells
          obtain ⟨b_0, b_1, b_2, b_3, b_4, b_5⟩ := HCB.out wk (by (repeat (first | (with_reducible exact Below.refl _ _) | (with_reducible assumption) | (with_reducible apply bel_alloc) | (with_reducible apply bel_drew) | (with_reducible apply bel_drewN) | (with_reducible refine bel_trans ?_ (by with_reducible assumption)) | (with_reducible refine bel_trans ?_ (HF.out _)) | ((with_reducible refine bel_set3 ?_ ?_); rotate_left; omega))))
          go_wp2_with fail
          refine wp_region_fam (by kernel_rfl) (by kernel_rfl) (fun ι F hne hF hcl => ?_)
          have hcF0 := fun n o => (bcell (hF n)).1 (w.heap.size) o (by first | (simp; done) | (simp; omega) | omega)
          have hcF1 := fun n o => (bcell (hF n)).1 (pb) o (by first | (simp; done) | (simp; omega) | omega)
          have HF := Lib.hid hF; clear hF
          have HC := Lib.hid hcl; clear hcl
          repeat (any_goals (first
           | go_big_quiet_step (first | (fail))
           | (refine wpQuiet_guard _ _ _ rfl rfl ?_; (fail_if_success (intro b' hb; have h2 := hb.symm; have : b' = true := h2.trans (by with_reducible rfl))); (fail_if_success (intro b' hb; have h2 := hb.symm; have : b' = false := h2.trans (by with_reducible rfl))); intro b' hb; simp only [hb]; cases b' <;> (try simp only [Bool.not_eq_true', Bool.not_eq_false', decide_eq_true_eq, decide_eq_false_iff_not, Int.not_lt, Int.not_le, Bool.and_eq_true, Bool.or_eq_true, Bool.or_eq_false_iff, beq_iff_eq, beq_eq_false_iff_ne, Int.natCast_pos] at hb))))
          all_goals (refine wpQuiet_nil ?_; intro nq)
          have hFwf := HF.out nq
          clear HF HC hne
          generalize F nq = wf at *
          have hgf : w.heap.size < wf.heap.size := Nat.lt_of_lt_of_le hgHB hFwf.size
          clear hcF0 hcF1 p0 p1
          clear b_0 b_1 b_2 b_3 b_4 b_5
          obtain ⟨r, hr⟩ : ∃ r, paR x y = r := ⟨_, rfl⟩
          obtain ⟨a, ha⟩ : ∃ a, paA x y = a := ⟨_, rfl⟩
          obtain ⟨ok, hok⟩ : ∃ ok, paOk x y = ok := ⟨_, rfl⟩
          obtain ⟨k, hk⟩ : ∃ k, atS D.D.certs r a = k := ⟨_, rfl⟩
          obtain ⟨z, hz⟩ : ∃ z, atE D.D x y = z := ⟨_, rfl⟩
          obtain ⟨C, hC⟩ : ∃ C, atC D.D x y = C := ⟨_, rfl⟩
          have hsc : LightC C := by rw [← hC]; exact atC_light HLD.out
          have HR := Lib.hid hr
          have HA := Lib.hid ha
          have HOK := Lib.hid hok
          have HK := Lib.hid hk
          have HZ := Lib.hid hz
          have HPC := Lib.hid hC
          have HSC := Lib.hid hsc
          clear hr ha hok hk hz hC hsc
          obtain ⟨b_0, b_1, b_2, b_3, b_4, b_5⟩ := HCB.out wf (by (repeat (first | (with_reducible exact Below.refl _ _) | (with_reducible assumption) | (with_reducible apply bel_alloc) | (with_reducible apply bel_drew) | (with_reducible apply bel_drewN) | (with_reducible refine bel_trans ?_ (by with_reducible assumption)) | (with_reducible refine bel_trans ?_ (HF.out _)) | ((with_reducible refine bel_set3 ?_ ?_); rotate_left; omega))))
          go_wp2_with fail
          refine (ref1_PartsAt x y r a ok _ HR.out HA.out HOK.out).mono ?_
          rintro e w2 ⟨rfl, rfl⟩
          go_upto_region 22 with fail
          have hX : Blk (wf.alloc (.cells #[.int .i64 0, .int .i64 0, .slice none 0 0, .slice none 0 0, .int .i64 0, .slice none 0 0] 48)) wf.heap.size 48 [.int .i64 0, .int .i64 0, .slice none 0 0, .slice none 0 0, .int .i64 0, .slice none 0 0] := Blk.new wf 48 [.int .i64 0, .int .i64 0, .slice none 0 0, .slice none 0 0, .int .i64 0, .slice none 0 0]
          have hbX : Below wf.heap.size wf (wf.alloc (.cells #[.int .i64 0, .int .i64 0, .slice none 0 0, .slice none 0 0, .int .i64 0, .slice none 0 0] 48)) := by (repeat (first | (with_reducible exact Below.refl _ _) | (with_reducible assumption) | (with_reducible apply bel_alloc) | (with_reducible apply bel_drew) | (with_reducible apply bel_drewN) | (with_reducible refine bel_trans ?_ (by with_reducible assumption)) | (with_reducible refine bel_trans ?_ (HF.out _)) | (with_reducible refine bel_set ?_ (by simp) _) | (with_reducible refine bel_set ?_ (by simp; omega) _) | (with_reducible refine bel_set ?_ (by omega) _)))
          generalize (wf.alloc (.cells #[.int .i64 0, .int .i64 0, .slice none 0 0, .slice none 0 0, .int .i64 0, .slice none 0 0] 48)) = X at *
          have hbXk : Below wk.heap.size wk X := bel_trans hFwf hbX
          have hgX : w.heap.size < X.heap.size := Nat.lt_of_lt_of_le hgHB hbXk.size
          have hfk := hFwf.size
          have HX := Lib.hid hX
          clear hX
          clear b_0 b_1 b_2 b_3 b_4 b_5
          obtain ⟨b_0, b_1, b_2, b_3, b_4, b_5⟩ := HCB.out X (by (repeat (first | (with_reducible exact Below.refl _ _) | (with_reducible assumption) | (with_reducible apply bel_alloc) | (with_reducible apply bel_drew) | (with_reducible apply bel_drewN) | (with_reducible refine bel_trans ?_ (by with_reducible assumption)) | (with_reducible refine bel_trans ?_ (HF.out _)) | ((with_reducible refine bel_set3 ?_ ?_); rotate_left; omega))))
          cases hm : mayS D.D
          · obtain rfl : f = 1 := by rw [← HCK.out]; simp [chkE, hm]
            obtain rfl : z = 1 := by rw [← HZ.out]; simp [atE, hm]
            obtain rfl : C = default := by rw [← HPC.out]; simp [atC, hm]
            clear hm
            go_wp2_with fail
            refine (ref14_AtAt dA dn dc D.D.certs _ _ r a k _ (HD.out.up (bel_trans hbw hbXk)) HK.out).mono ?_
            rintro e w5 ⟨rfl, hb5⟩
            have hb5k : Below wk.heap.size wk w5 := bel_trans hbXk hb5
            have hX5 := HX.out.up hb5
            clear b_0 b_1 b_2 b_3 b_4 b_5
            obtain ⟨b_0, b_1, b_2, b_3, b_4, b_5⟩ := HCB.out w5 (by (repeat (first | (with_reducible exact Below.refl _ _) | (with_reducible assumption) | (with_reducible apply bel_alloc) | (with_reducible apply bel_drew) | (with_reducible apply bel_drewN) | (with_reducible refine bel_trans ?_ (by with_reducible assumption)) | (with_reducible refine bel_trans ?_ (HF.out _)) | ((with_reducible refine bel_set3 ?_ ?_); rotate_left; omega))))
            go_wp2_with fail
            have hb6k := hb5k
            have HX6 := Lib.hid hX5
            have HC6 : Hid (CertR w5 (⟨⟨⟨none, 0, 0⟩, ⟨none, 0, 0⟩⟩, ⟨none, 0, 0⟩⟩ : CertP) (default : CertD)) := Lib.hid (CertR.zero w5)
            have hg6 : w.heap.size < w5.heap.size := Nat.lt_of_lt_of_le hgHB hb6k.size
            refine (dag_At _ dn dc D.D x y 1 (default : CertD) _ (HD.out.up (bel_trans hbw hb6k)) HZ.out HPC.out).mono ?_
            rintro e w7 ⟨q, rfl, ho, hb7⟩
            have hb7k : Below wk.heap.size wk w7 := bel_trans hb6k hb7
            have HO := Lib.hid ho
            have hX6 := HX6.out.up hb7
            have hx6l := hX6.lt
            have HCQ := Lib.hid (ho.cert HSC.out.short).1
            have HC6' := Lib.hid (HC6.out.up hb7)
            have hg7 : w.heap.size < w7.heap.size := Nat.lt_of_lt_of_le hg6 hb7.size
            obtain ⟨⟨⟨uA', un', uc'⟩, ⟨vA', vn', vc'⟩⟩, ⟨rA', rn', rc'⟩⟩ := q
            clear ho
            clear b_0 b_1 b_2 b_3 b_4 b_5
            obtain ⟨b_0, b_1, b_2, b_3, b_4, b_5⟩ := HCB.out w7 (by (repeat (first | (with_reducible exact Below.refl _ _) | (with_reducible assumption) | (with_reducible apply bel_alloc) | (with_reducible apply bel_drew) | (with_reducible apply bel_drewN) | (with_reducible refine bel_trans ?_ (by with_reducible assumption)) | (with_reducible refine bel_trans ?_ (HF.out _)) | ((with_reducible refine bel_set3 ?_ ?_); rotate_left; omega))))
            have z_0 := (hX6.box).2 0 _ rfl; have z_1 := (hX6.box).2 1 _ rfl; have z_2 := (hX6.box).2 2 _ rfl; have z_3 := (hX6.box).2 3 _ rfl; have z_4 := (hX6.box).2 4 _ rfl; have z_5 := (hX6.box).2 5 _ rfl
            clear hX6
            go_wp2_with (go_at_call 44; refine (law14_num _ _).mono ?_; rintro e w' ⟨rfl, rfl⟩)
            have hX7 : Blk (w7.alloc (.cells #[.int .i64 (default : CertD).h.au, .int .i64 (default : CertD).h.ro, .slice uA' un' uc', .slice vA' vn' vc', .int .i64 (default : CertD).di, .slice rA' rn' rc'] 48)) w7.heap.size 48 [.int .i64 (default : CertD).h.au, .int .i64 (default : CertD).h.ro, .slice uA' un' uc', .slice vA' vn' vc', .int .i64 (default : CertD).di, .slice rA' rn' rc'] := Blk.new w7 48 [.int .i64 (default : CertD).h.au, .int .i64 (default : CertD).h.ro, .slice uA' un' uc', .slice vA' vn' vc', .int .i64 (default : CertD).di, .slice rA' rn' rc']
            have hb7X : Below w7.heap.size w7 (w7.alloc (.cells #[.int .i64 (default : CertD).h.au, .int .i64 (default : CertD).h.ro, .slice uA' un' uc', .slice vA' vn' vc', .int .i64 (default : CertD).di, .slice rA' rn' rc'] 48)) := by (repeat (first | (with_reducible exact Below.refl _ _) | (with_reducible assumption) | (with_reducible apply bel_alloc) | (with_reducible apply bel_drew) | (with_reducible apply bel_drewN) | (with_reducible refine bel_trans ?_ (by with_reducible assumption)) | (with_reducible refine bel_trans ?_ (HF.out _)) | (with_reducible refine bel_set ?_ (by simp) _) | (with_reducible refine bel_set ?_ (by simp; omega) _) | (with_reducible refine bel_set ?_ (by omega) _)))
            generalize (w7.alloc (.cells #[.int .i64 (default : CertD).h.au, .int .i64 (default : CertD).h.ro, .slice uA' un' uc', .slice vA' vn' vc', .int .i64 (default : CertD).di, .slice rA' rn' rc'] 48)) = X7 at *
            refine (ref0_EqCert' (default : CertD) _ _ _ _ _ _ _ _ _ _ _ _ _ _ _ _ _ _ _ (HCQ.out.up hb7X) (HC6'.out.up hb7X)).mono ?_
            rintro e w8 ⟨rfl, hb8⟩
            have hb78 : Below w7.heap.size w7 w8 := bel_trans hb7X hb8
            have hb8k := bel_trans hb7k hb78
            have hX8 := hX7.up hb8
            have HX8 := Lib.hid hX8
            have hx8l := hX8.lt
            have hg8 : w.heap.size < w8.heap.size := Nat.lt_of_lt_of_le hgHB hb8k.size
            clear b_0 b_1 b_2 b_3 b_4 b_5
            obtain ⟨b_0, b_1, b_2, b_3, b_4, b_5⟩ := HCB.out w8 (by (repeat (first | (with_reducible exact Below.refl _ _) | (with_reducible assumption) | (with_reducible apply bel_alloc) | (with_reducible apply bel_drew) | (with_reducible apply bel_drewN) | (with_reducible refine bel_trans ?_ (by with_reducible assumption)) | (with_reducible refine bel_trans ?_ (HF.out _)) | ((with_reducible refine bel_set3 ?_ ?_); rotate_left; omega))))
            clear z_0 z_1 z_2 z_3 z_4 z_5 hX7 hX8
            go_wp2_with fail
            refine (ref0_CopyDagO _ dn dc D.D _ (HD.out.up (bel_trans hbw hb8k)) HLD.out).mono ?_
            rintro e w9 ⟨A9, c9, ps9, rfl, hD9, hb9⟩
            have HD9 := Lib.hid hD9
            have hX9 := HX8.out.up hb9
            have hx9l := hX9.lt
            clear b_0 b_1 b_2 b_3 b_4 b_5
            obtain ⟨b_0, b_1, b_2, b_3, b_4, b_5⟩ := HCB.out w9 (by (repeat (first | (with_reducible exact Below.refl _ _) | (with_reducible assumption) | (with_reducible apply bel_alloc) | (with_reducible apply bel_drew) | (with_reducible apply bel_drewN) | (with_reducible refine bel_trans ?_ (by with_reducible assumption)) | (with_reducible refine bel_trans ?_ (HF.out _)) | ((with_reducible refine bel_set3 ?_ ?_); rotate_left; omega))))
            have y_0 := (hX9.box).2 0 _ rfl; have y_1 := (hX9.box).2 1 _ rfl; have y_2 := (hX9.box).2 2 _ rfl; have y_3 := (hX9.box).2 3 _ rfl; have y_4 := (hX9.box).2 4 _ rfl; have y_5 := (hX9.box).2 5 _ rfl
            clear hX9 hD9
            go_wp2_with fail
            have hb8X : Below w8.heap.size w8 (w9.alloc (.cells #[.int .i64 D.D.nodes, .int .i64 D.D.low, .slice A9 dn c9] 24)) := bel_trans hb9 (bel_alloc (Below.refl _ _))
            have hbox : BoxR (w9.alloc (.cells #[.int .i64 D.D.nodes, .int .i64 D.D.low, .slice A9 dn c9] 24)) w9.heap.size [.int .i64 D.D.nodes, .int .i64 D.D.low, .slice A9 dn c9] := BoxR.new w9 [.int .i64 D.D.nodes, .int .i64 D.D.low, .slice A9 dn c9] 24
            have hOX : OwnC (w9.alloc (.cells #[.int .i64 D.D.nodes, .int .i64 D.D.low, .slice A9 dn c9] 24)) w8.heap.size (.slice A9 dn c9) ps9 D.D.certs := HD9.out.up (bel_alloc (Below.refl _ _))
            generalize (w9.alloc (.cells #[.int .i64 D.D.nodes, .int .i64 D.D.low, .slice A9 dn c9] 24)) = X at *
            have hbX : Below wk.heap.size wk X := bel_trans hb8k hb8X
            have hci : CertI X w5.heap.size w8.heap.size (⟨⟨⟨uA', un', uc'⟩, ⟨vA', vn', vc'⟩⟩, ⟨rA', rn', rc'⟩⟩ : CertP) := ((HO.out.up hb78).row (B2 := w8.heap.size) (Nat.le_refl _) (Nat.le_trans HSC.out.1 (by omega)) (Nat.le_trans HSC.out.2.1 (by omega)) (Nat.le_trans HSC.out.2.2 (by omega))).keep (KeepT.of_below hb8X)
            have hWX : w5.heap.size ≤ X.heap.size := Nat.le_trans hb7.size (Nat.le_trans hb78.size hb8X.size)
            refine (law0_CertK _ _ _ (⟨⟨⟨uA', un', uc'⟩, ⟨vA', vn', vc'⟩⟩, ⟨rA', rn', rc'⟩⟩ : CertP) w5.heap.size w8.heap.size _ hci hWX).mono ?_
            rintro e w10 ⟨rfl, hm10, -⟩
            have hb10k : Below wk.heap.size wk w10 := hbX.trans ((hm10.below hWX).mono hb6k.size)
            have hz10 := hbox.mid hm10 hb9.size
            have HO10 := Lib.hid (hOX.mid hm10)
            clear hbox hOX hci y_0 y_1 y_2 y_3 y_4 y_5
            clear b_0 b_1 b_2 b_3 b_4 b_5
            obtain ⟨b_0, b_1, b_2, b_3, b_4, b_5⟩ := HCB.out w10 (by (repeat (first | (with_reducible exact Below.refl _ _) | (with_reducible assumption) | (with_reducible apply bel_alloc) | (with_reducible apply bel_drew) | (with_reducible apply bel_drewN) | (with_reducible refine bel_trans ?_ (by with_reducible assumption)) | (with_reducible refine bel_trans ?_ (HF.out _)) | ((with_reducible refine bel_set3 ?_ ?_); rotate_left; omega))))
            have z_0 := (hz10).2 0 _ rfl; have z_1 := (hz10).2 1 _ rfl; have z_2 := (hz10).2 2 _ rfl
            clear hz10
            go_wp2_with fail
            refine (ref0_EqDag A9 dn c9 _ dc D.D _ (HO10.out.cs (Nat.le_trans HLD.out.1 (by omega))) (HD.out.up (bel_trans hbw hb10k))).mono ?_
            rintro e w11 ⟨rfl, hb11⟩
            go_wp2_with fail
            (first | (go_round; (case rel => exact ⟨j + 1, by omega, by go_num, HB.out.up (bel_trans hb10k hb11), bel_trans hbw (bel_trans hb10k hb11)⟩); (case measure => (simp [intOf] <;> omega))) | (go_roundw; (case rel => exact ⟨j + 1, by omega, by go_num, HB.out.up (bel_trans hb10k hb11), bel_trans hbw (bel_trans hb10k hb11)⟩); (case measure => (simp [intOf] <;> omega))) | (refine ⟨?_, by simp [intOf] <;> omega⟩; (repeat apply Exists.intro); refine ⟨?rel, ?fr⟩; (case fr => ((repeat' apply And.intro) <;> rfl)); (case rel => exact ⟨j + 1, by omega, by go_num, HB.out.up (bel_trans hb10k hb11), bel_trans hbw (bel_trans hb10k hb11)⟩)))
          · obtain rfl : f = 0 := by rw [← HCK.out]; simp [chkE, hm]
            cases ok
            · obtain rfl : z = 1 := by rw [← HZ.out]; simp [atE, HOK.out]
              obtain rfl : C = default := by rw [← HPC.out]; simp [atC, HOK.out]
              clear hm
              go_wp2_with fail
              refine (ref14_AtAt dA dn dc D.D.certs _ _ r a k _ (HD.out.up (bel_trans hbw hbXk)) HK.out).mono ?_
              rintro e w5 ⟨rfl, hb5⟩
              have hb5k : Below wk.heap.size wk w5 := bel_trans hbXk hb5
              have hX5 := HX.out.up hb5
              clear b_0 b_1 b_2 b_3 b_4 b_5
              obtain ⟨b_0, b_1, b_2, b_3, b_4, b_5⟩ := HCB.out w5 (by (repeat (first | (with_reducible exact Below.refl _ _) | (with_reducible assumption) | (with_reducible apply bel_alloc) | (with_reducible apply bel_drew) | (with_reducible apply bel_drewN) | (with_reducible refine bel_trans ?_ (by with_reducible assumption)) | (with_reducible refine bel_trans ?_ (HF.out _)) | ((with_reducible refine bel_set3 ?_ ?_); rotate_left; omega))))
              go_wp2_with fail
              have hb6k := hb5k
              have HX6 := Lib.hid hX5
              have HC6 : Hid (CertR w5 (⟨⟨⟨none, 0, 0⟩, ⟨none, 0, 0⟩⟩, ⟨none, 0, 0⟩⟩ : CertP) (default : CertD)) := Lib.hid (CertR.zero w5)
              have hg6 : w.heap.size < w5.heap.size := Nat.lt_of_lt_of_le hgHB hb6k.size
              refine (dag_At _ dn dc D.D x y 1 (default : CertD) _ (HD.out.up (bel_trans hbw hb6k)) HZ.out HPC.out).mono ?_
              rintro e w7 ⟨q, rfl, ho, hb7⟩
              have hb7k : Below wk.heap.size wk w7 := bel_trans hb6k hb7
              have HO := Lib.hid ho
              have hX6 := HX6.out.up hb7
              have hx6l := hX6.lt
              have HCQ := Lib.hid (ho.cert HSC.out.short).1
              have HC6' := Lib.hid (HC6.out.up hb7)
              have hg7 : w.heap.size < w7.heap.size := Nat.lt_of_lt_of_le hg6 hb7.size
              obtain ⟨⟨⟨uA', un', uc'⟩, ⟨vA', vn', vc'⟩⟩, ⟨rA', rn', rc'⟩⟩ := q
              clear ho
              clear b_0 b_1 b_2 b_3 b_4 b_5
              obtain ⟨b_0, b_1, b_2, b_3, b_4, b_5⟩ := HCB.out w7 (by (repeat (first | (with_reducible exact Below.refl _ _) | (with_reducible assumption) | (with_reducible apply bel_alloc) | (with_reducible apply bel_drew) | (with_reducible apply bel_drewN) | (with_reducible refine bel_trans ?_ (by with_reducible assumption)) | (with_reducible refine bel_trans ?_ (HF.out _)) | ((with_reducible refine bel_set3 ?_ ?_); rotate_left; omega))))
              have z_0 := (hX6.box).2 0 _ rfl; have z_1 := (hX6.box).2 1 _ rfl; have z_2 := (hX6.box).2 2 _ rfl; have z_3 := (hX6.box).2 3 _ rfl; have z_4 := (hX6.box).2 4 _ rfl; have z_5 := (hX6.box).2 5 _ rfl
              clear hX6
              go_wp2_with (go_at_call 44; refine (law14_num _ _).mono ?_; rintro e w' ⟨rfl, rfl⟩)
              have hX7 : Blk (w7.alloc (.cells #[.int .i64 (default : CertD).h.au, .int .i64 (default : CertD).h.ro, .slice uA' un' uc', .slice vA' vn' vc', .int .i64 (default : CertD).di, .slice rA' rn' rc'] 48)) w7.heap.size 48 [.int .i64 (default : CertD).h.au, .int .i64 (default : CertD).h.ro, .slice uA' un' uc', .slice vA' vn' vc', .int .i64 (default : CertD).di, .slice rA' rn' rc'] := Blk.new w7 48 [.int .i64 (default : CertD).h.au, .int .i64 (default : CertD).h.ro, .slice uA' un' uc', .slice vA' vn' vc', .int .i64 (default : CertD).di, .slice rA' rn' rc']
              have hb7X : Below w7.heap.size w7 (w7.alloc (.cells #[.int .i64 (default : CertD).h.au, .int .i64 (default : CertD).h.ro, .slice uA' un' uc', .slice vA' vn' vc', .int .i64 (default : CertD).di, .slice rA' rn' rc'] 48)) := by (repeat (first | (with_reducible exact Below.refl _ _) | (with_reducible assumption) | (with_reducible apply bel_alloc) | (with_reducible apply bel_drew) | (with_reducible apply bel_drewN) | (with_reducible refine bel_trans ?_ (by with_reducible assumption)) | (with_reducible refine bel_trans ?_ (HF.out _)) | (with_reducible refine bel_set ?_ (by simp) _) | (with_reducible refine bel_set ?_ (by simp; omega) _) | (with_reducible refine bel_set ?_ (by omega) _)))
              generalize (w7.alloc (.cells #[.int .i64 (default : CertD).h.au, .int .i64 (default : CertD).h.ro, .slice uA' un' uc', .slice vA' vn' vc', .int .i64 (default : CertD).di, .slice rA' rn' rc'] 48)) = X7 at *
              refine (ref0_EqCert' (default : CertD) _ _ _ _ _ _ _ _ _ _ _ _ _ _ _ _ _ _ _ (HCQ.out.up hb7X) (HC6'.out.up hb7X)).mono ?_
              rintro e w8 ⟨rfl, hb8⟩
              have hb78 : Below w7.heap.size w7 w8 := bel_trans hb7X hb8
              have hb8k := bel_trans hb7k hb78
              have hX8 := hX7.up hb8
              have HX8 := Lib.hid hX8
              have hx8l := hX8.lt
              have hg8 : w.heap.size < w8.heap.size := Nat.lt_of_lt_of_le hgHB hb8k.size
              clear b_0 b_1 b_2 b_3 b_4 b_5
              obtain ⟨b_0, b_1, b_2, b_3, b_4, b_5⟩ := HCB.out w8 (by (repeat (first | (with_reducible exact Below.refl _ _) | (with_reducible assumption) | (with_reducible apply bel_alloc) | (with_reducible apply bel_drew) | (with_reducible apply bel_drewN) | (with_reducible refine bel_trans ?_ (by with_reducible assumption)) | (with_reducible refine bel_trans ?_ (HF.out _)) | ((with_reducible refine bel_set3 ?_ ?_); rotate_left; omega))))
              clear z_0 z_1 z_2 z_3 z_4 z_5 hX7 hX8
              go_wp2_with fail
              refine (ref0_CopyDagO _ dn dc D.D _ (HD.out.up (bel_trans hbw hb8k)) HLD.out).mono ?_
              rintro e w9 ⟨A9, c9, ps9, rfl, hD9, hb9⟩
              have HD9 := Lib.hid hD9
              have hX9 := HX8.out.up hb9
              have hx9l := hX9.lt
              clear b_0 b_1 b_2 b_3 b_4 b_5
              obtain ⟨b_0, b_1, b_2, b_3, b_4, b_5⟩ := HCB.out w9 (by (repeat (first | (with_reducible exact Below.refl _ _) | (with_reducible assumption) | (with_reducible apply bel_alloc) | (with_reducible apply bel_drew) | (with_reducible apply bel_drewN) | (with_reducible refine bel_trans ?_ (by with_reducible assumption)) | (with_reducible refine bel_trans ?_ (HF.out _)) | ((with_reducible refine bel_set3 ?_ ?_); rotate_left; omega))))
              have y_0 := (hX9.box).2 0 _ rfl; have y_1 := (hX9.box).2 1 _ rfl; have y_2 := (hX9.box).2 2 _ rfl; have y_3 := (hX9.box).2 3 _ rfl; have y_4 := (hX9.box).2 4 _ rfl; have y_5 := (hX9.box).2 5 _ rfl
              clear hX9 hD9
              go_wp2_with fail
              have hb8X : Below w8.heap.size w8 (w9.alloc (.cells #[.int .i64 D.D.nodes, .int .i64 D.D.low, .slice A9 dn c9] 24)) := bel_trans hb9 (bel_alloc (Below.refl _ _))
              have hbox : BoxR (w9.alloc (.cells #[.int .i64 D.D.nodes, .int .i64 D.D.low, .slice A9 dn c9] 24)) w9.heap.size [.int .i64 D.D.nodes, .int .i64 D.D.low, .slice A9 dn c9] := BoxR.new w9 [.int .i64 D.D.nodes, .int .i64 D.D.low, .slice A9 dn c9] 24
              have hOX : OwnC (w9.alloc (.cells #[.int .i64 D.D.nodes, .int .i64 D.D.low, .slice A9 dn c9] 24)) w8.heap.size (.slice A9 dn c9) ps9 D.D.certs := HD9.out.up (bel_alloc (Below.refl _ _))
              generalize (w9.alloc (.cells #[.int .i64 D.D.nodes, .int .i64 D.D.low, .slice A9 dn c9] 24)) = X at *
              have hbX : Below wk.heap.size wk X := bel_trans hb8k hb8X
              have hci : CertI X w5.heap.size w8.heap.size (⟨⟨⟨uA', un', uc'⟩, ⟨vA', vn', vc'⟩⟩, ⟨rA', rn', rc'⟩⟩ : CertP) := ((HO.out.up hb78).row (B2 := w8.heap.size) (Nat.le_refl _) (Nat.le_trans HSC.out.1 (by omega)) (Nat.le_trans HSC.out.2.1 (by omega)) (Nat.le_trans HSC.out.2.2 (by omega))).keep (KeepT.of_below hb8X)
              have hWX : w5.heap.size ≤ X.heap.size := Nat.le_trans hb7.size (Nat.le_trans hb78.size hb8X.size)
              refine (law0_CertK _ _ _ (⟨⟨⟨uA', un', uc'⟩, ⟨vA', vn', vc'⟩⟩, ⟨rA', rn', rc'⟩⟩ : CertP) w5.heap.size w8.heap.size _ hci hWX).mono ?_
              rintro e w10 ⟨rfl, hm10, -⟩
              have hb10k : Below wk.heap.size wk w10 := hbX.trans ((hm10.below hWX).mono hb6k.size)
              have hz10 := hbox.mid hm10 hb9.size
              have HO10 := Lib.hid (hOX.mid hm10)
              clear hbox hOX hci y_0 y_1 y_2 y_3 y_4 y_5
              clear b_0 b_1 b_2 b_3 b_4 b_5
              obtain ⟨b_0, b_1, b_2, b_3, b_4, b_5⟩ := HCB.out w10 (by (repeat (first | (with_reducible exact Below.refl _ _) | (with_reducible assumption) | (with_reducible apply bel_alloc) | (with_reducible apply bel_drew) | (with_reducible apply bel_drewN) | (with_reducible refine bel_trans ?_ (by with_reducible assumption)) | (with_reducible refine bel_trans ?_ (HF.out _)) | ((with_reducible refine bel_set3 ?_ ?_); rotate_left; omega))))
              have z_0 := (hz10).2 0 _ rfl; have z_1 := (hz10).2 1 _ rfl; have z_2 := (hz10).2 2 _ rfl
              clear hz10
              go_wp2_with fail
              refine (ref0_EqDag A9 dn c9 _ dc D.D _ (HO10.out.cs (Nat.le_trans HLD.out.1 (by omega))) (HD.out.up (bel_trans hbw hb10k))).mono ?_
              rintro e w11 ⟨rfl, hb11⟩
              go_wp2_with fail
              (first | (go_round; (case rel => exact ⟨j + 1, by omega, by go_num, HB.out.up (bel_trans hb10k hb11), bel_trans hbw (bel_trans hb10k hb11)⟩); (case measure => (simp [intOf] <;> omega))) | (go_roundw; (case rel => exact ⟨j + 1, by omega, by go_num, HB.out.up (bel_trans hb10k hb11), bel_trans hbw (bel_trans hb10k hb11)⟩); (case measure => (simp [intOf] <;> omega))) | (refine ⟨?_, by simp [intOf] <;> omega⟩; (repeat apply Exists.intro); refine ⟨?rel, ?fr⟩; (case fr => ((repeat' apply And.intro) <;> rfl)); (case rel => exact ⟨j + 1, by omega, by go_num, HB.out.up (bel_trans hb10k hb11), bel_trans hbw (bel_trans hb10k hb11)⟩)))
            · have hr : r = whN x := by rw [← HR.out]; simp [paR, HOK.out]
              have ha : a = whN y := by rw [← HA.out]; simp [paA, HOK.out]
              rcases atS_cases D.D.certs r a with ⟨hk, -⟩ | ⟨n', hkl, hk, -⟩
              · obtain rfl : k = -1 := by rw [← HK.out, hk]
                obtain rfl : z = 3 := by rw [← HZ.out, atE, ← hr, ← ha, hk]; simp [hm, HOK.out]
                obtain rfl : C = default := by rw [← HPC.out, atC, ← hr, ← ha, hk]; simp
                clear hm hk hr ha
                go_wp2_with fail
                refine (ref14_AtAt dA dn dc D.D.certs _ _ r a (-1) _ (HD.out.up (bel_trans hbw hbXk)) HK.out).mono ?_
                rintro e w5 ⟨rfl, hb5⟩
                have hb5k : Below wk.heap.size wk w5 := bel_trans hbXk hb5
                have hX5 := HX.out.up hb5
                clear b_0 b_1 b_2 b_3 b_4 b_5
                obtain ⟨b_0, b_1, b_2, b_3, b_4, b_5⟩ := HCB.out w5 (by (repeat (first | (with_reducible exact Below.refl _ _) | (with_reducible assumption) | (with_reducible apply bel_alloc) | (with_reducible apply bel_drew) | (with_reducible apply bel_drewN) | (with_reducible refine bel_trans ?_ (by with_reducible assumption)) | (with_reducible refine bel_trans ?_ (HF.out _)) | ((with_reducible refine bel_set3 ?_ ?_); rotate_left; omega))))
                go_wp2_with fail
                have hb6k := hb5k
                have HX6 := Lib.hid hX5
                have HC6 : Hid (CertR w5 (⟨⟨⟨none, 0, 0⟩, ⟨none, 0, 0⟩⟩, ⟨none, 0, 0⟩⟩ : CertP) (default : CertD)) := Lib.hid (CertR.zero w5)
                have hg6 : w.heap.size < w5.heap.size := Nat.lt_of_lt_of_le hgHB hb6k.size
                refine (dag_At _ dn dc D.D x y 3 (default : CertD) _ (HD.out.up (bel_trans hbw hb6k)) HZ.out HPC.out).mono ?_
                rintro e w7 ⟨q, rfl, ho, hb7⟩
                have hb7k : Below wk.heap.size wk w7 := bel_trans hb6k hb7
                have HO := Lib.hid ho
                have hX6 := HX6.out.up hb7
                have hx6l := hX6.lt
                have HCQ := Lib.hid (ho.cert HSC.out.short).1
                have HC6' := Lib.hid (HC6.out.up hb7)
                have hg7 : w.heap.size < w7.heap.size := Nat.lt_of_lt_of_le hg6 hb7.size
                obtain ⟨⟨⟨uA', un', uc'⟩, ⟨vA', vn', vc'⟩⟩, ⟨rA', rn', rc'⟩⟩ := q
                clear ho
                clear b_0 b_1 b_2 b_3 b_4 b_5
                obtain ⟨b_0, b_1, b_2, b_3, b_4, b_5⟩ := HCB.out w7 (by (repeat (first | (with_reducible exact Below.refl _ _) | (with_reducible assumption) | (with_reducible apply bel_alloc) | (with_reducible apply bel_drew) | (with_reducible apply bel_drewN) | (with_reducible refine bel_trans ?_ (by with_reducible assumption)) | (with_reducible refine bel_trans ?_ (HF.out _)) | ((with_reducible refine bel_set3 ?_ ?_); rotate_left; omega))))
                have z_0 := (hX6.box).2 0 _ rfl; have z_1 := (hX6.box).2 1 _ rfl; have z_2 := (hX6.box).2 2 _ rfl; have z_3 := (hX6.box).2 3 _ rfl; have z_4 := (hX6.box).2 4 _ rfl; have z_5 := (hX6.box).2 5 _ rfl
                clear hX6
                go_wp2_with (go_at_call 44; refine (law14_num _ _).mono ?_; rintro e w' ⟨rfl, rfl⟩)
                have hX7 : Blk (w7.alloc (.cells #[.int .i64 (default : CertD).h.au, .int .i64 (default : CertD).h.ro, .slice uA' un' uc', .slice vA' vn' vc', .int .i64 (default : CertD).di, .slice rA' rn' rc'] 48)) w7.heap.size 48 [.int .i64 (default : CertD).h.au, .int .i64 (default : CertD).h.ro, .slice uA' un' uc', .slice vA' vn' vc', .int .i64 (default : CertD).di, .slice rA' rn' rc'] := Blk.new w7 48 [.int .i64 (default : CertD).h.au, .int .i64 (default : CertD).h.ro, .slice uA' un' uc', .slice vA' vn' vc', .int .i64 (default : CertD).di, .slice rA' rn' rc']
                have hb7X : Below w7.heap.size w7 (w7.alloc (.cells #[.int .i64 (default : CertD).h.au, .int .i64 (default : CertD).h.ro, .slice uA' un' uc', .slice vA' vn' vc', .int .i64 (default : CertD).di, .slice rA' rn' rc'] 48)) := by (repeat (first | (with_reducible exact Below.refl _ _) | (with_reducible assumption) | (with_reducible apply bel_alloc) | (with_reducible apply bel_drew) | (with_reducible apply bel_drewN) | (with_reducible refine bel_trans ?_ (by with_reducible assumption)) | (with_reducible refine bel_trans ?_ (HF.out _)) | (with_reducible refine bel_set ?_ (by simp) _) | (with_reducible refine bel_set ?_ (by simp; omega) _) | (with_reducible refine bel_set ?_ (by omega) _)))
                generalize (w7.alloc (.cells #[.int .i64 (default : CertD).h.au, .int .i64 (default : CertD).h.ro, .slice uA' un' uc', .slice vA' vn' vc', .int .i64 (default : CertD).di, .slice rA' rn' rc'] 48)) = X7 at *
                refine (ref0_EqCert' (default : CertD) _ _ _ _ _ _ _ _ _ _ _ _ _ _ _ _ _ _ _ (HCQ.out.up hb7X) (HC6'.out.up hb7X)).mono ?_
                rintro e w8 ⟨rfl, hb8⟩
                have hb78 : Below w7.heap.size w7 w8 := bel_trans hb7X hb8
                have hb8k := bel_trans hb7k hb78
                have hX8 := hX7.up hb8
                have HX8 := Lib.hid hX8
                have hx8l := hX8.lt
                have hg8 : w.heap.size < w8.heap.size := Nat.lt_of_lt_of_le hgHB hb8k.size
                clear b_0 b_1 b_2 b_3 b_4 b_5
                obtain ⟨b_0, b_1, b_2, b_3, b_4, b_5⟩ := HCB.out w8 (by (repeat (first | (with_reducible exact Below.refl _ _) | (with_reducible assumption) | (with_reducible apply bel_alloc) | (with_reducible apply bel_drew) | (with_reducible apply bel_drewN) | (with_reducible refine bel_trans ?_ (by with_reducible assumption)) | (with_reducible refine bel_trans ?_ (HF.out _)) | ((with_reducible refine bel_set3 ?_ ?_); rotate_left; omega))))
                clear z_0 z_1 z_2 z_3 z_4 z_5 hX7 hX8
                go_wp2_with fail
                refine (ref0_CopyDagO _ dn dc D.D _ (HD.out.up (bel_trans hbw hb8k)) HLD.out).mono ?_
                rintro e w9 ⟨A9, c9, ps9, rfl, hD9, hb9⟩
                have HD9 := Lib.hid hD9
                have hX9 := HX8.out.up hb9
                have hx9l := hX9.lt
                clear b_0 b_1 b_2 b_3 b_4 b_5
                obtain ⟨b_0, b_1, b_2, b_3, b_4, b_5⟩ := HCB.out w9 (by (repeat (first | (with_reducible exact Below.refl _ _) | (with_reducible assumption) | (with_reducible apply bel_alloc) | (with_reducible apply bel_drew) | (with_reducible apply bel_drewN) | (with_reducible refine bel_trans ?_ (by with_reducible assumption)) | (with_reducible refine bel_trans ?_ (HF.out _)) | ((with_reducible refine bel_set3 ?_ ?_); rotate_left; omega))))
                have y_0 := (hX9.box).2 0 _ rfl; have y_1 := (hX9.box).2 1 _ rfl; have y_2 := (hX9.box).2 2 _ rfl; have y_3 := (hX9.box).2 3 _ rfl; have y_4 := (hX9.box).2 4 _ rfl; have y_5 := (hX9.box).2 5 _ rfl
                clear hX9 hD9
                go_wp2_with fail
                have hb8X : Below w8.heap.size w8 (w9.alloc (.cells #[.int .i64 D.D.nodes, .int .i64 D.D.low, .slice A9 dn c9] 24)) := bel_trans hb9 (bel_alloc (Below.refl _ _))
                have hbox : BoxR (w9.alloc (.cells #[.int .i64 D.D.nodes, .int .i64 D.D.low, .slice A9 dn c9] 24)) w9.heap.size [.int .i64 D.D.nodes, .int .i64 D.D.low, .slice A9 dn c9] := BoxR.new w9 [.int .i64 D.D.nodes, .int .i64 D.D.low, .slice A9 dn c9] 24
                have hOX : OwnC (w9.alloc (.cells #[.int .i64 D.D.nodes, .int .i64 D.D.low, .slice A9 dn c9] 24)) w8.heap.size (.slice A9 dn c9) ps9 D.D.certs := HD9.out.up (bel_alloc (Below.refl _ _))
                generalize (w9.alloc (.cells #[.int .i64 D.D.nodes, .int .i64 D.D.low, .slice A9 dn c9] 24)) = X at *
                have hbX : Below wk.heap.size wk X := bel_trans hb8k hb8X
                have hci : CertI X w5.heap.size w8.heap.size (⟨⟨⟨uA', un', uc'⟩, ⟨vA', vn', vc'⟩⟩, ⟨rA', rn', rc'⟩⟩ : CertP) := ((HO.out.up hb78).row (B2 := w8.heap.size) (Nat.le_refl _) (Nat.le_trans HSC.out.1 (by omega)) (Nat.le_trans HSC.out.2.1 (by omega)) (Nat.le_trans HSC.out.2.2 (by omega))).keep (KeepT.of_below hb8X)
                have hWX : w5.heap.size ≤ X.heap.size := Nat.le_trans hb7.size (Nat.le_trans hb78.size hb8X.size)
                refine (law0_CertK _ _ _ (⟨⟨⟨uA', un', uc'⟩, ⟨vA', vn', vc'⟩⟩, ⟨rA', rn', rc'⟩⟩ : CertP) w5.heap.size w8.heap.size _ hci hWX).mono ?_
                rintro e w10 ⟨rfl, hm10, -⟩
                have hb10k : Below wk.heap.size wk w10 := hbX.trans ((hm10.below hWX).mono hb6k.size)
                have hz10 := hbox.mid hm10 hb9.size
                have HO10 := Lib.hid (hOX.mid hm10)
                clear hbox hOX hci y_0 y_1 y_2 y_3 y_4 y_5
                clear b_0 b_1 b_2 b_3 b_4 b_5
                obtain ⟨b_0, b_1, b_2, b_3, b_4, b_5⟩ := HCB.out w10 (by (repeat (first | (with_reducible exact Below.refl _ _) | (with_reducible assumption) | (with_reducible apply bel_alloc) | (with_reducible apply bel_drew) | (with_reducible apply bel_drewN) | (with_reducible refine bel_trans ?_ (by with_reducible assumption)) | (with_reducible refine bel_trans ?_ (HF.out _)) | ((with_reducible refine bel_set3 ?_ ?_); rotate_left; omega))))
                have z_0 := (hz10).2 0 _ rfl; have z_1 := (hz10).2 1 _ rfl; have z_2 := (hz10).2 2 _ rfl
                clear hz10
                go_wp2_with fail
                refine (ref0_EqDag A9 dn c9 _ dc D.D _ (HO10.out.cs (Nat.le_trans HLD.out.1 (by omega))) (HD.out.up (bel_trans hbw hb10k))).mono ?_
                rintro e w11 ⟨rfl, hb11⟩
                go_wp2_with fail
                (first | (go_round; (case rel => exact ⟨j + 1, by omega, by go_num, HB.out.up (bel_trans hb10k hb11), bel_trans hbw (bel_trans hb10k hb11)⟩); (case measure => (simp [intOf] <;> omega))) | (go_roundw; (case rel => exact ⟨j + 1, by omega, by go_num, HB.out.up (bel_trans hb10k hb11), bel_trans hbw (bel_trans hb10k hb11)⟩); (case measure => (simp [intOf] <;> omega))) | (refine ⟨?_, by simp [intOf] <;> omega⟩; (repeat apply Exists.intro); refine ⟨?rel, ?fr⟩; (case fr => ((repeat' apply And.intro) <;> rfl)); (case rel => exact ⟨j + 1, by omega, by go_num, HB.out.up (bel_trans hb10k hb11), bel_trans hbw (bel_trans hb10k hb11)⟩)))
              · obtain rfl : k = (n' : Int) := by rw [← HK.out, hk]
                obtain rfl : z = 0 := by rw [← HZ.out, atE, ← hr, ← ha, hk]; simp [hm, HOK.out]
                obtain rfl : C = cth D.D.certs n' := by rw [← HPC.out, atC, ← hr, ← ha, hk]; simp [hm, HOK.out]
                have hkn : n' < dn := by rw [← HD.out.1]; exact hkl
                have hd : decide ((n' : Int) < 0) = false := by rw [decide_eq_false_iff_not]; omega
                clear hm hk hkl hr ha
                go_wp2_with fail
                refine (ref14_AtAt dA dn dc D.D.certs _ _ r a n' _ (HD.out.up (bel_trans hbw hbXk)) HK.out).mono ?_
                rintro e w5 ⟨rfl, hb5⟩
                have hb5k : Below wk.heap.size wk w5 := bel_trans hbXk hb5
                have hX5 := HX.out.up hb5
                clear b_0 b_1 b_2 b_3 b_4 b_5
                obtain ⟨b_0, b_1, b_2, b_3, b_4, b_5⟩ := HCB.out w5 (by (repeat (first | (with_reducible exact Below.refl _ _) | (with_reducible assumption) | (with_reducible apply bel_alloc) | (with_reducible apply bel_drew) | (with_reducible apply bel_drewN) | (with_reducible refine bel_trans ?_ (by with_reducible assumption)) | (with_reducible refine bel_trans ?_ (HF.out _)) | ((with_reducible refine bel_set3 ?_ ?_); rotate_left; omega))))
                obtain ⟨b', off', rfl, hb', hc'⟩ := (HD.out.up hbw).2.2 (by omega)
                obtain ⟨p, hat, hcr⟩ := hc' n' hkn
                obtain ⟨c0, c1, c2, c3, c4, c5⟩ := hat.up hb5k hb'
                have z_0 := (hX5.box).2 0 _ rfl; have z_1 := (hX5.box).2 1 _ rfl; have z_2 := (hX5.box).2 2 _ rfl; have z_3 := (hX5.box).2 3 _ rfl; have z_4 := (hX5.box).2 4 _ rfl; have z_5 := (hX5.box).2 5 _ rfl
                have hf5 := hX5.frozen
                have hl5 := hX5.lt
                obtain ⟨⟨⟨uA, un, uc⟩, ⟨vA, vn, vc⟩⟩, ⟨rA, rn, rc⟩⟩ := p
                have HCR := Lib.hid hcr
                dsimp only at c0 c1 c2 c3 c4 c5
                have hX6 := ((((((hX5.set_ 0 (.int .i64 (cth D.D.certs n').h.au)).set_ 1 (.int .i64 (cth D.D.certs n').h.ro)).set_ 2 (.slice uA un uc)).set_ 3 (.slice vA vn vc)).set_ 4 (.int .i64 (cth D.D.certs n').di)).set_ 5 (.slice rA rn rc))
                clear hc' hat hcr
                go_wp2_with fail
                have hb6k : Below wk.heap.size wk ((((((w5.setCell ⟨wf.heap.size, 0, none⟩ (.int .i64 (cth D.D.certs n').h.au)).setCell ⟨wf.heap.size, 1, none⟩ (.int .i64 (cth D.D.certs n').h.ro)).setCell ⟨wf.heap.size, 2, none⟩ (.slice uA un uc)).setCell ⟨wf.heap.size, 3, none⟩ (.slice vA vn vc)).setCell ⟨wf.heap.size, 4, none⟩ (.int .i64 (cth D.D.certs n').di)).setCell ⟨wf.heap.size, 5, none⟩ (.slice rA rn rc)) := by (repeat (first | (with_reducible exact Below.refl _ _) | (with_reducible assumption) | (with_reducible apply bel_alloc) | (with_reducible apply bel_drew) | (with_reducible apply bel_drewN) | (with_reducible refine bel_trans ?_ (by with_reducible assumption)) | (with_reducible refine bel_trans ?_ (HF.out _)) | ((with_reducible refine bel_set3 ?_ ?_); rotate_left; omega)))
                generalize ((((((w5.setCell ⟨wf.heap.size, 0, none⟩ (.int .i64 (cth D.D.certs n').h.au)).setCell ⟨wf.heap.size, 1, none⟩ (.int .i64 (cth D.D.certs n').h.ro)).setCell ⟨wf.heap.size, 2, none⟩ (.slice uA un uc)).setCell ⟨wf.heap.size, 3, none⟩ (.slice vA vn vc)).setCell ⟨wf.heap.size, 4, none⟩ (.int .i64 (cth D.D.certs n').di)).setCell ⟨wf.heap.size, 5, none⟩ (.slice rA rn rc)) = wd at *
                have HX6 := Lib.hid hX6
                have HC6 : Hid (CertR wd (⟨⟨⟨uA, un, uc⟩, ⟨vA, vn, vc⟩⟩, ⟨rA, rn, rc⟩⟩ : CertP) (cth D.D.certs n')) := Lib.hid (HCR.out.up hb6k)
                clear hX6 c0 c1 c2 c3 c4 c5 z_0 z_1 z_2 z_3 z_4 z_5 hf5 hl5
                clear b_0 b_1 b_2 b_3 b_4 b_5
                obtain ⟨b_0, b_1, b_2, b_3, b_4, b_5⟩ := HCB.out wd (by (repeat (first | (with_reducible exact Below.refl _ _) | (with_reducible assumption) | (with_reducible apply bel_alloc) | (with_reducible apply bel_drew) | (with_reducible apply bel_drewN) | (with_reducible refine bel_trans ?_ (by with_reducible assumption)) | (with_reducible refine bel_trans ?_ (HF.out _)) | ((with_reducible refine bel_set3 ?_ ?_); rotate_left; omega))))
                have hg6 : w.heap.size < wd.heap.size := Nat.lt_of_lt_of_le hgHB hb6k.size
                refine (dag_At _ dn dc D.D x y 0 (cth D.D.certs n') _ (HD.out.up (bel_trans hbw hb6k)) HZ.out HPC.out).mono ?_
                rintro e w7 ⟨q, rfl, ho, hb7⟩
                have hb7k : Below wk.heap.size wk w7 := bel_trans hb6k hb7
                have HO := Lib.hid ho
                have hX6 := HX6.out.up hb7
                have hx6l := hX6.lt
                have HCQ := Lib.hid (ho.cert HSC.out.short).1
                have HC6' := Lib.hid (HC6.out.up hb7)
                have hg7 : w.heap.size < w7.heap.size := Nat.lt_of_lt_of_le hg6 hb7.size
                obtain ⟨⟨⟨uA', un', uc'⟩, ⟨vA', vn', vc'⟩⟩, ⟨rA', rn', rc'⟩⟩ := q
                clear ho
                clear b_0 b_1 b_2 b_3 b_4 b_5
                obtain ⟨b_0, b_1, b_2, b_3, b_4, b_5⟩ := HCB.out w7 (by (repeat (first | (with_reducible exact Below.refl _ _) | (with_reducible assumption) | (with_reducible apply bel_alloc) | (with_reducible apply bel_drew) | (with_reducible apply bel_drewN) | (with_reducible refine bel_trans ?_ (by with_reducible assumption)) | (with_reducible refine bel_trans ?_ (HF.out _)) | ((with_reducible refine bel_set3 ?_ ?_); rotate_left; omega))))
                have z_0 := (hX6.box).2 0 _ rfl; have z_1 := (hX6.box).2 1 _ rfl; have z_2 := (hX6.box).2 2 _ rfl; have z_3 := (hX6.box).2 3 _ rfl; have z_4 := (hX6.box).2 4 _ rfl; have z_5 := (hX6.box).2 5 _ rfl
                clear hX6
                go_wp2_with (go_at_call 44; refine (law14_num _ _).mono ?_; rintro e w' ⟨rfl, rfl⟩)
                have hX7 : Blk (w7.alloc (.cells #[.int .i64 (cth D.D.certs n').h.au, .int .i64 (cth D.D.certs n').h.ro, .slice uA' un' uc', .slice vA' vn' vc', .int .i64 (cth D.D.certs n').di, .slice rA' rn' rc'] 48)) w7.heap.size 48 [.int .i64 (cth D.D.certs n').h.au, .int .i64 (cth D.D.certs n').h.ro, .slice uA' un' uc', .slice vA' vn' vc', .int .i64 (cth D.D.certs n').di, .slice rA' rn' rc'] := Blk.new w7 48 [.int .i64 (cth D.D.certs n').h.au, .int .i64 (cth D.D.certs n').h.ro, .slice uA' un' uc', .slice vA' vn' vc', .int .i64 (cth D.D.certs n').di, .slice rA' rn' rc']
                have hb7X : Below w7.heap.size w7 (w7.alloc (.cells #[.int .i64 (cth D.D.certs n').h.au, .int .i64 (cth D.D.certs n').h.ro, .slice uA' un' uc', .slice vA' vn' vc', .int .i64 (cth D.D.certs n').di, .slice rA' rn' rc'] 48)) := by (repeat (first | (with_reducible exact Below.refl _ _) | (with_reducible assumption) | (with_reducible apply bel_alloc) | (with_reducible apply bel_drew) | (with_reducible apply bel_drewN) | (with_reducible refine bel_trans ?_ (by with_reducible assumption)) | (with_reducible refine bel_trans ?_ (HF.out _)) | (with_reducible refine bel_set ?_ (by simp) _) | (with_reducible refine bel_set ?_ (by simp; omega) _) | (with_reducible refine bel_set ?_ (by omega) _)))
                generalize (w7.alloc (.cells #[.int .i64 (cth D.D.certs n').h.au, .int .i64 (cth D.D.certs n').h.ro, .slice uA' un' uc', .slice vA' vn' vc', .int .i64 (cth D.D.certs n').di, .slice rA' rn' rc'] 48)) = X7 at *
                refine (ref0_EqCert' (cth D.D.certs n') _ _ _ _ _ _ _ _ _ _ _ _ _ _ _ _ _ _ _ (HCQ.out.up hb7X) (HC6'.out.up hb7X)).mono ?_
                rintro e w8 ⟨rfl, hb8⟩
                have hb78 : Below w7.heap.size w7 w8 := bel_trans hb7X hb8
                have hb8k := bel_trans hb7k hb78
                have hX8 := hX7.up hb8
                have HX8 := Lib.hid hX8
                have hx8l := hX8.lt
                have hg8 : w.heap.size < w8.heap.size := Nat.lt_of_lt_of_le hgHB hb8k.size
                clear b_0 b_1 b_2 b_3 b_4 b_5
                obtain ⟨b_0, b_1, b_2, b_3, b_4, b_5⟩ := HCB.out w8 (by (repeat (first | (with_reducible exact Below.refl _ _) | (with_reducible assumption) | (with_reducible apply bel_alloc) | (with_reducible apply bel_drew) | (with_reducible apply bel_drewN) | (with_reducible refine bel_trans ?_ (by with_reducible assumption)) | (with_reducible refine bel_trans ?_ (HF.out _)) | ((with_reducible refine bel_set3 ?_ ?_); rotate_left; omega))))
                clear z_0 z_1 z_2 z_3 z_4 z_5 hX7 hX8
                go_wp2_with fail
                refine (ref0_CopyDagO _ dn dc D.D _ (HD.out.up (bel_trans hbw hb8k)) HLD.out).mono ?_
                rintro e w9 ⟨A9, c9, ps9, rfl, hD9, hb9⟩
                have HD9 := Lib.hid hD9
                have hX9 := HX8.out.up hb9
                have hx9l := hX9.lt
                clear b_0 b_1 b_2 b_3 b_4 b_5
                obtain ⟨b_0, b_1, b_2, b_3, b_4, b_5⟩ := HCB.out w9 (by (repeat (first | (with_reducible exact Below.refl _ _) | (with_reducible assumption) | (with_reducible apply bel_alloc) | (with_reducible apply bel_drew) | (with_reducible apply bel_drewN) | (with_reducible refine bel_trans ?_ (by with_reducible assumption)) | (with_reducible refine bel_trans ?_ (HF.out _)) | ((with_reducible refine bel_set3 ?_ ?_); rotate_left; omega))))
                have y_0 := (hX9.box).2 0 _ rfl; have y_1 := (hX9.box).2 1 _ rfl; have y_2 := (hX9.box).2 2 _ rfl; have y_3 := (hX9.box).2 3 _ rfl; have y_4 := (hX9.box).2 4 _ rfl; have y_5 := (hX9.box).2 5 _ rfl
                clear hX9 hD9
                go_wp2_with fail
                have hb8X : Below w8.heap.size w8 (w9.alloc (.cells #[.int .i64 D.D.nodes, .int .i64 D.D.low, .slice A9 dn c9] 24)) := bel_trans hb9 (bel_alloc (Below.refl _ _))
                have hbox : BoxR (w9.alloc (.cells #[.int .i64 D.D.nodes, .int .i64 D.D.low, .slice A9 dn c9] 24)) w9.heap.size [.int .i64 D.D.nodes, .int .i64 D.D.low, .slice A9 dn c9] := BoxR.new w9 [.int .i64 D.D.nodes, .int .i64 D.D.low, .slice A9 dn c9] 24
                have hOX : OwnC (w9.alloc (.cells #[.int .i64 D.D.nodes, .int .i64 D.D.low, .slice A9 dn c9] 24)) w8.heap.size (.slice A9 dn c9) ps9 D.D.certs := HD9.out.up (bel_alloc (Below.refl _ _))
                generalize (w9.alloc (.cells #[.int .i64 D.D.nodes, .int .i64 D.D.low, .slice A9 dn c9] 24)) = X at *
                have hbX : Below wk.heap.size wk X := bel_trans hb8k hb8X
                have hci : CertI X wd.heap.size w8.heap.size (⟨⟨⟨uA', un', uc'⟩, ⟨vA', vn', vc'⟩⟩, ⟨rA', rn', rc'⟩⟩ : CertP) := ((HO.out.up hb78).row (B2 := w8.heap.size) (Nat.le_refl _) (Nat.le_trans HSC.out.1 (by omega)) (Nat.le_trans HSC.out.2.1 (by omega)) (Nat.le_trans HSC.out.2.2 (by omega))).keep (KeepT.of_below hb8X)
                have hWX : wd.heap.size ≤ X.heap.size := Nat.le_trans hb7.size (Nat.le_trans hb78.size hb8X.size)
                refine (law0_CertK _ _ _ (⟨⟨⟨uA', un', uc'⟩, ⟨vA', vn', vc'⟩⟩, ⟨rA', rn', rc'⟩⟩ : CertP) wd.heap.size w8.heap.size _ hci hWX).mono ?_
                rintro e w10 ⟨rfl, hm10, -⟩
                have hb10k : Below wk.heap.size wk w10 := hbX.trans ((hm10.below hWX).mono hb6k.size)
                have hz10 := hbox.mid hm10 hb9.size
                have HO10 := Lib.hid (hOX.mid hm10)
                clear hbox hOX hci y_0 y_1 y_2 y_3 y_4 y_5
                clear b_0 b_1 b_2 b_3 b_4 b_5
                obtain ⟨b_0, b_1, b_2, b_3, b_4, b_5⟩ := HCB.out w10 (by (repeat (first | (with_reducible exact Below.refl _ _) | (with_reducible assumption) | (with_reducible apply bel_alloc) | (with_reducible apply bel_drew) | (with_reducible apply bel_drewN) | (with_reducible refine bel_trans ?_ (by with_reducible assumption)) | (with_reducible refine bel_trans ?_ (HF.out _)) | ((with_reducible refine bel_set3 ?_ ?_); rotate_left; omega))))
                have z_0 := (hz10).2 0 _ rfl; have z_1 := (hz10).2 1 _ rfl; have z_2 := (hz10).2 2 _ rfl
                clear hz10
                go_wp2_with fail
                refine (ref0_EqDag A9 dn c9 _ dc D.D _ (HO10.out.cs (Nat.le_trans HLD.out.1 (by omega))) (HD.out.up (bel_trans hbw hb10k))).mono ?_
                rintro e w11 ⟨rfl, hb11⟩
                go_wp2_with fail
                (first | (go_round; (case rel => exact ⟨j + 1, by omega, by go_num, HB.out.up (bel_trans hb10k hb11), bel_trans hbw (bel_trans hb10k hb11)⟩); (case measure => (simp [intOf] <;> omega))) | (go_roundw; (case rel => exact ⟨j + 1, by omega, by go_num, HB.out.up (bel_trans hb10k hb11), bel_trans hbw (bel_trans hb10k hb11)⟩); (case measure => (simp [intOf] <;> omega))) | (refine ⟨?_, by simp [intOf] <;> omega⟩; (repeat apply Exists.intro); refine ⟨?rel, ?fr⟩; (case fr => ((repeat' apply And.intro) <;> rfl)); (case rel => exact ⟨j + 1, by omega, by go_num, HB.out.up (bel_trans hb10k hb11), bel_trans hbw (bel_trans hb10k hb11)⟩)))
        · have b_0 := (HB.out).2 0 _ rfl; have b_1 := (HB.out).2 1 _ rfl; have b_2 := (HB.out).2 2 _ rfl; have b_3 := (HB.out).2 3 _ rfl; have b_4 := (HB.out).2 4 _ rfl; have b_5 := (HB.out).2 5 _ rfl
          go_wp2_with fail
          refine (law14_wakes _).mono ?_
          rintro e w9 ⟨rfl, hb9⟩
          go_wp2_with fail
          go_ret
          exact ⟨rfl, bel_trans hbw hb9⟩
end Go.Proofs.Ytfkbilbgndekkaa
