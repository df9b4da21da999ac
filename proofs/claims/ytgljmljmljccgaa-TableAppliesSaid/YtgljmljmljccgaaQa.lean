/- The law TableApplies. -/
import Derived.Test.YtgljmljmljccgaaNz
import Derived.Deep.CutBlock
import Derived.Deep.RegionHeld3
namespace Go.Proofs.Ytgljmljmljccgaa
open Go.RowKit
set_option linter.unusedSimpArgs false
set_option linter.unusedVariables false

/-- A table in a box becomes another one. -/
theorem TabR.put {w w1 : World} {C bt : Nat} {vp va vp2 va2 : Value} {l l2 : List PairD} {q q2 : List AcctD} (h : TabR w C bt vp va l q) (hb : Below w.heap.size w w1) (hp : OwnP w1 w.heap.size vp2 l2) (ha : OwnA w1 w.heap.size va2 q2) (hd : Disj vp2 va2) :
    TabR ((w1.setCell ⟨bt, 0, none⟩ vp2).setCell ⟨bt, 1, none⟩ va2) C bt vp2 va2 l2 q2 := by
  have hbt := h.blk.lt
  have hn : vp2.ownBlock ≠ some bt := fun e => by have := (own_lt hp bt e).1; omega
  have hn2 : va2.ownBlock ≠ some bt := fun e => by have := (own_lt ha bt e).1; omega
  have hC : C ≤ w.heap.size := Nat.le_trans h.cb (Nat.le_of_lt hbt)
  exact { blk := ((h.blk.up hb).set_ 0 vp2).set_ 1 va2, p := own_setD (own_setD (hp.mono hC) hn vp2) hn va2, a := own_setD (own_setD (ha.mono hC) hn2 vp2) hn2 va2, d := hd, np := hn, na := hn2, cb := h.cb }
theorem pnamed {w : World} {B : Nat} {v : Value} {l : List PairD} (h : OwnP w B v l) (hl : l.length ≤ 9223372036854775807) : ∃ A n c, v = .slice A n c ∧ l.length = n := by
  obtain ⟨A, c, e, _⟩ := h.pairs hl
  exact ⟨A, _, c, e, rfl⟩
theorem anamed {w : World} {B : Nat} {v : Value} {l : List AcctD} (h : OwnA w B v l) (hl : l.length ≤ 9223372036854775807) : ∃ A n c, v = .slice A n c ∧ l.length = n := by
  obtain ⟨A, c, e, _⟩ := h.accts hl
  exact ⟨A, _, c, e, rfl⟩
theorem tab_put {w w1 : World} {C g : Nat} {a b vp2 va2 : Value} {l2 : List PairD} {q2 : List AcctD} (hk : Blk w g 25 [a, b]) (hb : Below w.heap.size w w1) (hp : OwnP w1 w.heap.size vp2 l2) (ha : OwnA w1 w.heap.size va2 q2) (hd : Disj vp2 va2) (hC : C ≤ g) :
    TabR ((w1.setCell ⟨g, 0, none⟩ vp2).setCell ⟨g, 1, none⟩ va2) C g vp2 va2 l2 q2 := by
  have hbt := hk.lt
  have hn : vp2.ownBlock ≠ some g := fun e => by have := (own_lt hp g e).1; omega
  have hn2 : va2.ownBlock ≠ some g := fun e => by have := (own_lt ha g e).1; omega
  exact { blk := ((hk.up hb).set_ 0 vp2).set_ 1 va2, p := own_setD (own_setD (hp.mono (by omega)) hn vp2) hn va2, a := own_setD (own_setD (ha.mono (by omega)) hn2 vp2) hn2 va2, d := hd, np := hn, na := hn2, cb := hC }
theorem tab_new {w1 : World} {C B : Nat} {vp va : Value} {l : List PairD} {q : List AcctD} (hp : OwnP w1 B vp l) (ha : OwnA w1 B va q) (hd : Disj vp va) (hB : C ≤ B) (hC : C ≤ w1.heap.size) : TabR (w1.alloc (.cells #[vp, va] 25)) C w1.heap.size vp va l q :=
  { blk := Blk.new w1 25 [vp, va], p := OwnP.mono (hp.up (bel_alloc (Below.refl _ _))) hB, a := OwnA.mono (ha.up (bel_alloc (Below.refl _ _))) hB, d := hd, np := fun e => (by have := (own_lt hp _ e).2; omega), na := fun e => (by have := (own_lt ha _ e).2; omega), cb := hC }
theorem TabX.rows {tb : TypeId} {rs : List Value} {w : World} {C g n c m d : Nat} {A B : Option Addr} {l : List PairD} {q : List AcctD} (h : TabX tb rs w C g (.slice A n c) (.slice B m d) l q) (hl : l.length ≤ 9223372036854775807) (hq : q.length ≤ 9223372036854775807) : l.length = n ∧ q.length = m ∧ PairsR w A n l ∧ AcctsR w B m q ∧ FarN A n w.heap.size ∧ FarN B m w.heap.size := by
  obtain ⟨A1, c1, e1, h1, _⟩ := h.p.pairs hl
  obtain ⟨A2, c2, e2, h2, _⟩ := h.a.accts hq
  injection e1 with p1 p2 p3
  injection e2 with q1 q2 q3
  subst p1; subst q1; subst p2; subst q2
  exact ⟨rfl, rfl, h1, h2, h1.farN (Nat.le_refl _), h2.farN (Nat.le_refl _)⟩
set_option maxRecDepth 100000 in
set_option maxHeartbeats 16000000 in
theorem law_TableApplies (P : AskP) (D : AskD) (w : World) (h : AskR w P D) :
    Calls Try.prog 6 #[P.val] w fun e w' => e = .returned (.bool true) ∧ Below w.heap.size w w' := by
  obtain ⟨⟨pA, pn, pc⟩, ⟨qA, qn, qc⟩, ⟨xA, xn, xc⟩, ⟨bA, bn, bc⟩, ⟨kA, kn, kc⟩⟩ := P
  have H := Lib.hid h
  have HP : Hid (PairsR w pA pn D.p) := Lib.hid h.p
  have HQ : Hid (AcctsR w qA qn D.q) := Lib.hid h.q
  have HX : Hid (TxsR w xA xn D.x) := Lib.hid h.x
  clear h
  show Calls Try.prog 6 #[.agg #[.slice pA pn pc, .slice qA qn qc, .slice xA xn xc, .slice bA bn bc, .slice kA kn kc]] w _
  go_enter Try.func6, Try.ntmps6
  go_wp2_with fail
  refine (law22_heavy ⟨⟨pA, pn, pc⟩, ⟨qA, qn, qc⟩, ⟨xA, xn, xc⟩, ⟨bA, bn, bc⟩, ⟨kA, kn, kc⟩⟩ D _ (H.out.up (by (repeat (first | (with_reducible exact Below.refl _ _) | (with_reducible assumption) | (with_reducible apply bel_alloc) | (with_reducible apply bel_drew) | (with_reducible apply bel_drewN) | (with_reducible refine bel_trans ?_ (by with_reducible assumption)) | (with_reducible refine bel_trans ?_ (HF.out _)) | (with_reducible refine bel_set ?_ (by simp) _) | (with_reducible refine bel_set ?_ (by simp; omega) _) | (with_reducible refine bel_set ?_ (by omega) _)))))).mono ?_
  rintro e w1 ⟨x, rfl, hx, hb1⟩
  cases x
  case true =>
    clear hx
    go_wp2_with fail
    go_ret
    exact ⟨rfl, by (repeat (first | (with_reducible exact Below.refl _ _) | (with_reducible assumption) | (with_reducible apply bel_alloc) | (with_reducible apply bel_drew) | (with_reducible apply bel_drewN) | (with_reducible refine bel_trans ?_ (by with_reducible assumption)) | (with_reducible refine bel_trans ?_ (HF.out _)) | (with_reducible refine bel_set ?_ (by simp) _) | (with_reducible refine bel_set ?_ (by simp; omega) _) | (with_reducible refine bel_set ?_ (by omega) _)))⟩
  case false =>
    have hLt := hx rfl
    have hp6 : pn ≤ 6000 := hLt.p
    have hq6 : qn ≤ 6000 := hLt.q
    clear hx hLt H
    have hB1 : BoxR w1 w.heap.size [.slice pA pn pc, .slice qA qn qc, .slice xA xn xc, .slice bA bn bc, .slice kA kn kc] := (BoxR.new w [.slice pA pn pc, .slice qA qn qc, .slice xA xn xc, .slice bA bn bc, .slice kA kn kc] 30).up hb1
    have hbw1 : Below w.heap.size w w1 := by (repeat (first | (with_reducible exact Below.refl _ _) | (with_reducible assumption) | (with_reducible apply bel_alloc) | (with_reducible apply bel_drew) | (with_reducible apply bel_drewN) | (with_reducible refine bel_trans ?_ (by with_reducible assumption)) | (with_reducible refine bel_trans ?_ (HF.out _)) | (with_reducible refine bel_set ?_ (by simp) _) | (with_reducible refine bel_set ?_ (by simp; omega) _) | (with_reducible refine bel_set ?_ (by omega) _)))
    clear hb1
    have b_0 := (hB1).2 0 _ rfl; have b_1 := (hB1).2 1 _ rfl; have b_2 := (hB1).2 2 _ rfl; have b_3 := (hB1).2 3 _ rfl; have b_4 := (hB1).2 4 _ rfl
    go_wp2_with fail
    refine (ref0_CopyTable pA pn pc D.p qA qn qc D.q _ (HP.out.up hbw1) (HQ.out.up hbw1) (by omega) (by omega)).mono ?_
    rintro e w2 ⟨vp2, va2, rfl, hp2, ha2, hd2, hb2⟩
    have hpl : D.p.length ≤ 6000 := by rw [HP.out.1]; exact hp6
    have hql : D.q.length ≤ 6000 := by rw [HQ.out.1]; exact hq6
    obtain ⟨A2, n2, c2, rfl, hn2⟩ := pnamed hp2 (by omega)
    obtain ⟨B2, m2, d2, rfl, hm2⟩ := anamed ha2 (by omega)
    obtain ⟨C, hC⟩ : ∃ C, C = w1.heap.size := ⟨_, rfl⟩
    have hCw : w.heap.size < C := by rw [hC]; exact hB1.1
    obtain ⟨g3, hg3⟩ : ∃ g, g = w2.heap.size := ⟨_, rfl⟩
    have hT2 : TabR (w2.alloc (.cells #[.slice A2 n2 c2, .slice B2 m2 d2] 25)) C g3 (.slice A2 n2 c2) (.slice B2 m2 d2) D.p D.q := by rw [hC, hg3]; exact tab_new hp2 ha2 hd2 (Nat.le_refl _) hb2.size
    have hB2 : BoxR (w2.alloc (.cells #[.slice A2 n2 c2, .slice B2 m2 d2] 25)) w.heap.size [.slice pA pn pc, .slice qA qn qc, .slice xA xn xc, .slice bA bn bc, .slice kA kn kc] := (hB1.up hb2).up (by (repeat (first | (with_reducible exact Below.refl _ _) | (with_reducible assumption) | (with_reducible apply bel_alloc) | (with_reducible apply bel_drew) | (with_reducible apply bel_drewN) | (with_reducible refine bel_trans ?_ (by with_reducible assumption)) | (with_reducible refine bel_trans ?_ (HF.out _)) | (with_reducible refine bel_set ?_ (by simp) _) | (with_reducible refine bel_set ?_ (by simp; omega) _) | (with_reducible refine bel_set ?_ (by omega) _))))
    have hbw2 : Below w.heap.size w (w2.alloc (.cells #[.slice A2 n2 c2, .slice B2 m2 d2] 25)) := bel_trans hbw1 (by (repeat (first | (with_reducible exact Below.refl _ _) | (with_reducible assumption) | (with_reducible apply bel_alloc) | (with_reducible apply bel_drew) | (with_reducible apply bel_drewN) | (with_reducible refine bel_trans ?_ (by with_reducible assumption)) | (with_reducible refine bel_trans ?_ (HF.out _)) | (with_reducible refine bel_set ?_ (by simp) _) | (with_reducible refine bel_set ?_ (by simp; omega) _) | (with_reducible refine bel_set ?_ (by omega) _))))
    have hCv : C ≤ (w2.alloc (.cells #[.slice A2 n2 c2, .slice B2 m2 d2] 25)).heap.size := by rw [hC]; have := hb2.size; simp; omega
    go_upto_region 4 with fail
    rw [← hg3]
    generalize (w2.alloc (.cells #[.slice A2 n2 c2, .slice B2 m2 d2] 25)) = X at *
    clear hp2 ha2 hd2 hb2 hbw1 hB1 hg3 hC hn2 hm2 b_0 b_1 b_2 b_3 b_4
    obtain ⟨hln, hqm, hPR, hAR, -, -⟩ := hT2.rows (by omega) (by omega)
    obtain ⟨y0, hy0⟩ : ∃ y : Int, (if mayT D.p D.q = true then 0 else 1) = y := ⟨_, rfl⟩
    have hy01 : y0 = 0 ∨ y0 = 1 := by rw [← hy0]; split <;> simp
    have HY0 := Lib.hid hy0
    have HY01 := Lib.hid hy01
    have HPR := Lib.hid hPR
    have HAR := Lib.hid hAR
    have HT2 := Lib.hid hT2
    have HB2 := Lib.hid hB2
    have hyy : (y0 != y0) = false := by simp
    have hgX := hT2.blk.lt
    have hgb := hT2.cb
    have t_0 := (hT2.blk.box).2 0 _ rfl; have t_1 := (hT2.blk.box).2 1 _ rfl
    clear hy0 hy01 hPR hAR hT2 hB2
    go_wp2_with fail
    refine (law22_check A2 n2 c2 D.p B2 m2 d2 D.q y0 _ HPR.out HAR.out HY0.out).mono ?_
    rintro e w3 ⟨rfl, hb3⟩
    have hbw3 := bel_trans hbw2 hb3
    have HT3 := Lib.hid (HT2.out.up hb3)
    have HB3 := Lib.hid (HB2.out.up hb3)
    have h3l := HT3.out.blk.lt
    clear t_0 t_1
    have t_0 := (HT3.out.blk.box).2 0 _ rfl; have t_1 := (HT3.out.blk.box).2 1 _ rfl
    go_wp2_with fail
    refine (table_Check A2 n2 c2 D.p B2 m2 d2 D.q y0 _ (HPR.out.up hb3) (HAR.out.up hb3) HY0.out).mono ?_
    rintro e w4 ⟨rfl, hb4⟩
    have hbw4 := bel_trans hbw3 hb4
    have HT4 := Lib.hid (HT3.out.up hb4)
    have HB4 := Lib.hid (HB3.out.up hb4)
    have hC4 : C ≤ w4.heap.size := Nat.le_trans (Nat.le_trans hCv hb3.size) hb4.size
    clear t_0 t_1 HPR HAR
    go_wp2_with (go_at_call 18; refine (law22_num _ _).mono ?_; rintro e w' ⟨rfl, rfl⟩)
    go_loopw [5] (fun si wr => ∃ (k : Nat) (l : List PairD) (q : List AcctD) (A : Option Addr) (n c : Nat) (B : Option Addr) (m d : Nat), k ≤ xn ∧ k ≤ 30 ∧ si = .int .i64 k ∧ Hid (TabR wr C g3 (.slice A n c) (.slice B m d) l q) ∧ Hid ((if mayT l q = true then (0 : Int) else 1) = y0 ∧ l.length ≤ 6000 ∧ q.length ≤ 6000) ∧ Hid (BoxR wr w.heap.size [.slice pA pn pc, .slice qA qn qc, .slice xA xn xc, .slice bA bn bc, .slice kA kn kc]) ∧ C ≤ wr.heap.size ∧ Below w.heap.size w wr) (fun si _ => xn - (intOf si).toNat)
    case atStart => exact ⟨0, D.p, D.q, _, _, _, _, _, _, Nat.zero_le _, Nat.zero_le _, rfl, HT4, Lib.hid ⟨HY0.out, hpl, hql⟩, HB4, hC4, hbw4⟩
    case round =>
      clear HT2 HB2 HT3 HB3 HT4 HB4 hbw2 hbw3 hbw4 hb3 hb4 hC4 hCv hgX hgb h3l
      obtain ⟨k, l, q, A, n, c, B, m, d, hk, hk3, rfl, HT, HY, HB, hCk, hbw⟩ := hrel
      (obtain ⟨wk, hwk⟩ : ∃ x, x = wr := ⟨_, rfl⟩); subst hwk
      have hgB := HB.out.1
      have hgT := HT.out.blk.lt
      have hgC := HT.out.cb
      by_cases hlt : k < xn ∧ k < 30
      · obtain ⟨xb, xoff, rfl, hxb, hxc⟩ := (HX.out.up hbw).at (by omega)
        obtain ⟨x0, x1, x2, x3⟩ := hxc k hlt.1
        obtain ⟨x, hx⟩ : ∃ x, xth D.x k = x := ⟨_, rfl⟩
        rw [hx] at x0 x1 x2 x3
        obtain ⟨hlt1, hlt2⟩ := hlt
        have hd30 : decide ((k : Int) < 30) = true := by simp; omega
        have hdxn : decide ((k : Int) < (xn : Int)) = true := by simp; omega
        obtain ⟨hln, hqm, hPR, hAR, hfA, hfB⟩ := HT.out.rows (by have := HY.out.2.1; omega) (by have := HY.out.2.2; omega)
        have hn6 : n ≤ 6000 := by have := HY.out.2.1; omega
        have hm6 : m ≤ 6000 := by have := HY.out.2.2; omega
        have HPR := Lib.hid (And.intro hPR hAR)
        have HFA := Lib.hid (And.intro hfA hfB)
        have HXC : Hid (xb < wk.heap.size ∧ wk.cell? ⟨xb, xoff + k * 4, none⟩ = some (.int .i64 x.se) ∧ wk.cell? ⟨xb, xoff + k * 4 + 1, none⟩ = some (.int .i64 x.sq) ∧ wk.cell? ⟨xb, xoff + k * 4 + 2, none⟩ = some (.string x.k) ∧ wk.cell? ⟨xb, xoff + k * 4 + 3, none⟩ = some (.string x.v)) := Lib.hid ⟨hxb, x0, x1, x2, x3⟩
        have HCL : Hid (∀ Y, Below wk.heap.size wk Y → (Y.cell? ⟨w.heap.size, 0, none⟩ = some (.slice pA pn pc) ∧ Y.cell? ⟨w.heap.size, 1, none⟩ = some (.slice qA qn qc) ∧ Y.cell? ⟨w.heap.size, 2, none⟩ = some (.slice (some ⟨xb, xoff, none⟩) xn xc) ∧ Y.cell? ⟨w.heap.size, 3, none⟩ = some (.slice bA bn bc) ∧ Y.cell? ⟨w.heap.size, 4, none⟩ = some (.slice kA kn kc)) ∧ (Y.cell? ⟨xb, xoff + k * 4, none⟩ = some (.int .i64 x.se) ∧ Y.cell? ⟨xb, xoff + k * 4 + 1, none⟩ = some (.int .i64 x.sq) ∧ Y.cell? ⟨xb, xoff + k * 4 + 2, none⟩ = some (.string x.k) ∧ Y.cell? ⟨xb, xoff + k * 4 + 3, none⟩ = some (.string x.v)) ∧ (Y.cell? ⟨g3, 0, none⟩ = some (.slice A n c) ∧ Y.cell? ⟨g3, 1, none⟩ = some (.slice B m d))) := Lib.hid (fun Y hY =>
          ⟨⟨(HB.out.up hY).2 0 _ rfl, (HB.out.up hY).2 1 _ rfl, (HB.out.up hY).2 2 _ rfl, (HB.out.up hY).2 3 _ rfl, (HB.out.up hY).2 4 _ rfl⟩,
              ⟨(hY.cell (p := ⟨xb, xoff + k * 4, none⟩) HXC.out.1).trans HXC.out.2.1, (hY.cell (p := ⟨xb, xoff + k * 4 + 1, none⟩) HXC.out.1).trans HXC.out.2.2.1, (hY.cell (p := ⟨xb, xoff + k * 4 + 2, none⟩) HXC.out.1).trans HXC.out.2.2.2.1, (hY.cell (p := ⟨xb, xoff + k * 4 + 3, none⟩) HXC.out.1).trans HXC.out.2.2.2.2⟩,
              ⟨(HT.out.blk.up hY).box.2 0 _ rfl, (HT.out.blk.up hY).box.2 1 _ rfl⟩⟩)
        obtain ⟨LW, hLW⟩ : ∃ L, (if y0 = 0 then doP l q x else []) = L := ⟨_, rfl⟩
        obtain ⟨QW, hQW⟩ : ∃ L, (if y0 = 0 then doA l q x else []) = L := ⟨_, rfl⟩
        obtain ⟨yy, hyv⟩ : ∃ y, (if y0 = 0 then okT l q x else false) = y := ⟨_, rfl⟩
        have HW : Hid ((if y0 = 0 then doP l q x else []) = LW ∧ (if y0 = 0 then doA l q x else []) = QW ∧ (if y0 = 0 then okT l q x else false) = yy) := Lib.hid ⟨hLW, hQW, hyv⟩
        have HWL : Hid (LW.length ≤ 4096 ∧ QW.length ≤ 4096) := Lib.hid (by
          rcases HY01.out with h | h
          · have hM : MayT l q := mayT_iff.1 (by have h1 := HY.out.1; rw [h] at h1; by_cases h2 : mayT l q = true; exact h2; rw [if_neg h2] at h1; cases h1)
            rw [← hLW, ← hQW, if_pos h, if_pos h]
            exact ⟨hM.do_.1.1, hM.do_.2.1⟩
          · rw [← hLW, ← hQW, if_neg (by omega), if_neg (by omega)]; exact ⟨by simp, by simp⟩)
        have hyv2 : (yy != yy) = false := by simp
        clear hxc hxb x0 x1 x2 x3 hx hPR hAR hfA hfB hln hqm hLW hQW hyv
        obtain ⟨⟨b_0, b_1, b_2, b_3, b_4⟩, ⟨x_0, x_1, x_2, x_3⟩, ⟨e_0, e_1⟩⟩ := HCL.out wk (Below.refl _ _)
        go_upto_if 37 with fail
        have hX6 : Blk (wk.alloc (.cells #[.slice none 0 0, .slice none 0 0] 25)) wk.heap.size 25 [.slice none 0 0, .slice none 0 0] := Blk.new wk 25 [.slice none 0 0, .slice none 0 0]
        have hbX : Below wk.heap.size wk (wk.alloc (.cells #[.slice none 0 0, .slice none 0 0] 25)) := by (repeat (first | (with_reducible exact Below.refl _ _) | (with_reducible assumption) | (with_reducible apply bel_alloc) | (with_reducible apply bel_drew) | (with_reducible apply bel_drewN) | (with_reducible refine bel_trans ?_ (by with_reducible assumption)) | (with_reducible refine bel_trans ?_ (HF.out _)) | (with_reducible refine bel_set ?_ (by simp) _) | (with_reducible refine bel_set ?_ (by simp; omega) _) | (with_reducible refine bel_set ?_ (by omega) _)))
        generalize (wk.alloc (.cells #[.slice none 0 0, .slice none 0 0] 25)) = X at *
        have hbwX : Below w.heap.size w X := bel_trans hbw hbX
        have HX6 := Lib.hid hX6
        have hxl := hX6.lt
        have hxf := hX6.frozen
        have y_0 := (hX6.box).2 0 _ rfl; have y_1 := (hX6.box).2 1 _ rfl
        clear hX6 b_0 b_1 b_2 b_3 b_4 x_0 x_1 x_2 x_3 e_0 e_1
        obtain ⟨⟨b_0, b_1, b_2, b_3, b_4⟩, ⟨x_0, x_1, x_2, x_3⟩, ⟨e_0, e_1⟩⟩ := HCL.out X (by (repeat (first | (with_reducible exact Below.refl _ _) | (with_reducible assumption) | (with_reducible apply bel_alloc) | (with_reducible apply bel_drew) | (with_reducible apply bel_drewN) | (with_reducible refine bel_trans ?_ (by with_reducible assumption)) | (with_reducible refine bel_trans ?_ (HF.out _)) | ((with_reducible refine bel_set3 ?_ ?_); rotate_left; omega))))
        go_cut [7] from 36 to 47 (fun s7 wx => s7 = .bool yy ∧ ∃ (A6 : Option Addr) (n6 c6 : Nat) (B6 : Option Addr) (m6 d6 : Nat), Blk wx wk.heap.size 25 [.slice A6 n6 c6, .slice B6 m6 d6] ∧ Hid (PairsR wx A6 n6 LW ∧ AcctsR wx B6 m6 QW) ∧ Below wk.heap.size wk wx)
        case first =>
          rcases HY01.out with h0 | h0
          · subst h0
            have HMT : Hid (MayT l q) := Lib.hid (mayT_iff.1 (by have h1 := HY.out.1; by_cases h2 : mayT l q = true; exact h2; rw [if_neg h2] at h1; cases h1))
            have HOK : Hid (okT l q x = yy) := Lib.hid (by have := HW.out.2.2; rw [if_pos rfl] at this; exact this)
            have HLW : Hid (doP l q x = LW ∧ doA l q x = QW) := Lib.hid (by have h1 := HW.out.1; have h2 := HW.out.2.1; rw [if_pos rfl] at h1 h2; exact ⟨h1, h2⟩)
            go_upto_region 12 with fail
            clear b_0 b_1 b_2 b_3 b_4 x_0 x_1 x_2 x_3 e_0 e_1 y_0 y_1
            go_region_held3 (fun Y => (Y.cell? ⟨w.heap.size, 0, none⟩ = some (.slice pA pn pc) ∧ Y.cell? ⟨w.heap.size, 1, none⟩ = some (.slice qA qn qc) ∧ Y.cell? ⟨w.heap.size, 2, none⟩ = some (.slice (some ⟨xb, xoff, none⟩) xn xc) ∧ Y.cell? ⟨w.heap.size, 3, none⟩ = some (.slice bA bn bc) ∧ Y.cell? ⟨w.heap.size, 4, none⟩ = some (.slice kA kn kc)) ∧ (Y.cell? ⟨xb, xoff + k * 4, none⟩ = some (.int .i64 x.se) ∧ Y.cell? ⟨xb, xoff + k * 4 + 1, none⟩ = some (.int .i64 x.sq) ∧ Y.cell? ⟨xb, xoff + k * 4 + 2, none⟩ = some (.string x.k) ∧ Y.cell? ⟨xb, xoff + k * 4 + 3, none⟩ = some (.string x.v)) ∧ (Y.cell? ⟨g3, 0, none⟩ = some (.slice A n c) ∧ Y.cell? ⟨g3, 1, none⟩ = some (.slice B m d)))
              (exact HCL.out _ (by (repeat (first | (with_reducible exact Below.refl _ _) | (with_reducible assumption) | (with_reducible apply bel_alloc) | (with_reducible apply bel_drew) | (with_reducible apply bel_drewN) | (with_reducible refine bel_trans ?_ (by with_reducible assumption)) | (with_reducible refine bel_trans ?_ (HF.out _)) | ((with_reducible refine bel_set3 ?_ ?_); rotate_left; omega)))))
              ((go_at_call 25; refine (ref22_Apply A n c l B m d q x yy _ (HPR.out.1.up (bel_trans hbX (by (repeat (first | (with_reducible exact Below.refl _ _) | (with_reducible assumption) | (with_reducible apply bel_alloc) | (with_reducible apply bel_drew) | (with_reducible apply bel_drewN) | (with_reducible refine bel_trans ?_ (by with_reducible assumption)) | (with_reducible refine bel_trans ?_ (HF.out _)) | (with_reducible refine bel_set ?_ (by simp) _) | (with_reducible refine bel_set ?_ (by simp; omega) _) | (with_reducible refine bel_set ?_ (by omega) _)))))) (HPR.out.2.up (bel_trans hbX (by (repeat (first | (with_reducible exact Below.refl _ _) | (with_reducible assumption) | (with_reducible apply bel_alloc) | (with_reducible apply bel_drew) | (with_reducible apply bel_drewN) | (with_reducible refine bel_trans ?_ (by with_reducible assumption)) | (with_reducible refine bel_trans ?_ (HF.out _)) | (with_reducible refine bel_set ?_ (by simp) _) | (with_reducible refine bel_set ?_ (by simp; omega) _) | (with_reducible refine bel_set ?_ (by omega) _)))))) HMT.out HOK.out).mono ?_; rintro e w7 ⟨A7, n7, c7, B7, m7, d7, rfl, hP7, hA7, hF7, hb7⟩; have HF7 := Lib.hid (hF7 wk.heap.size (by simp at hxl ⊢; omega) HFA.out.1 HFA.out.2); have HP7 := Lib.hid hP7; have HA7 := Lib.hid hA7; clear hF7 hP7 hA7; have hX7 := HX6.out.up (bel_trans (bel_drew (Below.refl _ _)) hb7); have hxl7 := hX7.lt; have hxf7 := hX7.frozen; have y_0 := (hX7.box).2 0 _ rfl; have y_1 := (hX7.box).2 1 _ rfl; have HX7 := Lib.hid hX7; clear hX7))
            all_goals
              go_wp2_with fail
              go_meet
              have h7 : Below wk.heap.size wk w7 := bel_trans hbX (bel_trans (bel_drew (Below.refl _ _)) hb7)
              refine ⟨rfl, A7, n7, c7, B7, m7, d7, (HX7.out.set_ 0 _).set_ 1 _, Lib.hid ⟨?_, ?_⟩, by (repeat (first | (with_reducible exact Below.refl _ _) | (with_reducible assumption) | (with_reducible apply bel_alloc) | (with_reducible apply bel_drew) | (with_reducible apply bel_drewN) | (with_reducible refine bel_trans ?_ (by with_reducible assumption)) | (with_reducible refine bel_trans ?_ (HF.out _)) | ((with_reducible refine bel_set3 ?_ ?_); rotate_left; omega)))⟩
              · rw [← HLW.out.1]; exact (HP7.out.set_far HF7.out.1 _).set_far HF7.out.1 _
              · rw [← HLW.out.2]; exact (HA7.out.set_far HF7.out.2 _).set_far HF7.out.2 _
          · subst h0
            obtain ⟨h1, h2, h3⟩ := HW.out
            rw [if_neg (by omega)] at h1 h2 h3
            have HWW := Lib.hid (And.intro h1 (And.intro h2 h3))
            clear h1 h2 h3
            go_wp2_with fail
            go_meet
            refine ⟨by rw [HWW.out.2.2], none, 0, 0, none, 0, 0, HX6.out, Lib.hid ⟨by rw [← HWW.out.1]; exact PairsR.nil0 _, by rw [← HWW.out.2.1]; exact AcctsR.nil0 _⟩, hbX⟩
        case rest =>
        obtain ⟨rfl, A6, n6, c6, B6, m6, d6, hG6, HR6, hbu⟩ := hcut
        obtain ⟨u, hu⟩ : ∃ x, x = wc := ⟨_, rfl⟩
        subst hu
        obtain ⟨g6, hg6⟩ : ∃ g, g = wk.heap.size := ⟨_, rfl⟩
        have hg36 : g3 < g6 := by omega
        have hbwu := bel_trans hbw hbu
        rw [← hg6] at hG6
        rw [← hg6]
        have HG6 := Lib.hid hG6
        have HBu := Lib.hid (HB.out.up hbu)
        have HTu := Lib.hid (HT.out.up hbu)
        have HXu : Hid (xb < u.heap.size ∧ u.cell? ⟨xb, xoff + k * 4, none⟩ = some (.int .i64 x.se) ∧ u.cell? ⟨xb, xoff + k * 4 + 1, none⟩ = some (.int .i64 x.sq) ∧ u.cell? ⟨xb, xoff + k * 4 + 2, none⟩ = some (.string x.k) ∧ u.cell? ⟨xb, xoff + k * 4 + 3, none⟩ = some (.string x.v)) := Lib.hid ⟨Nat.lt_of_lt_of_le HXC.out.1 hbu.size, (hbu.cell (p := ⟨xb, xoff + k * 4, none⟩) HXC.out.1).trans HXC.out.2.1, (hbu.cell (p := ⟨xb, xoff + k * 4 + 1, none⟩) HXC.out.1).trans HXC.out.2.2.1, (hbu.cell (p := ⟨xb, xoff + k * 4 + 2, none⟩) HXC.out.1).trans HXC.out.2.2.2.1, (hbu.cell (p := ⟨xb, xoff + k * 4 + 3, none⟩) HXC.out.1).trans HXC.out.2.2.2.2⟩
        have HPu := Lib.hid (And.intro (HPR.out.1.up hbu) (HPR.out.2.up hbu))
        have hCu : C ≤ u.heap.size := Nat.le_trans hCk hbu.size
        have hgu := HBu.out.1
        have hgTu := HTu.out.blk.lt
        clear b_0 b_1 b_2 b_3 b_4 x_0 x_1 x_2 x_3 e_0 e_1 y_0 y_1 hxf hxl HX6 hbX hbwX hG6 HCL hgB hgT hg6
        have e_0 := (HTu.out.blk.box).2 0 _ rfl; have e_1 := (HTu.out.blk.box).2 1 _ rfl
        go_wp2_with fail
        refine (ref0_CopyTable A n c l B m d q _ HPu.out.1 HPu.out.2 (by omega) (by omega)).mono ?_
        rintro e w8 ⟨vp8, va8, rfl, hp8, ha8, hd8, hb8⟩
        obtain ⟨A8, n8, c8, rfl, hn8⟩ := pnamed hp8 (by have := HY.out.2.1; omega)
        obtain ⟨B8, m8, d8, rfl, hm8⟩ := anamed ha8 (by have := HY.out.2.2; omega)
        have hT8 : TabR (w8.alloc (.cells #[.slice A8 n8 c8, .slice B8 m8 d8] 25)) u.heap.size w8.heap.size (.slice A8 n8 c8) (.slice B8 m8 d8) l q := tab_new hp8 ha8 hd8 (Nat.le_refl _) hb8.size
        have hbuv : Below u.heap.size u (w8.alloc (.cells #[.slice A8 n8 c8, .slice B8 m8 d8] 25)) := by (repeat (first | (with_reducible exact Below.refl _ _) | (with_reducible assumption) | (with_reducible apply bel_alloc) | (with_reducible apply bel_drew) | (with_reducible apply bel_drewN) | (with_reducible refine bel_trans ?_ (by with_reducible assumption)) | (with_reducible refine bel_trans ?_ (HF.out _)) | (with_reducible refine bel_set ?_ (by simp) _) | (with_reducible refine bel_set ?_ (by simp; omega) _) | (with_reducible refine bel_set ?_ (by omega) _)))
        obtain ⟨g8, hg8⟩ : ∃ g, g = w8.heap.size := ⟨_, rfl⟩
        rw [← hg8] at hT8
        go_upto_region 14 with fail
        rw [← hg8]
        generalize (w8.alloc (.cells #[.slice A8 n8 c8, .slice B8 m8 d8] 25)) = v at *
        clear hp8 ha8 hd8 hn8 hm8 e_0 e_1 hb8 hg8
        have hbwv := bel_trans hbwu hbuv
        have HT8 := Lib.hid hT8
        have HBv := Lib.hid (HBu.out.up hbuv)
        have HTv := Lib.hid (HTu.out.up hbuv)
        have HGv := Lib.hid (HG6.out.up hbuv)
        have HRv := Lib.hid (And.intro (HR6.out.1.up hbuv) (HR6.out.2.up hbuv))
        have HPv := Lib.hid (And.intro (HPu.out.1.up hbuv) (HPu.out.2.up hbuv))
        obtain ⟨hln8, hqm8, hP8, hA8, -, -⟩ := hT8.rows (by have := HY.out.2.1; omega) (by have := HY.out.2.2; omega)
        have HP8 := Lib.hid (And.intro hP8 hA8)
        have hCv : C ≤ v.heap.size := Nat.le_trans hCu hbuv.size
        have hg8l := hT8.blk.lt
        have hgv := HBv.out.1
        have hgTv := HTv.out.blk.lt
        have HXv : Hid (xb < v.heap.size ∧ v.cell? ⟨xb, xoff + k * 4, none⟩ = some (.int .i64 x.se) ∧ v.cell? ⟨xb, xoff + k * 4 + 1, none⟩ = some (.int .i64 x.sq) ∧ v.cell? ⟨xb, xoff + k * 4 + 2, none⟩ = some (.string x.k) ∧ v.cell? ⟨xb, xoff + k * 4 + 3, none⟩ = some (.string x.v)) := Lib.hid ⟨Nat.lt_of_lt_of_le HXu.out.1 hbuv.size, (hbuv.cell (p := ⟨xb, xoff + k * 4, none⟩) HXu.out.1).trans HXu.out.2.1, (hbuv.cell (p := ⟨xb, xoff + k * 4 + 1, none⟩) HXu.out.1).trans HXu.out.2.2.1, (hbuv.cell (p := ⟨xb, xoff + k * 4 + 2, none⟩) HXu.out.1).trans HXu.out.2.2.2.1, (hbuv.cell (p := ⟨xb, xoff + k * 4 + 3, none⟩) HXu.out.1).trans HXu.out.2.2.2.2⟩
        have HCV : Hid (∀ Y, Below v.heap.size v Y → (Y.cell? ⟨w.heap.size, 0, none⟩ = some (.slice pA pn pc) ∧ Y.cell? ⟨w.heap.size, 1, none⟩ = some (.slice qA qn qc) ∧ Y.cell? ⟨w.heap.size, 2, none⟩ = some (.slice (some ⟨xb, xoff, none⟩) xn xc) ∧ Y.cell? ⟨w.heap.size, 3, none⟩ = some (.slice bA bn bc) ∧ Y.cell? ⟨w.heap.size, 4, none⟩ = some (.slice kA kn kc)) ∧ (Y.cell? ⟨xb, xoff + k * 4, none⟩ = some (.int .i64 x.se) ∧ Y.cell? ⟨xb, xoff + k * 4 + 1, none⟩ = some (.int .i64 x.sq) ∧ Y.cell? ⟨xb, xoff + k * 4 + 2, none⟩ = some (.string x.k) ∧ Y.cell? ⟨xb, xoff + k * 4 + 3, none⟩ = some (.string x.v)) ∧ (Y.cell? ⟨g8, 0, none⟩ = some (.slice A8 n8 c8) ∧ Y.cell? ⟨g8, 1, none⟩ = some (.slice B8 m8 d8))) := Lib.hid (fun Y hY =>
          ⟨⟨(HBv.out.up hY).2 0 _ rfl, (HBv.out.up hY).2 1 _ rfl, (HBv.out.up hY).2 2 _ rfl, (HBv.out.up hY).2 3 _ rfl, (HBv.out.up hY).2 4 _ rfl⟩,
              ⟨(hY.cell (p := ⟨xb, xoff + k * 4, none⟩) HXv.out.1).trans HXv.out.2.1, (hY.cell (p := ⟨xb, xoff + k * 4 + 1, none⟩) HXv.out.1).trans HXv.out.2.2.1, (hY.cell (p := ⟨xb, xoff + k * 4 + 2, none⟩) HXv.out.1).trans HXv.out.2.2.2.1, (hY.cell (p := ⟨xb, xoff + k * 4 + 3, none⟩) HXv.out.1).trans HXv.out.2.2.2.2⟩,
              ⟨(HT8.out.blk.up hY).box.2 0 _ rfl, (HT8.out.blk.up hY).box.2 1 _ rfl⟩⟩)
        clear hT8 hP8 hA8 hln8 hqm8 HBu HTu HG6 HR6 HPu HXu hbwu hbuv hbu hgu hgTu hCu
        go_cut [9, 10, 11] from 50 to 60 (fun s9 s10 s11 wx => ∃ (g9 : Nat) (vp9 va9 : Value), s9 = .pointer (some ⟨g9, 0, none⟩) ∧ s10 = .bool yy ∧ s11 = .int .i64 y0 ∧ Below v.heap.size v wx ∧ TabR wx v.heap.size g9 vp9 va9 LW QW)
        case first =>
          rcases HY01.out with h0 | h0
          · subst h0
            have HMT : Hid (MayT l q) := Lib.hid (mayT_iff.1 (by have h1 := HY.out.1; by_cases h2 : mayT l q = true; exact h2; rw [if_neg h2] at h1; cases h1))
            have HOK : Hid (okT l q x = yy ∧ doP l q x = LW ∧ doA l q x = QW) := Lib.hid (by have h1 := HW.out.1; have h2 := HW.out.2.1; have h3 := HW.out.2.2; rw [if_pos rfl] at h1 h2 h3; exact ⟨h3, h1, h2⟩)
            go_region_held3 (fun Y => (Y.cell? ⟨w.heap.size, 0, none⟩ = some (.slice pA pn pc) ∧ Y.cell? ⟨w.heap.size, 1, none⟩ = some (.slice qA qn qc) ∧ Y.cell? ⟨w.heap.size, 2, none⟩ = some (.slice (some ⟨xb, xoff, none⟩) xn xc) ∧ Y.cell? ⟨w.heap.size, 3, none⟩ = some (.slice bA bn bc) ∧ Y.cell? ⟨w.heap.size, 4, none⟩ = some (.slice kA kn kc)) ∧ (Y.cell? ⟨xb, xoff + k * 4, none⟩ = some (.int .i64 x.se) ∧ Y.cell? ⟨xb, xoff + k * 4 + 1, none⟩ = some (.int .i64 x.sq) ∧ Y.cell? ⟨xb, xoff + k * 4 + 2, none⟩ = some (.string x.k) ∧ Y.cell? ⟨xb, xoff + k * 4 + 3, none⟩ = some (.string x.v)) ∧ (Y.cell? ⟨g8, 0, none⟩ = some (.slice A8 n8 c8) ∧ Y.cell? ⟨g8, 1, none⟩ = some (.slice B8 m8 d8)))
              (exact HCV.out _ (by (repeat (first | (with_reducible exact Below.refl _ _) | (with_reducible assumption) | (with_reducible apply bel_alloc) | (with_reducible apply bel_drew) | (with_reducible apply bel_drewN) | (with_reducible refine bel_trans ?_ (by with_reducible assumption)) | (with_reducible refine bel_trans ?_ (HF.out _)) | ((with_reducible refine bel_set3 ?_ ?_); rotate_left; omega)))))
              ((go_at_call 21; refine (table_Apply_ok A8 n8 c8 l B8 m8 d8 q x _ (HP8.out.1.up (by (repeat (first | (with_reducible exact Below.refl _ _) | (with_reducible assumption) | (with_reducible apply bel_alloc) | (with_reducible apply bel_drew) | (with_reducible apply bel_drewN) | (with_reducible refine bel_trans ?_ (by with_reducible assumption)) | (with_reducible refine bel_trans ?_ (HF.out _)) | (with_reducible refine bel_set ?_ (by simp) _) | (with_reducible refine bel_set ?_ (by simp; omega) _) | (with_reducible refine bel_set ?_ (by omega) _))))) (HP8.out.2.up (by (repeat (first | (with_reducible exact Below.refl _ _) | (with_reducible assumption) | (with_reducible apply bel_alloc) | (with_reducible apply bel_drew) | (with_reducible apply bel_drewN) | (with_reducible refine bel_trans ?_ (by with_reducible assumption)) | (with_reducible refine bel_trans ?_ (HF.out _)) | (with_reducible refine bel_set ?_ (by simp) _) | (with_reducible refine bel_set ?_ (by simp; omega) _) | (with_reducible refine bel_set ?_ (by omega) _))))) HMT.out).mono ?_; rw [HOK.out.1, HOK.out.2.1, HOK.out.2.2]; rintro e w9 ⟨vp9, va9, rfl, hp9, ha9, hd9, hb9⟩; obtain ⟨A9, n9, c9, rfl, hn9⟩ := pnamed hp9 (by have := HWL.out.1; omega); obtain ⟨B9, m9, d9, rfl, hm9⟩ := anamed ha9 (by have := HWL.out.2; omega); (try have hcA := fun o => (bcell hb9).1 v.heap.size o (by first | (simp; done) | (simp; omega) | omega)); (try have hfA := fun o => (bcell hb9).2 v.heap.size o (by first | (simp; done) | (simp; omega) | omega)); have hzA := hb9.size; (try simp at hzA)))
            · go_wp2_with fail
              go_meet
              exact ⟨_, _, _, rfl, rfl, rfl, by (repeat (first | (with_reducible exact Below.refl _ _) | (with_reducible assumption) | (with_reducible apply bel_alloc) | (with_reducible apply bel_drew) | (with_reducible apply bel_drewN) | (with_reducible refine bel_trans ?_ (by with_reducible assumption)) | (with_reducible refine bel_trans ?_ (HF.out _)) | ((with_reducible refine bel_set3 ?_ ?_); rotate_left; omega))), tab_new hp9 ha9 hd9 (by first | omega | (simp; done) | (simp; omega)) (by first | omega | (simp; omega))⟩
            · go_wp2_with fail
              go_meet
              exact ⟨_, _, _, rfl, rfl, rfl, by (repeat (first | (with_reducible exact Below.refl _ _) | (with_reducible assumption) | (with_reducible apply bel_alloc) | (with_reducible apply bel_drew) | (with_reducible apply bel_drewN) | (with_reducible refine bel_trans ?_ (by with_reducible assumption)) | (with_reducible refine bel_trans ?_ (HF.out _)) | ((with_reducible refine bel_set3 ?_ ?_); rotate_left; omega))), tab_put (Blk.new v.drew 25 [.slice none 0 0, .slice none 0 0]) hb9 hp9 ha9 hd9 (Nat.le_refl _)⟩
          · subst h0
            have HMF : Hid (mayT l q = false) := Lib.hid (by have h1 := HY.out.1; cases h2 : mayT l q; rfl; rw [h2, if_pos rfl] at h1; cases h1)
            obtain ⟨h1, h2, h3⟩ := HW.out
            rw [if_neg (by omega)] at h1 h2 h3
            subst h1; subst h2; subst h3
            go_region_held3 (fun Y => (Y.cell? ⟨w.heap.size, 0, none⟩ = some (.slice pA pn pc) ∧ Y.cell? ⟨w.heap.size, 1, none⟩ = some (.slice qA qn qc) ∧ Y.cell? ⟨w.heap.size, 2, none⟩ = some (.slice (some ⟨xb, xoff, none⟩) xn xc) ∧ Y.cell? ⟨w.heap.size, 3, none⟩ = some (.slice bA bn bc) ∧ Y.cell? ⟨w.heap.size, 4, none⟩ = some (.slice kA kn kc)) ∧ (Y.cell? ⟨xb, xoff + k * 4, none⟩ = some (.int .i64 x.se) ∧ Y.cell? ⟨xb, xoff + k * 4 + 1, none⟩ = some (.int .i64 x.sq) ∧ Y.cell? ⟨xb, xoff + k * 4 + 2, none⟩ = some (.string x.k) ∧ Y.cell? ⟨xb, xoff + k * 4 + 3, none⟩ = some (.string x.v)) ∧ (Y.cell? ⟨g8, 0, none⟩ = some (.slice A8 n8 c8) ∧ Y.cell? ⟨g8, 1, none⟩ = some (.slice B8 m8 d8)))
              (exact HCV.out _ (by (repeat (first | (with_reducible exact Below.refl _ _) | (with_reducible assumption) | (with_reducible apply bel_alloc) | (with_reducible apply bel_drew) | (with_reducible apply bel_drewN) | (with_reducible refine bel_trans ?_ (by with_reducible assumption)) | (with_reducible refine bel_trans ?_ (HF.out _)) | ((with_reducible refine bel_set3 ?_ ?_); rotate_left; omega)))))
              ((go_at_call 21; refine (table_Apply_bad A8 n8 c8 l B8 m8 d8 q x _ (HP8.out.1.up (by (repeat (first | (with_reducible exact Below.refl _ _) | (with_reducible assumption) | (with_reducible apply bel_alloc) | (with_reducible apply bel_drew) | (with_reducible apply bel_drewN) | (with_reducible refine bel_trans ?_ (by with_reducible assumption)) | (with_reducible refine bel_trans ?_ (HF.out _)) | (with_reducible refine bel_set ?_ (by simp) _) | (with_reducible refine bel_set ?_ (by simp; omega) _) | (with_reducible refine bel_set ?_ (by omega) _))))) (HP8.out.2.up (by (repeat (first | (with_reducible exact Below.refl _ _) | (with_reducible assumption) | (with_reducible apply bel_alloc) | (with_reducible apply bel_drew) | (with_reducible apply bel_drewN) | (with_reducible refine bel_trans ?_ (by with_reducible assumption)) | (with_reducible refine bel_trans ?_ (HF.out _)) | (with_reducible refine bel_set ?_ (by simp) _) | (with_reducible refine bel_set ?_ (by simp; omega) _) | (with_reducible refine bel_set ?_ (by omega) _))))) HMF.out).mono ?_; rintro e w9 ⟨rfl, hb9⟩; have hd9 : Disj (.slice none 0 0) (.slice none 0 0) := (fun g h _ => by simp [Value.ownBlock] at h); (try have hcA := fun o => (bcell hb9).1 v.heap.size o (by first | (simp; done) | (simp; omega) | omega)); (try have hfA := fun o => (bcell hb9).2 v.heap.size o (by first | (simp; done) | (simp; omega) | omega)); have hzA := hb9.size; (try simp at hzA)))
            · go_wp2_with fail
              go_meet
              exact ⟨_, _, _, rfl, rfl, rfl, by (repeat (first | (with_reducible exact Below.refl _ _) | (with_reducible assumption) | (with_reducible apply bel_alloc) | (with_reducible apply bel_drew) | (with_reducible apply bel_drewN) | (with_reducible refine bel_trans ?_ (by with_reducible assumption)) | (with_reducible refine bel_trans ?_ (HF.out _)) | ((with_reducible refine bel_set3 ?_ ?_); rotate_left; omega))), tab_new (OwnP.nil _ _) (OwnA.nil _ _) hd9 (by first | omega | (simp; done) | (simp; omega)) (by first | omega | (simp; omega))⟩
            · go_wp2_with fail
              go_meet
              exact ⟨_, _, _, rfl, rfl, rfl, by (repeat (first | (with_reducible exact Below.refl _ _) | (with_reducible assumption) | (with_reducible apply bel_alloc) | (with_reducible apply bel_drew) | (with_reducible apply bel_drewN) | (with_reducible refine bel_trans ?_ (by with_reducible assumption)) | (with_reducible refine bel_trans ?_ (HF.out _)) | ((with_reducible refine bel_set3 ?_ ?_); rotate_left; omega))), tab_put (Blk.new v.drew 25 [.slice none 0 0, .slice none 0 0]) hb9 (OwnP.nil _ _) (OwnA.nil _ _) hd9 (Nat.le_refl _)⟩
        case rest =>
        obtain ⟨g9, vp9, va9, rfl, rfl, rfl, hb9, hT9⟩ := hcut
        obtain ⟨A9, n9, c9, rfl, hn9⟩ := pnamed hT9.p (by have := HWL.out.1; omega)
        obtain ⟨B9, m9, d9, rfl, hm9⟩ := anamed hT9.a (by have := HWL.out.2; omega)
        obtain ⟨z, hz⟩ : ∃ x, x = wc := ⟨_, rfl⟩
        subst hz
        obtain ⟨-, -, hP9, hA9, -, -⟩ := hT9.rows (by have := HWL.out.1; omega) (by have := HWL.out.2; omega)
        have HP9 := Lib.hid (And.intro hP9 hA9)
        have HT9 := Lib.hid hT9
        have h9l := hT9.blk.lt
        have h9b := hT9.cb
        have h6l := HGv.out.lt
        have o_0 := (hT9.blk.box).2 0 _ rfl; have o_1 := (hT9.blk.box).2 1 _ rfl
        have r_0 := ((HGv.out.up hb9).box).2 0 _ rfl; have r_1 := ((HGv.out.up hb9).box).2 1 _ rfl
        clear hT9 hP9 hA9 HCV
        go_wp2_with (go_at_call 18; refine (law22_num _ _).mono ?_; rintro e w' ⟨rfl, rfl⟩)
        refine (ref0_EqTable A9 n9 c9 B9 m9 d9 A6 n6 c6 B6 m6 d6 LW QW _ HP9.out.1 HP9.out.2 (HRv.out.1.up hb9) (HRv.out.2.up hb9)).mono ?_
        rintro e z1 ⟨rfl, hz1⟩
        have hb91 := bel_trans hb9 hz1
        clear o_0 o_1 r_0 r_1
        have f_0 := ((HT8.out.up hb91).blk.box).2 0 _ rfl; have f_1 := ((HT8.out.up hb91).blk.box).2 1 _ rfl
        have e_0 := ((HTv.out.up hb91).blk.box).2 0 _ rfl; have e_1 := ((HTv.out.up hb91).blk.box).2 1 _ rfl
        go_wp2_with fail
        refine (ref0_EqTable A8 n8 c8 B8 m8 d8 A n c B m d l q _ (HP8.out.1.up hb91) (HP8.out.2.up hb91) (HPv.out.1.up hb91) (HPv.out.2.up hb91)).mono ?_
        rintro e z2 ⟨rfl, hz2⟩
        have hb92 := bel_trans hb91 hz2
        clear f_0 f_1 e_0 e_1
        have HT9b := Lib.hid ((HT9.out.up hz1).up hz2)
        have h9l2 := HT9b.out.blk.lt
        have o_0 := (HT9b.out.blk.box).2 0 _ rfl; have o_1 := (HT9b.out.blk.box).2 1 _ rfl
        go_wp2_with fail
        refine (law0_Table (.slice A9 n9 c9) (.slice B9 m9 d9) LW QW v.heap.size _ HT9b.out.p HT9b.out.a HT9b.out.d hb92.size (by have := HWL.out.1; omega) (by have := HWL.out.2; omega)).mono ?_
        rintro e z3 ⟨rfl, hz3⟩
        have hb93 : Below v.heap.size v z3 := hb92.trans hz3
        clear o_0 o_1
        have f_0 := ((HT8.out.up hb93).blk.box).2 0 _ rfl; have f_1 := ((HT8.out.up hb93).blk.box).2 1 _ rfl
        have e_0 := ((HTv.out.up hb93).blk.box).2 0 _ rfl; have e_1 := ((HTv.out.up hb93).blk.box).2 1 _ rfl
        go_wp2_with fail
        refine (ref0_EqTable A8 n8 c8 B8 m8 d8 A n c B m d l q _ (HP8.out.1.up hb93) (HP8.out.2.up hb93) (HPv.out.1.up hb93) (HPv.out.2.up hb93)).mono ?_
        rintro e z4 ⟨rfl, hz4⟩
        have hb94 := bel_trans hb93 hz4
        have HT4 := Lib.hid (HTv.out.up hb94)
        have HB4 := Lib.hid (HBv.out.up hb94)
        have hbw4 := bel_trans hbwv hb94
        have hC4 : C ≤ z4.heap.size := Nat.le_trans hCv hb94.size
        clear f_0 f_1 e_0 e_1
        rcases HY01.out with h0 | h0
        · subst h0
          have HMT : Hid (MayT l q) := Lib.hid (mayT_iff.1 (by have h1 := HY.out.1; by_cases h2 : mayT l q = true; exact h2; rw [if_neg h2] at h1; cases h1))
          have HLW : Hid (doP l q x = LW ∧ doA l q x = QW) := Lib.hid (by have h1 := HW.out.1; have h2 := HW.out.2.1; rw [if_pos rfl] at h1 h2; exact ⟨h1, h2⟩)
          have hn6l : n6 ≤ 4096 := by have h1 := HWL.out.1; have h2 := HRv.out.1.1; omega
          have hm6l : m6 ≤ 4096 := by have h1 := HWL.out.2; have h2 := HRv.out.2.1; omega
          have h6l4 := (HGv.out.up hb94).lt
          have r_0 := ((HGv.out.up hb94).box).2 0 _ rfl; have r_1 := ((HGv.out.up hb94).box).2 1 _ rfl
          go_wp2_with fail
          refine (ref0_CopyTable A6 n6 c6 LW B6 m6 d6 QW _ (HRv.out.1.up hb94) (HRv.out.2.up hb94) (by omega) (by omega)).mono ?_
          rintro e z5 ⟨vp5, va5, rfl, hp5, ha5, hd5, hz5⟩
          obtain ⟨A5, n5, c5, rfl, hn5⟩ := pnamed hp5 (by have := HWL.out.1; omega)
          obtain ⟨B5, m5, d5, rfl, hm5⟩ := anamed ha5 (by have := HWL.out.2; omega)
          have hT5 := TabR.put HT4.out hz5 hp5 ha5 hd5
          have HT5 := Lib.hid hT5
          have hk5 := HT4.out.blk.up hz5
          have hf5 := hk5.frozen
          have hl5 := hk5.lt
          have hB5 := (HB4.out.up hz5)
          have hB6 := Lib.hid ((hB5.set (a := ⟨g3, 0, none⟩) (v := .slice A5 n5 c5) (by dsimp only; omega)).set (a := ⟨g3, 1, none⟩) (v := .slice B5 m5 d5) (by dsimp only; omega))
          have hbw6 : Below w.heap.size w ((z5.setCell ⟨g3, 0, none⟩ (.slice A5 n5 c5)).setCell ⟨g3, 1, none⟩ (.slice B5 m5 d5)) := ((bel_trans hbw4 hz5).setCell (p := ⟨g3, 0, none⟩) (by dsimp only; omega) _).setCell (p := ⟨g3, 1, none⟩) (by dsimp only; omega) _
          have hC6 : C ≤ ((z5.setCell ⟨g3, 0, none⟩ (.slice A5 n5 c5)).setCell ⟨g3, 1, none⟩ (.slice B5 m5 d5)).heap.size := by have := hz5.size; simp; omega
          have HYN : Hid ((if mayT LW QW = true then (0 : Int) else 1) = 0 ∧ LW.length ≤ 6000 ∧ QW.length ≤ 6000) := Lib.hid ⟨by rw [← HLW.out.1, ← HLW.out.2, if_pos (mayT_iff.2 HMT.out.do_)], by have := HWL.out.1; omega, by have := HWL.out.2; omega⟩
          have e_0 := (hk5.box).2 0 _ rfl; have e_1 := (hk5.box).2 1 _ rfl
          clear hT5 hk5 hB5 r_0 r_1
          go_wp2_with fail
          (first | (go_round; (case rel => exact ⟨k + 1, LW, QW, _, _, _, _, _, _, by omega, by omega, by go_num, HT5, HYN, hB6, hC6, hbw6⟩); (case measure => (simp [intOf] <;> omega))) | (go_roundw; (case rel => exact ⟨k + 1, LW, QW, _, _, _, _, _, _, by omega, by omega, by go_num, HT5, HYN, hB6, hC6, hbw6⟩); (case measure => (simp [intOf] <;> omega))) | (refine ⟨?_, by simp [intOf] <;> omega⟩; (repeat apply Exists.intro); refine ⟨?rel, ?fr⟩; (case fr => ((repeat' apply And.intro) <;> rfl)); (case rel => exact ⟨k + 1, LW, QW, _, _, _, _, _, _, by omega, by omega, by go_num, HT5, HYN, hB6, hC6, hbw6⟩)))
        · subst h0
          go_wp2_with fail
          (first | (go_round; (case rel => exact ⟨k + 1, l, q, _, _, _, _, _, _, by omega, by omega, by go_num, HT4, HY, HB4, hC4, hbw4⟩); (case measure => (simp [intOf] <;> omega))) | (go_roundw; (case rel => exact ⟨k + 1, l, q, _, _, _, _, _, _, by omega, by omega, by go_num, HT4, HY, HB4, hC4, hbw4⟩); (case measure => (simp [intOf] <;> omega))) | (refine ⟨?_, by simp [intOf] <;> omega⟩; (repeat apply Exists.intro); refine ⟨?rel, ?fr⟩; (case fr => ((repeat' apply And.intro) <;> rfl)); (case rel => exact ⟨k + 1, l, q, _, _, _, _, _, _, by omega, by omega, by go_num, HT4, HY, HB4, hC4, hbw4⟩)))
      · have b_0 := (HB.out).2 0 _ rfl; have b_1 := (HB.out).2 1 _ rfl; have b_2 := (HB.out).2 2 _ rfl; have b_3 := (HB.out).2 3 _ rfl; have b_4 := (HB.out).2 4 _ rfl
        clear b_0 b_1 b_3 b_4
        by_cases h1 : k < xn
        · have h2 : ¬ k < 30 := fun h => hlt ⟨h1, h⟩
          clear hlt
          go_wp2_with (go_at_call 19; refine (law22_wakes _).mono ?_; rintro e w9 ⟨rfl, hb9⟩)
          go_ret
          exact ⟨rfl, bel_trans hbw hb9⟩
        · clear hlt
          go_wp2_with (go_at_call 19; refine (law22_wakes _).mono ?_; rintro e w9 ⟨rfl, hb9⟩)
          go_ret
          exact ⟨rfl, bel_trans hbw hb9⟩
end Go.Proofs.Ytgljmljmljccgaa
