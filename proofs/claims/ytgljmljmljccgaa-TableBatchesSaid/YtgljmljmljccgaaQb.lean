/- The law TableBatches. -/
import Derived.Test.YtgljmljmljccgaaNz
import Derived.Test.YtgljmljmljccgaaQe
import Derived.Deep.CutBlock
import Derived.Deep.RegionHeld3
namespace Go.Proofs.Ytgljmljmljccgaa
open Go.RowKit
set_option linter.unusedSimpArgs false
set_option linter.unusedVariables false

/-- A table in a box becomes another one. -/
theorem TabR.put {w w1 : World} {C bt : Nat} {vp va vp2 va2 : Value} {l l2 : List PairD} {q q2 : List AcctD} (h : TabR w C bt vp va l q) (hb : Below w.heap.size w w1) (hp : OwnP w1 w.heap.size vp2 l2) (ha : OwnA w1 w.heap.size va2 q2) (hd : Disj vp2 va2) :
    TabR ((w1.setCell ⟨bt, 0, none⟩ vp2).setCell ⟨bt, 1, none⟩ va2) C bt vp2 va2 l2 q2 := by
  have hbt := h.blk.lt
  have hn : vp2.ownBlock ≠ some bt := fun e => by have := (own_lt hp bt e).1; omega
  have hn2 : va2.ownBlock ≠ some bt := fun e => by have := (own_lt ha bt e).1; omega
  have hC : C ≤ w.heap.size := Nat.le_trans h.cb (Nat.le_of_lt hbt)
  exact { blk := ((h.blk.up hb).set_ 0 vp2).set_ 1 va2, p := own_setD (own_setD (hp.mono hC) hn vp2) hn va2, a := own_setD (own_setD (ha.mono hC) hn2 vp2) hn2 va2, d := hd, np := hn, na := hn2, cb := h.cb }
theorem pnamed {w : World} {B : Nat} {v : Value} {l : List PairD} (h : OwnP w B v l) (hl : l.length ≤ 9223372036854775807) : ∃ A n c, v = .slice A n c ∧ l.length = n := by
  obtain ⟨A, c, e, _⟩ := h.pairs hl
  exact ⟨A, _, c, e, rfl⟩
theorem anamed {w : World} {B : Nat} {v : Value} {l : List AcctD} (h : OwnA w B v l) (hl : l.length ≤ 9223372036854775807) : ∃ A n c, v = .slice A n c ∧ l.length = n := by
  obtain ⟨A, c, e, _⟩ := h.accts hl
  exact ⟨A, _, c, e, rfl⟩
theorem tab_put {w w1 : World} {C g : Nat} {a b vp2 va2 : Value} {l2 : List PairD} {q2 : List AcctD} (hk : Blk w g 25 [a, b]) (hb : Below w.heap.size w w1) (hp : OwnP w1 w.heap.size vp2 l2) (ha : OwnA w1 w.heap.size va2 q2) (hd : Disj vp2 va2) (hC : C ≤ g) :
    TabR ((w1.setCell ⟨g, 0, none⟩ vp2).setCell ⟨g, 1, none⟩ va2) C g vp2 va2 l2 q2 := by
  have hbt := hk.lt
  have hn : vp2.ownBlock ≠ some g := fun e => by have := (own_lt hp g e).1; omega
  have hn2 : va2.ownBlock ≠ some g := fun e => by have := (own_lt ha g e).1; omega
  exact { blk := ((hk.up hb).set_ 0 vp2).set_ 1 va2, p := own_setD (own_setD (hp.mono (by omega)) hn vp2) hn va2, a := own_setD (own_setD (ha.mono (by omega)) hn2 vp2) hn2 va2, d := hd, np := hn, na := hn2, cb := hC }
theorem tab_new {w1 : World} {C B : Nat} {vp va : Value} {l : List PairD} {q : List AcctD} (hp : OwnP w1 B vp l) (ha : OwnA w1 B va q) (hd : Disj vp va) (hB : C ≤ B) (hC : C ≤ w1.heap.size) : TabR (w1.alloc (.cells #[vp, va] 25)) C w1.heap.size vp va l q :=
  { blk := Blk.new w1 25 [vp, va], p := OwnP.mono (hp.up (bel_alloc (Below.refl _ _))) hB, a := OwnA.mono (ha.up (bel_alloc (Below.refl _ _))) hB, d := hd, np := fun e => (by have := (own_lt hp _ e).2; omega), na := fun e => (by have := (own_lt ha _ e).2; omega), cb := hC }
theorem TabX.rows {tb : TypeId} {rs : List Value} {w : World} {C g n c m d : Nat} {A B : Option Addr} {l : List PairD} {q : List AcctD} (h : TabX tb rs w C g (.slice A n c) (.slice B m d) l q) (hl : l.length ≤ 9223372036854775807) (hq : q.length ≤ 9223372036854775807) : l.length = n ∧ q.length = m ∧ PairsR w A n l ∧ AcctsR w B m q ∧ FarN A n w.heap.size ∧ FarN B m w.heap.size := by
  obtain ⟨A1, c1, e1, h1, _⟩ := h.p.pairs hl
  obtain ⟨A2, c2, e2, h2, _⟩ := h.a.accts hq
  injection e1 with p1 p2 p3
  injection e2 with q1 q2 q3
  subst p1; subst q1; subst p2; subst q2
  exact ⟨rfl, rfl, h1, h2, h1.farN (Nat.le_refl _), h2.farN (Nat.le_refl _)⟩
theorem table_Batch_any (A : Option Addr) (n c : Nat) (l : List PairD) (B : Option Addr) (m d : Nat) (q : List AcctD) (b : BatchD) (xA : Option Addr) (xn xc : Nat) (z : Bool) (LW : List PairD) (QW : List AcctD) (NN : Nat) (y0 : Int) (w : World) (hl : PairsR w A n l) (hq : AcctsR w B m q) (hx : TxsR w xA xn b.tx)
    (h : (z = true ∧ mayT l q = true ∧ bmT b = true ∧ runT b.tx l q = (LW, QW) ∧ runN b.tx l q = NN ∧ y0 = 0) ∨ (z = false ∧ ¬ (mayT l q = true ∧ bmT b = true) ∧ LW = [] ∧ QW = [] ∧ NN = 0 ∧ y0 = 1)) :
    Calls Try.prog 31 #[.agg #[.slice A n c, .slice B m d], .agg #[.int .i64 b.au, .int .i64 b.n, .slice xA xn xc]] w fun e w' => ∃ vp va, e = .returned (.tuple #[.agg #[vp, va], .int .i64 NN, .int .i64 y0]) ∧ OwnP w' w.heap.size vp LW ∧ OwnA w' w.heap.size va QW ∧ Disj vp va ∧ Below w.heap.size w w' := by
  rcases h with ⟨_, h1, h2, h3, h4, rfl⟩ | ⟨_, h1, rfl, rfl, rfl, rfl⟩
  · exact table_Batch_ok A n c l B m d q b xA xn xc LW QW NN w hl hq hx (mayT_iff.1 h1) (bmT_iff.1 h2) h3 h4
  · refine (table_Batch_bad A n c l B m d q b xA xn xc w hl hq hx h1).mono ?_
    rintro e w' ⟨rfl, hb⟩
    exact ⟨_, _, rfl, OwnP.nil _ _, OwnA.nil _ _, fun g h _ => by simp [Value.ownBlock] at h, hb⟩
set_option maxRecDepth 100000 in
set_option maxHeartbeats 16000000 in
theorem law_TableBatches (P : AskP) (D : AskD) (w : World) (h : AskR w P D) :
    Calls Try.prog 7 #[P.val] w fun e w' => e = .returned (.bool true) ∧ Below w.heap.size w w' := by
  obtain ⟨⟨pA, pn, pc⟩, ⟨qA, qn, qc⟩, ⟨xA, xn, xc⟩, ⟨bA, bn, bc⟩, ⟨kA, kn, kc⟩⟩ := P
  have H := Lib.hid h
  have HP : Hid (PairsR w pA pn D.p) := Lib.hid h.p
  have HQ : Hid (AcctsR w qA qn D.q) := Lib.hid h.q
  have HBS : Hid (BatchesR w bA bn D.b) := Lib.hid h.b
  clear h
  show Calls Try.prog 7 #[.agg #[.slice pA pn pc, .slice qA qn qc, .slice xA xn xc, .slice bA bn bc, .slice kA kn kc]] w _
  go_enter Try.func7, Try.ntmps7
  go_wp2_with fail
  refine (law22_heavy ⟨⟨pA, pn, pc⟩, ⟨qA, qn, qc⟩, ⟨xA, xn, xc⟩, ⟨bA, bn, bc⟩, ⟨kA, kn, kc⟩⟩ D _ (H.out.up (by (repeat (first | (with_reducible exact Below.refl _ _) | (with_reducible assumption) | (with_reducible apply bel_alloc) | (with_reducible apply bel_drew) | (with_reducible apply bel_drewN) | (with_reducible refine bel_trans ?_ (by with_reducible assumption)) | (with_reducible refine bel_trans ?_ (HF.out _)) | (with_reducible refine bel_set ?_ (by simp) _) | (with_reducible refine bel_set ?_ (by simp; omega) _) | (with_reducible refine bel_set ?_ (by omega) _)))))).mono ?_
  rintro e w1 ⟨x, rfl, hx, hb1⟩
  cases x
  case true =>
    clear hx
    go_wp2_with fail
    go_ret
    exact ⟨rfl, by (repeat (first | (with_reducible exact Below.refl _ _) | (with_reducible assumption) | (with_reducible apply bel_alloc) | (with_reducible apply bel_drew) | (with_reducible apply bel_drewN) | (with_reducible refine bel_trans ?_ (by with_reducible assumption)) | (with_reducible refine bel_trans ?_ (HF.out _)) | (with_reducible refine bel_set ?_ (by simp) _) | (with_reducible refine bel_set ?_ (by simp; omega) _) | (with_reducible refine bel_set ?_ (by omega) _)))⟩
  case false =>
    have hLt := hx rfl
    have hp6 : pn ≤ 6000 := hLt.p
    have hq6 : qn ≤ 6000 := hLt.q
    have hb6 : bn ≤ 6000 := hLt.b
    have HLT := Lib.hid hLt
    clear hx hLt H
    have hB1 : BoxR w1 w.heap.size [.slice pA pn pc, .slice qA qn qc, .slice xA xn xc, .slice bA bn bc, .slice kA kn kc] := (BoxR.new w [.slice pA pn pc, .slice qA qn qc, .slice xA xn xc, .slice bA bn bc, .slice kA kn kc] 30).up hb1
    have HB1 := Lib.hid hB1
    have hbw1 : Below w.heap.size w w1 := by (repeat (first | (with_reducible exact Below.refl _ _) | (with_reducible assumption) | (with_reducible apply bel_alloc) | (with_reducible apply bel_drew) | (with_reducible apply bel_drewN) | (with_reducible refine bel_trans ?_ (by with_reducible assumption)) | (with_reducible refine bel_trans ?_ (HF.out _)) | (with_reducible refine bel_set ?_ (by simp) _) | (with_reducible refine bel_set ?_ (by simp; omega) _) | (with_reducible refine bel_set ?_ (by omega) _)))
    clear hb1 hB1
    go_wp2_with fail
    go_loopw [3] (fun si wr => ∃ k : Nat, k ≤ bn ∧ si = .int .i64 k ∧ Hid (BoxR wr w.heap.size [.slice pA pn pc, .slice qA qn qc, .slice xA xn xc, .slice bA bn bc, .slice kA kn kc]) ∧ Below w.heap.size w wr) (fun si _ => bn - (intOf si).toNat)
    case atStart => exact ⟨0, Nat.zero_le _, rfl, HB1, hbw1⟩
    case round =>
      clear HB1 hbw1
      obtain ⟨k, hk, rfl, HB, hbw⟩ := hrel
      (obtain ⟨wk, hwk⟩ : ∃ x, x = wr := ⟨_, rfl⟩); subst hwk
      have hgB := HB.out.1
      by_cases hlt : k < bn ∧ k < 30
      · obtain ⟨hlt1, hlt2⟩ := hlt
        have hd30 : decide ((k : Int) < 30) = true := by simp; omega
        have hdbn : decide ((k : Int) < (bn : Int)) = true := by simp; omega
        obtain ⟨bb, boff, rfl, hbb, hbc⟩ := (HBS.out.up hbw).2.2 (by omega)
        obtain ⟨tA, tn, tc, d0, d1, d2, htx⟩ := hbc k hlt1
        obtain ⟨bat, hbat⟩ : ∃ bat, bth D.b k = bat := ⟨_, rfl⟩
        rw [hbat] at d0 d1 htx
        have HTX := Lib.hid htx
        have hmem : bat ∈ D.b := by rw [← hbat]; have := HBS.out.1; simp [bth, show k < D.b.length by omega]
        have htn : tn ≤ 1000000 := by have h1 := HLT.out.t bat hmem; have h2 := HTX.out.1; omega
        have HXC : Hid (bb < wk.heap.size ∧ wk.cell? ⟨bb, boff + k * 3, none⟩ = some (.int .i64 bat.au) ∧ wk.cell? ⟨bb, boff + k * 3 + 1, none⟩ = some (.int .i64 bat.n) ∧ wk.cell? ⟨bb, boff + k * 3 + 2, none⟩ = some (.slice tA tn tc)) := Lib.hid ⟨hbb, d0, d1, d2⟩
        have HCL : Hid (∀ Y, Below wk.heap.size wk Y → (Y.cell? ⟨w.heap.size, 0, none⟩ = some (.slice pA pn pc) ∧ Y.cell? ⟨w.heap.size, 1, none⟩ = some (.slice qA qn qc) ∧ Y.cell? ⟨w.heap.size, 2, none⟩ = some (.slice xA xn xc) ∧ Y.cell? ⟨w.heap.size, 3, none⟩ = some (.slice (some ⟨bb, boff, none⟩) bn bc) ∧ Y.cell? ⟨w.heap.size, 4, none⟩ = some (.slice kA kn kc)) ∧ (Y.cell? ⟨bb, boff + k * 3, none⟩ = some (.int .i64 bat.au) ∧ Y.cell? ⟨bb, boff + k * 3 + 1, none⟩ = some (.int .i64 bat.n) ∧ Y.cell? ⟨bb, boff + k * 3 + 2, none⟩ = some (.slice tA tn tc))) := Lib.hid (fun Y hY =>
          ⟨⟨(HB.out.up hY).2 0 _ rfl, (HB.out.up hY).2 1 _ rfl, (HB.out.up hY).2 2 _ rfl, (HB.out.up hY).2 3 _ rfl, (HB.out.up hY).2 4 _ rfl⟩,
            ⟨(hY.cell (p := ⟨bb, boff + k * 3, none⟩) HXC.out.1).trans HXC.out.2.1, (hY.cell (p := ⟨bb, boff + k * 3 + 1, none⟩) HXC.out.1).trans HXC.out.2.2.1, (hY.cell (p := ⟨bb, boff + k * 3 + 2, none⟩) HXC.out.1).trans HXC.out.2.2.2⟩⟩)
        obtain ⟨ym, hym⟩ : ∃ y, mayT D.p D.q = y := ⟨_, rfl⟩
        obtain ⟨yb, hyb⟩ : ∃ y, bmT bat = y := ⟨_, rfl⟩
        have HYM := Lib.hid hym
        have HYB := Lib.hid hyb
        obtain ⟨z, LW, QW, NN, y0, hz⟩ : ∃ (z : Bool) (LW : List PairD) (QW : List AcctD) (NN : Nat) (y0 : Int), (z = true ∧ mayT D.p D.q = true ∧ bmT bat = true ∧ runT bat.tx D.p D.q = (LW, QW) ∧ runN bat.tx D.p D.q = NN ∧ y0 = 0) ∨ (z = false ∧ ¬ (mayT D.p D.q = true ∧ bmT bat = true) ∧ LW = [] ∧ QW = [] ∧ NN = 0 ∧ y0 = 1) := by
          by_cases h : mayT D.p D.q = true ∧ bmT bat = true
          · exact ⟨true, _, _, _, 0, .inl ⟨rfl, h.1, h.2, rfl, rfl, rfl⟩⟩
          · exact ⟨false, [], [], 0, 1, .inr ⟨rfl, h, rfl, rfl, rfl, rfl⟩⟩
        have HZ := Lib.hid hz
        clear hbc hbat hmem htx d0 d1 d2 hym hyb hz hbb
        obtain ⟨⟨b_0, b_1, b_2, b_3, b_4⟩, ⟨d_0, d_1, d_2⟩⟩ := HCL.out wk (Below.refl _ _)
        go_upto_region 7 with fail
        have hX6 : Blk (wk.alloc (.cells #[.slice none 0 0, .slice none 0 0] 25)) wk.heap.size 25 [.slice none 0 0, .slice none 0 0] := Blk.new wk 25 [.slice none 0 0, .slice none 0 0]
        have hbX : Below wk.heap.size wk (wk.alloc (.cells #[.slice none 0 0, .slice none 0 0] 25)) := by (repeat (first | (with_reducible exact Below.refl _ _) | (with_reducible assumption) | (with_reducible apply bel_alloc) | (with_reducible apply bel_drew) | (with_reducible apply bel_drewN) | (with_reducible refine bel_trans ?_ (by with_reducible assumption)) | (with_reducible refine bel_trans ?_ (HF.out _)) | (with_reducible refine bel_set ?_ (by simp) _) | (with_reducible refine bel_set ?_ (by simp; omega) _) | (with_reducible refine bel_set ?_ (by omega) _)))
        generalize (wk.alloc (.cells #[.slice none 0 0, .slice none 0 0] 25)) = X at *
        have hbwX : Below w.heap.size w X := bel_trans hbw hbX
        have HX6 := Lib.hid hX6
        have hxl := hX6.lt
        clear hX6
        clear b_0 b_1 b_2 b_3 b_4 d_0 d_1 d_2
        obtain ⟨⟨b_0, b_1, b_2, b_3, b_4⟩, ⟨d_0, d_1, d_2⟩⟩ := HCL.out X hbX
        go_cut [35] from 25 to 35 (fun s35 wx => s35 = .bool z ∧ Below X.heap.size X wx)
        case first =>
          go_wp2_with fail
          refine (ref22_May pA pn pc D.p qA qn qc D.q ym _ (HP.out.up hbwX) (HQ.out.up hbwX) HYM.out).mono ?_
          rintro e w5 ⟨rfl, hb5⟩
          have hbk5 := bel_trans hbX hb5
          clear b_0 b_1 b_2 b_3 b_4 d_0 d_1 d_2
          obtain ⟨⟨b_0, b_1, b_2, b_3, b_4⟩, ⟨d_0, d_1, d_2⟩⟩ := HCL.out w5 hbk5
          cases ym
          · have hz0 : z = false := by
              rcases HZ.out with ⟨_, h1, _⟩ | ⟨h1, _⟩
              · rw [HYM.out] at h1; cases h1
              · exact h1
            subst hz0
            go_wp2_with fail
            go_meet
            exact ⟨rfl, hb5⟩
          · go_wp2_with fail
            refine (ref4_Batch bat tA tn tc yb _ (HTX.out.up hbk5) HYB.out).mono ?_
            rintro e w6 ⟨rfl, hb6⟩
            have hzb : z = yb := by
              rcases HZ.out with ⟨h1, _, h2, _⟩ | ⟨h1, h2, _⟩
              · rw [h1, ← HYB.out, h2]
              · cases yb
                · exact h1
                · exact absurd ⟨HYM.out, HYB.out⟩ h2
            subst hzb
            go_wp2_with fail
            go_meet
            exact ⟨rfl, bel_trans hb5 hb6⟩
        case rest =>
        obtain ⟨rfl, hbX6⟩ := hcut
        have hbk6 := bel_trans hbX hbX6
        obtain ⟨w6, hw6⟩ : ∃ x, x = wc := ⟨_, rfl⟩
        subst hw6
        have hbw6 := bel_trans hbw hbk6
        have HX7 := Lib.hid (HX6.out.up hbX6)
        have hxl6 := HX7.out.lt
        clear b_0 b_1 b_2 b_3 b_4 d_0 d_1 d_2
        obtain ⟨⟨b_0, b_1, b_2, b_3, b_4⟩, ⟨d_0, d_1, d_2⟩⟩ := HCL.out w6 hbk6
        go_upto_if 35 with fail
        go_cut [4, 6] from 36 to 46 (fun s4 s6 wx => s4 = .int .i64 y0 ∧ s6 = .int .i64 NN ∧ ∃ (A6 : Option Addr) (n6 c6 : Nat) (B6 : Option Addr) (m6 d6 : Nat), Blk wx wk.heap.size 25 [.slice A6 n6 c6, .slice B6 m6 d6] ∧ Hid (PairsR wx A6 n6 LW ∧ AcctsR wx B6 m6 QW) ∧ Below wk.heap.size wk wx)
        case first =>
          rcases HZ.out with ⟨h0, h1, h2, h3, h4, h5⟩ | ⟨h0, h1, h2, h3, h4, h5⟩
          · subst h0; subst h5
            have HRT := Lib.hid h3
            have HRN := Lib.hid h4
            have HMT : Hid (MayT D.p D.q) := Lib.hid (mayT_iff.1 h1)
            have HFA : Hid (FarN pA pn wk.heap.size ∧ FarN qA qn wk.heap.size) := Lib.hid ⟨HP.out.farN hbw.size, HQ.out.farN hbw.size⟩
            clear h1 h2 h3 h4
            go_upto_region 9 with fail
            clear b_0 b_1 b_2 b_3 b_4 d_0 d_1 d_2
            go_region_held3 (fun Y => (Y.cell? ⟨w.heap.size, 0, none⟩ = some (.slice pA pn pc) ∧ Y.cell? ⟨w.heap.size, 1, none⟩ = some (.slice qA qn qc) ∧ Y.cell? ⟨w.heap.size, 2, none⟩ = some (.slice xA xn xc) ∧ Y.cell? ⟨w.heap.size, 3, none⟩ = some (.slice (some ⟨bb, boff, none⟩) bn bc) ∧ Y.cell? ⟨w.heap.size, 4, none⟩ = some (.slice kA kn kc)) ∧ (Y.cell? ⟨bb, boff + k * 3, none⟩ = some (.int .i64 bat.au) ∧ Y.cell? ⟨bb, boff + k * 3 + 1, none⟩ = some (.int .i64 bat.n) ∧ Y.cell? ⟨bb, boff + k * 3 + 2, none⟩ = some (.slice tA tn tc)))
              (exact HCL.out _ (by (repeat (first | (with_reducible exact Below.refl _ _) | (with_reducible assumption) | (with_reducible apply bel_alloc) | (with_reducible apply bel_drew) | (with_reducible apply bel_drewN) | (with_reducible refine bel_trans ?_ (by with_reducible assumption)) | (with_reducible refine bel_trans ?_ (HF.out _)) | ((with_reducible refine bel_set3 ?_ ?_); rotate_left; omega)))))
              ((go_at_call 29; refine (ref22_Batch pA pn pc D.p qA qn qc D.q bat.au bat.n tA tn tc bat.tx LW QW NN _ (HP.out.up (bel_trans hbw6 (by (repeat (first | (with_reducible exact Below.refl _ _) | (with_reducible assumption) | (with_reducible apply bel_alloc) | (with_reducible apply bel_drew) | (with_reducible apply bel_drewN) | (with_reducible refine bel_trans ?_ (by with_reducible assumption)) | (with_reducible refine bel_trans ?_ (HF.out _)) | (with_reducible refine bel_set ?_ (by simp) _) | (with_reducible refine bel_set ?_ (by simp; omega) _) | (with_reducible refine bel_set ?_ (by omega) _)))))) (HQ.out.up (bel_trans hbw6 (by (repeat (first | (with_reducible exact Below.refl _ _) | (with_reducible assumption) | (with_reducible apply bel_alloc) | (with_reducible apply bel_drew) | (with_reducible apply bel_drewN) | (with_reducible refine bel_trans ?_ (by with_reducible assumption)) | (with_reducible refine bel_trans ?_ (HF.out _)) | (with_reducible refine bel_set ?_ (by simp) _) | (with_reducible refine bel_set ?_ (by simp; omega) _) | (with_reducible refine bel_set ?_ (by omega) _)))))) (HTX.out.up (bel_trans hbk6 (by (repeat (first | (with_reducible exact Below.refl _ _) | (with_reducible assumption) | (with_reducible apply bel_alloc) | (with_reducible apply bel_drew) | (with_reducible apply bel_drewN) | (with_reducible refine bel_trans ?_ (by with_reducible assumption)) | (with_reducible refine bel_trans ?_ (HF.out _)) | (with_reducible refine bel_set ?_ (by simp) _) | (with_reducible refine bel_set ?_ (by simp; omega) _) | (with_reducible refine bel_set ?_ (by omega) _)))))) HMT.out HRT.out HRN.out htn).mono ?_; rintro e w7 ⟨A7, n7, c7, B7, m7, d7, rfl, hP7, hA7, hF7, hb7⟩; have HF7 := Lib.hid (hF7 wk.heap.size (by simpa using hxl6) HFA.out.1 HFA.out.2); have HP7 := Lib.hid hP7; have HA7 := Lib.hid hA7; clear hF7 hP7 hA7; have hX8 := HX7.out.up (bel_trans (bel_drew (Below.refl _ _)) hb7); have hxl8 := hX8.lt; have hxf8 := hX8.frozen; have y_0 := (hX8.box).2 0 _ rfl; have y_1 := (hX8.box).2 1 _ rfl; have HX8 := Lib.hid hX8; clear hX8))
            all_goals
              go_wp2_with fail
              go_meet
              have h7 : Below wk.heap.size wk w7 := bel_trans hbk6 (bel_trans (bel_drew (Below.refl _ _)) hb7)
              exact ⟨rfl, rfl, A7, n7, c7, B7, m7, d7, (HX8.out.set_ 0 _).set_ 1 _, Lib.hid ⟨(HP7.out.set_far HF7.out.1 _).set_far HF7.out.1 _, (HA7.out.set_far HF7.out.2 _).set_far HF7.out.2 _⟩, by (repeat (first | (with_reducible exact Below.refl _ _) | (with_reducible assumption) | (with_reducible apply bel_alloc) | (with_reducible apply bel_drew) | (with_reducible apply bel_drewN) | (with_reducible refine bel_trans ?_ (by with_reducible assumption)) | (with_reducible refine bel_trans ?_ (HF.out _)) | ((with_reducible refine bel_set3 ?_ ?_); rotate_left; omega)))⟩
          · subst h0; subst h2; subst h3; subst h4; subst h5
            go_wp2_with fail
            go_meet
            exact ⟨rfl, rfl, none, 0, 0, none, 0, 0, HX7.out, Lib.hid ⟨PairsR.nil0 _, AcctsR.nil0 _⟩, hbk6⟩
        case rest =>
        obtain ⟨rfl, rfl, A6, n6, c6, B6, m6, d6, hG6, HR6, hbu⟩ := hcut
        obtain ⟨u, hu⟩ : ∃ x, x = wc := ⟨_, rfl⟩
        subst hu
        have HG6 := Lib.hid hG6
        have HWL : Hid (LW.length ≤ 4096 ∧ QW.length ≤ 4096) := Lib.hid (by
          rcases HZ.out with ⟨_, h1, _, h3, _⟩ | ⟨_, _, h2, h3, _⟩
          · have h := runT_may bat.tx (mayT_iff.1 h1); rw [h3] at h; exact ⟨h.1.1, h.2.1⟩
          · rw [h2, h3]; exact ⟨by simp, by simp⟩)
        clear hG6
        clear b_0 b_1 b_2 b_3 b_4 d_0 d_1 d_2
        obtain ⟨⟨b_0, b_1, b_2, b_3, b_4⟩, ⟨d_0, d_1, d_2⟩⟩ := HCL.out u hbu
        go_wp2_with fail
        refine (ref0_CopyBatch bat tA tn tc _ (HTX.out.up hbu) (by omega)).mono ?_
        rintro e v1 ⟨A7, c7, rfl, hx7, hb7⟩
        have hG7 : Blk (v1.alloc (.cells #[.int .i64 bat.au, .int .i64 bat.n, .slice A7 tn c7] 59)) v1.heap.size 59 [.int .i64 bat.au, .int .i64 bat.n, .slice A7 tn c7] := Blk.new v1 59 [.int .i64 bat.au, .int .i64 bat.n, .slice A7 tn c7]
        have hbA : Below v1.heap.size v1 (v1.alloc (.cells #[.int .i64 bat.au, .int .i64 bat.n, .slice A7 tn c7] 59)) := by (repeat (first | (with_reducible exact Below.refl _ _) | (with_reducible assumption) | (with_reducible apply bel_alloc) | (with_reducible apply bel_drew) | (with_reducible apply bel_drewN) | (with_reducible refine bel_trans ?_ (by with_reducible assumption)) | (with_reducible refine bel_trans ?_ (HF.out _)) | (with_reducible refine bel_set ?_ (by simp) _) | (with_reducible refine bel_set ?_ (by simp; omega) _) | (with_reducible refine bel_set ?_ (by omega) _)))
        obtain ⟨g7, hg7⟩ : ∃ g, g = v1.heap.size := ⟨_, rfl⟩
        rw [← hg7] at hG7
        go_upto_region 11 with fail
        rw [← hg7]
        generalize (v1.alloc (.cells #[.int .i64 bat.au, .int .i64 bat.n, .slice A7 tn c7] 59)) = v at *
        have hbuv := bel_trans hb7 hbA
        have hbkv := bel_trans hbu hbuv
        have hbwv := bel_trans hbw hbkv
        have HG7 := Lib.hid hG7
        have HTX7 := Lib.hid (hx7.up hbA)
        have hl7 := hG7.lt
        clear hx7 hG7 hg7 hb7 hbA
        clear b_0 b_1 b_2 b_3 b_4 d_0 d_1 d_2
        obtain ⟨⟨b_0, b_1, b_2, b_3, b_4⟩, ⟨d_0, d_1, d_2⟩⟩ := HCL.out v hbkv
        have f_0 := (HG7.out.box).2 0 _ rfl; have f_1 := (HG7.out.box).2 1 _ rfl; have f_2 := (HG7.out.box).2 2 _ rfl
        go_wp2_with fail
        refine (table_Batch_any pA pn pc D.p qA qn qc D.q bat A7 tn c7 z LW QW NN y0 _ (HP.out.up hbwv) (HQ.out.up hbwv) HTX7.out HZ.out).mono ?_
        rintro e v2 ⟨vp, va, rfl, hp8, ha8, hd8, hb8⟩
        obtain ⟨A8, n8, c8, rfl, hn8⟩ := pnamed hp8 (by have := HWL.out.1; omega)
        obtain ⟨B8, m8, d8, rfl, hm8⟩ := anamed ha8 (by have := HWL.out.2; omega)
        have hT8 : TabR (v2.alloc (.cells #[.slice A8 n8 c8, .slice B8 m8 d8] 25)) v.heap.size v2.heap.size (.slice A8 n8 c8) (.slice B8 m8 d8) LW QW := tab_new hp8 ha8 hd8 (Nat.le_refl _) hb8.size
        have hbB : Below v.heap.size v (v2.alloc (.cells #[.slice A8 n8 c8, .slice B8 m8 d8] 25)) := by (repeat (first | (with_reducible exact Below.refl _ _) | (with_reducible assumption) | (with_reducible apply bel_alloc) | (with_reducible apply bel_drew) | (with_reducible apply bel_drewN) | (with_reducible refine bel_trans ?_ (by with_reducible assumption)) | (with_reducible refine bel_trans ?_ (HF.out _)) | (with_reducible refine bel_set ?_ (by simp) _) | (with_reducible refine bel_set ?_ (by simp; omega) _) | (with_reducible refine bel_set ?_ (by omega) _)))
        obtain ⟨g8, hg8⟩ : ∃ g, g = v2.heap.size := ⟨_, rfl⟩
        rw [← hg8] at hT8
        go_upto_region 12 with fail
        rw [← hg8]
        generalize (v2.alloc (.cells #[.slice A8 n8 c8, .slice B8 m8 d8] 25)) = y at *
        obtain ⟨-, -, hP8, hA8, -, -⟩ := hT8.rows (by have := HWL.out.1; omega) (by have := HWL.out.2; omega)
        have HP8 := Lib.hid hP8
        have HA8 := Lib.hid hA8
        have hbky := bel_trans hbkv hbB
        have hbuy := bel_trans hbuv hbB
        have hl8 := hT8.blk.lt
        have hly := (HG7.out.up hbB).lt
        have hl6 := (HG6.out.up hbuy).lt
        have hlb : bb < y.heap.size := Nat.lt_of_lt_of_le HXC.out.1 hbky.size
        have hlw : w.heap.size < y.heap.size := Nat.lt_of_lt_of_le hgB hbky.size
        clear b_0 b_1 b_2 b_3 b_4 d_0 d_1 d_2 f_0 f_1 f_2
        obtain ⟨⟨b_0, b_1, b_2, b_3, b_4⟩, ⟨d_0, d_1, d_2⟩⟩ := HCL.out y hbky
        have t_0 := (hT8.blk.box).2 0 _ rfl; have t_1 := (hT8.blk.box).2 1 _ rfl
        have f_0 := ((HG7.out.up hbB).box).2 0 _ rfl; have f_1 := ((HG7.out.up hbB).box).2 1 _ rfl; have f_2 := ((HG7.out.up hbB).box).2 2 _ rfl
        have o_0 := ((HG6.out.up hbuy).box).2 0 _ rfl; have o_1 := ((HG6.out.up hbuy).box).2 1 _ rfl
        clear hT8 hP8 hA8 hp8 ha8 hd8 hn8 hm8 hg8
        have hq1 : (y0 != y0) = false := by simp
        have hq2 : ((NN : Int) != (NN : Int)) = false := by simp
        go_cut [85] from 61 to 85 (fun s85 wx => s85 = .bool false ∧ Below y.heap.size y wx)
        case first =>
          refine wp_region_fam (by kernel_rfl) (by kernel_rfl) (fun ι F hne hF hcl => ?_)
          have hcF0 := fun n o => (bcell (hF n)).1 (w.heap.size) o (by first | (simp; done) | (simp; omega) | omega)
          have hcF1 := fun n o => (bcell (hF n)).1 (bb) o (by first | (simp; done) | (simp; omega) | omega)
          have hcF2 := fun n o => (bcell (hF n)).1 (wk.heap.size) o (by first | (simp; done) | (simp; omega) | omega)
          have hcF3 := fun n o => (bcell (hF n)).1 (g7) o (by first | (simp; done) | (simp; omega) | omega)
          have hcF4 := fun n o => (bcell (hF n)).1 (g8) o (by first | (simp; done) | (simp; omega) | omega)
          have HF := Lib.hid hF; clear hF
          have HC := Lib.hid hcl; clear hcl
          repeat (any_goals (first
           | go_big_quiet_step (first | (go_at_call 18; exact Calls.fam_same (law22_num _ _)) | (go_at_call 22; exact Calls.fam HC.out (ref0_EqTable A8 n8 c8 B8 m8 d8 A6 n6 c6 B6 m6 d6 LW QW _ (HP8.out.up (HF.out _)) (HA8.out.up (HF.out _)) ((HR6.out.1.up hbuy).up (HF.out _)) ((HR6.out.2.up hbuy).up (HF.out _)))) | (go_at_call 32; exact Calls.fam HC.out (ref0_EqBatch bat A7 tn c7 tA tn tc _ ((HTX7.out.up hbB).up (HF.out _)) ((HTX.out.up hbky).up (HF.out _)))))
           | (refine wpQuiet_guard _ _ _ rfl rfl ?_; (fail_if_success (intro b' hb; have h2 := hb.symm; have : b' = true := h2.trans (by with_reducible rfl))); (fail_if_success (intro b' hb; have h2 := hb.symm; have : b' = false := h2.trans (by with_reducible rfl))); intro b' hb; simp only [hb]; cases b' <;> (try simp only [Bool.not_eq_true', Bool.not_eq_false', decide_eq_true_eq, decide_eq_false_iff_not, Int.not_lt, Int.not_le, Bool.and_eq_true, Bool.or_eq_true, Bool.or_eq_false_iff, beq_iff_eq, beq_eq_false_iff_ne, Int.natCast_pos] at hb))))
          all_goals (refine wpQuiet_nil ?_; intro nq)
          all_goals (try (exfalso; omega))
          have hFwg := HF.out nq
          clear HF HC hne
          generalize F nq = wg at *
          go_wp2_with fail
          go_meet
          exact ⟨rfl, hFwg⟩
        case rest =>
        obtain ⟨rfl, hbz⟩ := hcut
        have hbkz := bel_trans hbky hbz
        go_wp2_with fail
        (first | (go_round; (case rel => exact ⟨k + 1, by omega, by go_num, Lib.hid (HB.out.up hbkz), bel_trans hbw hbkz⟩); (case measure => (simp [intOf] <;> omega))) | (go_roundw; (case rel => exact ⟨k + 1, by omega, by go_num, Lib.hid (HB.out.up hbkz), bel_trans hbw hbkz⟩); (case measure => (simp [intOf] <;> omega))) | (refine ⟨?_, by simp [intOf] <;> omega⟩; (repeat apply Exists.intro); refine ⟨?rel, ?fr⟩; (case fr => ((repeat' apply And.intro) <;> rfl)); (case rel => exact ⟨k + 1, by omega, by go_num, Lib.hid (HB.out.up hbkz), bel_trans hbw hbkz⟩)))
      · have b_0 := (HB.out).2 0 _ rfl; have b_1 := (HB.out).2 1 _ rfl; have b_2 := (HB.out).2 2 _ rfl; have b_3 := (HB.out).2 3 _ rfl; have b_4 := (HB.out).2 4 _ rfl
        clear b_0 b_1 b_2 b_4
        by_cases h1 : k < bn
        · have h2 : ¬ k < 30 := fun h => hlt ⟨h1, h⟩
          clear hlt
          go_wp2_with (go_at_call 19; refine (law22_wakes _).mono ?_; rintro e w9 ⟨rfl, hb9⟩)
          go_ret
          exact ⟨rfl, bel_trans hbw hb9⟩
        · clear hlt
          go_wp2_with (go_at_call 19; refine (law22_wakes _).mono ?_; rintro e w9 ⟨rfl, hb9⟩)
          go_ret
          exact ⟨rfl, bel_trans hbw hb9⟩
end Go.Proofs.Ytgljmljmljccgaa
