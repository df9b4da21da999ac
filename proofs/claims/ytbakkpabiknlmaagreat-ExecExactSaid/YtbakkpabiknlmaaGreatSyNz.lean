/- Tables: Apply, Batch, at the reference. -/
import Derived.Test.YtbakkpabiknlmaaGreatSyNwa
import Derived.Test.YtbakkpabiknlmaaGreatSyNwb
import Derived.Test.YtbakkpabiknlmaaGreatSyNy
import Derived.Test.YtbakkpabiknlmaaGreatSyPc
import Derived.Deep.CutBlock
import Derived.Deep.RegionHeld3
namespace Go.Proofs.YtbakkpabiknlmaaGreat
open Go.RowKit
set_option linter.unusedSimpArgs false
set_option linter.unusedVariables false

/-- A slice is empty or does not lie in this block. -/
def FarN (A : Option Addr) (n g : Nat) : Prop := n = 0 ∨ ∀ b o s, A = some ⟨b, o, s⟩ → b ≠ g
theorem PairsR.set_far {w : World} {A : Option Addr} {n : Nat} {l : List PairD} (h : PairsR w A n l) {g o : Nat} (hf : FarN A n g) (u : Value) : PairsR (w.setCell ⟨g, o, none⟩ u) A n l := by
  refine ⟨h.1, h.2.1, h.2.2.1, fun hn => ?_⟩
  obtain ⟨b, off, e, hb, hc⟩ := h.2.2.2 hn
  refine ⟨b, off, e, by simpa using hb, fun j v hj => ?_⟩
  rw [← hc j v hj]
  exact World.cell?_of_block (Below.heap_setCell _ _ _ _ ((hf.resolve_left (by omega)) b off none e))
theorem AcctsR.set_far {w : World} {A : Option Addr} {n : Nat} {l : List AcctD} (h : AcctsR w A n l) {g o : Nat} (hf : FarN A n g) (u : Value) : AcctsR (w.setCell ⟨g, o, none⟩ u) A n l := by
  refine ⟨h.1, h.2.1, h.2.2.1, fun hn => ?_⟩
  obtain ⟨b, off, e, hb, hc⟩ := h.2.2.2 hn
  refine ⟨b, off, e, by simpa using hb, fun j v hj => ?_⟩
  rw [← hc j v hj]
  exact World.cell?_of_block (Below.heap_setCell _ _ _ _ ((hf.resolve_left (by omega)) b off none e))
theorem PairsR.farN {w : World} {A : Option Addr} {n : Nat} {l : List PairD} (h : PairsR w A n l) {g : Nat} (hg : w.heap.size ≤ g) : FarN A n g := by
  rcases Nat.eq_zero_or_pos n with h0 | h0
  · exact .inl h0
  · obtain ⟨b, off, e, hb, _⟩ := h.2.2.2 h0
    exact .inr (fun b' o' s' e' => by rw [e] at e'; injection e' with e'; injection e' with e1; omega)
theorem AcctsR.farN {w : World} {A : Option Addr} {n : Nat} {l : List AcctD} (h : AcctsR w A n l) {g : Nat} (hg : w.heap.size ≤ g) : FarN A n g := by
  rcases Nat.eq_zero_or_pos n with h0 | h0
  · exact .inl h0
  · obtain ⟨b, off, e, hb, _⟩ := h.2.2.2 h0
    exact .inr (fun b' o' s' e' => by rw [e] at e'; injection e' with e'; injection e' with e1; omega)
theorem OwnP.farN {w : World} {C : Nat} {A : Option Addr} {n c : Nat} {l : List PairD} (h : OwnP w C (.slice A n c) l) {g : Nat} (hg : g < C) : FarN A n g := .inr (fun b o s e => by
  subst e
  rcases own_shape h with ⟨e2, _⟩ | ⟨g', c2, e2, hg', _⟩
  · injection e2 with e3; cases e3
  · injection e2 with e3; injection e3 with e3; injection e3 with e4; omega)
theorem OwnA.farN {w : World} {C : Nat} {A : Option Addr} {n c : Nat} {l : List AcctD} (h : OwnA w C (.slice A n c) l) {g : Nat} (hg : g < C) : FarN A n g := .inr (fun b o s e => by
  subst e
  rcases own_shape h with ⟨e2, _⟩ | ⟨g', c2, e2, hg', _⟩
  · injection e2 with e3; cases e3
  · injection e2 with e3; injection e3 with e3; injection e3 with e4; omega)
theorem ref22_Apply_ok (A : Option Addr) (n c : Nat) (l : List PairD) (B : Option Addr) (m d : Nat) (q : List AcctD) (x : TxD) (w : World) (hl : PairsR w A n l) (hq : AcctsR w B m q) (hM : MayT l q) (hO : OkT l q x) :
    Calls Tryz.prog 57 #[.agg #[.slice A n c, .slice B m d], .agg #[.int .i64 x.se, .int .i64 x.sq, .string x.k, .string x.v]] w fun e w' => ∃ vp va, e = .returned (.tuple #[.agg #[vp, va], .bool true]) ∧ OwnP w' w.heap.size vp (setP l x) ∧ OwnA w' w.heap.size va (setA q x) ∧ Disj vp va ∧ Below w.heap.size w w' := by
  cases h : khasA q x.se
  · exact ref22_Apply_okF A n c l B m d q x w hl hq hM hO h
  · exact ref22_Apply_okT A n c l B m d q x w hl hq hM hO h
theorem ref22_Apply (A : Option Addr) (n c : Nat) (l : List PairD) (B : Option Addr) (m d : Nat) (q : List AcctD) (x : TxD) (y : Bool) (w : World) (hl : PairsR w A n l) (hq : AcctsR w B m q) (hM : MayT l q) (hy : okT l q x = y) :
    Calls Tryz.prog 57 #[.agg #[.slice A n c, .slice B m d], .agg #[.int .i64 x.se, .int .i64 x.sq, .string x.k, .string x.v]] w fun e w' => ∃ (A' : Option Addr) (n' c' : Nat) (B' : Option Addr) (m' d' : Nat), e = .returned (.tuple #[.agg #[.slice A' n' c', .slice B' m' d'], .bool y]) ∧ PairsR w' A' n' (doP l q x) ∧ AcctsR w' B' m' (doA l q x) ∧ (∀ g, g < w.heap.size → FarN A n g → FarN B m g → FarN A' n' g ∧ FarN B' m' g) ∧ Below w.heap.size w w' := by
  subst hy
  by_cases hO : OkT l q x
  · have e1 : okT l q x = true := (dec_true hO).symm
    rw [(doP_yes e1).1, (doP_yes e1).2, e1]
    refine (ref22_Apply_ok A n c l B m d q x w hl hq hM hO).mono ?_
    rintro e w' ⟨vp, va, rfl, hp, ha, _, hb⟩
    have hM2 := hM.set hO
    obtain ⟨A', c', rfl, hpr, _⟩ := hp.pairs (by have := hM2.1.1; omega)
    obtain ⟨B', d', rfl, har, _⟩ := ha.accts (by have := hM2.2.1; omega)
    exact ⟨A', _, c', B', _, d', rfl, hpr, har, fun g hg _ _ => ⟨hp.farN hg, ha.farN hg⟩, hb⟩
  · have e1 : okT l q x = false := (dec_false hO).symm
    rw [(doP_no e1).1, (doP_no e1).2, e1]
    refine (ref22_Apply_no A n c l B m d q x w hl hq hM hO).mono ?_
    rintro e w' ⟨rfl, hb⟩
    exact ⟨A, n, c, B, m, d, rfl, hl.up hb, hq.up hb, fun g _ h1 h2 => ⟨h1, h2⟩, hb⟩
set_option maxRecDepth 100000 in
set_option maxHeartbeats 8000000 in
theorem ref22_Batch (A : Option Addr) (n c : Nat) (l : List PairD) (B : Option Addr) (m d : Nat) (q : List AcctD) (au bn : Int) (xA : Option Addr) (xn xc : Nat) (tx : List TxD) (LF : List PairD) (QF : List AcctD) (N : Nat) (w : World) (hl : PairsR w A n l) (hq : AcctsR w B m q) (hx : TxsR w xA xn tx) (hM : MayT l q) (hR : runT tx l q = (LF, QF)) (hN : runN tx l q = N) (hxn : xn ≤ 1000000) :
    Calls Tryz.prog 35 #[.agg #[.slice A n c, .slice B m d], .agg #[.int .i64 au, .int .i64 bn, .slice xA xn xc]] w fun e w' => ∃ (A' : Option Addr) (n' c' : Nat) (B' : Option Addr) (m' d' : Nat), e = .returned (.tuple #[.agg #[.slice A' n' c', .slice B' m' d'], .int .i64 N]) ∧ PairsR w' A' n' LF ∧ AcctsR w' B' m' QF ∧ (∀ g, g < w.heap.size → FarN A n g → FarN B m g → FarN A' n' g ∧ FarN B' m' g) ∧ Below w.heap.size w w' := by
  have HL := Lib.hid hl
  have HQ := Lib.hid hq
  have HX := Lib.hid hx
  have HXN := Lib.hid hx.1
  have HM := Lib.hid hM
  have HR := Lib.hid hR
  have HNN := Lib.hid hN
  have HF2 : Hid (FarN A n (w.heap.size + 1 + 1) ∧ FarN B m (w.heap.size + 1 + 1)) := Lib.hid ⟨hl.farN (by omega), hq.farN (by omega)⟩
  have HF0 : Hid (FarN A n w.heap.size ∧ FarN B m w.heap.size) := Lib.hid ⟨hl.farN (Nat.le_refl _), hq.farN (Nat.le_refl _)⟩
  clear hl hq hx hM hR hN
  go_enter Tryz.func35, Tryz.ntmps35
  have hG0 : Blk (((w.alloc (.cells #[.slice A n c, .slice B m d] 25)).alloc (.cells #[.int .i64 au, .int .i64 bn, .slice xA xn xc] 71)).alloc (.cells #[.slice none 0 0, .slice none 0 0] 25)) w.heap.size 25 [.slice A n c, .slice B m d] := (Blk.new w 25 [.slice A n c, .slice B m d]).up (by (repeat (first | (with_reducible exact Below.refl _ _) | (with_reducible assumption) | (with_reducible apply bel_alloc) | (with_reducible apply bel_drew) | (with_reducible apply bel_drewN) | (with_reducible refine bel_trans ?_ (by with_reducible assumption)) | (with_reducible refine bel_trans ?_ (HF.out _)) | (with_reducible refine bel_set ?_ (by simp) _) | (with_reducible refine bel_set ?_ (by simp; omega) _) | (with_reducible refine bel_set ?_ (by omega) _))))
  have hB0 : BoxR (((w.alloc (.cells #[.slice A n c, .slice B m d] 25)).alloc (.cells #[.int .i64 au, .int .i64 bn, .slice xA xn xc] 71)).alloc (.cells #[.slice none 0 0, .slice none 0 0] 25)) (w.heap.size + 1) [.int .i64 au, .int .i64 bn, .slice xA xn xc] := by have q := (BoxR.new (w.alloc (.cells #[.slice A n c, .slice B m d] 25)) [.int .i64 au, .int .i64 bn, .slice xA xn xc] 71).up (w' := (((w.alloc (.cells #[.slice A n c, .slice B m d] 25)).alloc (.cells #[.int .i64 au, .int .i64 bn, .slice xA xn xc] 71)).alloc (.cells #[.slice none 0 0, .slice none 0 0] 25))) (by (repeat (first | (with_reducible exact Below.refl _ _) | (with_reducible assumption) | (with_reducible apply bel_alloc) | (with_reducible apply bel_drew) | (with_reducible apply bel_drewN) | (with_reducible refine bel_trans ?_ (by with_reducible assumption)) | (with_reducible refine bel_trans ?_ (HF.out _)) | (with_reducible refine bel_set ?_ (by simp) _) | (with_reducible refine bel_set ?_ (by simp; omega) _) | (with_reducible refine bel_set ?_ (by omega) _)))); simpa using q
  have hR0 : Blk (((w.alloc (.cells #[.slice A n c, .slice B m d] 25)).alloc (.cells #[.int .i64 au, .int .i64 bn, .slice xA xn xc] 71)).alloc (.cells #[.slice none 0 0, .slice none 0 0] 25)) (w.heap.size + 1 + 1) 25 [.slice none 0 0, .slice none 0 0] := by have q := Blk.new ((w.alloc (.cells #[.slice A n c, .slice B m d] 25)).alloc (.cells #[.int .i64 au, .int .i64 bn, .slice xA xn xc] 71)) 25 [.slice none 0 0, .slice none 0 0]; simpa using q
  have HG0 := Lib.hid hG0
  have HB0 := Lib.hid hB0
  have HR0 := Lib.hid hR0
  clear hG0 hB0 hR0
  go_wp2_with fail
  go_loopw [6, 7] (fun s6 s7 wr => ∃ (k c' : Nat) (l' : List PairD) (q' : List AcctD) (Ak : Option Addr) (nk ck : Nat) (Bk : Option Addr) (mk dk : Nat), k ≤ xn ∧ c' ≤ k ∧ s7 = .int .i64 k ∧ s6 = .int .i64 c' ∧ Hid (Blk wr w.heap.size 25 [.slice Ak nk ck, .slice Bk mk dk]) ∧ Hid (PairsR wr Ak nk l' ∧ AcctsR wr Bk mk q') ∧ Hid (MayT l' q') ∧ Hid (runT (tx.drop k) l' q' = (LF, QF)) ∧ Hid (c' + runN (tx.drop k) l' q' = N) ∧ Hid (∀ g, g ≤ w.heap.size + 1 + 1 → FarN A n g → FarN B m g → FarN Ak nk g ∧ FarN Bk mk g) ∧ Hid (BoxR wr (w.heap.size + 1) [.int .i64 au, .int .i64 bn, .slice xA xn xc]) ∧ Hid (Blk wr (w.heap.size + 1 + 1) 25 [.slice none 0 0, .slice none 0 0]) ∧ Below w.heap.size w wr) (fun _ s7 _ => xn - (intOf s7).toNat)
  case atStart => exact ⟨0, 0, l, q, A, n, c, B, m, d, Nat.zero_le _, Nat.le_refl _, rfl, rfl, HG0, Lib.hid ⟨HL.out.up (by (repeat (first | (with_reducible exact Below.refl _ _) | (with_reducible assumption) | (with_reducible apply bel_alloc) | (with_reducible apply bel_drew) | (with_reducible apply bel_drewN) | (with_reducible refine bel_trans ?_ (by with_reducible assumption)) | (with_reducible refine bel_trans ?_ (HF.out _)) | (with_reducible refine bel_set ?_ (by simp) _) | (with_reducible refine bel_set ?_ (by simp; omega) _) | (with_reducible refine bel_set ?_ (by omega) _)))), HQ.out.up (by (repeat (first | (with_reducible exact Below.refl _ _) | (with_reducible assumption) | (with_reducible apply bel_alloc) | (with_reducible apply bel_drew) | (with_reducible apply bel_drewN) | (with_reducible refine bel_trans ?_ (by with_reducible assumption)) | (with_reducible refine bel_trans ?_ (HF.out _)) | (with_reducible refine bel_set ?_ (by simp) _) | (with_reducible refine bel_set ?_ (by simp; omega) _) | (with_reducible refine bel_set ?_ (by omega) _))))⟩, HM, Lib.hid (by rw [List.drop_zero]; exact HR.out), Lib.hid (by rw [List.drop_zero, Nat.zero_add]; exact HNN.out), Lib.hid (fun g _ h1 h2 => ⟨h1, h2⟩), HB0, HR0, by (repeat (first | (with_reducible exact Below.refl _ _) | (with_reducible assumption) | (with_reducible apply bel_alloc) | (with_reducible apply bel_drew) | (with_reducible apply bel_drewN) | (with_reducible refine bel_trans ?_ (by with_reducible assumption)) | (with_reducible refine bel_trans ?_ (HF.out _)) | (with_reducible refine bel_set ?_ (by simp) _) | (with_reducible refine bel_set ?_ (by simp; omega) _) | (with_reducible refine bel_set ?_ (by omega) _)))⟩
  case round =>
    clear HG0 HB0 HR0
    obtain ⟨k, c', l', q', Ak, nk, ck, Bk, mk, dk, hk, hck, rfl, rfl, HG, HPR, HM', HR', HN', HF, HB, HRs, hbw⟩ := hrel
    (obtain ⟨wk, hwk⟩ : ∃ x, x = wr := ⟨_, rfl⟩); subst hwk
    have hgG := HG.out.lt
    have hgB := HB.out.1
    have hgR := HRs.out.lt
    by_cases hlt : k < xn
    · obtain ⟨xb, xoff, rfl, hxb, hxc⟩ := (HX.out.up hbw).at (by omega)
      obtain ⟨x0, x1, x2, x3⟩ := hxc k hlt
      obtain ⟨hr1, hn1⟩ := runT_step (tx := tx) (k := k) (by rw [HXN.out]; exact hlt) l' q'
      rw [HR'.out] at hr1
      have hn2 := HN'.out
      rw [hn1] at hn2
      obtain ⟨x, hx⟩ : ∃ x, xth tx k = x := ⟨_, rfl⟩
      rw [hx] at x0 x1 x2 x3 hr1 hn2
      obtain ⟨y, hy⟩ : ∃ y, okT l' q' x = y := ⟨_, rfl⟩
      rw [hy] at hn2
      have HY := Lib.hid hy
      have HR1 := Lib.hid hr1.symm
      have HN2 := Lib.hid hn2
      have HM2 : Hid (MayT (doP l' q' x) (doA l' q' x)) := Lib.hid HM'.out.do_
      have hdx : decide ((k : Int) < (xn : Int)) = true := by simp; omega
      have HCL : Hid (∀ Y, Below wk.heap.size wk Y → (Y.cell? ⟨w.heap.size, 0, none⟩ = some (.slice Ak nk ck) ∧ Y.cell? ⟨w.heap.size, 1, none⟩ = some (.slice Bk mk dk)) ∧ Y.cell? ⟨w.heap.size + 1, 2, none⟩ = some (.slice (some ⟨xb, xoff, none⟩) xn xc) ∧ (Y.cell? ⟨xb, xoff + k * 4, none⟩ = some (.int .i64 x.se) ∧ Y.cell? ⟨xb, xoff + k * 4 + 1, none⟩ = some (.int .i64 x.sq) ∧ Y.cell? ⟨xb, xoff + k * 4 + 2, none⟩ = some (.string x.k) ∧ Y.cell? ⟨xb, xoff + k * 4 + 3, none⟩ = some (.string x.v))) := Lib.hid (fun Y hY => ⟨⟨(HG.out.up hY).box.2 0 _ rfl, (HG.out.up hY).box.2 1 _ rfl⟩, (HB.out.up hY).2 2 _ rfl, (hY.cell (p := ⟨xb, xoff + k * 4, none⟩) hxb).trans x0, (hY.cell (p := ⟨xb, xoff + k * 4 + 1, none⟩) hxb).trans x1, (hY.cell (p := ⟨xb, xoff + k * 4 + 2, none⟩) hxb).trans x2, (hY.cell (p := ⟨xb, xoff + k * 4 + 3, none⟩) hxb).trans x3⟩)
      have HFK : Hid (FarN Ak nk wk.heap.size ∧ FarN Bk mk wk.heap.size) := Lib.hid ⟨HPR.out.1.farN (Nat.le_refl _), HPR.out.2.farN (Nat.le_refl _)⟩
      clear hxc hr1 hn1 hn2 hx hy x0 x1 x2 x3
      obtain ⟨⟨g_0, g_1⟩, b_2, ⟨x_0, x_1, x_2, x_3⟩⟩ := HCL.out wk (Below.refl _ _)
      go_upto_region 5 with fail
      clear g_0 g_1 b_2 x_0 x_1 x_2 x_3
      go_cut [8, 9] from 17 to 26 (fun s8 s9 wx => ∃ (g8 : Nat) (A9 : Option Addr) (n9 c9 : Nat) (B9 : Option Addr) (m9 d9 : Nat), wk.heap.size ≤ g8 ∧ s8 = .pointer (some ⟨g8, 0, none⟩) ∧ s9 = .bool y ∧ Blk wx g8 25 [.slice A9 n9 c9, .slice B9 m9 d9] ∧ Hid (PairsR wx A9 n9 (doP l' q' x) ∧ AcctsR wx B9 m9 (doA l' q' x)) ∧ Hid (∀ g, g < wk.heap.size → FarN Ak nk g → FarN Bk mk g → FarN A9 n9 g ∧ FarN B9 m9 g) ∧ Below wk.heap.size wk wx)
      case first =>
        go_region_held3 (fun Y => (Y.cell? ⟨w.heap.size, 0, none⟩ = some (.slice Ak nk ck) ∧ Y.cell? ⟨w.heap.size, 1, none⟩ = some (.slice Bk mk dk)) ∧ Y.cell? ⟨w.heap.size + 1, 2, none⟩ = some (.slice (some ⟨xb, xoff, none⟩) xn xc) ∧ (Y.cell? ⟨xb, xoff + k * 4, none⟩ = some (.int .i64 x.se) ∧ Y.cell? ⟨xb, xoff + k * 4 + 1, none⟩ = some (.int .i64 x.sq) ∧ Y.cell? ⟨xb, xoff + k * 4 + 2, none⟩ = some (.string x.k) ∧ Y.cell? ⟨xb, xoff + k * 4 + 3, none⟩ = some (.string x.v)))
          (exact HCL.out _ (by (repeat (first | (with_reducible exact Below.refl _ _) | (with_reducible assumption) | (with_reducible apply bel_alloc) | (with_reducible apply bel_drew) | (with_reducible apply bel_drewN) | (with_reducible refine bel_trans ?_ (by with_reducible assumption)) | (with_reducible refine bel_trans ?_ (HF.out _)) | ((with_reducible refine bel_set3 ?_ ?_); rotate_left; omega)))))
          ((go_at_call 57; refine (ref22_Apply Ak nk ck l' Bk mk dk q' x y _ (HPR.out.1.up (by (repeat (first | (with_reducible exact Below.refl _ _) | (with_reducible assumption) | (with_reducible apply bel_alloc) | (with_reducible apply bel_drew) | (with_reducible apply bel_drewN) | (with_reducible refine bel_trans ?_ (by with_reducible assumption)) | (with_reducible refine bel_trans ?_ (HF.out _)) | (with_reducible refine bel_set ?_ (by simp) _) | (with_reducible refine bel_set ?_ (by simp; omega) _) | (with_reducible refine bel_set ?_ (by omega) _))))) (HPR.out.2.up (by (repeat (first | (with_reducible exact Below.refl _ _) | (with_reducible assumption) | (with_reducible apply bel_alloc) | (with_reducible apply bel_drew) | (with_reducible apply bel_drewN) | (with_reducible refine bel_trans ?_ (by with_reducible assumption)) | (with_reducible refine bel_trans ?_ (HF.out _)) | (with_reducible refine bel_set ?_ (by simp) _) | (with_reducible refine bel_set ?_ (by simp; omega) _) | (with_reducible refine bel_set ?_ (by omega) _))))) HM'.out HY.out).mono ?_; rintro e w7 ⟨A7, n7, c7, B7, m7, d7, rfl, hP7, hA7, hF7, hb7⟩; have HP7 := Lib.hid hP7; have HA7 := Lib.hid hA7; have HF7 := Lib.hid hF7; clear hF7 hP7 hA7; (try have hcA := fun o => (bcell hb7).1 wk.heap.size o (by first | (simp; done) | (simp; omega) | omega)); (try have hfA := fun o => (bcell hb7).2 wk.heap.size o (by first | (simp; done) | (simp; omega) | omega)); have hzA := hb7.size; (try simp at hzA)))
        · go_wp2_with fail
          go_meet
          exact ⟨_, A7, n7, c7, B7, m7, d7, by omega, rfl, rfl, Blk.new w7 25 [.slice A7 n7 c7, .slice B7 m7 d7], Lib.hid ⟨HP7.out.up (by (repeat (first | (with_reducible exact Below.refl _ _) | (with_reducible assumption) | (with_reducible apply bel_alloc) | (with_reducible apply bel_drew) | (with_reducible apply bel_drewN) | (with_reducible refine bel_trans ?_ (by with_reducible assumption)) | (with_reducible refine bel_trans ?_ (HF.out _)) | (with_reducible refine bel_set ?_ (by simp) _) | (with_reducible refine bel_set ?_ (by simp; omega) _) | (with_reducible refine bel_set ?_ (by omega) _)))), HA7.out.up (by (repeat (first | (with_reducible exact Below.refl _ _) | (with_reducible assumption) | (with_reducible apply bel_alloc) | (with_reducible apply bel_drew) | (with_reducible apply bel_drewN) | (with_reducible refine bel_trans ?_ (by with_reducible assumption)) | (with_reducible refine bel_trans ?_ (HF.out _)) | (with_reducible refine bel_set ?_ (by simp) _) | (with_reducible refine bel_set ?_ (by simp; omega) _) | (with_reducible refine bel_set ?_ (by omega) _))))⟩, Lib.hid (fun g hg h1 h2 => HF7.out g (by simpa using hg) h1 h2), by (repeat (first | (with_reducible exact Below.refl _ _) | (with_reducible assumption) | (with_reducible apply bel_alloc) | (with_reducible apply bel_drew) | (with_reducible apply bel_drewN) | (with_reducible refine bel_trans ?_ (by with_reducible assumption)) | (with_reducible refine bel_trans ?_ (HF.out _)) | ((with_reducible refine bel_set3 ?_ ?_); rotate_left; omega)))⟩
        · go_wp2_with fail
          go_meet
          have hk9 : Blk w7 wk.heap.size 25 [.slice none 0 0, .slice none 0 0] := Blk.up (Blk.new wk.drew 25 [.slice none 0 0, .slice none 0 0]) hb7
          have hf9 := HF7.out wk.heap.size (by simp) HFK.out.1 HFK.out.2
          exact ⟨_, A7, n7, c7, B7, m7, d7, Nat.le_refl _, rfl, rfl, (hk9.set_ 0 _).set_ 1 _, Lib.hid ⟨(HP7.out.set_far hf9.1 _).set_far hf9.1 _, (HA7.out.set_far hf9.2 _).set_far hf9.2 _⟩, Lib.hid (fun g hg h1 h2 => HF7.out g (by simp; omega) h1 h2), by (repeat (first | (with_reducible exact Below.refl _ _) | (with_reducible assumption) | (with_reducible apply bel_alloc) | (with_reducible apply bel_drew) | (with_reducible apply bel_drewN) | (with_reducible refine bel_trans ?_ (by with_reducible assumption)) | (with_reducible refine bel_trans ?_ (HF.out _)) | ((with_reducible refine bel_set3 ?_ ?_); rotate_left; omega)))⟩
      case rest =>
      obtain ⟨g8, A9, n9, c9, B9, m9, d9, hg8, rfl, rfl, hG9, HP9, HF9, hb9⟩ := hcut
      obtain ⟨z, hz⟩ : ∃ x, x = wc := ⟨_, rfl⟩
      subst hz
      have hgz := HG.out.up hb9
      have hl9 := hG9.lt
      have hlz := hgz.lt
      have hfz := hgz.frozen
      have f_0 := (hG9.box).2 0 _ rfl; have f_1 := (hG9.box).2 1 _ rfl
      have e_0 := (hgz.box).2 0 _ rfl; have e_1 := (hgz.box).2 1 _ rfl
      have hne : g8 ≠ w.heap.size := by omega
      have hfg := HF9.out w.heap.size hgG
      have hf0 : FarN A9 n9 w.heap.size ∧ FarN B9 m9 w.heap.size := HF9.out w.heap.size hgG (HF.out w.heap.size (by omega) HF0.out.1 HF0.out.2).1 (HF.out w.heap.size (by omega) HF0.out.1 HF0.out.2).2
      have hGn := (hgz.set_ 0 (.slice A9 n9 c9)).set_ 1 (.slice B9 m9 d9)
      have HGn := Lib.hid hGn
      have HPn : Hid (PairsR ((z.setCell ⟨w.heap.size, 0, none⟩ (.slice A9 n9 c9)).setCell ⟨w.heap.size, 1, none⟩ (.slice B9 m9 d9)) A9 n9 (doP l' q' x) ∧ AcctsR ((z.setCell ⟨w.heap.size, 0, none⟩ (.slice A9 n9 c9)).setCell ⟨w.heap.size, 1, none⟩ (.slice B9 m9 d9)) B9 m9 (doA l' q' x)) := Lib.hid ⟨(HP9.out.1.set_far hf0.1 _).set_far hf0.1 _, (HP9.out.2.set_far hf0.2 _).set_far hf0.2 _⟩
      have HFn : Hid (∀ g, g ≤ w.heap.size + 1 + 1 → FarN A n g → FarN B m g → FarN A9 n9 g ∧ FarN B9 m9 g) := Lib.hid (fun g hg h1 h2 => HF9.out g (by omega) (HF.out g hg h1 h2).1 (HF.out g hg h1 h2).2)
      have HBn : Hid (BoxR ((z.setCell ⟨w.heap.size, 0, none⟩ (.slice A9 n9 c9)).setCell ⟨w.heap.size, 1, none⟩ (.slice B9 m9 d9)) (w.heap.size + 1) [.int .i64 au, .int .i64 bn, .slice (some ⟨xb, xoff, none⟩) xn xc]) := Lib.hid (((HB.out.up hb9).set (a := ⟨w.heap.size, 0, none⟩) (v := .slice A9 n9 c9) (by dsimp only; omega)).set (a := ⟨w.heap.size, 1, none⟩) (v := .slice B9 m9 d9) (by dsimp only; omega))
      have HRn : Hid (Blk ((z.setCell ⟨w.heap.size, 0, none⟩ (.slice A9 n9 c9)).setCell ⟨w.heap.size, 1, none⟩ (.slice B9 m9 d9)) (w.heap.size + 1 + 1) 25 [.slice none 0 0, .slice none 0 0]) := Lib.hid (((HRs.out.up hb9).far (p := ⟨w.heap.size, 0, none⟩) (by dsimp only; omega) _).far (p := ⟨w.heap.size, 1, none⟩) (by dsimp only; omega) _)
      have hbn : Below w.heap.size w ((z.setCell ⟨w.heap.size, 0, none⟩ (.slice A9 n9 c9)).setCell ⟨w.heap.size, 1, none⟩ (.slice B9 m9 d9)) := ((bel_trans hbw hb9).setCell (p := ⟨w.heap.size, 0, none⟩) (Nat.le_refl _) _).setCell (p := ⟨w.heap.size, 1, none⟩) (Nat.le_refl _) _
      clear hgz hG9 hfg hf0 hGn
      cases y
      · go_wp2_with fail
        (first | (go_round; (case rel => exact ⟨k + 1, c', _, _, _, _, _, _, _, _, by omega, by omega, by go_num, rfl, HGn, HPn, HM2, HR1, Lib.hid (by have := HN2.out; simpa using this), HFn, HBn, HRn, hbn⟩); (case measure => (simp [intOf] <;> omega))) | (go_roundw; (case rel => exact ⟨k + 1, c', _, _, _, _, _, _, _, _, by omega, by omega, by go_num, rfl, HGn, HPn, HM2, HR1, Lib.hid (by have := HN2.out; simpa using this), HFn, HBn, HRn, hbn⟩); (case measure => (simp [intOf] <;> omega))) | (refine ⟨?_, by simp [intOf] <;> omega⟩; (repeat apply Exists.intro); refine ⟨?rel, ?fr⟩; (case fr => ((repeat' apply And.intro) <;> rfl)); (case rel => exact ⟨k + 1, c', _, _, _, _, _, _, _, _, by omega, by omega, by go_num, rfl, HGn, HPn, HM2, HR1, Lib.hid (by have := HN2.out; simpa using this), HFn, HBn, HRn, hbn⟩)))
      · go_wp2_with fail
        (first | (go_round; (case rel => exact ⟨k + 1, c' + 1, _, _, _, _, _, _, _, _, by omega, by omega, by go_num, by go_num, HGn, HPn, HM2, HR1, Lib.hid (by have := HN2.out; simp at this; omega), HFn, HBn, HRn, hbn⟩); (case measure => (simp [intOf] <;> omega))) | (go_roundw; (case rel => exact ⟨k + 1, c' + 1, _, _, _, _, _, _, _, _, by omega, by omega, by go_num, by go_num, HGn, HPn, HM2, HR1, Lib.hid (by have := HN2.out; simp at this; omega), HFn, HBn, HRn, hbn⟩); (case measure => (simp [intOf] <;> omega))) | (refine ⟨?_, by simp [intOf] <;> omega⟩; (repeat apply Exists.intro); refine ⟨?rel, ?fr⟩; (case fr => ((repeat' apply And.intro) <;> rfl)); (case rel => exact ⟨k + 1, c' + 1, _, _, _, _, _, _, _, _, by omega, by omega, by go_num, by go_num, HGn, HPn, HM2, HR1, Lib.hid (by have := HN2.out; simp at this; omega), HFn, HBn, HRn, hbn⟩)))
    · have hd : tx.drop k = [] := List.drop_of_length_le (by rw [HXN.out]; omega)
      have hR2 := HR'.out
      rw [hd] at hR2
      have hN3 := HN'.out
      rw [hd] at hN3
      have e1 : l' = LF ∧ q' = QF := by have := hR2; unfold runT at this; exact ⟨congrArg Prod.fst this, congrArg Prod.snd this⟩
      obtain ⟨rfl, rfl⟩ := e1
      have e2 : c' = N := by have := hN3; unfold runN at this; omega
      subst e2
      have hdx : decide ((k : Int) < (xn : Int)) = false := by simp; omega
      clear hd hR2 hN3
      have hrf := HRs.out.frozen
      have hRn := (HRs.out.set_ 0 (.slice Ak nk ck)).set_ 1 (.slice Bk mk dk)
      have s0 := hRn.box.2 0 _ rfl
      have s1 := hRn.box.2 1 _ rfl
      have hfr := HF.out (w.heap.size + 1 + 1) (Nat.le_refl _) HF2.out.1 HF2.out.2
      have HFR := Lib.hid hfr
      have g_0 := (HG.out.box).2 0 _ rfl; have g_1 := (HG.out.box).2 1 _ rfl
      have b_0 := (HB.out).2 0 _ rfl; have b_1 := (HB.out).2 1 _ rfl; have b_2 := (HB.out).2 2 _ rfl
      have r_0 := (HRs.out.box).2 0 _ rfl; have r_1 := (HRs.out.box).2 1 _ rfl
      clear hRn hfr
      go_wp2_with fail
      exact bodyPost_ret (v := .tuple #[.agg #[.slice Ak nk ck, .slice Bk mk dk], .int .i64 c']) (by simp [results, Tryz.results35, go_sem, s0, s1]) rfl ⟨Ak, nk, ck, Bk, mk, dk, rfl, (HPR.out.1.set_far HFR.out.1 _).set_far HFR.out.1 _, (HPR.out.2.set_far HFR.out.2 _).set_far HFR.out.2 _, fun g hg h1 h2 => HF.out g (by omega) h1 h2, (hbw.setCell (p := ⟨w.heap.size + 1 + 1, 0, none⟩) (by dsimp only; omega) _).setCell (p := ⟨w.heap.size + 1 + 1, 1, none⟩) (by dsimp only; omega) _⟩
end Go.Proofs.YtbakkpabiknlmaaGreat
