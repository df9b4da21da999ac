/- Layer 16: what is heavy, num, wakes. -/
import Derived.Test.YthpljlffjbodpaaFd
import Derived.Test.YthpljlffjbodpaaP
namespace Go.Proofs.Ythpljlffjbodpaa
open Go.RowKit
set_option linter.unusedSimpArgs false
set_option linter.unusedVariables false

set_option maxRecDepth 100000 in
set_option maxHeartbeats 1000000 in
theorem law16_heavy (v0 v1 : Value) (A : Option Addr) (n c : Nat) (certs : List CertD) (iA : Option Addr) (im ic : Nat) (lA : Option Addr) (lm lc : Nat) (w : World) (hl : CertsR w A n certs) :
    Calls Try.prog 37 #[.agg #[v0, v1, .slice A n c, .slice iA im ic, .slice lA lm lc]] w fun e w' => RetB e ∧ Below w.heap.size w w' := by
  have HL := Lib.hid hl
  clear hl
  go_enter Try.func37, Try.ntmps37
  go_wp2_with (go_at_call 50; refine (law14_Heavy _ _ _ _ _ certs _ (HL.out.up (by (repeat (first | (with_reducible exact Below.refl _ _) | (with_reducible assumption) | (with_reducible apply bel_alloc) | (with_reducible apply bel_drew) | (with_reducible apply bel_drewN) | (with_reducible refine bel_trans ?_ (by with_reducible assumption)) | (with_reducible refine bel_trans ?_ (HF.out _)) | (with_reducible refine bel_set ?_ (by simp) _) | (with_reducible refine bel_set ?_ (by simp; omega) _) | (with_reducible refine bel_set ?_ (by omega) _)))))).mono ?_; rintro e w1 ⟨⟨y, rfl⟩, hb1⟩; have hz_w1 : w.heap.size + 1 ≤ w1.heap.size := (by have hq := (hb1).size; (try simp at hq); omega); have hc0_w1 := fun o => (bcell hb1).1 (w.heap.size) o (by first | (simp; done) | (simp; omega) | omega))
  all_goals
    go_ret
    exact ⟨RetB.mk _, by (repeat (first | (with_reducible exact Below.refl _ _) | (with_reducible assumption) | (with_reducible apply bel_alloc) | (with_reducible apply bel_drew) | (with_reducible apply bel_drewN) | (with_reducible refine bel_trans ?_ (by with_reducible assumption)) | (with_reducible refine bel_trans ?_ (HF.out _)) | (with_reducible refine bel_set ?_ (by simp) _) | (with_reducible refine bel_set ?_ (by simp; omega) _) | (with_reducible refine bel_set ?_ (by omega) _)))⟩
theorem law16_num (x : Int) (w : World) : Calls Try.prog 43 #[.int .i64 x] w fun e w' => e = .returned (.int .i64 x) ∧ w = w' := by
  go_enter Try.func43, Try.ntmps43
  go_wp2
  go_ret
  exact ⟨rfl, rfl⟩
def wC1 : CertD := ⟨⟨1, 1, [], []⟩, 1, [1]⟩
def wC2 : CertD := ⟨⟨1, 2, [], [1]⟩, 2, [1]⟩
def wC3 : CertD := ⟨⟨1, 3, [], [2]⟩, 3, [1]⟩
def wD3 : DagD := ⟨1, 0, [wC1, wC2, wC3]⟩
theorem cris_nil (lo hi : Int) : crisS [] lo hi = true := dec_iff.2 ⟨fun j hj => absurd hj (by simp), fun j hj => absurd hj (by simp)⟩
theorem cris_one (x lo hi : Int) (h1 : lo ≤ x) (h2 : x ≤ hi) : crisS [x] lo hi = true := dec_iff.2 ⟨fun j hj => absurd hj (by simp), fun j hj => by
  obtain rfl : j = 0 := by simp at hj; omega
  exact ⟨h1, h2⟩⟩
theorem w3_may : mayS wD3 = true := by
  refine mayS_iff.2 ⟨by decide, by decide, by decide, by decide, fun k hk => ?_⟩
  have e0 := cris_nil 1 65536
  have e1 := cris_one 1 1 1 (by omega) (by omega)
  have e2 := cris_one 1 1 65536 (by omega) (by omega)
  have e3 := cris_one 2 1 65536 (by omega) (by omega)
  obtain rfl | rfl | rfl : k = 0 ∨ k = 1 ∨ k = 2 := by simp [wD3] at hk; omega
  · refine ⟨?_, by decide, by decide, fun h => absurd h (by decide), fun i hi => absurd hi (by simp [wD3, wC1, cth])⟩
    simp [certS, headS, isS, digS, digsS, wD3, wC1, cth, e0, e1]
  · refine ⟨?_, by decide, by decide, fun _ => by decide, fun i hi => ?_⟩
    · simp [certS, headS, isS, digS, digsS, wD3, wC2, cth, e0, e1, e2]
    · obtain rfl : i = 0 := by simp [wD3, wC2, cth] at hi; omega
      intro _; decide
  · refine ⟨?_, by decide, by decide, fun _ => by decide, fun i hi => ?_⟩
    · simp [certS, headS, isS, digS, digsS, wD3, wC3, cth, e0, e1, e3]
    · obtain rfl : i = 0 := by simp [wD3, wC3, cth] at hi; omega
      intro _; decide
theorem w3_direct : diB wD3 2 = true ∧ asE wD3 2 = 0 := by
  have h : askS wD3 2 = true := by unfold askS; rw [w3_may]; decide
  have h2 : directS wD3 2 = true := by decide
  unfold diB asE
  rw [h, h2]; simp
def WakeR (w : World) (k : Nat) (wr : World) : Prop := ∃ v ps, Blk wr w.heap.size 24 [.int .i64 1, .int .i64 0, v] ∧ OwnC wr (w.heap.size + 1) v ps (wD3.certs.take k) ∧ Below w.heap.size w wr
theorem IntsR.one {w : World} {g : Nat} {x : Int} (h : BoxR w g [.int .i64 x]) : IntsR w (some ⟨g, 0, none⟩) 1 [x] := IntsR.box (l := [x]) h (by simp)
theorem new_at {B g : Nat} (h : B ≤ g) : NewS B (some ⟨g, 0, none⟩) := fun b off sp e => by injection e with e; injection e with e1 e2 e3; omega
theorem new_none {B : Nat} : NewS B none := fun b off sp e => by cases e
theorem OwnC.cap {w : World} {B : Nat} {v : Value} {ps l} (h : OwnC w B v ps l) (hl : l.length ≤ 9223372036854775807) : ∃ A c, v = .slice A l.length c ∧ CertsR w A l.length l ∧ l.length ≤ c ∧ c ≤ 9223372036854775807 := by
  obtain ⟨A, c, e, hC, _⟩ := h.certs hl
  refine ⟨A, c, e, hC, ?_⟩
  rcases h.1.2 with ⟨e2, hn⟩ | ⟨g, cap, cur, e2, hb, hgg, h1, h2, _⟩
  · rw [e] at e2; injection e2 with e3 e4 e5; omega
  · rw [e] at e2; injection e2 with e3 e4 e5
    have : cap ≤ 9223372036854775807 := h2
    omega
set_option maxRecDepth 100000 in
set_option maxHeartbeats 2000000 in
theorem law16_wakes (w : World) : Calls Try.prog 44 #[] w fun e w' => e = .returned (.bool true) ∧ Below w.heap.size w w' := by
  have hw := w3_direct
  have HW := Lib.hid hw
  clear hw
  go_enter Try.func44, Try.ntmps44
  go_wp2_with fail
  go_loopw [2] (fun ir wr => (ir = .int .i64 1 ∧ WakeR w 0 wr) ∨ (ir = .int .i64 2 ∧ WakeR w 1 wr) ∨ (ir = .int .i64 3 ∧ WakeR w 2 wr) ∨ (ir = .int .i64 4 ∧ WakeR w 3 wr)) (fun ir _ => (4 - intOf ir).toNat)
  case atStart => exact .inl ⟨rfl, .slice none 0 0, [], Blk.new' _ _ () rfl rfl, OwnC.nil _ _, by (repeat (first | (with_reducible exact Below.refl _ _) | (with_reducible assumption) | (with_reducible apply bel_alloc) | (with_reducible apply bel_drew) | (with_reducible apply bel_drewN) | (with_reducible refine bel_trans ?_ (by with_reducible assumption)) | (with_reducible refine bel_trans ?_ (HF.out _)) | (with_reducible refine bel_set ?_ (by simp) _) | (with_reducible refine bel_set ?_ (by simp; omega) _) | (with_reducible refine bel_set ?_ (by omega) _)))⟩
  case round =>
    rcases hrel with ⟨rfl, v, ps, hK, hO, hbw⟩ | ⟨rfl, v, ps, hK, hO, hbw⟩ | ⟨rfl, v, ps, hK, hO, hbw⟩ | ⟨rfl, v, ps, hK, hO, hbw⟩
    all_goals
      (obtain ⟨wx, hwx⟩ : ∃ x, x = wr := ⟨_, rfl⟩); subst hwx
      have hb3 := hK.box
      have b_0 := (hb3).2 0 _ rfl; have b_1 := (hb3).2 1 _ rfl; have b_2 := (hb3).2 2 _ rfl
      have hf0 := hK.frozen 2
      have hlt := hK.lt
      have hvl := fun g hg => (hO.lt g hg).2
      have HVL := Lib.hid hvl
      clear hvl hb3
    · have hX : Below wx.heap.size wx (((wx.alloc (.cells #[.int .i64 1] 3)).alloc (.cells #[.int .i64 1, .int .i64 1, .slice none 0 0, .slice none 0 0, .int .i64 1, .slice (some ⟨wx.heap.size, 0, none⟩) 1 1] 49)).alloc (.cells (certCells (⟨⟨⟨none, 0, 0⟩, ⟨none, 0, 0⟩⟩, ⟨some ⟨wx.heap.size, 0, none⟩, 1, 1⟩⟩ : CertP) wC1).toArray 49)) := by (repeat (first | (with_reducible exact Below.refl _ _) | (with_reducible assumption) | (with_reducible apply bel_alloc) | (with_reducible apply bel_drew) | (with_reducible refine bel_trans ?_ (by with_reducible assumption)) | ((with_reducible refine bel_set3 ?_ ?_); rotate_left; (first | omega | (simp; done) | (simp; omega)))))
      have hX1 : Below (wx.alloc (.cells #[.int .i64 1] 3)).heap.size (wx.alloc (.cells #[.int .i64 1] 3)) (((wx.alloc (.cells #[.int .i64 1] 3)).alloc (.cells #[.int .i64 1, .int .i64 1, .slice none 0 0, .slice none 0 0, .int .i64 1, .slice (some ⟨wx.heap.size, 0, none⟩) 1 1] 49)).alloc (.cells (certCells (⟨⟨⟨none, 0, 0⟩, ⟨none, 0, 0⟩⟩, ⟨some ⟨wx.heap.size, 0, none⟩, 1, 1⟩⟩ : CertP) wC1).toArray 49)) := by (repeat (first | (with_reducible exact Below.refl _ _) | (with_reducible assumption) | (with_reducible apply bel_alloc) | (with_reducible apply bel_drew) | (with_reducible refine bel_trans ?_ (by with_reducible assumption)) | ((with_reducible refine bel_set3 ?_ ?_); rotate_left; (first | omega | (simp; done) | (simp; omega)))))
      have hR : CertR (((wx.alloc (.cells #[.int .i64 1] 3)).alloc (.cells #[.int .i64 1, .int .i64 1, .slice none 0 0, .slice none 0 0, .int .i64 1, .slice (some ⟨wx.heap.size, 0, none⟩) 1 1] 49)).alloc (.cells (certCells (⟨⟨⟨none, 0, 0⟩, ⟨none, 0, 0⟩⟩, ⟨some ⟨wx.heap.size, 0, none⟩, 1, 1⟩⟩ : CertP) wC1).toArray 49)) (⟨⟨⟨none, 0, 0⟩, ⟨none, 0, 0⟩⟩, ⟨some ⟨wx.heap.size, 0, none⟩, 1, 1⟩⟩ : CertP) wC1 := ⟨⟨IntsR.nil _ _, IntsR.nil _ _⟩, IntsR.one ((BoxR.new wx [.int .i64 1] 3).up hX1)⟩
      have hNw : CertNew wx.heap.size (⟨⟨⟨none, 0, 0⟩, ⟨none, 0, 0⟩⟩, ⟨some ⟨wx.heap.size, 0, none⟩, 1, 1⟩⟩ : CertP) := ⟨⟨new_none, new_none⟩, new_at (by omega)⟩
      have hA := hR.toA hNw (blk := v.ownBlock) HVL.out
      have hBX : BoxR (((wx.alloc (.cells #[.int .i64 1] 3)).alloc (.cells #[.int .i64 1, .int .i64 1, .slice none 0 0, .slice none 0 0, .int .i64 1, .slice (some ⟨wx.heap.size, 0, none⟩) 1 1] 49)).alloc (.cells (certCells (⟨⟨⟨none, 0, 0⟩, ⟨none, 0, 0⟩⟩, ⟨some ⟨wx.heap.size, 0, none⟩, 1, 1⟩⟩ : CertP) wC1).toArray 49)) (wx.heap.size + 2) (certCells (⟨⟨⟨none, 0, 0⟩, ⟨none, 0, 0⟩⟩, ⟨some ⟨wx.heap.size, 0, none⟩, 1, 1⟩⟩ : CertP) wC1) := BoxR.new' _ _ _ (by simp [World.setCell])
      have HX := Lib.hid hX
      have HA := Lib.hid hA
      have HBX := Lib.hid hBX
      have HNW := Lib.hid hNw
      have HO := Lib.hid hO
      have hne1 : ¬ w.heap.size = wx.heap.size + 1 := by omega
      have hne2 : ¬ wx.heap.size + 1 = w.heap.size := by omega
      clear hX hX1 hR hNw hA hBX hO
      go_wp2_with (at_builtin; refine wpList_appC rfl (.tmp 24) (.tmp 26) rfl (w.heap.size + 1) v ps (wD3.certs.take 0) rfl (HO.out.up HX.out) _ (⟨⟨⟨none, 0, 0⟩, ⟨none, 0, 0⟩⟩, ⟨some ⟨wx.heap.size, 0, none⟩, 1, 1⟩⟩ : CertP) wC1 rfl HBX.out HA.out (cert_new HNW.out (by omega)) (by simp [wD3]) (Nat.le_trans hlt HX.out.size) ?_; intro v2 w4 hown4 hb4; obtain ⟨A4, c4, rfl, _, _, _⟩ := hown4.cap (by simp [wD3]); have hK4 := (hK.up HX.out).below hb4 (by omega); have hc4 := hK4.box.2 2 _ rfl; have hf4 := hK4.frozen 2)
      have hfin : WakeR w 1 (w4.setCell ⟨w.heap.size, 2, none⟩ (.slice A4 1 c4)) := ⟨.slice A4 1 c4, _, hK4.set_ 2 _, hown4.setLow (by omega), bel_set3 ((bel_trans hbw HX.out).trans (hb4.mono (by omega))) (Nat.le_refl _)⟩
      (first | (go_round; (case rel => exact .inr (.inl ⟨rfl, hfin⟩)); (case measure => (simp [intOf] <;> omega))) | (go_roundw; (case rel => exact .inr (.inl ⟨rfl, hfin⟩)); (case measure => (simp [intOf] <;> omega))) | (refine ⟨?_, by simp [intOf] <;> omega⟩; (repeat apply Exists.intro); refine ⟨?rel, ?fr⟩; (case fr => ((repeat' apply And.intro) <;> rfl)); (case rel => exact .inr (.inl ⟨rfl, hfin⟩))))
    · have hX : Below wx.heap.size wx ((((wx.alloc (.cells #[.int .i64 1] 3)).alloc (.cells #[.int .i64 1, .int .i64 2, .slice none 0 0, .slice (some ⟨wx.heap.size + 1 + 1, 0, none⟩) 1 1, .int .i64 2, .slice (some ⟨wx.heap.size, 0, none⟩) 1 1] 49)).alloc (.cells #[.int .i64 1] 3)).alloc (.cells (certCells (⟨⟨⟨none, 0, 0⟩, ⟨some ⟨wx.heap.size + 1 + 1, 0, none⟩, 1, 1⟩⟩, ⟨some ⟨wx.heap.size, 0, none⟩, 1, 1⟩⟩ : CertP) wC2).toArray 49)) := bel_alloc (bel_alloc (bel_alloc (bel_alloc (Below.refl _ _))))
      have hX1 : Below (wx.alloc (.cells #[.int .i64 1] 3)).heap.size (wx.alloc (.cells #[.int .i64 1] 3)) ((((wx.alloc (.cells #[.int .i64 1] 3)).alloc (.cells #[.int .i64 1, .int .i64 2, .slice none 0 0, .slice (some ⟨wx.heap.size + 1 + 1, 0, none⟩) 1 1, .int .i64 2, .slice (some ⟨wx.heap.size, 0, none⟩) 1 1] 49)).alloc (.cells #[.int .i64 1] 3)).alloc (.cells (certCells (⟨⟨⟨none, 0, 0⟩, ⟨some ⟨wx.heap.size + 1 + 1, 0, none⟩, 1, 1⟩⟩, ⟨some ⟨wx.heap.size, 0, none⟩, 1, 1⟩⟩ : CertP) wC2).toArray 49)) := bel_alloc (bel_alloc (bel_alloc (Below.refl _ _)))
      have hR : CertR ((((wx.alloc (.cells #[.int .i64 1] 3)).alloc (.cells #[.int .i64 1, .int .i64 2, .slice none 0 0, .slice (some ⟨wx.heap.size + 1 + 1, 0, none⟩) 1 1, .int .i64 2, .slice (some ⟨wx.heap.size, 0, none⟩) 1 1] 49)).alloc (.cells #[.int .i64 1] 3)).alloc (.cells (certCells (⟨⟨⟨none, 0, 0⟩, ⟨some ⟨wx.heap.size + 1 + 1, 0, none⟩, 1, 1⟩⟩, ⟨some ⟨wx.heap.size, 0, none⟩, 1, 1⟩⟩ : CertP) wC2).toArray 49)) (⟨⟨⟨none, 0, 0⟩, ⟨some ⟨wx.heap.size + 1 + 1, 0, none⟩, 1, 1⟩⟩, ⟨some ⟨wx.heap.size, 0, none⟩, 1, 1⟩⟩ : CertP) wC2 := ⟨⟨IntsR.nil _ _, IntsR.one ((BoxR.new' (g := wx.heap.size + 1 + 1) ((wx.alloc (.cells #[.int .i64 1] 3)).alloc (.cells #[.int .i64 1, .int .i64 2, .slice none 0 0, .slice (some ⟨wx.heap.size + 1 + 1, 0, none⟩) 1 1, .int .i64 2, .slice (some ⟨wx.heap.size, 0, none⟩) 1 1] 49)) [.int .i64 1] 3 (by simp)).up (bel_alloc (Below.refl _ _)))⟩, IntsR.one ((BoxR.new wx [.int .i64 1] 3).up hX1)⟩
      have hNw : CertNew wx.heap.size (⟨⟨⟨none, 0, 0⟩, ⟨some ⟨wx.heap.size + 1 + 1, 0, none⟩, 1, 1⟩⟩, ⟨some ⟨wx.heap.size, 0, none⟩, 1, 1⟩⟩ : CertP) := ⟨⟨new_none, new_at (by omega)⟩, new_at (by omega)⟩
      have hA := hR.toA hNw (blk := v.ownBlock) HVL.out
      have hBX : BoxR ((((wx.alloc (.cells #[.int .i64 1] 3)).alloc (.cells #[.int .i64 1, .int .i64 2, .slice none 0 0, .slice (some ⟨wx.heap.size + 1 + 1, 0, none⟩) 1 1, .int .i64 2, .slice (some ⟨wx.heap.size, 0, none⟩) 1 1] 49)).alloc (.cells #[.int .i64 1] 3)).alloc (.cells (certCells (⟨⟨⟨none, 0, 0⟩, ⟨some ⟨wx.heap.size + 1 + 1, 0, none⟩, 1, 1⟩⟩, ⟨some ⟨wx.heap.size, 0, none⟩, 1, 1⟩⟩ : CertP) wC2).toArray 49)) (wx.heap.size + 1 + 1 + 1) (certCells (⟨⟨⟨none, 0, 0⟩, ⟨some ⟨wx.heap.size + 1 + 1, 0, none⟩, 1, 1⟩⟩, ⟨some ⟨wx.heap.size, 0, none⟩, 1, 1⟩⟩ : CertP) wC2) := BoxR.new' _ _ _ (by simp)
      have HX := Lib.hid hX
      have HA := Lib.hid hA
      have HBX := Lib.hid hBX
      have HNW := Lib.hid hNw
      have HO := Lib.hid hO
      have hl1 : w.heap.size < wx.heap.size + 1 := by omega
      have hl2 : w.heap.size < wx.heap.size + 1 + 1 := by omega
      have hl3 : w.heap.size < wx.heap.size + 1 + 1 + 1 := by omega
      have hne1 : ¬ w.heap.size = wx.heap.size + 1 := by omega
      have hne2 : ¬ wx.heap.size + 1 = w.heap.size := by omega
      have hne3 : ¬ w.heap.size = wx.heap.size + 1 + 1 := by omega
      clear hX hX1 hR hNw hA hBX hO
      go_wp2_with (at_builtin; refine wpList_appC rfl (.tmp 24) (.tmp 26) rfl (w.heap.size + 1) v ps (wD3.certs.take 1) rfl (HO.out.up HX.out) _ (⟨⟨⟨none, 0, 0⟩, ⟨some ⟨wx.heap.size + 1 + 1, 0, none⟩, 1, 1⟩⟩, ⟨some ⟨wx.heap.size, 0, none⟩, 1, 1⟩⟩ : CertP) wC2 rfl HBX.out HA.out (cert_new HNW.out (by omega)) (by simp [wD3]) (Nat.le_trans hlt HX.out.size) ?_; intro v2 w4 hown4 hb4; obtain ⟨A4, c4, rfl, _, _, _⟩ := hown4.cap (by simp [wD3]); have hK4 := (hK.up HX.out).below hb4 (by omega); have hc4 := hK4.box.2 2 _ rfl; have hf4 := hK4.frozen 2)
      have hfin : WakeR w 2 (w4.setCell ⟨w.heap.size, 2, none⟩ (.slice A4 2 c4)) := ⟨.slice A4 2 c4, _, hK4.set_ 2 _, hown4.setLow (by omega), bel_set3 ((bel_trans hbw HX.out).trans (hb4.mono (by omega))) (Nat.le_refl _)⟩
      (first | (go_round; (case rel => exact .inr (.inr (.inl ⟨rfl, hfin⟩))); (case measure => (simp [intOf] <;> omega))) | (go_roundw; (case rel => exact .inr (.inr (.inl ⟨rfl, hfin⟩))); (case measure => (simp [intOf] <;> omega))) | (refine ⟨?_, by simp [intOf] <;> omega⟩; (repeat apply Exists.intro); refine ⟨?rel, ?fr⟩; (case fr => ((repeat' apply And.intro) <;> rfl)); (case rel => exact .inr (.inr (.inl ⟨rfl, hfin⟩)))))
    · have hX : Below wx.heap.size wx ((((wx.alloc (.cells #[.int .i64 1] 3)).alloc (.cells #[.int .i64 1, .int .i64 3, .slice none 0 0, .slice (some ⟨wx.heap.size + 1 + 1, 0, none⟩) 1 1, .int .i64 3, .slice (some ⟨wx.heap.size, 0, none⟩) 1 1] 49)).alloc (.cells #[.int .i64 2] 3)).alloc (.cells (certCells (⟨⟨⟨none, 0, 0⟩, ⟨some ⟨wx.heap.size + 1 + 1, 0, none⟩, 1, 1⟩⟩, ⟨some ⟨wx.heap.size, 0, none⟩, 1, 1⟩⟩ : CertP) wC3).toArray 49)) := bel_alloc (bel_alloc (bel_alloc (bel_alloc (Below.refl _ _))))
      have hX1 : Below (wx.alloc (.cells #[.int .i64 1] 3)).heap.size (wx.alloc (.cells #[.int .i64 1] 3)) ((((wx.alloc (.cells #[.int .i64 1] 3)).alloc (.cells #[.int .i64 1, .int .i64 3, .slice none 0 0, .slice (some ⟨wx.heap.size + 1 + 1, 0, none⟩) 1 1, .int .i64 3, .slice (some ⟨wx.heap.size, 0, none⟩) 1 1] 49)).alloc (.cells #[.int .i64 2] 3)).alloc (.cells (certCells (⟨⟨⟨none, 0, 0⟩, ⟨some ⟨wx.heap.size + 1 + 1, 0, none⟩, 1, 1⟩⟩, ⟨some ⟨wx.heap.size, 0, none⟩, 1, 1⟩⟩ : CertP) wC3).toArray 49)) := bel_alloc (bel_alloc (bel_alloc (Below.refl _ _)))
      have hR : CertR ((((wx.alloc (.cells #[.int .i64 1] 3)).alloc (.cells #[.int .i64 1, .int .i64 3, .slice none 0 0, .slice (some ⟨wx.heap.size + 1 + 1, 0, none⟩) 1 1, .int .i64 3, .slice (some ⟨wx.heap.size, 0, none⟩) 1 1] 49)).alloc (.cells #[.int .i64 2] 3)).alloc (.cells (certCells (⟨⟨⟨none, 0, 0⟩, ⟨some ⟨wx.heap.size + 1 + 1, 0, none⟩, 1, 1⟩⟩, ⟨some ⟨wx.heap.size, 0, none⟩, 1, 1⟩⟩ : CertP) wC3).toArray 49)) (⟨⟨⟨none, 0, 0⟩, ⟨some ⟨wx.heap.size + 1 + 1, 0, none⟩, 1, 1⟩⟩, ⟨some ⟨wx.heap.size, 0, none⟩, 1, 1⟩⟩ : CertP) wC3 := ⟨⟨IntsR.nil _ _, IntsR.one ((BoxR.new' (g := wx.heap.size + 1 + 1) ((wx.alloc (.cells #[.int .i64 1] 3)).alloc (.cells #[.int .i64 1, .int .i64 3, .slice none 0 0, .slice (some ⟨wx.heap.size + 1 + 1, 0, none⟩) 1 1, .int .i64 3, .slice (some ⟨wx.heap.size, 0, none⟩) 1 1] 49)) [.int .i64 2] 3 (by simp)).up (bel_alloc (Below.refl _ _)))⟩, IntsR.one ((BoxR.new wx [.int .i64 1] 3).up hX1)⟩
      have hNw : CertNew wx.heap.size (⟨⟨⟨none, 0, 0⟩, ⟨some ⟨wx.heap.size + 1 + 1, 0, none⟩, 1, 1⟩⟩, ⟨some ⟨wx.heap.size, 0, none⟩, 1, 1⟩⟩ : CertP) := ⟨⟨new_none, new_at (by omega)⟩, new_at (by omega)⟩
      have hA := hR.toA hNw (blk := v.ownBlock) HVL.out
      have hBX : BoxR ((((wx.alloc (.cells #[.int .i64 1] 3)).alloc (.cells #[.int .i64 1, .int .i64 3, .slice none 0 0, .slice (some ⟨wx.heap.size + 1 + 1, 0, none⟩) 1 1, .int .i64 3, .slice (some ⟨wx.heap.size, 0, none⟩) 1 1] 49)).alloc (.cells #[.int .i64 2] 3)).alloc (.cells (certCells (⟨⟨⟨none, 0, 0⟩, ⟨some ⟨wx.heap.size + 1 + 1, 0, none⟩, 1, 1⟩⟩, ⟨some ⟨wx.heap.size, 0, none⟩, 1, 1⟩⟩ : CertP) wC3).toArray 49)) (wx.heap.size + 1 + 1 + 1) (certCells (⟨⟨⟨none, 0, 0⟩, ⟨some ⟨wx.heap.size + 1 + 1, 0, none⟩, 1, 1⟩⟩, ⟨some ⟨wx.heap.size, 0, none⟩, 1, 1⟩⟩ : CertP) wC3) := BoxR.new' _ _ _ (by simp)
      have HX := Lib.hid hX
      have HA := Lib.hid hA
      have HBX := Lib.hid hBX
      have HNW := Lib.hid hNw
      have HO := Lib.hid hO
      have hl1 : w.heap.size < wx.heap.size + 1 := by omega
      have hl2 : w.heap.size < wx.heap.size + 1 + 1 := by omega
      have hl3 : w.heap.size < wx.heap.size + 1 + 1 + 1 := by omega
      have hne1 : ¬ w.heap.size = wx.heap.size + 1 := by omega
      have hne2 : ¬ wx.heap.size + 1 = w.heap.size := by omega
      have hne3 : ¬ w.heap.size = wx.heap.size + 1 + 1 := by omega
      clear hX hX1 hR hNw hA hBX hO
      go_wp2_with (at_builtin; refine wpList_appC rfl (.tmp 24) (.tmp 26) rfl (w.heap.size + 1) v ps (wD3.certs.take 2) rfl (HO.out.up HX.out) _ (⟨⟨⟨none, 0, 0⟩, ⟨some ⟨wx.heap.size + 1 + 1, 0, none⟩, 1, 1⟩⟩, ⟨some ⟨wx.heap.size, 0, none⟩, 1, 1⟩⟩ : CertP) wC3 rfl HBX.out HA.out (cert_new HNW.out (by omega)) (by simp [wD3]) (Nat.le_trans hlt HX.out.size) ?_; intro v2 w4 hown4 hb4; obtain ⟨A4, c4, rfl, _, _, _⟩ := hown4.cap (by simp [wD3]); have hK4 := (hK.up HX.out).below hb4 (by omega); have hc4 := hK4.box.2 2 _ rfl; have hf4 := hK4.frozen 2)
      have hfin : WakeR w 3 (w4.setCell ⟨w.heap.size, 2, none⟩ (.slice A4 3 c4)) := ⟨.slice A4 3 c4, _, hK4.set_ 2 _, hown4.setLow (by omega), bel_set3 ((bel_trans hbw HX.out).trans (hb4.mono (by omega))) (Nat.le_refl _)⟩
      (first | (go_round; (case rel => exact .inr (.inr (.inr ⟨rfl, hfin⟩))); (case measure => (simp [intOf] <;> omega))) | (go_roundw; (case rel => exact .inr (.inr (.inr ⟨rfl, hfin⟩))); (case measure => (simp [intOf] <;> omega))) | (refine ⟨?_, by simp [intOf] <;> omega⟩; (repeat apply Exists.intro); refine ⟨?rel, ?fr⟩; (case fr => ((repeat' apply And.intro) <;> rfl)); (case rel => exact .inr (.inr (.inr ⟨rfl, hfin⟩)))))
    · obtain ⟨A, c, rfl, hC, hcap, hcb⟩ := hO.cap (by simp [wD3])
      have HC := Lib.hid hC
      clear hC hO
      go_wp2_with fail
      refine (anchor_Direct A 3 c wD3 2 _ HC.out hcap hcb).mono ?_
      rintro e w4 ⟨rfl, hb4⟩
      rw [HW.out.1, HW.out.2]
      go_wp2_with (go_at_call 43; refine (law16_num _ _).mono ?_; rintro e w' ⟨rfl, rfl⟩)
      go_ret
      exact ⟨rfl, bel_trans hbw hb4⟩
end Go.Proofs.Ythpljlffjbodpaa
