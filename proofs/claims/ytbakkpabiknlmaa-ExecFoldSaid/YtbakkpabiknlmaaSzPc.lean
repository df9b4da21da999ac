/- Batches: All, Batch, at the program; what may be, at the reference. -/
import Derived.Test.YtbakkpabiknlmaaSzPb
namespace Go.Proofs.Ytbakkpabiknlmaa
open Go.RowKit
set_option linter.unusedSimpArgs false
set_option linter.unusedVariables false
variable {tb : TypeId} {rs : List Value}

set_option maxRecDepth 100000 in
set_option maxHeartbeats 4000000 in
theorem table_All (C bt : Nat) (vp va : Value) (l : List PairD) (q : List AcctD) (au bn : Int) (A : Option Addr) (m c : Nat) (tx : List TxD) (LF : List PairD) (QF : List AcctD) (N : Nat) (w : World) (hT : TabX tb rs w C bt vp va l q) (hM : MayT l q) (htx : ∀ W, Below C w W → TxsR W A m tx) (hR : runT tx l q = (LF, QF)) (hN : runN tx l q = N) (hm : m ≤ 1000000) :
    Calls Try.prog 41 #[.pointer (some ⟨bt, 0, none⟩), .agg #[.int .i64 au, .int .i64 bn, .slice A m c]] w fun e w' => e = .returned (.int .i64 N) ∧ ∃ vp' va', TabX tb rs w' C bt vp' va' LF QF ∧ DoK w w' bt vp va vp' va' := by
  have HT := Lib.hid hT
  have HM := Lib.hid hM
  have HTX := Lib.hid htx
  have HR := Lib.hid hR
  have HNN := Lib.hid hN
  have HTN : Hid (tx.length = m) := Lib.hid (htx w (Below.refl _ _)).1
  have hC : C ≤ w.heap.size := Nat.le_trans hT.cb (Nat.le_of_lt hT.blk.lt)
  have hbt := hT.blk.lt
  have hnpw : vp.ownBlock ≠ some w.heap.size := fun e => by have := (own_lt hT.p _ e).2; omega
  have hnaw : va.ownBlock ≠ some w.heap.size := fun e => by have := (own_lt hT.a _ e).2; omega
  have HNP := Lib.hid hnpw
  have HNA := Lib.hid hnaw
  clear hT hM htx hR hN hnpw hnaw
  go_enter Try.func41, Try.ntmps41
  go_wp2_with fail
  go_loopw [4, 10] (fun s4 s10 wr => ∃ (k c' : Nat) (vp' va' : Value) (l' : List PairD) (q' : List AcctD), k ≤ m ∧ c' ≤ k ∧ s10 = .int .i64 k ∧ s4 = .int .i64 c' ∧ Hid (TabX tb rs wr C bt vp' va' l' q') ∧ Hid (MayT l' q') ∧ Hid (runT (tx.drop k) l' q' = (LF, QF)) ∧ Hid (c' + runN (tx.drop k) l' q' = N) ∧ Hid (DoK w wr bt vp va vp' va')) (fun _ s10 _ => m - (intOf s10).toNat)
  case atStart => exact ⟨0, 0, vp, va, l, q, Nat.zero_le _, Nat.le_refl _, rfl, rfl, Lib.hid (HT.out.up (by (repeat (first | (with_reducible exact Below.refl _ _) | (with_reducible assumption) | (with_reducible apply bel_alloc) | (with_reducible apply bel_drew) | (with_reducible apply bel_drewN) | (with_reducible refine bel_trans ?_ (by with_reducible assumption)) | (with_reducible refine bel_trans ?_ (HF.out _)) | (with_reducible refine bel_set ?_ (by simp) _) | (with_reducible refine bel_set ?_ (by simp; omega) _) | (with_reducible refine bel_set ?_ (by omega) _))))), HM, Lib.hid (by rw [List.drop_zero]; exact HR.out), Lib.hid (by rw [List.drop_zero, Nat.zero_add]; exact HNN.out), Lib.hid (DoK.of_below (by (repeat (first | (with_reducible exact Below.refl _ _) | (with_reducible assumption) | (with_reducible apply bel_alloc) | (with_reducible apply bel_drew) | (with_reducible apply bel_drewN) | (with_reducible refine bel_trans ?_ (by with_reducible assumption)) | (with_reducible refine bel_trans ?_ (HF.out _)) | (with_reducible refine bel_set ?_ (by simp) _) | (with_reducible refine bel_set ?_ (by simp; omega) _) | (with_reducible refine bel_set ?_ (by omega) _)))))⟩
  case round =>
    obtain ⟨k, c', vp', va', l', q', hk, hck, rfl, rfl, HT', HM', HR', HN', HK'⟩ := hrel
    (obtain ⟨wk, hwk⟩ : ∃ x, x = wr := ⟨_, rfl⟩); subst hwk
    have hbelC := HK'.out.below HT.out
    by_cases hlt : k < m
    · have htk := HTX.out wk hbelC
      obtain ⟨b, off, rfl, hb, hc⟩ := htk.at (by omega)
      obtain ⟨c0, c1, c2, c3⟩ := hc k hlt
      obtain ⟨hr1, hn1⟩ := runT_step (tx := tx) (k := k) (by rw [HTN.out]; exact hlt) l' q'
      rw [HR'.out] at hr1
      have hn2 := HN'.out
      rw [hn1] at hn2
      obtain ⟨x, hx⟩ : ∃ x, xth tx k = x := ⟨_, rfl⟩
      rw [hx] at c0 c1 c2 c3 hr1 hn2
      obtain ⟨y, hy⟩ : ∃ y, okT l' q' x = y := ⟨_, rfl⟩
      rw [hy] at hn2
      have HY := Lib.hid hy
      have HR1 := Lib.hid hr1.symm
      have HN2 := Lib.hid hn2
      have hM2 : MayT (doP l' q' x) (doA l' q' x) := HM'.out.do_
      have HM2 := Lib.hid hM2
      have HBC := Lib.hid hbelC
      clear hc htk hr1 hn1 hn2 hx hy hM2 hbelC
      cases y
      · go_wp2_with (go_at_call 62; refine (table_Do C bt vp' va' l' q' x false _ (HT'.out.up (by (repeat (first | (with_reducible exact Below.refl _ _) | (with_reducible assumption) | (with_reducible apply bel_alloc) | (with_reducible apply bel_drew) | (with_reducible apply bel_drewN) | (with_reducible refine bel_trans ?_ (by with_reducible assumption)) | (with_reducible refine bel_trans ?_ (HF.out _)) | (with_reducible refine bel_set ?_ (by simp) _) | (with_reducible refine bel_set ?_ (by simp; omega) _) | (with_reducible refine bel_set ?_ (by omega) _))))) HM'.out HY.out).mono ?_; rintro e w5 ⟨rfl, vp2, va2, hT2, hk2⟩)
        (first | (go_round; (case rel => exact ⟨k + 1, c', vp2, va2, _, _, by omega, by omega, by go_num, rfl, Lib.hid hT2, HM2, HR1, Lib.hid (by have := HN2.out; simpa using this), Lib.hid ((HK'.out.up (by (repeat (first | (with_reducible exact Below.refl _ _) | (with_reducible assumption) | (with_reducible apply bel_alloc) | (with_reducible apply bel_drew) | (with_reducible apply bel_drewN) | (with_reducible refine bel_trans ?_ (by with_reducible assumption)) | (with_reducible refine bel_trans ?_ (HF.out _)) | (with_reducible refine bel_set ?_ (by simp) _) | (with_reducible refine bel_set ?_ (by simp; omega) _) | (with_reducible refine bel_set ?_ (by omega) _))))).trans hk2)⟩); (case measure => (simp [intOf] <;> omega))) | (go_roundw; (case rel => exact ⟨k + 1, c', vp2, va2, _, _, by omega, by omega, by go_num, rfl, Lib.hid hT2, HM2, HR1, Lib.hid (by have := HN2.out; simpa using this), Lib.hid ((HK'.out.up (by (repeat (first | (with_reducible exact Below.refl _ _) | (with_reducible assumption) | (with_reducible apply bel_alloc) | (with_reducible apply bel_drew) | (with_reducible apply bel_drewN) | (with_reducible refine bel_trans ?_ (by with_reducible assumption)) | (with_reducible refine bel_trans ?_ (HF.out _)) | (with_reducible refine bel_set ?_ (by simp) _) | (with_reducible refine bel_set ?_ (by simp; omega) _) | (with_reducible refine bel_set ?_ (by omega) _))))).trans hk2)⟩); (case measure => (simp [intOf] <;> omega))) | (refine ⟨?_, by simp [intOf] <;> omega⟩; (repeat apply Exists.intro); refine ⟨?rel, ?fr⟩; (case fr => ((repeat' apply And.intro) <;> rfl)); (case rel => exact ⟨k + 1, c', vp2, va2, _, _, by omega, by omega, by go_num, rfl, Lib.hid hT2, HM2, HR1, Lib.hid (by have := HN2.out; simpa using this), Lib.hid ((HK'.out.up (by (repeat (first | (with_reducible exact Below.refl _ _) | (with_reducible assumption) | (with_reducible apply bel_alloc) | (with_reducible apply bel_drew) | (with_reducible apply bel_drewN) | (with_reducible refine bel_trans ?_ (by with_reducible assumption)) | (with_reducible refine bel_trans ?_ (HF.out _)) | (with_reducible refine bel_set ?_ (by simp) _) | (with_reducible refine bel_set ?_ (by simp; omega) _) | (with_reducible refine bel_set ?_ (by omega) _))))).trans hk2)⟩)))
      · go_wp2_with (go_at_call 62; refine (table_Do C bt vp' va' l' q' x true _ (HT'.out.up (by (repeat (first | (with_reducible exact Below.refl _ _) | (with_reducible assumption) | (with_reducible apply bel_alloc) | (with_reducible apply bel_drew) | (with_reducible apply bel_drewN) | (with_reducible refine bel_trans ?_ (by with_reducible assumption)) | (with_reducible refine bel_trans ?_ (HF.out _)) | (with_reducible refine bel_set ?_ (by simp) _) | (with_reducible refine bel_set ?_ (by simp; omega) _) | (with_reducible refine bel_set ?_ (by omega) _))))) HM'.out HY.out).mono ?_; rintro e w5 ⟨rfl, vp2, va2, hT2, hk2⟩)
        (first | (go_round; (case rel => exact ⟨k + 1, c' + 1, vp2, va2, _, _, by omega, by omega, by go_num, by go_num, Lib.hid hT2, HM2, HR1, Lib.hid (by have := HN2.out; simp at this; omega), Lib.hid ((HK'.out.up (by (repeat (first | (with_reducible exact Below.refl _ _) | (with_reducible assumption) | (with_reducible apply bel_alloc) | (with_reducible apply bel_drew) | (with_reducible apply bel_drewN) | (with_reducible refine bel_trans ?_ (by with_reducible assumption)) | (with_reducible refine bel_trans ?_ (HF.out _)) | (with_reducible refine bel_set ?_ (by simp) _) | (with_reducible refine bel_set ?_ (by simp; omega) _) | (with_reducible refine bel_set ?_ (by omega) _))))).trans hk2)⟩); (case measure => (simp [intOf] <;> omega))) | (go_roundw; (case rel => exact ⟨k + 1, c' + 1, vp2, va2, _, _, by omega, by omega, by go_num, by go_num, Lib.hid hT2, HM2, HR1, Lib.hid (by have := HN2.out; simp at this; omega), Lib.hid ((HK'.out.up (by (repeat (first | (with_reducible exact Below.refl _ _) | (with_reducible assumption) | (with_reducible apply bel_alloc) | (with_reducible apply bel_drew) | (with_reducible apply bel_drewN) | (with_reducible refine bel_trans ?_ (by with_reducible assumption)) | (with_reducible refine bel_trans ?_ (HF.out _)) | (with_reducible refine bel_set ?_ (by simp) _) | (with_reducible refine bel_set ?_ (by simp; omega) _) | (with_reducible refine bel_set ?_ (by omega) _))))).trans hk2)⟩); (case measure => (simp [intOf] <;> omega))) | (refine ⟨?_, by simp [intOf] <;> omega⟩; (repeat apply Exists.intro); refine ⟨?rel, ?fr⟩; (case fr => ((repeat' apply And.intro) <;> rfl)); (case rel => exact ⟨k + 1, c' + 1, vp2, va2, _, _, by omega, by omega, by go_num, by go_num, Lib.hid hT2, HM2, HR1, Lib.hid (by have := HN2.out; simp at this; omega), Lib.hid ((HK'.out.up (by (repeat (first | (with_reducible exact Below.refl _ _) | (with_reducible assumption) | (with_reducible apply bel_alloc) | (with_reducible apply bel_drew) | (with_reducible apply bel_drewN) | (with_reducible refine bel_trans ?_ (by with_reducible assumption)) | (with_reducible refine bel_trans ?_ (HF.out _)) | (with_reducible refine bel_set ?_ (by simp) _) | (with_reducible refine bel_set ?_ (by simp; omega) _) | (with_reducible refine bel_set ?_ (by omega) _))))).trans hk2)⟩)))
    · have hkm : k = m := by omega
      have hd : tx.drop k = [] := List.drop_of_length_le (by rw [HTN.out]; omega)
      have hR2 := HR'.out
      rw [hd] at hR2
      have hN3 := HN'.out
      rw [hd] at hN3
      have e1 : l' = LF ∧ q' = QF := by have := hR2; unfold runT at this; exact ⟨congrArg Prod.fst this, congrArg Prod.snd this⟩
      obtain ⟨rfl, rfl⟩ := e1
      have e2 : c' = N := by have := hN3; unfold runN at this; omega
      subst e2
      clear hd hR2 hN3 hbelC
      go_wp2_with fail
      go_ret
      exact ⟨rfl, vp', va', HT'.out, HK'.out⟩
set_option maxRecDepth 100000 in
set_option maxHeartbeats 4000000 in
theorem table_Batch_ok (A : Option Addr) (n c : Nat) (l : List PairD) (B : Option Addr) (m d : Nat) (q : List AcctD) (b : BatchD) (xA : Option Addr) (xn xc : Nat) (LF : List PairD) (QF : List AcctD) (N : Nat) (w : World) (hl : PairsR w A n l) (hq : AcctsR w B m q) (hx : TxsR w xA xn b.tx) (hM : MayT l q) (hB : BmT b) (hR : runT b.tx l q = (LF, QF)) (hN : runN b.tx l q = N) :
    Calls Try.prog 15 #[.agg #[.slice A n c, .slice B m d], .agg #[.int .i64 b.au, .int .i64 b.n, .slice xA xn xc]] w fun e w' => ∃ vp va, e = .returned (.tuple #[.agg #[vp, va], .int .i64 N, .int .i64 0]) ∧ OwnP w' w.heap.size vp LF ∧ OwnA w' w.heap.size va QF ∧ Disj vp va ∧ Below w.heap.size w w' := by
  have HL := Lib.hid hl
  have HQ := Lib.hid hq
  have HX := Lib.hid hx
  have HMT : Hid (mayT l q = true) := Lib.hid (mayT_iff.2 hM)
  have HBT : Hid (bmT b = true) := Lib.hid (bmT_iff.2 hB)
  have HN := Lib.hid hl.1
  have HM := Lib.hid hq.1
  have hn : n ≤ 4096 := by rw [← hl.1]; exact hM.1.1
  have hm : m ≤ 4096 := by rw [← hq.1]; exact hM.2.1
  have hxn : xn ≤ 8 := by rw [← hx.1]; exact hB.2.2.2.2.2.1
  have HMM := Lib.hid hM
  have HRR := Lib.hid hR
  have HNN := Lib.hid hN
  clear hl hq hx hM hB hR hN
  go_enter Try.func15, Try.ntmps15
  go_wp2_with fail
  refine (table_May A n c l B m d q true _ (HL.out.up (by (repeat (first | (with_reducible exact Below.refl _ _) | (with_reducible assumption) | (with_reducible apply bel_alloc) | (with_reducible apply bel_drew) | (with_reducible apply bel_drewN) | (with_reducible refine bel_trans ?_ (by with_reducible assumption)) | (with_reducible refine bel_trans ?_ (HF.out _)) | ((with_reducible refine bel_set3 ?_ ?_); rotate_left; omega))))) (HQ.out.up (by (repeat (first | (with_reducible exact Below.refl _ _) | (with_reducible assumption) | (with_reducible apply bel_alloc) | (with_reducible apply bel_drew) | (with_reducible apply bel_drewN) | (with_reducible refine bel_trans ?_ (by with_reducible assumption)) | (with_reducible refine bel_trans ?_ (HF.out _)) | ((with_reducible refine bel_set3 ?_ ?_); rotate_left; omega))))) HMT.out).mono ?_
  rintro e w1 ⟨rfl, hb1⟩
  have hz_w1 : w.heap.size + 3 ≤ w1.heap.size := (by have hq := (hb1).size; (try simp at hq); omega); have hc0_w1 := fun o => (bcell hb1).1 (w.heap.size) o (by first | (simp; done) | (simp; omega) | omega); have hc1_w1 := fun o => (bcell hb1).1 (w.heap.size + 1) o (by first | (simp; done) | (simp; omega) | omega); have hc2_w1 := fun o => (bcell hb1).1 (w.heap.size + 2) o (by first | (simp; done) | (simp; omega) | omega); have hf0_w1 := fun o => (bcell hb1).2 (w.heap.size) o (by first | (simp; done) | (simp; omega) | omega); have hf1_w1 := fun o => (bcell hb1).2 (w.heap.size + 1) o (by first | (simp; done) | (simp; omega) | omega); have hf2_w1 := fun o => (bcell hb1).2 (w.heap.size + 2) o (by first | (simp; done) | (simp; omega) | omega)
  go_wp2_with fail
  refine (batch_May b xA xn xc true _ (HX.out.up (by (repeat (first | (with_reducible exact Below.refl _ _) | (with_reducible assumption) | (with_reducible apply bel_alloc) | (with_reducible apply bel_drew) | (with_reducible apply bel_drewN) | (with_reducible refine bel_trans ?_ (by with_reducible assumption)) | (with_reducible refine bel_trans ?_ (HF.out _)) | ((with_reducible refine bel_set3 ?_ ?_); rotate_left; omega))))) HBT.out).mono ?_
  rintro e w1' ⟨rfl, hb1'⟩
  have hbw1 : Below w.heap.size w w1' := by (repeat (first | (with_reducible exact Below.refl _ _) | (with_reducible assumption) | (with_reducible apply bel_alloc) | (with_reducible apply bel_drew) | (with_reducible apply bel_drewN) | (with_reducible refine bel_trans ?_ (by with_reducible assumption)) | (with_reducible refine bel_trans ?_ (HF.out _)) | ((with_reducible refine bel_set3 ?_ ?_); rotate_left; omega)))
  have hb1w := bel_trans hb1 hb1'
  have hX1 : Blk w1' (w.heap.size + 1) 42 [.int .i64 b.au, .int .i64 b.n, .slice xA xn xc] := Blk.up (w := ((w.alloc (.cells #[.slice A n c, .slice B m d] 25)).alloc (.cells #[.int .i64 b.au, .int .i64 b.n, .slice xA xn xc] 42)).alloc (.cells #[.slice none 0 0, .slice none 0 0] 25)) (by have q := (Blk.new (w.alloc (.cells #[.slice A n c, .slice B m d] 25)) 42 [.int .i64 b.au, .int .i64 b.n, .slice xA xn xc]).up (w' := ((w.alloc (.cells #[.slice A n c, .slice B m d] 25)).alloc (.cells #[.int .i64 b.au, .int .i64 b.n, .slice xA xn xc] 42)).alloc (.cells #[.slice none 0 0, .slice none 0 0] 25)) (by (repeat (first | (with_reducible exact Below.refl _ _) | (with_reducible assumption) | (with_reducible apply bel_alloc) | (with_reducible apply bel_drew) | (with_reducible apply bel_drewN) | (with_reducible refine bel_trans ?_ (by with_reducible assumption)) | (with_reducible refine bel_trans ?_ (HF.out _)) | (with_reducible refine bel_set ?_ (by simp) _) | (with_reducible refine bel_set ?_ (by simp; omega) _) | (with_reducible refine bel_set ?_ (by omega) _)))); simpa using q) hb1w
  have hR1 : Blk w1' (w.heap.size + 2) 25 [.slice none 0 0, .slice none 0 0] := Blk.up (w := ((w.alloc (.cells #[.slice A n c, .slice B m d] 25)).alloc (.cells #[.int .i64 b.au, .int .i64 b.n, .slice xA xn xc] 42)).alloc (.cells #[.slice none 0 0, .slice none 0 0] 25)) (by have q := Blk.new ((w.alloc (.cells #[.slice A n c, .slice B m d] 25)).alloc (.cells #[.int .i64 b.au, .int .i64 b.n, .slice xA xn xc] 42)) 25 [.slice none 0 0, .slice none 0 0]; simpa using q) hb1w
  have hT1 : Blk w1' w.heap.size 25 [.slice A n c, .slice B m d] := Blk.up (w := ((w.alloc (.cells #[.slice A n c, .slice B m d] 25)).alloc (.cells #[.int .i64 b.au, .int .i64 b.n, .slice xA xn xc] 42)).alloc (.cells #[.slice none 0 0, .slice none 0 0] 25)) ((Blk.new w 25 [.slice A n c, .slice B m d]).up (by (repeat (first | (with_reducible exact Below.refl _ _) | (with_reducible assumption) | (with_reducible apply bel_alloc) | (with_reducible apply bel_drew) | (with_reducible apply bel_drewN) | (with_reducible refine bel_trans ?_ (by with_reducible assumption)) | (with_reducible refine bel_trans ?_ (HF.out _)) | (with_reducible refine bel_set ?_ (by simp) _) | (with_reducible refine bel_set ?_ (by simp; omega) _) | (with_reducible refine bel_set ?_ (by omega) _))))) hb1w
  clear hc0_w1 hc1_w1 hc2_w1 hf0_w1 hf1_w1 hf2_w1 hb1 hb1' hb1w hz_w1
  have HX1 := Lib.hid hX1
  have HR1 := Lib.hid hR1
  have HT1 := Lib.hid hT1
  have hz1 : w.heap.size + 3 ≤ w1'.heap.size := by have := hR1.lt; omega
  have t_0 := (hT1.box).2 0 _ rfl; have t_1 := (hT1.box).2 1 _ rfl
  clear hX1 hR1 hT1
  go_wp2_with fail
  refine (table_Own A n c l B m d q _ (HL.out.up hbw1) (HQ.out.up hbw1) (by omega) (by omega)).mono ?_
  rintro e w2 ⟨vp, va, rfl, hp, ha, hD, hb2⟩
  have hbw2 := bel_trans hbw1 hb2
  obtain ⟨A1, c1, rfl, _⟩ := hp.pairs (by rw [HN.out]; omega)
  obtain ⟨A2, c2, rfl, _⟩ := ha.accts (by rw [HM.out]; omega)
  have hz2 := hb2.size
  have hT2 := ((HT1.out.up hb2).set_ 0 (.slice A1 l.length c1)).set_ 1 (.slice A2 q.length c2)
  have hX2 := ((HX1.out.up hb2).far (p := ⟨w.heap.size, 0, none⟩) (by simp) (.slice A1 l.length c1)).far (p := ⟨w.heap.size, 1, none⟩) (by simp) (.slice A2 q.length c2)
  have hR2 := ((HR1.out.up hb2).far (p := ⟨w.heap.size, 0, none⟩) (by simp) (.slice A1 l.length c1)).far (p := ⟨w.heap.size, 1, none⟩) (by simp) (.slice A2 q.length c2)
  have hp2 := OwnP.set3 (OwnP.set3 hp (b := w.heap.size) (o := 0) (by omega) (.slice A1 l.length c1)) (b := w.heap.size) (o := 1) (by omega) (.slice A2 q.length c2)
  have ha2 := OwnA.set3 (OwnA.set3 ha (b := w.heap.size) (o := 0) (by omega) (.slice A1 l.length c1)) (b := w.heap.size) (o := 1) (by omega) (.slice A2 q.length c2)
  have nop : ∀ g, g < w1'.heap.size → (Value.slice A1 l.length c1).ownBlock ≠ some g := fun g hg e => by have := (own_lt hp g e).1; omega
  have noa : ∀ g, g < w1'.heap.size → (Value.slice A2 q.length c2).ownBlock ≠ some g := fun g hg e => by have := (own_lt ha g e).1; omega
  have hTR : TabR _ w.heap.size w.heap.size _ _ l q := { blk := hT2, p := OwnP.mono hp2 (by omega), a := OwnA.mono ha2 (by omega), d := hD, np := nop _ (by have := HT1.out.lt; omega), na := noa _ (by have := HT1.out.lt; omega), cb := Nat.le_refl _ }
  have hbX : Below w.heap.size w ((w2.setCell ⟨w.heap.size, 0, none⟩ (.slice A1 l.length c1)).setCell ⟨w.heap.size, 1, none⟩ (.slice A2 q.length c2)) := by (repeat (first | (with_reducible exact Below.refl _ _) | (with_reducible assumption) | (with_reducible apply bel_alloc) | (with_reducible apply bel_drew) | (with_reducible apply bel_drewN) | (with_reducible refine bel_trans ?_ (by with_reducible assumption)) | (with_reducible refine bel_trans ?_ (HF.out _)) | ((with_reducible refine bel_set3 ?_ ?_); rotate_left; omega)))
  have hf2 := (HT1.out.up hb2).frozen
  have hc2 := (HT1.out.up hb2).box.2
  have k0 := hc2 0 _ rfl
  have k1 := hc2 1 _ rfl
  have x0 := hX2.box.2 0 _ rfl
  have x1 := hX2.box.2 1 _ rfl
  have x2 := hX2.box.2 2 _ rfl
  have HTR := Lib.hid hTR
  have HX2 := Lib.hid hX2
  have HR2 := Lib.hid hR2
  have HBX := Lib.hid hbX
  have NOP := Lib.hid nop
  have NOA := Lib.hid noa
  clear hp ha hD hT2 hX2 hR2 hp2 ha2 hTR hc2 nop noa hbX
  go_wp2_with fail
  refine (table_All w.heap.size w.heap.size _ _ l q b.au b.n xA xn xc b.tx LF QF N _ HTR.out HMM.out (fun W hW => HX.out.up (HBX.out.trans hW)) HRR.out HNN.out (by omega)).mono ?_
  rintro e w3 ⟨rfl, vp, va, hT3, hk3⟩
  have hR3 := hk3.blk HR2.out (by omega) (NOP.out _ (by omega)) (NOA.out _ (by omega))
  have hb3 : Below w.heap.size w w3 := HBX.out.trans (hk3.below HTR.out)
  have hnpr := hk3.np (w.heap.size + 2) (by simp; omega) (NOP.out _ (by omega))
  have hnar := hk3.na (w.heap.size + 2) (by simp; omega) (NOA.out _ (by omega))
  have hM3 : MayT LF QF := by have := runT_may b.tx HMM.out; rw [HRR.out] at this; exact this
  obtain ⟨A3, c3, rfl, _⟩ := hT3.p.pairs (by have := hM3.1.1; omega)
  obtain ⟨A4, c4, rfl, _⟩ := hT3.a.accts (by have := hM3.2.1; omega)
  obtain ⟨n3, hn3⟩ : ∃ n3, n3 = LF.length := ⟨_, rfl⟩
  obtain ⟨n4, hn4⟩ : ∃ n4, n4 = QF.length := ⟨_, rfl⟩
  rw [← hn3, ← hn4] at hT3
  rw [← hn3] at hnpr
  rw [← hn4] at hnar
  have HT3 := Lib.hid hT3
  have HNP := Lib.hid hnpr
  have HNA := Lib.hid hnar
  have t0 := hT3.blk.box.2 0 _ rfl
  have t1 := hT3.blk.box.2 1 _ rfl
  have r0 := hR3.box.2 0 _ rfl
  have r1 := hR3.box.2 1 _ rfl
  have rf := hR3.frozen
  have hR4 := (hR3.set_ 0 (.slice A3 n3 c3)).set_ 1 (.slice A4 n4 c4)
  have s0 := hR4.box.2 0 _ rfl
  have s1 := hR4.box.2 1 _ rfl
  clear hT3 hR3 hnpr hnar hn3 hn4 k0 k1 x0 x1 x2 hR4 hk3 hM3
  go_wp2_with fail
  exact bodyPost_ret (v := .tuple #[.agg #[.slice A3 n3 c3, .slice A4 n4 c4], .int .i64 N, .int .i64 0]) (by simp [results, Try.results15, go_sem, s0, s1]) rfl ⟨_, _, rfl, own_setD (own_setD HT3.out.p HNP.out _) HNP.out _, own_setD (own_setD HT3.out.a HNA.out _) HNA.out _, HT3.out.d, by (repeat (first | (with_reducible exact Below.refl _ _) | (with_reducible assumption) | (with_reducible apply bel_alloc) | (with_reducible apply bel_drew) | (with_reducible apply bel_drewN) | (with_reducible refine bel_trans ?_ (by with_reducible assumption)) | (with_reducible refine bel_trans ?_ (HF.out _)) | ((with_reducible refine bel_set3 ?_ ?_); rotate_left; omega)))⟩
set_option maxRecDepth 100000 in
set_option maxHeartbeats 2000000 in
theorem ref4_Txs (A : Option Addr) (n c : Nat) (l : List TxD) (w : World) (hl : TxsR w A n l) : Calls Try.prog 49 #[.slice A n c] w fun e w' => ∃ y, e = .returned (.bool y) ∧ (y = true ↔ ∀ j, j < n → txS (xth l j) = true) ∧ Below w.heap.size w w' := by
  have HL := Lib.hid hl
  have hnn : n ≤ 9223372036854775807 := hl.2.2.1
  clear hl
  obtain ⟨y, hy⟩ : ∃ y, y = dec (∀ j, j < n → txS (xth l j) = true) := ⟨_, rfl⟩
  have HY : Hid (y = true ↔ ∀ j, j < n → txS (xth l j) = true) := Lib.hid (by rw [hy]; exact dec_iff)
  clear hy
  suffices h : Calls Try.prog 49 #[.slice A n c] w fun e w' => e = .returned (.bool y) ∧ Below w.heap.size w w' from h.mono fun e w' ⟨h1, h2⟩ => ⟨y, h1, HY.out, h2⟩
  go_enter Try.func49, Try.ntmps49
  go_wp2_with fail
  go_loopw [3] (fun ix wr => ∃ k : Nat, k ≤ n ∧ ix = .int .i64 k ∧ Hid (∀ j, j < k → txS (xth l j) = true) ∧ Below w.heap.size w wr) (fun ix _ => n - (intOf ix).toNat)
  case atStart => exact ⟨0, Nat.zero_le _, rfl, Lib.hid (fun j hj => absurd hj (by omega)), Below.refl _ _⟩
  case round =>
    obtain ⟨k, hk, rfl, HG, hbw⟩ := hrel
    (obtain ⟨wk, hwk⟩ : ∃ x, x = wr := ⟨_, rfl⟩); subst hwk
    by_cases hlt : k < n
    · obtain ⟨b, off, rfl, hb, hc⟩ := (HL.out.up hbw).at (by omega)
      obtain ⟨c0, c1, c2, c3⟩ := hc k hlt
      clear hc
      cases hx : txS (xth l k)
      · have HX := Lib.hid hx
        clear hx
        go_wp2_with (go_at_call 63; refine (ref4_Tx (xth l k) false _ HX.out).mono ?_; rintro e w1 ⟨rfl, hb1⟩)
        go_ret
        refine ⟨ret_bool ?_, bel_trans hbw hb1⟩
        cases y
        · rfl
        · have := HY.out.1 rfl k hlt
          rw [HX.out] at this; cases this
      · have HX := Lib.hid hx
        clear hx
        go_wp2_with (go_at_call 63; refine (ref4_Tx (xth l k) true _ HX.out).mono ?_; rintro e w1 ⟨rfl, hb1⟩)
        (first | (go_round; (case rel => exact ⟨k + 1, by omega, by go_num, Lib.hid (fun j hj => by (rcases Nat.lt_or_ge j k with h | h; exact HG.out j h; (obtain rfl : j = k := by omega); exact HX.out)), bel_trans hbw hb1⟩); (case measure => (simp [intOf] <;> omega))) | (go_roundw; (case rel => exact ⟨k + 1, by omega, by go_num, Lib.hid (fun j hj => by (rcases Nat.lt_or_ge j k with h | h; exact HG.out j h; (obtain rfl : j = k := by omega); exact HX.out)), bel_trans hbw hb1⟩); (case measure => (simp [intOf] <;> omega))) | (refine ⟨?_, by simp [intOf] <;> omega⟩; (repeat apply Exists.intro); refine ⟨?rel, ?fr⟩; (case fr => ((repeat' apply And.intro) <;> rfl)); (case rel => exact ⟨k + 1, by omega, by go_num, Lib.hid (fun j hj => by (rcases Nat.lt_or_ge j k with h | h; exact HG.out j h; (obtain rfl : j = k := by omega); exact HX.out)), bel_trans hbw hb1⟩)))
    · obtain rfl : k = n := by omega
      go_wp2_with fail
      go_ret
      exact ⟨ret_bool (HY.out.2 HG.out).symm, hbw⟩
set_option maxRecDepth 100000 in
set_option maxHeartbeats 2000000 in
theorem ref4_Batch (b : BatchD) (A : Option Addr) (n c : Nat) (y : Bool) (w : World) (hl : TxsR w A n b.tx) (hy : bmT b = y) : Calls Try.prog 26 #[.agg #[.int .i64 b.au, .int .i64 b.n, .slice A n c]] w fun e w' => e = .returned (.bool y) ∧ Below w.heap.size w w' := by
  have HL := Lib.hid hl
  have HN := Lib.hid hl.1
  have HY := Lib.hid hy
  clear hl hy
  obtain ⟨au, hau⟩ : ∃ au, b.au = au := ⟨_, rfl⟩
  obtain ⟨bn, hbn⟩ : ∃ bn, b.n = bn := ⟨_, rfl⟩
  rw [hau, hbn]
  have HAU := Lib.hid hau
  have HBN := Lib.hid hbn
  clear hau hbn
  have hno : ¬ (1 ≤ au ∧ au ≤ 16 ∧ idS bn = true ∧ 1 ≤ n ∧ n ≤ 8) → y = false := fun h => by
    rw [← HY.out]
    cases hb : bmT b
    · rfl
    · have := bmT_iff.1 hb
      exfalso; apply h
      rw [← HAU.out, ← HBN.out, ← HN.out]
      exact ⟨this.1, this.2.1, idS_iff.2 ⟨this.2.2.1, this.2.2.2.1⟩, this.2.2.2.2.1, this.2.2.2.2.2.1⟩
  have HNO := Lib.hid hno
  clear hno
  by_cases h1 : 1 ≤ au
  case' neg =>
    have hb1 : decide (1 ≤ au) = false := by simp; omega
    have HF : Hid (y = false) := Lib.hid (HNO.out (by omega))
  case' pos =>
    have hb1 : decide (1 ≤ au) = true := by simp; omega
    by_cases h2 : au ≤ 16
    case' neg =>
      have hb2 : decide (au ≤ 16) = false := by simp; omega
      have HF : Hid (y = false) := Lib.hid (HNO.out (by omega))
    case' pos =>
      have hb2 : decide (au ≤ 16) = true := by simp; omega
      cases h3 : idS bn
      case' false =>
        have HF : Hid (y = false) := Lib.hid (HNO.out (by rw [h3]; simp))
        have H3 := Lib.hid h3
        clear h3
      case' true =>
        have H3 := Lib.hid h3
        clear h3
        by_cases h5 : 1 ≤ n
        case' neg =>
          have hb5 : decide ((1 : Int) ≤ (n : Int)) = false := by simp; omega
          have HF : Hid (y = false) := Lib.hid (HNO.out (by omega))
        case' pos =>
          have hb5 : decide ((1 : Int) ≤ (n : Int)) = true := by simp; omega
          by_cases h6 : n ≤ 8
          case' neg =>
            have hb6 : decide ((n : Int) ≤ 8) = false := by simp; omega
            have HF : Hid (y = false) := Lib.hid (HNO.out (by omega))
          case' pos =>
            have hb6 : decide ((n : Int) ≤ 8) = true := by simp; omega
            go_enter Try.func26, Try.ntmps26
            go_wp2_with (go_at_call 48; refine (ref4_id _ true _ H3.out).mono ?_; rintro e w' ⟨rfl, rfl⟩)
            refine (ref4_Txs A n c b.tx _ (HL.out.up (by (repeat (first | (with_reducible exact Below.refl _ _) | (with_reducible assumption) | (with_reducible apply bel_alloc) | (with_reducible apply bel_drew) | (with_reducible apply bel_drewN) | (with_reducible refine bel_trans ?_ (by with_reducible assumption)) | (with_reducible refine bel_trans ?_ (HF.out _)) | ((with_reducible refine bel_set3 ?_ ?_); rotate_left; omega)))))).mono ?_
            rintro e w1 ⟨z, rfl, hf, hbel⟩
            have HF := Lib.hid hf
            clear hf
            go_wp2_with fail
            go_ret
            refine ⟨ret_bool ?_, by (repeat (first | (with_reducible exact Below.refl _ _) | (with_reducible assumption) | (with_reducible apply bel_alloc) | (with_reducible apply bel_drew) | (with_reducible apply bel_drewN) | (with_reducible refine bel_trans ?_ (by with_reducible assumption)) | (with_reducible refine bel_trans ?_ (HF.out _)) | ((with_reducible refine bel_set3 ?_ ?_); rotate_left; omega)))⟩
            rw [← HY.out, Bool.eq_iff_iff, bmT_iff, HF.out]
            have h34 := idS_iff.1 H3.out
            constructor
            · intro hall
              exact ⟨by rw [HAU.out]; exact h1, by rw [HAU.out]; exact h2, by rw [HBN.out]; exact h34.1, by rw [HBN.out]; exact h34.2, by rw [HN.out]; exact h5, by rw [HN.out]; exact h6, by rw [HN.out]; exact hall⟩
            · intro hB j hj
              exact hB.2.2.2.2.2.2 j (by rw [HN.out]; exact hj)
  all_goals
    go_enter Try.func26, Try.ntmps26
    go_wp2_with (first | (go_at_call 48; refine (ref4_id _ true _ H3.out).mono ?_; rintro e w' ⟨rfl, rfl⟩) | (go_at_call 48; refine (ref4_id _ false _ H3.out).mono ?_; rintro e w' ⟨rfl, rfl⟩))
    go_ret
    exact ⟨ret_bool (by rw [HF.out]), by (repeat (first | (with_reducible exact Below.refl _ _) | (with_reducible assumption) | (with_reducible apply bel_alloc) | (with_reducible apply bel_drew) | (with_reducible apply bel_drewN) | (with_reducible refine bel_trans ?_ (by with_reducible assumption)) | (with_reducible refine bel_trans ?_ (HF.out _)) | ((with_reducible refine bel_set3 ?_ ?_); rotate_left; omega)))⟩
end Go.Proofs.Ytbakkpabiknlmaa
