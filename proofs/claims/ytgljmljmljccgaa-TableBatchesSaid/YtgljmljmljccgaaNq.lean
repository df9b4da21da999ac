/- Tables: Apply, at the program; what is spoilt. -/
import Derived.Test.YtgljmljmljccgaaNp
import Derived.Test.YtgljmljmljccgaaNj
import Derived.Test.YtgljmljmljccgaaNk
namespace Go.Proofs.Ytgljmljmljccgaa
open Go.RowKit
set_option linter.unusedSimpArgs false
set_option linter.unusedVariables false
variable {tb : TypeId} {rs : List Value}

/-- Do: what it makes of a table of one's own. -/
theorem table_Do (C bt : Nat) (vp va : Value) (l : List PairD) (q : List AcctD) (x : TxD) (y : Bool) (w : World) (hT : TabX tb rs w C bt vp va l q) (hM : MayT l q) (hy : okT l q x = y) :
    Calls Try.prog 57 #[.pointer (some ⟨bt, 0, none⟩), .agg #[.int .i64 x.se, .int .i64 x.sq, .string x.k, .string x.v]] w fun e w' => e = .returned (.bool y) ∧ ∃ vp' va', TabX tb rs w' C bt vp' va' (doP l q x) (doA l q x) ∧ DoK w w' bt vp va vp' va' := by
  have hl : l.length ≤ 4096 := hM.1.1
  have hq : q.length ≤ 4096 := hM.2.1
  obtain ⟨Ap, cp, rfl, hpr, _, _⟩ := hT.p.pairs (by omega)
  obtain ⟨Aa, ca, rfl, har, _, _⟩ := hT.a.accts (by omega)
  by_cases hO : OkT l q x
  · have e1 : okT l q x = true := (dec_true hO).symm
    rw [show doP l q x = setP l x by unfold doP; rw [if_pos e1], show doA l q x = setA q x by unfold doA; rw [if_pos e1], ← hy, e1]
    exact table_Do_yes C bt Ap _ cp l Aa _ ca q x w hT hpr har hM hO
  · have e1 : okT l q x = false := (dec_false hO).symm
    rw [show doP l q x = l by unfold doP; rw [if_neg (by rw [e1]; simp)], show doA l q x = q by unfold doA; rw [if_neg (by rw [e1]; simp)], ← hy, e1]
    refine (table_Do_no bt Ap _ cp l Aa _ ca q x w hT.blk hpr har hM hO).mono ?_
    rintro e w' ⟨rfl, hb⟩
    exact ⟨rfl, _, _, hT.up hb, .of_below hb⟩
set_option maxRecDepth 100000 in
set_option maxHeartbeats 1000000 in
theorem table_Apply_bad (A : Option Addr) (n c : Nat) (l : List PairD) (B : Option Addr) (m d : Nat) (q : List AcctD) (x : TxD) (w : World) (hl : PairsR w A n l) (hq : AcctsR w B m q) (hM : mayT l q = false) :
    Calls Try.prog 21 #[.agg #[.slice A n c, .slice B m d], .agg #[.int .i64 x.se, .int .i64 x.sq, .string x.k, .string x.v]] w fun e w' => e = .returned (.tuple #[.agg #[.slice none 0 0, .slice none 0 0], .bool false, .int .i64 1]) ∧ Below w.heap.size w w' := by
  have HL := Lib.hid hl
  have HQ := Lib.hid hq
  clear hl hq
  go_enter Try.func21, Try.ntmps21
  go_wp2_with fail
  refine (table_May A n c l B m d q false _ (HL.out.up (by (repeat (first | (with_reducible exact Below.refl _ _) | (with_reducible assumption) | (with_reducible apply bel_alloc) | (with_reducible apply bel_drew) | (with_reducible apply bel_drewN) | (with_reducible refine bel_trans ?_ (by with_reducible assumption)) | (with_reducible refine bel_trans ?_ (HF.out _)) | ((with_reducible refine bel_set3 ?_ ?_); rotate_left; omega))))) (HQ.out.up (by (repeat (first | (with_reducible exact Below.refl _ _) | (with_reducible assumption) | (with_reducible apply bel_alloc) | (with_reducible apply bel_drew) | (with_reducible apply bel_drewN) | (with_reducible refine bel_trans ?_ (by with_reducible assumption)) | (with_reducible refine bel_trans ?_ (HF.out _)) | ((with_reducible refine bel_set3 ?_ ?_); rotate_left; omega))))) hM).mono ?_
  rintro e w1 ⟨rfl, hb1⟩
  have hz_w1 : w.heap.size + 3 ≤ w1.heap.size := (by have hq := (hb1).size; (try simp at hq); omega); have hc0_w1 := fun o => (bcell hb1).1 (w.heap.size) o (by first | (simp; done) | (simp; omega) | omega); have hc1_w1 := fun o => (bcell hb1).1 (w.heap.size + 1) o (by first | (simp; done) | (simp; omega) | omega); have hc2_w1 := fun o => (bcell hb1).1 (w.heap.size + 2) o (by first | (simp; done) | (simp; omega) | omega); have hf0_w1 := fun o => (bcell hb1).2 (w.heap.size) o (by first | (simp; done) | (simp; omega) | omega); have hf1_w1 := fun o => (bcell hb1).2 (w.heap.size + 1) o (by first | (simp; done) | (simp; omega) | omega); have hf2_w1 := fun o => (bcell hb1).2 (w.heap.size + 2) o (by first | (simp; done) | (simp; omega) | omega)
  go_wp2_with fail
  exact bodyPost_ret (v := .tuple #[.agg #[.slice none 0 0, .slice none 0 0], .bool false, .int .i64 1]) (by simp [results, Try.results21, go_sem, hc0_w1, hc1_w1, hc2_w1]) rfl ⟨rfl, by (repeat (first | (with_reducible exact Below.refl _ _) | (with_reducible assumption) | (with_reducible apply bel_alloc) | (with_reducible apply bel_drew) | (with_reducible apply bel_drewN) | (with_reducible refine bel_trans ?_ (by with_reducible assumption)) | (with_reducible refine bel_trans ?_ (HF.out _)) | ((with_reducible refine bel_set3 ?_ ?_); rotate_left; omega)))⟩
set_option maxRecDepth 100000 in
set_option maxHeartbeats 2000000 in
theorem table_Apply_ok (A : Option Addr) (n c : Nat) (l : List PairD) (B : Option Addr) (m d : Nat) (q : List AcctD) (x : TxD) (w : World) (hl : PairsR w A n l) (hq : AcctsR w B m q) (hM : MayT l q) :
    Calls Try.prog 21 #[.agg #[.slice A n c, .slice B m d], .agg #[.int .i64 x.se, .int .i64 x.sq, .string x.k, .string x.v]] w fun e w' => ∃ vp va, e = .returned (.tuple #[.agg #[vp, va], .bool (okT l q x), .int .i64 0]) ∧ OwnP w' w.heap.size vp (doP l q x) ∧ OwnA w' w.heap.size va (doA l q x) ∧ Disj vp va ∧ Below w.heap.size w w' := by
  have HL := Lib.hid hl
  have HQ := Lib.hid hq
  have HMT : Hid (mayT l q = true) := Lib.hid (mayT_iff.2 hM)
  have HN := Lib.hid hl.1
  have HM := Lib.hid hq.1
  have hn : n ≤ 4096 := by rw [← hl.1]; exact hM.1.1
  have hm : m ≤ 4096 := by rw [← hq.1]; exact hM.2.1
  have HMM := Lib.hid hM
  clear hl hq hM
  obtain ⟨y, hy⟩ : ∃ y, okT l q x = y := ⟨_, rfl⟩
  rw [hy]
  have HY := Lib.hid hy
  clear hy
  go_enter Try.func21, Try.ntmps21
  go_wp2_with fail
  refine (table_May A n c l B m d q true _ (HL.out.up (by (repeat (first | (with_reducible exact Below.refl _ _) | (with_reducible assumption) | (with_reducible apply bel_alloc) | (with_reducible apply bel_drew) | (with_reducible apply bel_drewN) | (with_reducible refine bel_trans ?_ (by with_reducible assumption)) | (with_reducible refine bel_trans ?_ (HF.out _)) | ((with_reducible refine bel_set3 ?_ ?_); rotate_left; omega))))) (HQ.out.up (by (repeat (first | (with_reducible exact Below.refl _ _) | (with_reducible assumption) | (with_reducible apply bel_alloc) | (with_reducible apply bel_drew) | (with_reducible apply bel_drewN) | (with_reducible refine bel_trans ?_ (by with_reducible assumption)) | (with_reducible refine bel_trans ?_ (HF.out _)) | ((with_reducible refine bel_set3 ?_ ?_); rotate_left; omega))))) HMT.out).mono ?_
  rintro e w1 ⟨rfl, hb1⟩
  have hz_w1 : w.heap.size + 3 ≤ w1.heap.size := (by have hq := (hb1).size; (try simp at hq); omega); have hc0_w1 := fun o => (bcell hb1).1 (w.heap.size) o (by first | (simp; done) | (simp; omega) | omega); have hc1_w1 := fun o => (bcell hb1).1 (w.heap.size + 1) o (by first | (simp; done) | (simp; omega) | omega); have hc2_w1 := fun o => (bcell hb1).1 (w.heap.size + 2) o (by first | (simp; done) | (simp; omega) | omega); have hf0_w1 := fun o => (bcell hb1).2 (w.heap.size) o (by first | (simp; done) | (simp; omega) | omega); have hf1_w1 := fun o => (bcell hb1).2 (w.heap.size + 1) o (by first | (simp; done) | (simp; omega) | omega); have hf2_w1 := fun o => (bcell hb1).2 (w.heap.size + 2) o (by first | (simp; done) | (simp; omega) | omega)
  have hbw1 : Below w.heap.size w w1 := by (repeat (first | (with_reducible exact Below.refl _ _) | (with_reducible assumption) | (with_reducible apply bel_alloc) | (with_reducible apply bel_drew) | (with_reducible apply bel_drewN) | (with_reducible refine bel_trans ?_ (by with_reducible assumption)) | (with_reducible refine bel_trans ?_ (HF.out _)) | ((with_reducible refine bel_set3 ?_ ?_); rotate_left; omega)))
  have hX1 : Blk w1 (w.heap.size + 1) 44 [.int .i64 x.se, .int .i64 x.sq, .string x.k, .string x.v] := Blk.up (w := ((w.alloc (.cells #[.slice A n c, .slice B m d] 25)).alloc (.cells #[.int .i64 x.se, .int .i64 x.sq, .string x.k, .string x.v] 44)).alloc (.cells #[.slice none 0 0, .slice none 0 0] 25)) (by have q := (Blk.new (w.alloc (.cells #[.slice A n c, .slice B m d] 25)) 44 [.int .i64 x.se, .int .i64 x.sq, .string x.k, .string x.v]).up (w' := ((w.alloc (.cells #[.slice A n c, .slice B m d] 25)).alloc (.cells #[.int .i64 x.se, .int .i64 x.sq, .string x.k, .string x.v] 44)).alloc (.cells #[.slice none 0 0, .slice none 0 0] 25)) (by (repeat (first | (with_reducible exact Below.refl _ _) | (with_reducible assumption) | (with_reducible apply bel_alloc) | (with_reducible apply bel_drew) | (with_reducible apply bel_drewN) | (with_reducible refine bel_trans ?_ (by with_reducible assumption)) | (with_reducible refine bel_trans ?_ (HF.out _)) | (with_reducible refine bel_set ?_ (by simp) _) | (with_reducible refine bel_set ?_ (by simp; omega) _) | (with_reducible refine bel_set ?_ (by omega) _)))); simpa using q) hb1
  have hR1 : Blk w1 (w.heap.size + 2) 25 [.slice none 0 0, .slice none 0 0] := Blk.up (w := ((w.alloc (.cells #[.slice A n c, .slice B m d] 25)).alloc (.cells #[.int .i64 x.se, .int .i64 x.sq, .string x.k, .string x.v] 44)).alloc (.cells #[.slice none 0 0, .slice none 0 0] 25)) (by have q := Blk.new ((w.alloc (.cells #[.slice A n c, .slice B m d] 25)).alloc (.cells #[.int .i64 x.se, .int .i64 x.sq, .string x.k, .string x.v] 44)) 25 [.slice none 0 0, .slice none 0 0]; simpa using q) hb1
  have hT1 : Blk w1 w.heap.size 25 [.slice A n c, .slice B m d] := Blk.up (w := ((w.alloc (.cells #[.slice A n c, .slice B m d] 25)).alloc (.cells #[.int .i64 x.se, .int .i64 x.sq, .string x.k, .string x.v] 44)).alloc (.cells #[.slice none 0 0, .slice none 0 0] 25)) ((Blk.new w 25 [.slice A n c, .slice B m d]).up (by (repeat (first | (with_reducible exact Below.refl _ _) | (with_reducible assumption) | (with_reducible apply bel_alloc) | (with_reducible apply bel_drew) | (with_reducible apply bel_drewN) | (with_reducible refine bel_trans ?_ (by with_reducible assumption)) | (with_reducible refine bel_trans ?_ (HF.out _)) | (with_reducible refine bel_set ?_ (by simp) _) | (with_reducible refine bel_set ?_ (by simp; omega) _) | (with_reducible refine bel_set ?_ (by omega) _))))) hb1
  clear hc0_w1 hc1_w1 hc2_w1 hf0_w1 hf1_w1 hf2_w1 hb1
  have HX1 := Lib.hid hX1
  have HR1 := Lib.hid hR1
  have HT1 := Lib.hid hT1
  have t_0 := (hT1.box).2 0 _ rfl; have t_1 := (hT1.box).2 1 _ rfl
  clear hX1 hR1 hT1
  go_wp2_with fail
  refine (table_Own A n c l B m d q _ (HL.out.up hbw1) (HQ.out.up hbw1) (by omega) (by omega)).mono ?_
  rintro e w2 ⟨vp, va, rfl, hp, ha, hD, hb2⟩
  have hbw2 := bel_trans hbw1 hb2
  have hlp := hp
  obtain ⟨A1, c1, rfl, _⟩ := hp.pairs (by rw [HN.out]; omega)
  obtain ⟨A2, c2, rfl, _⟩ := ha.accts (by rw [HM.out]; omega)
  have hz2 := hb2.size
  have hT2 := ((HT1.out.up hb2).set_ 0 (.slice A1 l.length c1)).set_ 1 (.slice A2 q.length c2)
  have hX2 := ((HX1.out.up hb2).far (p := ⟨w.heap.size, 0, none⟩) (by simp) (.slice A1 l.length c1)).far (p := ⟨w.heap.size, 1, none⟩) (by simp) (.slice A2 q.length c2)
  have hR2 := ((HR1.out.up hb2).far (p := ⟨w.heap.size, 0, none⟩) (by simp) (.slice A1 l.length c1)).far (p := ⟨w.heap.size, 1, none⟩) (by simp) (.slice A2 q.length c2)
  have hp2 := OwnP.set3 (OwnP.set3 hp (b := w.heap.size) (o := 0) (by omega) (.slice A1 l.length c1)) (b := w.heap.size) (o := 1) (by omega) (.slice A2 q.length c2)
  have ha2 := OwnA.set3 (OwnA.set3 ha (b := w.heap.size) (o := 0) (by omega) (.slice A1 l.length c1)) (b := w.heap.size) (o := 1) (by omega) (.slice A2 q.length c2)
  have nop : ∀ g, g < w1.heap.size → (Value.slice A1 l.length c1).ownBlock ≠ some g := fun g hg e => by have := (own_lt hp g e).1; omega
  have noa : ∀ g, g < w1.heap.size → (Value.slice A2 q.length c2).ownBlock ≠ some g := fun g hg e => by have := (own_lt ha g e).1; omega
  have hTR : TabR _ w.heap.size w.heap.size _ _ l q := { blk := hT2, p := OwnP.mono hp2 (by omega), a := OwnA.mono ha2 (by omega), d := hD, np := nop _ (by omega), na := noa _ (by omega), cb := Nat.le_refl _ }
  have hbX : Below w.heap.size w ((w2.setCell ⟨w.heap.size, 0, none⟩ (.slice A1 l.length c1)).setCell ⟨w.heap.size, 1, none⟩ (.slice A2 q.length c2)) := by (repeat (first | (with_reducible exact Below.refl _ _) | (with_reducible assumption) | (with_reducible apply bel_alloc) | (with_reducible apply bel_drew) | (with_reducible apply bel_drewN) | (with_reducible refine bel_trans ?_ (by with_reducible assumption)) | (with_reducible refine bel_trans ?_ (HF.out _)) | ((with_reducible refine bel_set3 ?_ ?_); rotate_left; omega)))
  have hf2 := (HT1.out.up hb2).frozen
  have hc2 := (HT1.out.up hb2).box.2
  have k0 := hc2 0 _ rfl
  have k1 := hc2 1 _ rfl
  have x0 := hX2.box.2 0 _ rfl
  have x1 := hX2.box.2 1 _ rfl
  have x2 := hX2.box.2 2 _ rfl
  have x3 := hX2.box.2 3 _ rfl
  have HTR := Lib.hid hTR
  have HX2 := Lib.hid hX2
  have HR2 := Lib.hid hR2
  have HBX := Lib.hid hbX
  have NOP := Lib.hid nop
  have NOA := Lib.hid noa
  clear hp ha hD hT2 hX2 hR2 hp2 ha2 hTR hlp hc2 nop noa hbX
  go_wp2_with fail
  refine (table_Do w.heap.size w.heap.size _ _ l q x y _ HTR.out HMM.out HY.out).mono ?_
  rintro e w3 ⟨rfl, vp, va, hT3, hk3⟩
  have hX3 := hk3.blk HX2.out (by omega) (NOP.out _ (by omega)) (NOA.out _ (by omega))
  have hR3 := hk3.blk HR2.out (by omega) (NOP.out _ (by omega)) (NOA.out _ (by omega))
  have hb3 : Below w.heap.size w w3 := HBX.out.trans (hk3.below HTR.out)
  have hnpr := hk3.np (w.heap.size + 2) (by simp; omega) (NOP.out _ (by omega))
  have hnar := hk3.na (w.heap.size + 2) (by simp; omega) (NOA.out _ (by omega))
  have hM3 : MayT (doP l q x) (doA l q x) := HMM.out.do_
  obtain ⟨A3, c3, rfl, _⟩ := hT3.p.pairs (by have := hM3.1.1; omega)
  obtain ⟨A4, c4, rfl, _⟩ := hT3.a.accts (by have := hM3.2.1; omega)
  obtain ⟨n3, hn3⟩ : ∃ n3, n3 = (doP l q x).length := ⟨_, rfl⟩
  obtain ⟨n4, hn4⟩ : ∃ n4, n4 = (doA l q x).length := ⟨_, rfl⟩
  rw [← hn3, ← hn4] at hT3
  rw [← hn3] at hnpr
  rw [← hn4] at hnar
  have HT3 := Lib.hid hT3
  have HNP := Lib.hid hnpr
  have HNA := Lib.hid hnar
  have t0 := hT3.blk.box.2 0 _ rfl
  have t1 := hT3.blk.box.2 1 _ rfl
  have r0 := hR3.box.2 0 _ rfl
  have r1 := hR3.box.2 1 _ rfl
  have rf := hR3.frozen
  have hR4 := (hR3.set_ 0 (.slice A3 n3 c3)).set_ 1 (.slice A4 n4 c4)
  have s0 := hR4.box.2 0 _ rfl
  have s1 := hR4.box.2 1 _ rfl
  clear hT3 hR3 hX3 hnpr hnar hn3 hn4 k0 k1 x0 x1 x2 x3 hR4 hk3 hM3
  go_wp2_with fail
  exact bodyPost_ret (v := .tuple #[.agg #[.slice A3 n3 c3, .slice A4 n4 c4], .bool y, .int .i64 0]) (by simp [results, Try.results21, go_sem, s0, s1]) rfl ⟨_, _, rfl, own_setD (own_setD HT3.out.p HNP.out _) HNP.out _, own_setD (own_setD HT3.out.a HNA.out _) HNA.out _, HT3.out.d, by (repeat (first | (with_reducible exact Below.refl _ _) | (with_reducible assumption) | (with_reducible apply bel_alloc) | (with_reducible apply bel_drew) | (with_reducible apply bel_drewN) | (with_reducible refine bel_trans ?_ (by with_reducible assumption)) | (with_reducible refine bel_trans ?_ (HF.out _)) | ((with_reducible refine bel_set3 ?_ ?_); rotate_left; omega)))⟩
theorem own_nz {w : World} {B k n : Nat} {t : TypeId} {A : Option Addr} {c : Nat} {xs : List Value} (h : w.ownsRow B t k (.slice A n c) n xs) (hn : 0 < n) : ∃ g, A = some ⟨g, 0, none⟩ ∧ B ≤ g ∧ g < w.heap.size := by
  rcases own_shape h with ⟨_, h0⟩ | ⟨g, c', e, hg, _⟩
  · omega
  · injection e with e1 e2 e3
    subst e1
    exact ⟨g, rfl, hg, (own_lt h g rfl).2⟩
theorem own_any {w : World} {B k n : Nat} {t : TypeId} {v : Value} {xs : List Value} (h : w.ownsRow B t k v n xs) {j : Nat} (hj : j < n * k) : ∃ u, xs[j]? = some u := ⟨_, List.getElem?_eq_getElem (by rw [h.1]; exact hj)⟩
set_option maxRecDepth 100000 in
set_option maxHeartbeats 2000000 in
theorem law0_Table (vp va : Value) (l : List PairD) (q : List AcctD) (B : Nat) (w : World) (hp : OwnP w B vp l) (ha : OwnA w B va q) (hD : Disj vp va) (hB : B ≤ w.heap.size) (hlp : l.length ≤ 1000000) (hlq : q.length ≤ 1000000) :
    Calls Try.prog 26 #[.agg #[vp, va]] w fun e w' => e = .returned (.tuple #[]) ∧ Below B w w' := by
  obtain ⟨Ap, cp, rfl, _⟩ := hp.pairs (by omega)
  obtain ⟨Aa, ca, rfl, _⟩ := ha.accts (by omega)
  obtain ⟨n, hn⟩ : ∃ n, l.length = n := ⟨_, rfl⟩
  obtain ⟨m, hm⟩ : ∃ m, q.length = m := ⟨_, rfl⟩
  unfold OwnP at hp
  unfold OwnA at ha
  rw [hn] at hp hlp hD ⊢
  rw [hm] at ha hlq hD ⊢
  have nzp : 0 < n → ∃ g, Ap = some ⟨g, 0, none⟩ ∧ B ≤ g ∧ g < w.heap.size := own_nz hp
  have nza : 0 < m → ∃ g, Aa = some ⟨g, 0, none⟩ ∧ B ≤ g ∧ g < w.heap.size := own_nz ha
  have HP := Lib.hid hp
  have HA := Lib.hid ha
  have HD := Lib.hid hD
  have NZP := Lib.hid nzp
  have NZA := Lib.hid nza
  clear hp ha hD nzp nza hn hm
  go_enter Try.func26, Try.ntmps26
  go_wp2_with fail
  go_loopw [2] (fun si wr => ∃ (k : Nat) (xs : List Value), k ≤ n ∧ si = .int .i64 k ∧ Hid (wr.ownsRow B 102 2 (.slice Ap n cp) n xs) ∧ Hid (wr.ownsRow B 50 2 (.slice Aa m ca) m (flat encA q)) ∧ Hid (Blk wr w.heap.size 25 [.slice Ap n cp, .slice Aa m ca]) ∧ Below B w wr) (fun si _ => n - (intOf si).toNat)
  case atStart => exact ⟨0, _, Nat.zero_le _, rfl, Lib.hid (own_alloc HP.out _), Lib.hid (own_alloc HA.out _), Lib.hid (Blk.new w 25 [.slice Ap n cp, .slice Aa m ca]), (Below.refl _ _).alloc hB _⟩
  case round =>
    obtain ⟨k, xs, hk, rfl, HO, HA2, HT, hbw⟩ := hrel
    (obtain ⟨wk, hwk⟩ : ∃ x, x = wr := ⟨_, rfl⟩); subst hwk
    have t_0 := (HT.out.box).2 0 _ rfl; have t_1 := (HT.out.box).2 1 _ rfl
    have hg0 := HT.out.lt
    by_cases hlt : k < n
    · obtain ⟨g, rfl, hgB, hgl⟩ := NZP.out (by omega)
      obtain ⟨g1, f1⟩ := own_get HO.out
      obtain ⟨u0, hu0⟩ := own_any HO.out (j := k * 2) (by omega)
      obtain ⟨u1, hu1⟩ := own_any HO.out (j := k * 2 + 1) (by omega)
      have c0 := g1 _ _ hu0
      have c1 := g1 _ _ hu1
      have hne : w.heap.size ≠ g := by omega
      have hda : (Value.slice Aa m ca).ownBlock ≠ some g := HD.out g rfl
      clear g1 hu0 hu1
      go_wp2_with fail
      (first | (go_round; (case rel => exact ⟨k + 1, _, by omega, by go_num, Lib.hid (own_put (own_put HO.out (by omega)) (by omega)), Lib.hid (own_setD (own_setD HA2.out hda _) hda _), Lib.hid ((HT.out.far (p := ⟨g, k * 2, none⟩) hne _).far (p := ⟨g, k * 2 + 1, none⟩) hne _), (hbw.setCell (p := ⟨g, k * 2, none⟩) hgB _).setCell (p := ⟨g, k * 2 + 1, none⟩) hgB _⟩); (case measure => (simp [intOf] <;> omega))) | (go_roundw; (case rel => exact ⟨k + 1, _, by omega, by go_num, Lib.hid (own_put (own_put HO.out (by omega)) (by omega)), Lib.hid (own_setD (own_setD HA2.out hda _) hda _), Lib.hid ((HT.out.far (p := ⟨g, k * 2, none⟩) hne _).far (p := ⟨g, k * 2 + 1, none⟩) hne _), (hbw.setCell (p := ⟨g, k * 2, none⟩) hgB _).setCell (p := ⟨g, k * 2 + 1, none⟩) hgB _⟩); (case measure => (simp [intOf] <;> omega))) | (refine ⟨?_, by simp [intOf] <;> omega⟩; (repeat apply Exists.intro); refine ⟨?rel, ?fr⟩; (case fr => ((repeat' apply And.intro) <;> rfl)); (case rel => exact ⟨k + 1, _, by omega, by go_num, Lib.hid (own_put (own_put HO.out (by omega)) (by omega)), Lib.hid (own_setD (own_setD HA2.out hda _) hda _), Lib.hid ((HT.out.far (p := ⟨g, k * 2, none⟩) hne _).far (p := ⟨g, k * 2 + 1, none⟩) hne _), (hbw.setCell (p := ⟨g, k * 2, none⟩) hgB _).setCell (p := ⟨g, k * 2 + 1, none⟩) hgB _⟩)))
    · go_wp2_with fail
      go_loopw [3] (fun si wr => ∃ (k : Nat) (xs : List Value), k ≤ m ∧ si = .int .i64 k ∧ Hid (wr.ownsRow B 50 2 (.slice Aa m ca) m xs) ∧ Hid (Blk wr w.heap.size 25 [.slice Ap n cp, .slice Aa m ca]) ∧ Below B w wr) (fun si _ => m - (intOf si).toNat)
      case atStart => exact ⟨0, _, Nat.zero_le _, rfl, HA2, HT, hbw⟩
      case round =>
        clear t_0 t_1 hg0 HT HA2 HO hbw hlt hk
        obtain ⟨k, xs, hk, rfl, HO, HT, hbw⟩ := hrel
        (obtain ⟨wj, hwj⟩ : ∃ x, x = wr := ⟨_, rfl⟩); subst hwj
        have t_0 := (HT.out.box).2 0 _ rfl; have t_1 := (HT.out.box).2 1 _ rfl
        have hg0 := HT.out.lt
        by_cases hlt : k < m
        · obtain ⟨g, rfl, hgB, hgl⟩ := NZA.out (by omega)
          obtain ⟨g1, f1⟩ := own_get HO.out
          obtain ⟨u0, hu0⟩ := own_any HO.out (j := k * 2) (by omega)
          obtain ⟨u1, hu1⟩ := own_any HO.out (j := k * 2 + 1) (by omega)
          have c0 := g1 _ _ hu0
          have c1 := g1 _ _ hu1
          have hne : w.heap.size ≠ g := by omega
          clear g1 hu0 hu1
          go_wp2_with fail
          (first | (go_round; (case rel => exact ⟨k + 1, _, by omega, by go_num, Lib.hid (own_put (own_put HO.out (by omega)) (by omega)), Lib.hid ((HT.out.far (p := ⟨g, k * 2, none⟩) hne _).far (p := ⟨g, k * 2 + 1, none⟩) hne _), (hbw.setCell (p := ⟨g, k * 2, none⟩) hgB _).setCell (p := ⟨g, k * 2 + 1, none⟩) hgB _⟩); (case measure => (simp [intOf] <;> omega))) | (go_roundw; (case rel => exact ⟨k + 1, _, by omega, by go_num, Lib.hid (own_put (own_put HO.out (by omega)) (by omega)), Lib.hid ((HT.out.far (p := ⟨g, k * 2, none⟩) hne _).far (p := ⟨g, k * 2 + 1, none⟩) hne _), (hbw.setCell (p := ⟨g, k * 2, none⟩) hgB _).setCell (p := ⟨g, k * 2 + 1, none⟩) hgB _⟩); (case measure => (simp [intOf] <;> omega))) | (refine ⟨?_, by simp [intOf] <;> omega⟩; (repeat apply Exists.intro); refine ⟨?rel, ?fr⟩; (case fr => ((repeat' apply And.intro) <;> rfl)); (case rel => exact ⟨k + 1, _, by omega, by go_num, Lib.hid (own_put (own_put HO.out (by omega)) (by omega)), Lib.hid ((HT.out.far (p := ⟨g, k * 2, none⟩) hne _).far (p := ⟨g, k * 2 + 1, none⟩) hne _), (hbw.setCell (p := ⟨g, k * 2, none⟩) hgB _).setCell (p := ⟨g, k * 2 + 1, none⟩) hgB _⟩)))
        · go_wp2_with fail
          go_end0
          exact ⟨rfl, hbw⟩
end Go.Proofs.Ytgljmljmljccgaa
