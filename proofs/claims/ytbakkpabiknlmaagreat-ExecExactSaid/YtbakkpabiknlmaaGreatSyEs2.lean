/- Exec at the reference: Step. -/
import Derived.Test.YtbakkpabiknlmaaGreatSyEo
import Derived.Test.YtbakkpabiknlmaaGreatSyNz
import Derived.Deep.RegionLaw
namespace Go.Proofs.YtbakkpabiknlmaaGreat
open Go.RowKit
set_option linter.unusedSimpArgs false
set_option linter.unusedVariables false

theorem IntsR.set_far {w : World} {A : Option Addr} {n : Nat} {l : List Int} (h : IntsR w A n l) {g o : Nat} (hf : FarN A n g) (u : Value) : IntsR (w.setCell ⟨g, o, none⟩ u) A n l := by
  refine ⟨h.1, h.2.1, fun hn => ?_⟩
  obtain ⟨b, off, e, hb, hc⟩ := h.2.2 hn
  refine ⟨b, off, e, by simpa using hb, fun j hj => ?_⟩
  rw [← hc j hj]
  exact World.cell?_of_block (Below.heap_setCell _ _ _ _ ((hf.resolve_left (by omega)) b off none e))
theorem IntsR.farN {w : World} {A : Option Addr} {n : Nat} {l : List Int} (h : IntsR w A n l) {g : Nat} (hg : w.heap.size ≤ g) : FarN A n g := by
  rcases Nat.eq_zero_or_pos n with h0 | h0
  · exact .inl h0
  · obtain ⟨b, off, e, hb, _⟩ := h.2.2 h0
    exact .inr (fun b' o' s' e' => by rw [e] at e'; injection e' with e'; injection e' with e1; omega)
theorem OwnI.farN {w : World} {C : Nat} {A : Option Addr} {n c : Nat} {l : List Int} (h : OwnI w C (.slice A n c) l) {g : Nat} (hg : g < C) : FarN A n g := .inr (fun b o s e => by
  subst e
  rcases own_shape h with ⟨e2, _⟩ | ⟨g', c2, e2, hg', _⟩
  · injection e2 with e3; cases e3
  · injection e2 with e3; injection e3 with e3; injection e3 with e4; omega)
set_option maxRecDepth 100000 in
set_option maxHeartbeats 8000000 in
theorem ref22_Step (pA qA sA lA : Option Addr) (pn pc qn qc sn sc ln lc : Nat) (p : List PairD) (q : List AcctD) (s : List Int) (l : List HeldD) (cn : Nat) (FP : List PairD) (FQ : List AcctD) (N : Nat) (w : World) (hp : PairsR w pA pn p) (hq : AcctsR w qA qn q) (hs : IntsR w sA sn s) (hl : HeldsR w lA ln l) (h1 : exB p q s cn = true) (h2 : hdB l = true) (h3 : sn ≤ 1000000) (h4 : ln ≤ 1000000) (hR : stepR l (s.drop cn) p q = ((FP, FQ), N)) :
    Calls Tryz.prog 11 #[.agg #[.slice pA pn pc, .slice qA qn qc, .slice sA sn sc, .int .i64 cn], .slice lA ln lc] w fun e w' => ∃ (A' : Option Addr) (n' c' : Nat) (B' : Option Addr) (m' d' : Nat) (S' : Option Addr) (e' : Nat), e = .returned (.tuple #[.agg #[.slice A' n' c', .slice B' m' d', .slice S' sn e', .int .i64 ((cn : Int) + (N : Int))], .int .i64 N]) ∧ PairsR w' A' n' FP ∧ AcctsR w' B' m' FQ ∧ IntsR w' S' sn s ∧ (∀ g, g < w.heap.size → FarN A' n' g ∧ FarN B' m' g ∧ FarN S' sn g) ∧ Below w.heap.size w w' := by
  have HP := Lib.hid hp
  have HQ := Lib.hid hq
  have HS := Lib.hid hs
  have HN := Lib.hid hs.1
  have HL := Lib.hid hl
  have HLN := Lib.hid hl.1
  have HH : Hid (MayHs l) := Lib.hid (hdB_iff.1 h2)
  have hM := (exB_iff.1 h1).1
  have hpl : pn ≤ 4096 := by rw [← hp.1]; exact hM.1.1
  have hql : qn ≤ 4096 := by rw [← hq.1]; exact hM.2.1
  have hcn : cn ≤ sn := by have := (exB_iff.1 h1).2.2.2; rw [hs.1] at this; omega
  have HM := Lib.hid hM
  have HR := Lib.hid hR
  clear hp hq hs hl h1 h2 hM hR
  go_enter Tryz.func11, Tryz.ntmps11
  have hR0 : Blk ((w.alloc (.cells #[.slice pA pn pc, .slice qA qn qc, .slice sA sn sc, .int .i64 cn] 28)).alloc (.cells #[.slice none 0 0, .slice none 0 0, .slice none 0 0, .int .i64 0] 28)) (w.heap.size + 1) 28 [.slice none 0 0, .slice none 0 0, .slice none 0 0, .int .i64 0] := by have q := Blk.new (w.alloc (.cells #[.slice pA pn pc, .slice qA qn qc, .slice sA sn sc, .int .i64 cn] 28)) 28 [.slice none 0 0, .slice none 0 0, .slice none 0 0, .int .i64 0]; simpa using q
  have hB0 : BoxR ((w.alloc (.cells #[.slice pA pn pc, .slice qA qn qc, .slice sA sn sc, .int .i64 cn] 28)).alloc (.cells #[.slice none 0 0, .slice none 0 0, .slice none 0 0, .int .i64 0] 28)) w.heap.size [.slice pA pn pc, .slice qA qn qc, .slice sA sn sc, .int .i64 cn] := (BoxR.new w [.slice pA pn pc, .slice qA qn qc, .slice sA sn sc, .int .i64 cn] 28).up (by (repeat (first | (with_reducible exact Below.refl _ _) | (with_reducible assumption) | (with_reducible apply bel_alloc) | (with_reducible apply bel_drew) | (with_reducible apply bel_drewN) | (with_reducible refine bel_trans ?_ (by with_reducible assumption)) | (with_reducible refine bel_trans ?_ (HF.out _)) | (with_reducible refine bel_set ?_ (by simp) _) | (with_reducible refine bel_set ?_ (by simp; omega) _) | (with_reducible refine bel_set ?_ (by omega) _))))
  have HR0 := Lib.hid hR0
  have b_0 := (hB0).2 0 _ rfl; have b_1 := (hB0).2 1 _ rfl; have b_2 := (hB0).2 2 _ rfl; have b_3 := (hB0).2 3 _ rfl
  clear hR0 hB0
  go_wp2_with fail
  refine (ref0_CopyExec pA qA sA pn pc qn qc sn sc p q s cn _ (HP.out.up (by (repeat (first | (with_reducible exact Below.refl _ _) | (with_reducible assumption) | (with_reducible apply bel_alloc) | (with_reducible apply bel_drew) | (with_reducible apply bel_drewN) | (with_reducible refine bel_trans ?_ (by with_reducible assumption)) | (with_reducible refine bel_trans ?_ (HF.out _)) | (with_reducible refine bel_set ?_ (by simp) _) | (with_reducible refine bel_set ?_ (by simp; omega) _) | (with_reducible refine bel_set ?_ (by omega) _))))) (HQ.out.up (by (repeat (first | (with_reducible exact Below.refl _ _) | (with_reducible assumption) | (with_reducible apply bel_alloc) | (with_reducible apply bel_drew) | (with_reducible apply bel_drewN) | (with_reducible refine bel_trans ?_ (by with_reducible assumption)) | (with_reducible refine bel_trans ?_ (HF.out _)) | (with_reducible refine bel_set ?_ (by simp) _) | (with_reducible refine bel_set ?_ (by simp; omega) _) | (with_reducible refine bel_set ?_ (by omega) _))))) (HS.out.up (by (repeat (first | (with_reducible exact Below.refl _ _) | (with_reducible assumption) | (with_reducible apply bel_alloc) | (with_reducible apply bel_drew) | (with_reducible apply bel_drewN) | (with_reducible refine bel_trans ?_ (by with_reducible assumption)) | (with_reducible refine bel_trans ?_ (HF.out _)) | (with_reducible refine bel_set ?_ (by simp) _) | (with_reducible refine bel_set ?_ (by simp; omega) _) | (with_reducible refine bel_set ?_ (by omega) _))))) (by omega) (by omega) (by omega)).mono ?_
  rintro e w1 ⟨vp, va, vs, rfl, hEx, hb1⟩
  obtain ⟨Ap, cp, rfl, hP1⟩ := nmP hEx.p HP.out.1 (by omega)
  obtain ⟨Aa, ca, rfl, hA1⟩ := nmA hEx.a HQ.out.1 (by omega)
  obtain ⟨As, cs, rfl, hS1⟩ := nmI hEx.s HN.out (by omega)
  obtain ⟨g6, hg6⟩ : ∃ g, g = w1.heap.size := ⟨_, rfl⟩
  have hz1 := hb1.size
  have hsz : (((w.alloc (.cells #[.slice pA pn pc, .slice qA qn qc, .slice sA sn sc, .int .i64 cn] 28)).alloc (.cells #[.slice none 0 0, .slice none 0 0, .slice none 0 0, .int .i64 0] 28))).heap.size = w.heap.size + 2 := by simp
  have hG1 : Blk (w1.alloc (.cells #[.slice Ap pn cp, .slice Aa qn ca, .slice As sn cs, .int .i64 (cn)] 28)) g6 28 [.slice Ap pn cp, .slice Aa qn ca, .slice As sn cs, .int .i64 (cn)] := by rw [hg6]; exact Blk.new w1 28 [.slice Ap pn cp, .slice Aa qn ca, .slice As sn cs, .int .i64 (cn)]
  have HF0 : Hid (∀ g, g < w.heap.size + 2 ∨ g = g6 → FarN Ap pn g ∧ FarN Aa qn g) := Lib.hid (fun g hg => by
    rcases hg with h | h
    · exact ⟨hEx.p.farN (by rw [hsz]; exact h), hEx.a.farN (by rw [hsz]; exact h)⟩
    · exact ⟨hP1.farN (by omega), hA1.farN (by omega)⟩)
  have HFS : Hid (∀ g, g < w.heap.size + 2 ∨ g = g6 → FarN As sn g) := Lib.hid (fun g hg => by
    rcases hg with h | h
    · exact hEx.s.farN (by rw [hsz]; exact h)
    · exact hS1.farN (by omega))
  have HG1 := Lib.hid hG1
  have hgw : w.heap.size + 2 ≤ g6 := by omega
  have hbA : Below w1.heap.size w1 (w1.alloc (.cells #[.slice Ap pn cp, .slice Aa qn ca, .slice As sn cs, .int .i64 (cn)] 28)) := by (repeat (first | (with_reducible exact Below.refl _ _) | (with_reducible assumption) | (with_reducible apply bel_alloc) | (with_reducible apply bel_drew) | (with_reducible apply bel_drewN) | (with_reducible refine bel_trans ?_ (by with_reducible assumption)) | (with_reducible refine bel_trans ?_ (HF.out _)) | (with_reducible refine bel_set ?_ (by simp) _) | (with_reducible refine bel_set ?_ (by simp; omega) _) | (with_reducible refine bel_set ?_ (by omega) _)))
  have HP1 : Hid (PairsR (w1.alloc (.cells #[.slice Ap pn cp, .slice Aa qn ca, .slice As sn cs, .int .i64 (cn)] 28)) Ap pn p ∧ AcctsR (w1.alloc (.cells #[.slice Ap pn cp, .slice Aa qn ca, .slice As sn cs, .int .i64 (cn)] 28)) Aa qn q ∧ IntsR (w1.alloc (.cells #[.slice Ap pn cp, .slice Aa qn ca, .slice As sn cs, .int .i64 (cn)] 28)) As sn s) := Lib.hid ⟨hP1.up hbA, hA1.up hbA, hS1.up hbA⟩
  have HR1 := Lib.hid ((HR0.out.up hb1).up hbA)
  have hbw1 : Below w.heap.size w (w1.alloc (.cells #[.slice Ap pn cp, .slice Aa qn ca, .slice As sn cs, .int .i64 (cn)] 28)) := by (repeat (first | (with_reducible exact Below.refl _ _) | (with_reducible assumption) | (with_reducible apply bel_alloc) | (with_reducible apply bel_drew) | (with_reducible apply bel_drewN) | (with_reducible refine bel_trans ?_ (by with_reducible assumption)) | (with_reducible refine bel_trans ?_ (HF.out _)) | (with_reducible refine bel_set ?_ (by simp) _) | (with_reducible refine bel_set ?_ (by simp; omega) _) | (with_reducible refine bel_set ?_ (by omega) _)))
  clear hEx hP1 hA1 hS1 hG1 hbA b_0 b_1 b_2 b_3
  go_wp2_with fail
  rw [← hg6]
  clear hb1 hz1 hsz hg6
  go_loopw [7] (fun s7 wr => ∃ (k : Nat) (P : List PairD) (Q : List AcctD) (A : Option Addr) (n c : Nat) (B : Option Addr) (m d : Nat), cn + k ≤ sn ∧ s7 = .int .i64 k ∧ Hid (Blk wr g6 28 [.slice A n c, .slice B m d, .slice As sn cs, .int .i64 ((cn : Int) + (k : Int))]) ∧ Hid (PairsR wr A n P ∧ AcctsR wr B m Q ∧ IntsR wr As sn s) ∧ Hid (MayT P Q) ∧ Hid ((stepR l (s.drop (cn + k)) P Q).1 = (FP, FQ)) ∧ Hid (k + (stepR l (s.drop (cn + k)) P Q).2 = N) ∧ Hid (∀ g, g < w.heap.size + 2 ∨ g = g6 → FarN A n g ∧ FarN B m g) ∧ Hid (Blk wr (w.heap.size + 1) 28 [.slice none 0 0, .slice none 0 0, .slice none 0 0, .int .i64 0]) ∧ Below w.heap.size w wr) (fun s7 _ => sn - cn - (intOf s7).toNat)
  case atStart => exact ⟨0, p, q, Ap, pn, cp, Aa, qn, ca, by omega, rfl, Lib.hid (by simpa using HG1.out), HP1, HM, Lib.hid (by rw [Nat.add_zero, HR.out]), Lib.hid (by rw [Nat.add_zero, HR.out]; simp), HF0, HR1, hbw1⟩
  case round =>
    clear HG1 HP1 HR1 HF0 hbw1
    obtain ⟨k, P, Q, A, n, c, B, m, d, hk, rfl, HG, HPR, HM', HS1, HS2, HF, HRs, hbw⟩ := hrel
    (obtain ⟨wk, hwk⟩ : ∃ x, x = wr := ⟨_, rfl⟩); subst hwk
    have hgl := HG.out.lt
    have hrl0 := HRs.out.lt
    by_cases hlt : cn + k < sn
    · obtain ⟨sb, soff, rfl, hsb, hsc⟩ := HPR.out.2.2.2.2 (by omega)
      have hck := hsc (cn + k) hlt
      have htn : ((cn : Int) + (k : Int)).toNat = cn + k := by omega
      have hdl : decide ((cn : Int) + (k : Int) < (sn : Int)) = true := by simp; omega
      obtain ⟨x, hx⟩ : ∃ x, nth s (cn + k) = x := ⟨_, rfl⟩
      rw [hx] at hck
      have HKL : Hid (cn + k < s.length) := Lib.hid (by rw [HN.out]; exact hlt)
      have HXX := Lib.hid hx
      obtain ⟨z, hz⟩ : ∃ z, hatS l x = z := ⟨_, rfl⟩
      have HZ := Lib.hid hz
      clear hsc hx hz
      cases hh : khasH l x
      · have hz0 : decide (z < 0) = true := by rw [← HZ.out]; exact decide_eq_true ((hat_has HH.out x).2 hh)
        have hno := stepR_no HKL.out P Q (by rw [HXX.out]; exact hh)
        have h5 := HS1.out
        have h6 := HS2.out
        rw [hno] at h5 h6
        have e1 : P = FP ∧ Q = FQ := ⟨congrArg Prod.fst h5, congrArg Prod.snd h5⟩
        obtain ⟨rfl, rfl⟩ := e1
        have e2 : k = N := by simpa using h6
        subst e2
        clear hno h5 h6 hh
        have e_0 := (HG.out.box).2 0 _ rfl; have e_1 := (HG.out.box).2 1 _ rfl; have e_2 := (HG.out.box).2 2 _ rfl; have e_3 := (HG.out.box).2 3 _ rfl
        go_wp2_with fail
        refine (ref22_at lA ln lc l x z _ (HL.out.up (by (repeat (first | (with_reducible exact Below.refl _ _) | (with_reducible assumption) | (with_reducible apply bel_alloc) | (with_reducible apply bel_drew) | (with_reducible apply bel_drewN) | (with_reducible refine bel_trans ?_ (by with_reducible assumption)) | (with_reducible refine bel_trans ?_ (HF.out _)) | (with_reducible refine bel_set ?_ (by simp) _) | (with_reducible refine bel_set ?_ (by simp; omega) _) | (with_reducible refine bel_set ?_ (by omega) _))))) HZ.out).mono ?_
        rintro e w2 ⟨rfl, hb2⟩
        clear e_0 e_1 e_2 e_3
        have hrs := HRs.out.up hb2
        have hrf := hrs.frozen
        have hrl := hrs.lt
        have hRn := (((hrs.set_ 0 (.slice A n c)).set_ 1 (.slice B m d)).set_ 2 (.slice (some ⟨sb, soff, none⟩) sn cs)).set_ 3 (.int .i64 ((cn : Int) + (k : Int)))
        have s0 := hRn.box.2 0 _ rfl
        have s1 := hRn.box.2 1 _ rfl
        have s2 := hRn.box.2 2 _ rfl
        have s3 := hRn.box.2 3 _ rfl
        have hfr := HF.out (w.heap.size + 1) (.inl (by omega))
        have hfs := HFS.out (w.heap.size + 1) (.inl (by omega))
        have HFR := Lib.hid (And.intro hfr.1 (And.intro hfr.2 hfs))
        have HRW : Hid (PairsR w2 A n P ∧ AcctsR w2 B m Q ∧ IntsR w2 (some ⟨sb, soff, none⟩) sn s) := Lib.hid ⟨HPR.out.1.up hb2, HPR.out.2.1.up hb2, HPR.out.2.2.up hb2⟩
        have hbwx := bel_trans hbw hb2
        have r_0 := (hrs.box).2 0 _ rfl; have r_1 := (hrs.box).2 1 _ rfl; have r_2 := (hrs.box).2 2 _ rfl; have r_3 := (hrs.box).2 3 _ rfl
        have e_0 := ((HG.out.up hb2).box).2 0 _ rfl; have e_1 := ((HG.out.up hb2).box).2 1 _ rfl; have e_2 := ((HG.out.up hb2).box).2 2 _ rfl; have e_3 := ((HG.out.up hb2).box).2 3 _ rfl
        clear hRn hfr hfs hrs
        go_wp2_with fail
        exact bodyPost_ret (v := .tuple #[.agg #[.slice A n c, .slice B m d, .slice (some ⟨sb, soff, none⟩) sn cs, .int .i64 ((cn : Int) + (k : Int))], .int .i64 k]) (by simp [results, Tryz.results11, go_sem, s0, s1, s2, s3]) rfl ⟨A, n, c, B, m, d, (some ⟨sb, soff, none⟩), cs, rfl, (((HRW.out.1.set_far HFR.out.1 _).set_far HFR.out.1 _).set_far HFR.out.1 _).set_far HFR.out.1 _, (((HRW.out.2.1.set_far HFR.out.2.1 _).set_far HFR.out.2.1 _).set_far HFR.out.2.1 _).set_far HFR.out.2.1 _, (((HRW.out.2.2.set_far HFR.out.2.2 _).set_far HFR.out.2.2 _).set_far HFR.out.2.2 _).set_far HFR.out.2.2 _, fun g hg => ⟨(HF.out g (.inl (by omega))).1, (HF.out g (.inl (by omega))).2, HFS.out g (.inl (by omega))⟩, (((hbwx.setCell (p := ⟨w.heap.size + 1, 0, none⟩) (by dsimp only; omega) _).setCell (p := ⟨w.heap.size + 1, 1, none⟩) (by dsimp only; omega) _).setCell (p := ⟨w.heap.size + 1, 2, none⟩) (by dsimp only; omega) _).setCell (p := ⟨w.heap.size + 1, 3, none⟩) (by dsimp only; omega) _⟩
      · obtain ⟨lo, hlo⟩ : ∃ lo, kposH l x = lo := ⟨_, rfl⟩
        have hzl : z = (lo : Int) := by rw [← HZ.out, hat_pos HH.out hh, hlo]
        subst hzl
        have hz0 : decide ((lo : Int) < 0) = false := by simp
        obtain ⟨hlol, hdi⟩ := khasH_lt hlo hh
        rw [HLN.out] at hlol
        obtain ⟨hb_, hoff, rfl, hhb, hhc⟩ := HL.out.2.2 (by omega)
        obtain ⟨xA, xm, xd, ⟨e0, e1, e2, e3⟩, htx⟩ := hhc lo hlol
        obtain ⟨bt, hbt⟩ : ∃ bt, (hth l lo).b = bt := ⟨_, rfl⟩
        have hbm : bmT bt = true := by rw [← hbt]; exact (HH.out lo (by rw [HLN.out]; exact hlol)).2.1
        rw [hbt] at e1 e2 htx
        have hxm : xm ≤ 8 := by rw [← htx.1]; exact (bmT_iff.1 hbm).2.2.2.2.2.1
        obtain ⟨⟨LF, QF⟩, hrt⟩ : ∃ r, runT bt.tx P Q = r := ⟨_, rfl⟩
        obtain ⟨M, hrn⟩ : ∃ r, runN bt.tx P Q = r := ⟨_, rfl⟩
        have HRT := Lib.hid hrt
        have HRN := Lib.hid hrn
        have HTX := Lib.hid htx
        have hrs := stepR_yes HKL.out P Q (by rw [HXX.out]; exact hh)
        rw [HXX.out, hlo, hbt, hrt] at hrs
        have h5 := HS1.out
        have h6 := HS2.out
        rw [hrs] at h5 h6
        dsimp only at h5 h6
        have H5 := Lib.hid h5
        have H6 := Lib.hid h6
        have HMN : Hid (MayT LF QF) := Lib.hid (by have := runT_may bt.tx HM'.out; rw [hrt] at this; exact this)
        have HCS : Hid (∀ Y, Below w.heap.size w Y → Y.cell? ⟨hb_, hoff + lo * 4 + 1, none⟩ = some (.int .i64 bt.au) ∧ Y.cell? ⟨hb_, hoff + lo * 4 + 2, none⟩ = some (.int .i64 bt.n) ∧ Y.cell? ⟨hb_, hoff + lo * 4 + 3, none⟩ = some (.slice xA xm xd)) := Lib.hid (fun Y hY => ⟨(hY.cell (p := ⟨hb_, hoff + lo * 4 + 1, none⟩) hhb).trans e1, (hY.cell (p := ⟨hb_, hoff + lo * 4 + 2, none⟩) hhb).trans e2, (hY.cell (p := ⟨hb_, hoff + lo * 4 + 3, none⟩) hhb).trans e3⟩)
        clear hhc htx hbt hbm hdi hh hlo hrt hrn hrs h5 h6 e0 e1 e2 e3
        have e_0 := (HG.out.box).2 0 _ rfl; have e_1 := (HG.out.box).2 1 _ rfl; have e_2 := (HG.out.box).2 2 _ rfl; have e_3 := (HG.out.box).2 3 _ rfl
        go_wp2_with fail
        refine (ref22_at (some ⟨hb_, hoff, none⟩) ln lc l x (lo : Int) _ (HL.out.up (by (repeat (first | (with_reducible exact Below.refl _ _) | (with_reducible assumption) | (with_reducible apply bel_alloc) | (with_reducible apply bel_drew) | (with_reducible apply bel_drewN) | (with_reducible refine bel_trans ?_ (by with_reducible assumption)) | (with_reducible refine bel_trans ?_ (HF.out _)) | (with_reducible refine bel_set ?_ (by simp) _) | (with_reducible refine bel_set ?_ (by simp; omega) _) | (with_reducible refine bel_set ?_ (by omega) _))))) HZ.out).mono ?_
        rintro e w2 ⟨rfl, hb2⟩
        have hbw2 := bel_trans hbw hb2
        have HG2 := Lib.hid (HG.out.up hb2)
        have HR2 := Lib.hid (HRs.out.up hb2)
        have HP2 : Hid (PairsR w2 A n P ∧ AcctsR w2 B m Q ∧ IntsR w2 (some ⟨sb, soff, none⟩) sn s) := Lib.hid ⟨HPR.out.1.up hb2, HPR.out.2.1.up hb2, HPR.out.2.2.up hb2⟩
        have hg2l := HG2.out.lt
        clear e_0 e_1 e_2 e_3
        have e_0 := (HG2.out.box).2 0 _ rfl; have e_1 := (HG2.out.box).2 1 _ rfl; have e_2 := (HG2.out.box).2 2 _ rfl; have e_3 := (HG2.out.box).2 3 _ rfl
        obtain ⟨h_1, h_2, h_3⟩ := HCS.out w2 hbw2
        go_upto_region 6 with fail
        go_region_law (first | (go_wp2_with (go_at_call 35; refine (ref22_Batch A n c P B m d Q bt.au bt.n xA xm xd bt.tx LF QF M _ (HP2.out.1.up (by (repeat (first | (with_reducible exact Below.refl _ _) | (with_reducible assumption) | (with_reducible apply bel_alloc) | (with_reducible apply bel_drew) | (with_reducible apply bel_drewN) | (with_reducible refine bel_trans ?_ (by with_reducible assumption)) | (with_reducible refine bel_trans ?_ (HF.out _)) | (with_reducible refine bel_set ?_ (by simp) _) | (with_reducible refine bel_set ?_ (by simp; omega) _) | (with_reducible refine bel_set ?_ (by omega) _))))) (HP2.out.2.1.up (by (repeat (first | (with_reducible exact Below.refl _ _) | (with_reducible assumption) | (with_reducible apply bel_alloc) | (with_reducible apply bel_drew) | (with_reducible apply bel_drewN) | (with_reducible refine bel_trans ?_ (by with_reducible assumption)) | (with_reducible refine bel_trans ?_ (HF.out _)) | (with_reducible refine bel_set ?_ (by simp) _) | (with_reducible refine bel_set ?_ (by simp; omega) _) | (with_reducible refine bel_set ?_ (by omega) _))))) (HTX.out.up (bel_trans hbw2 (by (repeat (first | (with_reducible exact Below.refl _ _) | (with_reducible assumption) | (with_reducible apply bel_alloc) | (with_reducible apply bel_drew) | (with_reducible apply bel_drewN) | (with_reducible refine bel_trans ?_ (by with_reducible assumption)) | (with_reducible refine bel_trans ?_ (HF.out _)) | (with_reducible refine bel_set ?_ (by simp) _) | (with_reducible refine bel_set ?_ (by simp; omega) _) | (with_reducible refine bel_set ?_ (by omega) _)))))) HM'.out HRT.out HRN.out (by omega)).mono ?_; rintro e w7 ⟨A7, n7, c7, B7, m7, d7, rfl, hP7, hA7, hF7, hb7⟩; have HP7 := Lib.hid hP7; have HA7 := Lib.hid hA7; have HF7 := Lib.hid hF7; clear hF7 hP7 hA7; have hb27 : Below w2.heap.size w2 w7 := (by (repeat (first | (with_reducible exact Below.refl _ _) | (with_reducible assumption) | (with_reducible apply bel_alloc) | (with_reducible apply bel_drew) | (with_reducible apply bel_drewN) | (with_reducible refine bel_trans ?_ (by with_reducible assumption)) | (with_reducible refine bel_trans ?_ (HF.out _)) | (with_reducible refine bel_set ?_ (by simp) _) | (with_reducible refine bel_set ?_ (by simp; omega) _) | (with_reducible refine bel_set ?_ (by omega) _)))); have hG7 := HG2.out.up hb27; have hgl7 := hG7.lt; have hgf7 := hG7.frozen; have f_0 := (hG7.box).2 0 _ rfl; have f_1 := (hG7.box).2 1 _ rfl; have f_2 := (hG7.box).2 2 _ rfl; have f_3 := (hG7.box).2 3 _ rfl; have HG7 := Lib.hid hG7; clear hG7)))
        all_goals
          have hf0 := HF7.out g6 (by simpa using hg2l) (HF.out g6 (.inr rfl)).1 (HF.out g6 (.inr rfl)).2
          have HF0 := Lib.hid hf0
          have hW : w.heap.size + 2 ≤ w2.heap.size := by omega
          have HFn : Hid (∀ g, g < w.heap.size + 2 ∨ g = g6 → FarN A7 n7 g ∧ FarN B7 m7 g) := Lib.hid (fun g hg => HF7.out g (by simp; omega) (HF.out g hg).1 (HF.out g hg).2)
          have HS7 : Hid (IntsR w7 (some ⟨sb, soff, none⟩) sn s) := Lib.hid (HP2.out.2.2.up hb27)
          have HR7 := Lib.hid (HR2.out.up hb27)
          have hbw7 := bel_trans hbw2 hb27
          clear hf0
          go_wp2_with fail
          (first | (go_round; (case rel => exact ⟨k + 1, LF, QF, A7, n7, c7, B7, m7, d7, by omega, by go_num, Lib.hid (by rw [show (cn : Int) + ((k + 1 : Nat) : Int) = (cn : Int) + (k : Int) + 1 by omega]; exact ((HG7.out.set_ 0 _).set_ 1 _).set_ 3 _), Lib.hid ⟨((HP7.out.set_far HF0.out.1 _).set_far HF0.out.1 _).set_far HF0.out.1 _, ((HA7.out.set_far HF0.out.2 _).set_far HF0.out.2 _).set_far HF0.out.2 _, ((HS7.out.set_far (HFS.out g6 (.inr rfl)) _).set_far (HFS.out g6 (.inr rfl)) _).set_far (HFS.out g6 (.inr rfl)) _⟩, HMN, Lib.hid (by rw [← Nat.add_assoc]; exact H5.out), Lib.hid (by rw [← Nat.add_assoc]; have := H6.out; omega), HFn, Lib.hid (((HR7.out.far (p := ⟨g6, 0, none⟩) (by dsimp only; omega) _).far (p := ⟨g6, 1, none⟩) (by dsimp only; omega) _).far (p := ⟨g6, 3, none⟩) (by dsimp only; omega) _), ((hbw7.setCell (p := ⟨g6, 0, none⟩) (by dsimp only; omega) _).setCell (p := ⟨g6, 1, none⟩) (by dsimp only; omega) _).setCell (p := ⟨g6, 3, none⟩) (by dsimp only; omega) _⟩); (case measure => (simp [intOf] <;> omega))) | (go_roundw; (case rel => exact ⟨k + 1, LF, QF, A7, n7, c7, B7, m7, d7, by omega, by go_num, Lib.hid (by rw [show (cn : Int) + ((k + 1 : Nat) : Int) = (cn : Int) + (k : Int) + 1 by omega]; exact ((HG7.out.set_ 0 _).set_ 1 _).set_ 3 _), Lib.hid ⟨((HP7.out.set_far HF0.out.1 _).set_far HF0.out.1 _).set_far HF0.out.1 _, ((HA7.out.set_far HF0.out.2 _).set_far HF0.out.2 _).set_far HF0.out.2 _, ((HS7.out.set_far (HFS.out g6 (.inr rfl)) _).set_far (HFS.out g6 (.inr rfl)) _).set_far (HFS.out g6 (.inr rfl)) _⟩, HMN, Lib.hid (by rw [← Nat.add_assoc]; exact H5.out), Lib.hid (by rw [← Nat.add_assoc]; have := H6.out; omega), HFn, Lib.hid (((HR7.out.far (p := ⟨g6, 0, none⟩) (by dsimp only; omega) _).far (p := ⟨g6, 1, none⟩) (by dsimp only; omega) _).far (p := ⟨g6, 3, none⟩) (by dsimp only; omega) _), ((hbw7.setCell (p := ⟨g6, 0, none⟩) (by dsimp only; omega) _).setCell (p := ⟨g6, 1, none⟩) (by dsimp only; omega) _).setCell (p := ⟨g6, 3, none⟩) (by dsimp only; omega) _⟩); (case measure => (simp [intOf] <;> omega))) | (refine ⟨?_, by simp [intOf] <;> omega⟩; (repeat apply Exists.intro); refine ⟨?rel, ?fr⟩; (case fr => ((repeat' apply And.intro) <;> rfl)); (case rel => exact ⟨k + 1, LF, QF, A7, n7, c7, B7, m7, d7, by omega, by go_num, Lib.hid (by rw [show (cn : Int) + ((k + 1 : Nat) : Int) = (cn : Int) + (k : Int) + 1 by omega]; exact ((HG7.out.set_ 0 _).set_ 1 _).set_ 3 _), Lib.hid ⟨((HP7.out.set_far HF0.out.1 _).set_far HF0.out.1 _).set_far HF0.out.1 _, ((HA7.out.set_far HF0.out.2 _).set_far HF0.out.2 _).set_far HF0.out.2 _, ((HS7.out.set_far (HFS.out g6 (.inr rfl)) _).set_far (HFS.out g6 (.inr rfl)) _).set_far (HFS.out g6 (.inr rfl)) _⟩, HMN, Lib.hid (by rw [← Nat.add_assoc]; exact H5.out), Lib.hid (by rw [← Nat.add_assoc]; have := H6.out; omega), HFn, Lib.hid (((HR7.out.far (p := ⟨g6, 0, none⟩) (by dsimp only; omega) _).far (p := ⟨g6, 1, none⟩) (by dsimp only; omega) _).far (p := ⟨g6, 3, none⟩) (by dsimp only; omega) _), ((hbw7.setCell (p := ⟨g6, 0, none⟩) (by dsimp only; omega) _).setCell (p := ⟨g6, 1, none⟩) (by dsimp only; omega) _).setCell (p := ⟨g6, 3, none⟩) (by dsimp only; omega) _⟩)))
    · have hkq : cn + k = sn := by omega
      have hdl : decide ((cn : Int) + (k : Int) < (sn : Int)) = false := by simp; omega
      have hend := stepR_end (l := l) (s := s) (k := cn + k) (by rw [HN.out]; omega) P Q
      have h5 := HS1.out
      have h6 := HS2.out
      rw [hend] at h5 h6
      have e1 : P = FP ∧ Q = FQ := ⟨congrArg Prod.fst h5, congrArg Prod.snd h5⟩
      obtain ⟨rfl, rfl⟩ := e1
      have e2 : k = N := by simpa using h6
      subst e2
      clear hend h5 h6
      have hb2 : Below wk.heap.size wk wk := Below.refl _ _
      have hrs := HRs.out.up hb2
      have hrf := hrs.frozen
      have hrl := hrs.lt
      have hRn := (((hrs.set_ 0 (.slice A n c)).set_ 1 (.slice B m d)).set_ 2 (.slice As sn cs)).set_ 3 (.int .i64 ((cn : Int) + (k : Int)))
      have s0 := hRn.box.2 0 _ rfl
      have s1 := hRn.box.2 1 _ rfl
      have s2 := hRn.box.2 2 _ rfl
      have s3 := hRn.box.2 3 _ rfl
      have hfr := HF.out (w.heap.size + 1) (.inl (by omega))
      have hfs := HFS.out (w.heap.size + 1) (.inl (by omega))
      have HFR := Lib.hid (And.intro hfr.1 (And.intro hfr.2 hfs))
      have HRW : Hid (PairsR wk A n P ∧ AcctsR wk B m Q ∧ IntsR wk As sn s) := Lib.hid ⟨HPR.out.1.up hb2, HPR.out.2.1.up hb2, HPR.out.2.2.up hb2⟩
      have hbwx := bel_trans hbw hb2
      have r_0 := (hrs.box).2 0 _ rfl; have r_1 := (hrs.box).2 1 _ rfl; have r_2 := (hrs.box).2 2 _ rfl; have r_3 := (hrs.box).2 3 _ rfl
      have e_0 := ((HG.out.up hb2).box).2 0 _ rfl; have e_1 := ((HG.out.up hb2).box).2 1 _ rfl; have e_2 := ((HG.out.up hb2).box).2 2 _ rfl; have e_3 := ((HG.out.up hb2).box).2 3 _ rfl
      clear hRn hfr hfs hrs
      go_wp2_with fail
      exact bodyPost_ret (v := .tuple #[.agg #[.slice A n c, .slice B m d, .slice As sn cs, .int .i64 ((cn : Int) + (k : Int))], .int .i64 k]) (by simp [results, Tryz.results11, go_sem, s0, s1, s2, s3]) rfl ⟨A, n, c, B, m, d, As, cs, rfl, (((HRW.out.1.set_far HFR.out.1 _).set_far HFR.out.1 _).set_far HFR.out.1 _).set_far HFR.out.1 _, (((HRW.out.2.1.set_far HFR.out.2.1 _).set_far HFR.out.2.1 _).set_far HFR.out.2.1 _).set_far HFR.out.2.1 _, (((HRW.out.2.2.set_far HFR.out.2.2 _).set_far HFR.out.2.2 _).set_far HFR.out.2.2 _).set_far HFR.out.2.2 _, fun g hg => ⟨(HF.out g (.inl (by omega))).1, (HF.out g (.inl (by omega))).2, HFS.out g (.inl (by omega))⟩, (((hbwx.setCell (p := ⟨w.heap.size + 1, 0, none⟩) (by dsimp only; omega) _).setCell (p := ⟨w.heap.size + 1, 1, none⟩) (by dsimp only; omega) _).setCell (p := ⟨w.heap.size + 1, 2, none⟩) (by dsimp only; omega) _).setCell (p := ⟨w.heap.size + 1, 3, none⟩) (by dsimp only; omega) _⟩
end Go.Proofs.YtbakkpabiknlmaaGreat
