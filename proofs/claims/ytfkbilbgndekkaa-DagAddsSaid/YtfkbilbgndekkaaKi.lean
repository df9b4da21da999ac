/- The reference's Round and Top. -/
import Derived.Test.YtfkbilbgndekkaaKc
namespace Go.Proofs.Ytfkbilbgndekkaa
open Go.RowKit
set_option linter.unusedSimpArgs false
set_option linter.unusedVariables false

theorem filter_takeC {p : CertD → Bool} (l : List CertD) (k : Nat) (h : k < l.length) : (l.take (k + 1)).filter p = (l.take k).filter p ++ (if p (cth l k) then [cth l k] else []) := by
  rw [take_cth l k h, List.filter_append]; by_cases hp : p (cth l k) <;> simp [hp]
theorem filter_takeC_len {p : CertD → Bool} (l : List CertD) (k : Nat) : ((l.take k).filter p).length ≤ k := Nat.le_trans (List.length_filter_le _ _) (by simp; omega)
set_option maxRecDepth 100000 in
set_option maxHeartbeats 1000000 in
theorem ref14_Round (A : Option Addr) (n c : Nat) (l : List CertD) (nodes low r : Int) (w : World) (hl : CertsR w A n l) (hli : Light l) :
    Calls Try.prog 57 #[.agg #[.int .i64 nodes, .int .i64 low, .slice A n c], .int .i64 r] w fun e w' => ∃ v ps, e = .returned v ∧ OwnC w' w.heap.size v ps (roundL l r) ∧ Below w.heap.size w w' := by
  have HL := Lib.hid hl
  have hN := hl.1
  have hn : n ≤ 80 := by rw [← hN]; exact hli.1
  have HN := Lib.hid hN
  have HLI := Lib.hid hli
  clear hl hN hli
  go_enter Try.func57, Try.ntmps57
  go_wp2_with fail
  go_loopw [5, 6] (fun v i wr => ∃ (j : Nat) (ps : List CertP), j ≤ n ∧ i = .int .i64 j ∧ OwnC wr (w.heap.size + 1) v ps (roundL (l.take j) r) ∧ BoxR wr w.heap.size [.int .i64 nodes, .int .i64 low, .slice A n c] ∧ Below w.heap.size w wr ∧ w.heap.size + 1 ≤ wr.heap.size) (fun _ i _ => n - (intOf i).toNat)
  case atStart => exact ⟨0, [], Nat.zero_le _, rfl, OwnC.nil _ _, BoxR.new w [.int .i64 nodes, .int .i64 low, .slice A n c] 24, by (repeat (first | (with_reducible exact Below.refl _ _) | (with_reducible assumption) | (with_reducible apply bel_alloc) | (with_reducible apply bel_drew) | (with_reducible apply bel_drewN) | (with_reducible refine bel_trans ?_ (by with_reducible assumption)) | (with_reducible refine bel_trans ?_ (HF.out _)) | (with_reducible refine bel_set ?_ (by simp) _) | (with_reducible refine bel_set ?_ (by simp; omega) _) | (with_reducible refine bel_set ?_ (by omega) _))), by simp⟩
  case round =>
    obtain ⟨j, ps, hj, rfl, hown, hB, hbw, hsz⟩ := hrel
    (obtain ⟨wk, hwk⟩ : ∃ x, x = wr := ⟨_, rfl⟩); subst hwk
    have b_0 := (hB).2 0 _ rfl; have b_1 := (hB).2 1 _ rfl; have b_2 := (hB).2 2 _ rfl
    have hg0 := hB.1
    by_cases hlt : j < n
    · obtain ⟨b, off, rfl, hb, hc⟩ := (HL.out.up hbw).2.2 (by omega)
      obtain ⟨p, hat, hcr⟩ := hc j hlt
      obtain ⟨c0, c1, c2, c3, c4, c5⟩ := hat
      have hlj := HLI.out.2 j (by rw [HN.out]; exact hlt)
      obtain ⟨⟨⟨bA, bn, bc⟩, ⟨pA, pn, pc⟩⟩, ⟨sA, sn, sc⟩⟩ := p
      dsimp only at c0 c1 c2 c3 c4 c5
      have hq1 : bn ≤ 1000000000 := by have := hlj.1; rw [hcr.1.1.1] at this; dsimp only at this; omega
      have hq2 : pn ≤ 1000000000 := by have := hlj.2.1; rw [hcr.1.2.1] at this; dsimp only at this; omega
      have hq3 : sn ≤ 1000000000 := by have := hlj.2.2; rw [hcr.2.1] at this; dsimp only at this; omega
      have HCR := Lib.hid hcr
      have HFT := Lib.hid (filter_takeC (p := fun c => decide (c.h.ro = r)) l j (by rw [HN.out]; exact hlt))
      have hlen := filter_takeC_len (p := fun c => decide (c.h.ro = r)) l j
      have HO := Lib.hid hown
      have HB := Lib.hid hB
      clear hc hcr hlj hown hB
      by_cases hq : (cth l j).h.ro = r
      · have hd : ((cth l j).h.ro == r) = true := by simpa using hq
        have HQ := Lib.hid hq
        clear hq
        go_wp2_with fail
        refine (ref0_CopyCert (cth l j) bA pA sA bn bc pn pc sn sc _ HCR.out hq1 hq2 hq3).mono ?_
        rintro e w1 ⟨p, rfl, hR, hNw, hb1⟩
        have hown1 := HO.out.up hb1
        have hA1 := hR.toA hNw (blk := u5.ownBlock) (fun g hg => (HO.out.lt g hg).2)
        have hbx := BoxR.new w1 (certCells p (cth l j)) 48
        have hb1' : Below w1.heap.size w1 (w1.alloc (.cells (certCells p (cth l j)).toArray 48)) := by (repeat (first | (with_reducible exact Below.refl _ _) | (with_reducible assumption) | (with_reducible apply bel_alloc) | (with_reducible apply bel_drew) | (with_reducible apply bel_drewN) | (with_reducible refine bel_trans ?_ (by with_reducible assumption)) | (with_reducible refine bel_trans ?_ (HF.out _)) | ((with_reducible refine bel_set3 ?_ ?_); rotate_left; omega)))
        have hsz1 := hb1.size
        have hB2 := HB.out.up (w' := w1.alloc (.cells (certCells p (cth l j)).toArray 48)) (by (repeat (first | (with_reducible exact Below.refl _ _) | (with_reducible assumption) | (with_reducible apply bel_alloc) | (with_reducible apply bel_drew) | (with_reducible apply bel_drewN) | (with_reducible refine bel_trans ?_ (by with_reducible assumption)) | (with_reducible refine bel_trans ?_ (HF.out _)) | (with_reducible refine bel_set ?_ (by simp) _) | (with_reducible refine bel_set ?_ (by simp; omega) _) | (with_reducible refine bel_set ?_ (by omega) _))))
        go_wp2_with (at_builtin; refine wpList_appC rfl (.tmp 23) (.tmp 30) rfl (w.heap.size + 1) u5 ps (roundL (l.take j) r) rfl (hown1.up hb1') _ p (cth l j) rfl hbx (hA1.up hb1') (cert_new hNw (by omega)) (by have : (roundL (l.take j) r).length ≤ j := hlen; omega) (le_alloc (Nat.le_trans hsz hsz1)) ?_; intro v2 w2 hown2 hb2)
        (first | (go_round; (case rel => exact ⟨j + 1, ps ++ [p], by omega, by go_num, by (have e := HFT.out; rw [if_pos (by simpa using HQ.out)] at e; unfold roundL at hown2 ⊢; rw [e]; exact hown2), hB2.below hb2 (by omega), Below.trans (bel_alloc (bel_trans hbw hb1)) (hb2.mono (by omega)), Nat.le_trans hsz (Nat.le_trans hsz1 (Nat.le_trans (by simp) hb2.size))⟩); (case measure => (simp [intOf] <;> omega))) | (go_roundw; (case rel => exact ⟨j + 1, ps ++ [p], by omega, by go_num, by (have e := HFT.out; rw [if_pos (by simpa using HQ.out)] at e; unfold roundL at hown2 ⊢; rw [e]; exact hown2), hB2.below hb2 (by omega), Below.trans (bel_alloc (bel_trans hbw hb1)) (hb2.mono (by omega)), Nat.le_trans hsz (Nat.le_trans hsz1 (Nat.le_trans (by simp) hb2.size))⟩); (case measure => (simp [intOf] <;> omega))) | (refine ⟨?_, by simp [intOf] <;> omega⟩; (repeat apply Exists.intro); refine ⟨?rel, ?fr⟩; (case fr => ((repeat' apply And.intro) <;> rfl)); (case rel => exact ⟨j + 1, ps ++ [p], by omega, by go_num, by (have e := HFT.out; rw [if_pos (by simpa using HQ.out)] at e; unfold roundL at hown2 ⊢; rw [e]; exact hown2), hB2.below hb2 (by omega), Below.trans (bel_alloc (bel_trans hbw hb1)) (hb2.mono (by omega)), Nat.le_trans hsz (Nat.le_trans hsz1 (Nat.le_trans (by simp) hb2.size))⟩)))
      · have hd : ((cth l j).h.ro == r) = false := by simpa using hq
        have HQ := Lib.hid hq
        clear hq
        go_wp2_with fail
        (first | (go_round; (case rel => exact ⟨j + 1, ps, by omega, by go_num, by (have e := HFT.out; rw [if_neg (by simpa using HQ.out), List.append_nil] at e; have ho := HO.out; unfold roundL at ho ⊢; rw [e]; exact ho), HB.out, hbw, hsz⟩); (case measure => (simp [intOf] <;> omega))) | (go_roundw; (case rel => exact ⟨j + 1, ps, by omega, by go_num, by (have e := HFT.out; rw [if_neg (by simpa using HQ.out), List.append_nil] at e; have ho := HO.out; unfold roundL at ho ⊢; rw [e]; exact ho), HB.out, hbw, hsz⟩); (case measure => (simp [intOf] <;> omega))) | (refine ⟨?_, by simp [intOf] <;> omega⟩; (repeat apply Exists.intro); refine ⟨?rel, ?fr⟩; (case fr => ((repeat' apply And.intro) <;> rfl)); (case rel => exact ⟨j + 1, ps, by omega, by go_num, by (have e := HFT.out; rw [if_neg (by simpa using HQ.out), List.append_nil] at e; have ho := HO.out; unfold roundL at ho ⊢; rw [e]; exact ho), HB.out, hbw, hsz⟩)))
    · go_wp2_with fail
      go_ret
      have e : l.take j = l := List.take_of_length_le (by rw [HN.out]; omega)
      rw [e] at hown
      exact ⟨_, _, rfl, hown.mono (by omega), hbw⟩
def topL (l : List CertD) : Int := if l.length = 0 then 0 else (cth l (l.length - 1)).h.ro
set_option maxRecDepth 100000 in
set_option maxHeartbeats 1000000 in
theorem ref14_Top (A : Option Addr) (n c : Nat) (l : List CertD) (nodes low y : Int) (w : World) (hl : CertsR w A n l) (hy : topL l = y) :
    Calls Try.prog 33 #[.agg #[.int .i64 nodes, .int .i64 low, .slice A n c]] w fun e w' => e = .returned (.int .i64 y) ∧ Below w.heap.size w w' := by
  have HL := Lib.hid hl
  have HN := Lib.hid hl.1
  have hnn := hl.2.1
  have HY := Lib.hid hy
  clear hl hy
  rcases Nat.eq_zero_or_pos n with h0 | h0
  · subst h0
    go_enter Try.func33, Try.ntmps33
    go_wp2_with fail
    go_ret
    exact ⟨ret_int (by rw [← HY.out]; unfold topL; rw [HN.out]; rfl), by (repeat (first | (with_reducible exact Below.refl _ _) | (with_reducible assumption) | (with_reducible apply bel_alloc) | (with_reducible apply bel_drew) | (with_reducible apply bel_drewN) | (with_reducible refine bel_trans ?_ (by with_reducible assumption)) | (with_reducible refine bel_trans ?_ (HF.out _)) | (with_reducible refine bel_set ?_ (by simp) _) | (with_reducible refine bel_set ?_ (by simp; omega) _) | (with_reducible refine bel_set ?_ (by omega) _)))⟩
  · obtain ⟨b, off, rfl, hb, hc⟩ := HL.out.2.2 h0
    obtain ⟨m, hm⟩ : ∃ m, m = n - 1 := ⟨_, rfl⟩
    obtain ⟨p, hat, _⟩ := hc m (by omega)
    obtain ⟨c0, c1, c2, c3, c4, c5⟩ := hat
    have hnb : ((n : Int) == 0) = false := by simp; omega
    have hm1 : (n : Int) - 1 = (m : Int) := by omega
    have hmn : m < n := by omega
    have HMM := Lib.hid hm
    clear hc hm
    go_enter Try.func33, Try.ntmps33
    go_wp2_with fail
    go_ret
    exact ⟨ret_int (by rw [← HY.out]; unfold topL; rw [HN.out, if_neg (by omega), HMM.out]), by (repeat (first | (with_reducible exact Below.refl _ _) | (with_reducible assumption) | (with_reducible apply bel_alloc) | (with_reducible apply bel_drew) | (with_reducible apply bel_drewN) | (with_reducible refine bel_trans ?_ (by with_reducible assumption)) | (with_reducible refine bel_trans ?_ (HF.out _)) | (with_reducible refine bel_set ?_ (by simp) _) | (with_reducible refine bel_set ?_ (by simp; omega) _) | (with_reducible refine bel_set ?_ (by omega) _)))⟩
set_option maxRecDepth 100000 in
set_option maxHeartbeats 1000000 in
theorem dag_High (A : Option Addr) (n c : Nat) (l : List CertD) (nodes low y : Int) (w : World) (hl : CertsR w A n l) (hy : topL l = y) :
    Calls Try.prog 93 #[.agg #[.int .i64 nodes, .int .i64 low, .slice A n c]] w fun e w' => e = .returned (.int .i64 y) ∧ Below w.heap.size w w' := by
  have HL := Lib.hid hl
  have HN := Lib.hid hl.1
  have hnn := hl.2.1
  have HY := Lib.hid hy
  clear hl hy
  rcases Nat.eq_zero_or_pos n with h0 | h0
  · subst h0
    go_enter Try.func93, Try.ntmps93
    go_wp2_with fail
    go_ret
    exact ⟨ret_int (by rw [← HY.out]; unfold topL; rw [HN.out]; rfl), by (repeat (first | (with_reducible exact Below.refl _ _) | (with_reducible assumption) | (with_reducible apply bel_alloc) | (with_reducible apply bel_drew) | (with_reducible apply bel_drewN) | (with_reducible refine bel_trans ?_ (by with_reducible assumption)) | (with_reducible refine bel_trans ?_ (HF.out _)) | (with_reducible refine bel_set ?_ (by simp) _) | (with_reducible refine bel_set ?_ (by simp; omega) _) | (with_reducible refine bel_set ?_ (by omega) _)))⟩
  · obtain ⟨b, off, rfl, hb, hc⟩ := HL.out.2.2 h0
    obtain ⟨m, hm⟩ : ∃ m, m = n - 1 := ⟨_, rfl⟩
    obtain ⟨p, hat, _⟩ := hc m (by omega)
    obtain ⟨c0, c1, c2, c3, c4, c5⟩ := hat
    have hnb : decide (0 < (n : Int)) = true := by simp; omega
    have hm1 : (n : Int) - 1 = (m : Int) := by omega
    have hmn : m < n := by omega
    have HMM := Lib.hid hm
    clear hc hm
    go_enter Try.func93, Try.ntmps93
    go_wp2_with fail
    go_ret
    exact ⟨ret_int (by rw [← HY.out]; unfold topL; rw [HN.out, if_neg (by omega), HMM.out]), by (repeat (first | (with_reducible exact Below.refl _ _) | (with_reducible assumption) | (with_reducible apply bel_alloc) | (with_reducible apply bel_drew) | (with_reducible apply bel_drewN) | (with_reducible refine bel_trans ?_ (by with_reducible assumption)) | (with_reducible refine bel_trans ?_ (HF.out _)) | (with_reducible refine bel_set ?_ (by simp) _) | (with_reducible refine bel_set ?_ (by simp; omega) _) | (with_reducible refine bel_set ?_ (by omega) _)))⟩
noncomputable def chkE (D : DagD) : Int := if mayS D = true then 0 else 1
noncomputable def topE (D : DagD) : Int := if mayS D = true then topL D.certs else 0
set_option maxRecDepth 100000 in
set_option maxHeartbeats 1000000 in
theorem dag_Top (A : Option Addr) (n c : Nat) (D : DagD) (x y : Int) (w : World) (hl : CertsR w A n D.certs) (hx : topE D = x) (hy : chkE D = y) :
    Calls Try.prog 56 #[.agg #[.int .i64 D.nodes, .int .i64 D.low, .slice A n c]] w fun e w' => e = .returned (.tuple #[.int .i64 x, .int .i64 y]) ∧ Below w.heap.size w w' := by
  cases hm : mayS D
  · have HX : Hid (x = 0 ∧ y = 1) := Lib.hid ⟨by rw [← hx]; simp [topE, hm], by rw [← hy]; simp [chkE, hm]⟩
    have HM := Lib.hid hm
    have HL := Lib.hid hl
    clear hx hy hm hl
    go_enter Try.func56, Try.ntmps56
    go_wp2_with fail
    refine (dag_May A n c D _ (HL.out.up (by (repeat (first | (with_reducible exact Below.refl _ _) | (with_reducible assumption) | (with_reducible apply bel_alloc) | (with_reducible apply bel_drew) | (with_reducible apply bel_drewN) | (with_reducible refine bel_trans ?_ (by with_reducible assumption)) | (with_reducible refine bel_trans ?_ (HF.out _)) | (with_reducible refine bel_set ?_ (by simp) _) | (with_reducible refine bel_set ?_ (by simp; omega) _) | (with_reducible refine bel_set ?_ (by omega) _)))))).mono ?_
    rintro e w1 ⟨rfl, hb1⟩
    rw [HM.out]
    go_wp2_with fail
    go_ret2
    exact ⟨by rw [HX.out.1, HX.out.2]; rfl, by (repeat (first | (with_reducible exact Below.refl _ _) | (with_reducible assumption) | (with_reducible apply bel_alloc) | (with_reducible apply bel_drew) | (with_reducible apply bel_drewN) | (with_reducible refine bel_trans ?_ (by with_reducible assumption)) | (with_reducible refine bel_trans ?_ (HF.out _)) | (with_reducible refine bel_set ?_ (by simp) _) | (with_reducible refine bel_set ?_ (by simp; omega) _) | (with_reducible refine bel_set ?_ (by omega) _)))⟩
  · have HX : Hid (x = topL D.certs ∧ y = 0) := Lib.hid ⟨by rw [← hx]; simp [topE, hm], by rw [← hy]; simp [chkE, hm]⟩
    have HM := Lib.hid hm
    have HL := Lib.hid hl
    clear hx hy hm hl
    go_enter Try.func56, Try.ntmps56
    go_wp2_with fail
    refine (dag_May A n c D _ (HL.out.up (by (repeat (first | (with_reducible exact Below.refl _ _) | (with_reducible assumption) | (with_reducible apply bel_alloc) | (with_reducible apply bel_drew) | (with_reducible apply bel_drewN) | (with_reducible refine bel_trans ?_ (by with_reducible assumption)) | (with_reducible refine bel_trans ?_ (HF.out _)) | (with_reducible refine bel_set ?_ (by simp) _) | (with_reducible refine bel_set ?_ (by simp; omega) _) | (with_reducible refine bel_set ?_ (by omega) _)))))).mono ?_
    rintro e w1 ⟨rfl, hb1⟩
    rw [HM.out]
    have hz_w1 : w.heap.size + 1 ≤ w1.heap.size := (by have hq := (hb1).size; (try simp at hq); omega); have hc0_w1 := fun o => (bcell hb1).1 (w.heap.size) o (by first | (simp; done) | (simp; omega) | omega)
    go_wp2_with fail
    refine (dag_High A n c D.certs _ _ _ _ (HL.out.up (by (repeat (first | (with_reducible exact Below.refl _ _) | (with_reducible assumption) | (with_reducible apply bel_alloc) | (with_reducible apply bel_drew) | (with_reducible apply bel_drewN) | (with_reducible refine bel_trans ?_ (by with_reducible assumption)) | (with_reducible refine bel_trans ?_ (HF.out _)) | (with_reducible refine bel_set ?_ (by simp) _) | (with_reducible refine bel_set ?_ (by simp; omega) _) | (with_reducible refine bel_set ?_ (by omega) _))))) HX.out.1.symm).mono ?_
    rintro e w2 ⟨rfl, hb2⟩
    go_wp2_with fail
    go_ret2
    exact ⟨by rw [HX.out.2]; rfl, by (repeat (first | (with_reducible exact Below.refl _ _) | (with_reducible assumption) | (with_reducible apply bel_alloc) | (with_reducible apply bel_drew) | (with_reducible apply bel_drewN) | (with_reducible refine bel_trans ?_ (by with_reducible assumption)) | (with_reducible refine bel_trans ?_ (HF.out _)) | (with_reducible refine bel_set ?_ (by simp) _) | (with_reducible refine bel_set ?_ (by simp; omega) _) | (with_reducible refine bel_set ?_ (by omega) _)))⟩
end Go.Proofs.Ytfkbilbgndekkaa
