/- droverlaw22: num, check, heavy. -/
import Derived.Test.YtgljmljmljccgaaNr
namespace Go.Proofs.Ytgljmljmljccgaa
open Go.RowKit
set_option linter.unusedSimpArgs false
set_option linter.unusedVariables false

set_option maxRecDepth 100000 in
set_option maxHeartbeats 1000000 in
theorem law22_num (x : Int) (w : World) : Calls Try.prog 18 #[.int .i64 x] w fun e w' => e = .returned (.int .i64 x) ∧ w = w' := by
  go_enter Try.func18, Try.ntmps18
  go_wp2
  go_ret
  exact ⟨rfl, rfl⟩
set_option maxRecDepth 100000 in
set_option maxHeartbeats 1000000 in
theorem law22_check (A : Option Addr) (n c : Nat) (l : List PairD) (B : Option Addr) (m d : Nat) (q : List AcctD) (y : Int) (w : World) (hl : PairsR w A n l) (hq : AcctsR w B m q) (hy : (if mayT l q = true then 0 else 1) = y) : Calls Try.prog 15 #[.agg #[.slice A n c, .slice B m d]] w fun e w' => e = .returned (.int .i64 y) ∧ Below w.heap.size w w' := by
  cases hm : mayT l q
  all_goals
    have HY := Lib.hid hy
    have HM := Lib.hid hm
    have HL := Lib.hid hl
    have HQ := Lib.hid hq
    clear hy hm hl hq
    go_enter Try.func15, Try.ntmps15
    go_wp2_with fail
    refine (ref22_May A n c l B m d q _ _ (HL.out.up (by (repeat (first | (with_reducible exact Below.refl _ _) | (with_reducible assumption) | (with_reducible apply bel_alloc) | (with_reducible apply bel_drew) | (with_reducible apply bel_drewN) | (with_reducible refine bel_trans ?_ (by with_reducible assumption)) | (with_reducible refine bel_trans ?_ (HF.out _)) | (with_reducible refine bel_set ?_ (by simp) _) | (with_reducible refine bel_set ?_ (by simp; omega) _) | (with_reducible refine bel_set ?_ (by omega) _))))) (HQ.out.up (by (repeat (first | (with_reducible exact Below.refl _ _) | (with_reducible assumption) | (with_reducible apply bel_alloc) | (with_reducible apply bel_drew) | (with_reducible apply bel_drewN) | (with_reducible refine bel_trans ?_ (by with_reducible assumption)) | (with_reducible refine bel_trans ?_ (HF.out _)) | (with_reducible refine bel_set ?_ (by simp) _) | (with_reducible refine bel_set ?_ (by simp; omega) _) | (with_reducible refine bel_set ?_ (by omega) _))))) HM.out).mono ?_
    rintro e w1 ⟨rfl, hb1⟩
    go_wp2_with fail
    go_ret
    exact ⟨ret_int (by rw [← HY.out, HM.out]; rfl), by (repeat (first | (with_reducible exact Below.refl _ _) | (with_reducible assumption) | (with_reducible apply bel_alloc) | (with_reducible apply bel_drew) | (with_reducible apply bel_drewN) | (with_reducible refine bel_trans ?_ (by with_reducible assumption)) | (with_reducible refine bel_trans ?_ (HF.out _)) | (with_reducible refine bel_set ?_ (by simp) _) | (with_reducible refine bel_set ?_ (by simp; omega) _) | (with_reducible refine bel_set ?_ (by omega) _)))⟩
def hvB (v : Int) (n m : Nat) : Bool := decide (6000 < v ∨ 100 < n ∨ 100 < m)
theorem hvB_iff {v : Int} {n m : Nat} : hvB v n m = true ↔ (6000 < v ∨ 100 < n ∨ 100 < m) := by simp [hvB]
/-- An asking that is played. -/
structure Light (P : AskP) (D : AskD) : Prop where
  p : P.p.n ≤ 6000
  q : P.q.n ≤ 6000
  x : P.x.n ≤ 100
  b : P.b.n ≤ 6000
  k : P.k.n ≤ 100
  t : ∀ v ∈ D.b, v.tx.length ≤ 6000
def HeavyQ (P : AskP) (D : AskD) (w : World) (e : Ending) (w' : World) : Prop := ∃ x : Bool, e = .returned (.bool x) ∧ (x = false → Light P D) ∧ Below w.heap.size w w'
set_option maxRecDepth 100000 in
set_option maxHeartbeats 4000000 in
theorem law22_heavy (P : AskP) (D : AskD) (w : World) (h : AskR w P D) :
    Calls Try.prog 14 #[P.val] w (HeavyQ P D w) := by
  obtain ⟨⟨pA, pn, pc⟩, ⟨qA, qn, qc⟩, ⟨xA, xn, xc⟩, ⟨bA, bn, bc⟩, ⟨kA, kn, kc⟩⟩ := P
  have H := Lib.hid h
  have HP : Hid (PairsR w pA pn D.p) := Lib.hid h.p
  have HQ : Hid (AcctsR w qA qn D.q) := Lib.hid h.q
  have HX : Hid (TxsR w xA xn D.x) := Lib.hid h.x
  have HB : Hid (BatchesR w bA bn D.b) := Lib.hid h.b
  have HK : Hid (StrsR w kA kn D.k) := Lib.hid h.k
  have sp : pn ≤ 17592186044416 := h.sp
  have sq : qn ≤ 17592186044416 := h.sq
  have sx : xn ≤ 17592186044416 := h.sx
  have sb : bn ≤ 17592186044416 := h.sb
  have sk : kn ≤ 17592186044416 := h.sk
  obtain ⟨y1, hy1⟩ : ∃ y, twS D.p D.q = y := ⟨_, rfl⟩
  obtain ⟨y2, hy2⟩ : ∃ y, xwS D.x = y := ⟨_, rfl⟩
  obtain ⟨y3, hy3⟩ : ∃ y, kwS D.k = y := ⟨_, rfl⟩
  have b1 : (qn : Int) + (pn : Int) ≤ y1 ∧ y1 ≤ 562949953421312 := by
    rw [← hy1, ← HQ.out.1, ← HP.out.1]
    exact ⟨wgo_le szP_ge _ _, wgo_bound _ _ (fun x hx => szP_le (h.gp x hx)) (by have := HQ.out.1; have := HP.out.1; omega)⟩
  have b2 : (xn : Int) ≤ y2 ∧ y2 ≤ 562949953421312 := by
    rw [← hy2, ← HX.out.1]
    exact ⟨wgo_le szX_ge _ _, wgo_bound _ _ (fun x hx => szX_le (h.gx x hx)) (by have := HX.out.1; omega)⟩
  have b3 : (kn : Int) ≤ y3 ∧ y3 ≤ 562949953421312 := by
    rw [← hy3, ← HK.out.1]
    exact ⟨wgo_le szS_ge _ _, wgo_bound _ _ (fun x hx => by have := h.gk x hx; unfold szS; omega) (by have := HK.out.1; omega)⟩
  have HY1 := Lib.hid hy1
  have HY2 := Lib.hid hy2
  have HY3 := Lib.hid hy3
  obtain ⟨b11, b12⟩ := b1
  obtain ⟨b21, b22⟩ := b2
  obtain ⟨b31, b32⟩ := b3
  clear h hy1 hy2 hy3
  show Calls Try.prog 14 #[.agg #[.slice pA pn pc, .slice qA qn qc, .slice xA xn xc, .slice bA bn bc, .slice kA kn kc]] w (HeavyQ _ D w)
  go_enter Try.func14, Try.ntmps14
  go_wp2_with fail
  have hA : BoxR (w.alloc (.cells #[.slice pA pn pc, .slice qA qn qc, .slice xA xn xc, .slice bA bn bc, .slice kA kn kc] 30)) w.heap.size [.slice pA pn pc, .slice qA qn qc, .slice xA xn xc, .slice bA bn bc, .slice kA kn kc] := BoxR.new w [.slice pA pn pc, .slice qA qn qc, .slice xA xn xc, .slice bA bn bc, .slice kA kn kc] 30
  have hbX : Below w.heap.size w (w.alloc (.cells #[.slice pA pn pc, .slice qA qn qc, .slice xA xn xc, .slice bA bn bc, .slice kA kn kc] 30)) := by (repeat (first | (with_reducible exact Below.refl _ _) | (with_reducible assumption) | (with_reducible apply bel_alloc) | (with_reducible apply bel_drew) | (with_reducible apply bel_drewN) | (with_reducible refine bel_trans ?_ (by with_reducible assumption)) | (with_reducible refine bel_trans ?_ (HF.out _)) | (with_reducible refine bel_set ?_ (by simp) _) | (with_reducible refine bel_set ?_ (by simp; omega) _) | (with_reducible refine bel_set ?_ (by omega) _)))
  generalize (w.alloc (.cells #[.slice pA pn pc, .slice qA qn qc, .slice xA xn xc, .slice bA bn bc, .slice kA kn kc] 30)) = X at *
  have a_0 := (hA).2 0 _ rfl; have a_1 := (hA).2 1 _ rfl; have a_2 := (hA).2 2 _ rfl; have a_3 := (hA).2 3 _ rfl; have a_4 := (hA).2 4 _ rfl
  have hg0 := hA.1
  have HA := Lib.hid hA
  have HPX := Lib.hid (HP.out.up hbX)
  have HQX := Lib.hid (HQ.out.up hbX)
  have HXX := Lib.hid (HX.out.up hbX)
  have HKX := Lib.hid (HK.out.up hbX)
  clear hA
  refine wp_region_fam (by kernel_rfl) (by kernel_rfl) (fun ι F hne hF hcl => ?_)
  have hcF0 := fun n o => (bcell (hF n)).1 (w.heap.size) o (by first | (simp; done) | (simp; omega) | omega)
  have HF := Lib.hid hF; clear hF
  have HC := Lib.hid hcl; clear hcl
  repeat (any_goals (first
   | go_big_quiet_step (first | (go_at_call 50; exact Calls.fam HC.out (law0_TableWeight pA pn pc D.p qA qn qc D.q y1 _ (HPX.out.up (HF.out _)) (HQX.out.up (HF.out _)) H.out.gp sp sq HY1.out)) | (go_at_call 51; exact Calls.fam HC.out (law0_TxWeight xA xn xc D.x y2 _ (HXX.out.up (HF.out _)) H.out.gx sx HY2.out)) | (go_at_call 52; exact Calls.fam_same (law0_TextWeight kA kn kc D.k y3 _ (HKX.out.up (HF.out _)) H.out.gk sk HY3.out)))
   | (refine wpQuiet_guard _ _ _ rfl rfl ?_; (fail_if_success (intro b' hb; have h2 := hb.symm; have : b' = true := h2.trans (by with_reducible rfl))); (fail_if_success (intro b' hb; have h2 := hb.symm; have : b' = false := h2.trans (by with_reducible rfl))); intro b' hb; simp only [hb]; cases b' <;> (try simp only [Bool.not_eq_true', Bool.not_eq_false', decide_eq_true_eq, decide_eq_false_iff_not, Int.not_lt, Int.not_le, Bool.and_eq_true, Bool.or_eq_true, Bool.or_eq_false_iff, beq_iff_eq, beq_eq_false_iff_ne, Int.natCast_pos] at hb))))
  all_goals (refine wpQuiet_nil ?_; intro nq)
  all_goals (try (exfalso; omega))
  have hFwf := HF.out nq
  clear HF HC hne
  generalize F nq = wf at *
  have hAf := HA.out.up hFwf
  have hbf : Below w.heap.size w wf := bel_trans hbX hFwf
  have HAF := Lib.hid hAf
  clear a_0 a_1 a_2 a_3 a_4 hcF0 hAf
  go_wp2_with fail
  go_loopw [3, 4] (fun sv si wr => ∃ (k : Nat) (v : Int), k ≤ bn ∧ si = .int .i64 k ∧ sv = .int .i64 v ∧ y1 + y2 + y3 + (k : Int) ≤ v ∧ v ≤ 2251799813685248 ∧ Hid (∀ j, j < k → ((bth D.b j).tx.length : Int) ≤ v) ∧ BoxR wr w.heap.size [.slice pA pn pc, .slice qA qn qc, .slice xA xn xc, .slice bA bn bc, .slice kA kn kc] ∧ Below w.heap.size w wr) (fun _ si _ => bn - (intOf si).toNat)
  case atStart => exact ⟨0, y1 + y2 + y3, Nat.zero_le _, rfl, rfl, by omega, by omega, Lib.hid (fun j hj => absurd hj (by omega)), HAF.out, hbf⟩
  case round =>
    clear hbf
    obtain ⟨k, v, hk, rfl, rfl, hv0, hv1, HW, hT, hbw⟩ := hrel
    (obtain ⟨wk, hwk⟩ : ∃ x, x = wr := ⟨_, rfl⟩); subst hwk
    have hg1 := hT.1
    have HT := Lib.hid hT
    have t_0 := (hT).2 0 _ rfl; have t_1 := (hT).2 1 _ rfl; have t_2 := (hT).2 2 _ rfl; have t_3 := (hT).2 3 _ rfl; have t_4 := (hT).2 4 _ rfl
    clear hT
    by_cases hlt : k < bn ∧ v < 1048576
    · obtain ⟨hlt1, hvl⟩ := hlt
      obtain ⟨b, off, rfl, hb, hc⟩ := (HB.out.up hbw).2.2 (by omega)
      obtain ⟨B, m, d, c0, c1, c2, htx⟩ := hc k hlt1
      have hsb := sm_at H.out.gb (k := k) (by rw [HB.out.1]; exact hlt1)
      obtain ⟨y4, hy4⟩ : ∃ y, xwS (bth D.b k).tx = y := ⟨_, rfl⟩
      have hb4 : (m : Int) ≤ y4 ∧ y4 ≤ 562949953421312 := by
        rw [← hy4, ← htx.1]
        exact ⟨wgo_le szX_ge _ _, wgo_bound _ _ (fun x hx => szX_le (hsb.2 x hx)) (by have := hsb.1; show ((bth D.b k).tx.length : Int) ≤ _; have e : (bth D.b k).tx.length ≤ 17592186044416 := hsb.1; omega)⟩
      have hm : m ≤ 17592186044416 := by rw [← htx.1]; exact hsb.1
      have HTX := Lib.hid htx
      have HSB := Lib.hid hsb
      have HY4 := Lib.hid hy4
      obtain ⟨hb41, hb42⟩ := hb4
      clear hc c0 c1 htx hsb hy4
      go_wp2_with (go_at_call 51; refine (law0_TxWeight B m d _ y4 _ HTX.out HSB.out.2 hm HY4.out).mono ?_; rintro e w5 ⟨rfl, hb5⟩)
      have hT5 := HT.out.up hb5
      have hW5 : ∀ j, j < k + 1 → ((bth D.b j).tx.length : Int) ≤ v + 1 + y4 := fun j hj => by
        rcases Nat.lt_or_ge j k with h | h
        · have := HW.out j h; omega
        · obtain rfl : j = k := by omega
          have := HTX.out.1; omega
      (first | (go_round; (case rel => exact ⟨k + 1, v + 1 + y4, by omega, by go_num, by first | rfl | go_num, by omega, by omega, Lib.hid hW5, hT5, bel_trans hbw hb5⟩); (case measure => (simp [intOf] <;> omega))) | (go_roundw; (case rel => exact ⟨k + 1, v + 1 + y4, by omega, by go_num, by first | rfl | go_num, by omega, by omega, Lib.hid hW5, hT5, bel_trans hbw hb5⟩); (case measure => (simp [intOf] <;> omega))) | (refine ⟨?_, by simp [intOf] <;> omega⟩; (repeat apply Exists.intro); refine ⟨?rel, ?fr⟩; (case fr => ((repeat' apply And.intro) <;> rfl)); (case rel => exact ⟨k + 1, v + 1 + y4, by omega, by go_num, by first | rfl | go_num, by omega, by omega, Lib.hid hW5, hT5, bel_trans hbw hb5⟩)))
    · have hend : ∀ W, Below w.heap.size w W → hvB v xn kn = false → Light ⟨⟨pA, pn, pc⟩, ⟨qA, qn, qc⟩, ⟨xA, xn, xc⟩, ⟨bA, bn, bc⟩, ⟨kA, kn, kc⟩⟩ D := fun W _ hv => by
        have h1 : ¬ (6000 < v ∨ 100 < xn ∨ 100 < kn) := fun hq => by rw [hvB_iff.2 hq] at hv; cases hv
        have hkb : k = bn := by omega
        refine ⟨by show pn ≤ 6000; omega, by show qn ≤ 6000; omega, by show xn ≤ 100; omega, by show bn ≤ 6000; omega, by show kn ≤ 100; omega, ?_⟩
        refine (mem_getD (P := fun b : BatchD => b.tx.length ≤ 6000)).1 fun j hj => ?_
        have := HW.out j (by rw [hkb, ← HB.out.1]; exact hj)
        show (bth D.b j).tx.length ≤ 6000
        omega
      have HEND := Lib.hid hend
      have hbwW := hbw
      clear hend
      by_cases h1 : k < bn
      case' pos =>
        have h2 : ¬ v < 1048576 := fun h => hlt ⟨h1, h⟩
        have h2d : decide (v < 1048576) = false := by simpa using h2
        clear h2
      all_goals
        clear hlt
        go_wp2_with fail
        all_goals
          go_ret
          refine ⟨hvB v xn kn, ret_bool ?_, fun hx => HEND.out w (Below.refl _ _) hx, by (repeat (first | (with_reducible exact Below.refl _ _) | (with_reducible assumption) | (with_reducible apply bel_alloc) | (with_reducible apply bel_drew) | (with_reducible apply bel_drewN) | (with_reducible refine bel_trans ?_ (by with_reducible assumption)) | (with_reducible refine bel_trans ?_ (HF.out _)) | (with_reducible refine bel_set ?_ (by simp) _) | (with_reducible refine bel_set ?_ (by simp; omega) _) | (with_reducible refine bel_set ?_ (by omega) _)))⟩
          rw [Bool.eq_iff_iff, hvB_iff]
          simp
          try omega
end Go.Proofs.Ytgljmljmljccgaa
