/- The reference's Order; what is heavy, and wakes, of layer 17. -/
import Derived.Test.YthpljlffjbodpaaOb
import Derived.Test.YthpljlffjbodpaaS
import Derived.Test.YthpljlffjbodpaaR
namespace Go.Proofs.Ythpljlffjbodpaa
open Go.RowKit
set_option linter.unusedSimpArgs false
set_option linter.unusedVariables false

theorem inS_lt {l : List Int} {x : Int} : decide (inS l x < 0) = !hasS l x := by
  unfold hasS; rw [Bool.eq_iff_iff]; simp
set_option maxRecDepth 100000 in
set_option maxHeartbeats 1000000 in
theorem ref14_Order (A : Option Addr) (n c : Nat) (D : DagD) (a : Int) (dA : Option Addr) (dn dc : Nat) (done : List Int) (w : World) (hl : CertsR w A n D.certs) (hd : IntsR w dA dn done) (hm : mayS D = true) (hr : risS done = true) :
    Calls Try.prog 32 #[.agg #[.int .i64 D.nodes, .int .i64 D.low, .slice A n c], .int .i64 a, .slice dA dn dc] w fun e w' => ∃ v, e = .returned (.tuple #[v, .int .i64 (orderE D a done)]) ∧ OwnI w' w.heap.size v (orderB D a done) ∧ Below w.heap.size w w' := by
  have HL := Lib.hid hl
  have HN := Lib.hid hl.1
  have HA := Lib.hid hl.2.2
  have HD := Lib.hid hd
  have HM := Lib.hid hm
  have HR := Lib.hid hr
  have hok := mayS_iff.1 hm
  have hn : n ≤ 65536 := by have := hok.2.2.2.1; rw [HN.out] at this; exact this
  have hlo0 : 0 ≤ D.low := hok.2.1
  have hlo1 : -9223372036854775808 ≤ D.low := by omega
  have hlo2 : D.low ≤ 1099511627776 := hok.2.2.1
  have HOK := Lib.hid hok
  clear hl hd hm hr hok
  rcases findS_cases D.certs a with ⟨ea, _⟩ | ⟨i, hi, ea, _⟩
  · have hq := order_none HM.out HR.out (a := a) (by omega)
    have EA := Lib.hid ea; clear ea
    have EQ := Lib.hid hq; clear hq
    go_enter Try.func32, Try.ntmps32
    go_wp2_with (go_at_call 17; refine (ref14_FindAt' _ _ _ D.certs _ _ _ (-1) _ (HL.out.up (by (repeat (first | (with_reducible exact Below.refl _ _) | (with_reducible assumption) | (with_reducible apply bel_alloc) | (with_reducible apply bel_drew) | (with_reducible apply bel_drewN) | (with_reducible refine bel_trans ?_ (by with_reducible assumption)) | (with_reducible refine bel_trans ?_ (HF.out _)) | (with_reducible refine bel_set ?_ (by simp) _) | (with_reducible refine bel_set ?_ (by simp; omega) _) | (with_reducible refine bel_set ?_ (by omega) _))))) EA.out).mono ?_; rintro e w1 ⟨rfl, hb1⟩)
    go_ret2
    exact ⟨.slice none 0 0, by rw [EQ.out.2]; rfl, by rw [EQ.out.1]; exact OwnI.nil _ _, by (repeat (first | (with_reducible exact Below.refl _ _) | (with_reducible assumption) | (with_reducible apply bel_alloc) | (with_reducible apply bel_drew) | (with_reducible apply bel_drewN) | (with_reducible refine bel_trans ?_ (by with_reducible assumption)) | (with_reducible refine bel_trans ?_ (HF.out _)) | (with_reducible refine bel_set ?_ (by simp) _) | (with_reducible refine bel_set ?_ (by simp; omega) _) | (with_reducible refine bel_set ?_ (by omega) _)))⟩
  · have hin : i < n := by rw [← HN.out]; exact hi
    have hro := mayS_ro HM.out hi
    have hr1 : 1 ≤ (cth D.certs i).h.ro := hro.1
    have hr2 : (cth D.certs i).h.ro ≤ 1099511627776 := hro.2
    have EA := Lib.hid ea
    obtain ⟨b, off, rfl, hb, hc⟩ := HA.out (by omega)
    obtain ⟨p, hat, _⟩ := hc i hin
    have q1 := hat.2.1
    have HQ1 := Lib.hid q1
    have hi0 : decide ((i : Int) < 0) = false := by simp
    have hlb := belowS_len D.certs D.low (deep D.certs i) i
    have hlen0 : (belowS D.certs D.low (deep D.certs i) i).length ≤ 65536 := by have := HOK.out.2.2.2.1; omega
    have HLEN := Lib.hid hlen0
    clear hat hc q1 hro hlb hlen0
    by_cases hcs : deep D.certs i < D.low
    · have hq := order_old HM.out HR.out (a := a) ea hcs
      have EQ := Lib.hid hq; clear hq
      have h1 : (cth D.certs i).h.ro - 8 < D.low := by unfold deep at hcs; split at hcs <;> omega
      have h2 : D.low > 0 := by unfold deep at hcs; split at hcs <;> omega
      clear ea hcs
      go_enter Try.func32, Try.ntmps32
      go_wp2_with (go_at_call 17; refine (ref14_FindAt' _ _ _ D.certs _ _ _ (i : Int) _ (HL.out.up (by (repeat (first | (with_reducible exact Below.refl _ _) | (with_reducible assumption) | (with_reducible apply bel_alloc) | (with_reducible apply bel_drew) | (with_reducible apply bel_drewN) | (with_reducible refine bel_trans ?_ (by with_reducible assumption)) | (with_reducible refine bel_trans ?_ (HF.out _)) | (with_reducible refine bel_set ?_ (by simp) _) | (with_reducible refine bel_set ?_ (by simp; omega) _) | (with_reducible refine bel_set ?_ (by omega) _))))) EA.out).mono ?_; rintro e w1 ⟨rfl, hb1⟩; have hbw1 : Below w.heap.size w w1 := (by (repeat (first | (with_reducible exact Below.refl _ _) | (with_reducible assumption) | (with_reducible apply bel_alloc) | (with_reducible apply bel_drew) | (with_reducible apply bel_drewN) | (with_reducible refine bel_trans ?_ (by with_reducible assumption)) | (with_reducible refine bel_trans ?_ (HF.out _)) | (with_reducible refine bel_set ?_ (by simp) _) | (with_reducible refine bel_set ?_ (by simp; omega) _) | (with_reducible refine bel_set ?_ (by omega) _)))); have q3 := (hbw1.cell (p := ⟨b, off + i * 6 + 1, none⟩) hb).trans HQ1.out; have hz_w1 : w.heap.size + 1 ≤ w1.heap.size := (by have hq := (hb1).size; (try simp at hq); omega); have hc0_w1 := fun o => (bcell hb1).1 (w.heap.size) o (by first | (simp; done) | (simp; omega) | omega))
      go_ret2
      exact ⟨.slice none 0 0, by rw [EQ.out.2]; rfl, by rw [EQ.out.1]; exact OwnI.nil _ _, hbw1⟩
    · have hq := order_ok HM.out HR.out (a := a) ea hcs
      have EQ := Lib.hid hq; clear hq
      have hfa := may_facts HM.out
      have HFA := Lib.hid hfa
      obtain ⟨dp, hdp⟩ : ∃ dp, dp = deep D.certs i := ⟨_, rfl⟩
      have h0 : (D.low ≤ (cth D.certs i).h.ro - 8 ∧ dp = (cth D.certs i).h.ro - 8) ∨ ((cth D.certs i).h.ro - 8 < D.low ∧ D.low ≤ 0 ∧ dp = 0) := by
        rw [hdp]; unfold deep at hcs ⊢; split <;> split at hcs <;> omega
      have HDP := Lib.hid hdp
      clear ea hcs hfa hdp
      have tail : ∀ (X : World), Below w.heap.size w X → Calls Try.prog 23 #[.agg #[.int .i64 D.nodes, .int .i64 D.low, .slice (some ⟨b, off, none⟩) n c], .int .i64 a, .int .i64 dp] X fun e w' => ∃ v, e = .returned v ∧ OwnI w' X.heap.size v (belowS D.certs D.low dp i) ∧ Below X.heap.size X w' := fun X hX =>
        ref14_Below _ n c D.certs D.nodes D.low a dp i EA.out X (HL.out.up hX) hn (fun k hk => HFA.out.2.2.2 k (by rw [HN.out]; exact hk)) HFA.out.1 HFA.out.2.1
      have TAIL := Lib.hid tail
      clear tail
      rcases h0 with ⟨h1, e1⟩ | ⟨h1, h2, e1⟩
      all_goals
        have HE1 := Lib.hid e1
        rw [e1] at HDP TAIL
        clear e1
        go_enter Try.func32, Try.ntmps32
        go_wp2_with (go_at_call 17; refine (ref14_FindAt' _ _ _ D.certs _ _ _ (i : Int) _ (HL.out.up (by (repeat (first | (with_reducible exact Below.refl _ _) | (with_reducible assumption) | (with_reducible apply bel_alloc) | (with_reducible apply bel_drew) | (with_reducible apply bel_drewN) | (with_reducible refine bel_trans ?_ (by with_reducible assumption)) | (with_reducible refine bel_trans ?_ (HF.out _)) | (with_reducible refine bel_set ?_ (by simp) _) | (with_reducible refine bel_set ?_ (by simp; omega) _) | (with_reducible refine bel_set ?_ (by omega) _))))) EA.out).mono ?_; rintro e w1 ⟨rfl, hb1⟩; have hbw1 : Below w.heap.size w w1 := (by (repeat (first | (with_reducible exact Below.refl _ _) | (with_reducible assumption) | (with_reducible apply bel_alloc) | (with_reducible apply bel_drew) | (with_reducible apply bel_drewN) | (with_reducible refine bel_trans ?_ (by with_reducible assumption)) | (with_reducible refine bel_trans ?_ (HF.out _)) | (with_reducible refine bel_set ?_ (by simp) _) | (with_reducible refine bel_set ?_ (by simp; omega) _) | (with_reducible refine bel_set ?_ (by omega) _)))); have q3 := (hbw1.cell (p := ⟨b, off + i * 6 + 1, none⟩) hb).trans HQ1.out; have hz_w1 : w.heap.size + 1 ≤ w1.heap.size := (by have hq := (hb1).size; (try simp at hq); omega); have hc0_w1 := fun o => (bcell hb1).1 (w.heap.size) o (by first | (simp; done) | (simp; omega) | omega))
        refine (TAIL.out _ hbw1).mono ?_
        rintro e w2 ⟨v, rfl, hown2, hb2⟩
        rw [HDP.out] at hown2
        obtain ⟨A2, c2, rfl, hint2, _⟩ := hown2.ints (by have := HLEN.out; omega)
        obtain ⟨l, hl⟩ : ∃ l, l = belowS D.certs D.low (deep D.certs i) i := ⟨_, rfl⟩
        have hlen := HLEN.out
        rw [← hl] at hint2 hlen ⊢
        obtain ⟨m, hm⟩ : ∃ m, m = l.length := ⟨_, rfl⟩
        rw [← hm] at hint2 hlen ⊢
        have HI2 := Lib.hid hint2
        have HMM := Lib.hid hm
        have HLL := Lib.hid hl
        have hbw2 : Below w.heap.size w w2 := bel_trans hbw1 hb2
        clear hint2 hm hl hown2
        go_wp2_with fail
        go_loopw [11, 12] (fun v ik wr => ∃ k : Nat, k ≤ m ∧ ik = .int .i64 k ∧ OwnI wr w2.heap.size v (freshL done (l.take k)) ∧ Below w2.heap.size w2 wr) (fun _ ik _ => m - (intOf ik).toNat)
        case atStart => exact ⟨0, Nat.zero_le _, rfl, OwnI.nil _ _, Below.refl _ _⟩
        case round =>
          obtain ⟨k, hk, rfl, hown, hbx⟩ := hrel
          (obtain ⟨wx, hwx⟩ : ∃ x, x = wr := ⟨_, rfl⟩); subst hwx
          by_cases hlt : k < m
          · obtain ⟨lb, loff, rfl, hlb, hlc⟩ := (HI2.out.up hbx).2.2 (by omega)
            have hck := hlc k hlt
            clear hlc
            have hfl : (freshL done (l.take k)).length ≤ k := Nat.le_trans (freshL_len _ _) (by simp; omega)
            have hsz := hbx.size
            cases hh : hasS done (nth l k)
            · have hy := freshL_yes (done := done) (l := l) (k := k) (by rw [← HMM.out]; exact hlt) hh
              have hs0 : decide (inS done (nth l k) < 0) = true := by rw [inS_lt, hh]; rfl
              have HY := Lib.hid hy
              clear hy hh
              go_wp2_with (first
                | (go_at_call 28; refine (ref0_In _ _ _ done _ _ (HD.out.up (bel_trans hbw2 hbx))).mono ?_; rintro e w' ⟨rfl, rfl⟩)
                | (at_builtin; refine wpList_app1 rfl (.tmp 50) (.tmp 55) rfl (w2.heap.size) u11 _ rfl (hown.alloc _) _ (nth l k) rfl (cell0_alloc _ _ _) (by omega) (le_alloc hsz) ?_; intro v1 w4 hown1 hg1 hbel1 hat1))
              (first | (go_round; (case rel => exact ⟨k + 1, by omega, by go_num, by rw [HY.out]; exact hown1, Below.trans (bel_alloc hbx) hbel1⟩); (case measure => (simp [intOf] <;> omega))) | (go_roundw; (case rel => exact ⟨k + 1, by omega, by go_num, by rw [HY.out]; exact hown1, Below.trans (bel_alloc hbx) hbel1⟩); (case measure => (simp [intOf] <;> omega))) | (refine ⟨?_, by simp [intOf] <;> omega⟩; (repeat apply Exists.intro); refine ⟨?rel, ?fr⟩; (case fr => ((repeat' apply And.intro) <;> rfl)); (case rel => exact ⟨k + 1, by omega, by go_num, by rw [HY.out]; exact hown1, Below.trans (bel_alloc hbx) hbel1⟩)))
            · have hy := freshL_no (done := done) (l := l) (k := k) (by rw [← HMM.out]; exact hlt) hh
              have hs0 : decide (inS done (nth l k) < 0) = false := by rw [inS_lt, hh]; rfl
              have HY := Lib.hid hy
              clear hy hh
              go_wp2_with (go_at_call 28; refine (ref0_In _ _ _ done _ _ (HD.out.up (bel_trans hbw2 hbx))).mono ?_; rintro e w' ⟨rfl, rfl⟩)
              (first | (go_round; (case rel => exact ⟨k + 1, by omega, by go_num, by rw [HY.out]; exact hown, hbx⟩); (case measure => (simp [intOf] <;> omega))) | (go_roundw; (case rel => exact ⟨k + 1, by omega, by go_num, by rw [HY.out]; exact hown, hbx⟩); (case measure => (simp [intOf] <;> omega))) | (refine ⟨?_, by simp [intOf] <;> omega⟩; (repeat apply Exists.intro); refine ⟨?rel, ?fr⟩; (case fr => ((repeat' apply And.intro) <;> rfl)); (case rel => exact ⟨k + 1, by omega, by go_num, by rw [HY.out]; exact hown, hbx⟩)))
          · obtain rfl : k = m := by omega
            go_wp2_with fail
            go_ret2
            have e : l.take k = l := List.take_of_length_le (by rw [HMM.out]; exact Nat.le_refl _)
            rw [e] at hown
            exact ⟨_, by rw [EQ.out.2]; rfl, by rw [EQ.out.1, ← HLL.out]; exact hown.mono hbw2.size, bel_trans hbw2 hbx⟩

/-! ### layer 17: heavy, num, wakes -/
set_option maxRecDepth 100000 in
set_option maxHeartbeats 1000000 in
theorem law17_heavy' (v0 v1 : Value) (A : Option Addr) (n c : Nat) (certs : List CertD) (iA : Option Addr) (im ic : Nat) (lA : Option Addr) (lm lc : Nat) (w : World) (hl : CertsR w A n certs) (hs : Small certs) :
    Calls Try.prog 29 #[.agg #[v0, v1, .slice A n c, .slice iA im ic, .slice lA lm lc]] w fun e w' => RetQ (Light certs ∧ im ≤ 30 ∧ lm ≤ 200) e ∧ Below w.heap.size w w' := by
  have HL := Lib.hid hl
  have HS := Lib.hid hs
  clear hl hs
  go_enter Try.func29, Try.ntmps29
  go_wp2_with (go_at_call 50; refine (law14_Heavy' _ _ _ _ _ certs _ (HL.out.up (by (repeat (first | (with_reducible exact Below.refl _ _) | (with_reducible assumption) | (with_reducible apply bel_alloc) | (with_reducible apply bel_drew) | (with_reducible apply bel_drewN) | (with_reducible refine bel_trans ?_ (by with_reducible assumption)) | (with_reducible refine bel_trans ?_ (HF.out _)) | (with_reducible refine bel_set ?_ (by simp) _) | (with_reducible refine bel_set ?_ (by simp; omega) _) | (with_reducible refine bel_set ?_ (by omega) _))))) HS.out).mono ?_; rintro e w1 ⟨⟨y, rfl, hy⟩, hb1⟩; have HY := Lib.hid hy; clear hy; have hz_w1 : w.heap.size + 1 ≤ w1.heap.size := (by have hq := (hb1).size; (try simp at hq); omega); have hc0_w1 := fun o => (bcell hb1).1 (w.heap.size) o (by first | (simp; done) | (simp; omega) | omega))
  all_goals
    go_ret
    refine ⟨RetQ.mk _ (fun h => ?_), by (repeat (first | (with_reducible exact Below.refl _ _) | (with_reducible assumption) | (with_reducible apply bel_alloc) | (with_reducible apply bel_drew) | (with_reducible apply bel_drewN) | (with_reducible refine bel_trans ?_ (by with_reducible assumption)) | (with_reducible refine bel_trans ?_ (HF.out _)) | (with_reducible refine bel_set ?_ (by simp) _) | (with_reducible refine bel_set ?_ (by simp; omega) _) | (with_reducible refine bel_set ?_ (by omega) _)))⟩
    first
      | (exfalso; revert h; simp; done)
      | (refine ⟨HY.out (by go_light; simp_all), by go_light; simp at h; omega, by go_light; simp at h; omega⟩)
theorem law17_num (x : Int) (w : World) : Calls Try.prog 34 #[.int .i64 x] w fun e w' => e = .returned (.int .i64 x) ∧ w = w' := by
  go_enter Try.func34, Try.ntmps34
  go_wp2
  go_ret
  exact ⟨rfl, rfl⟩
theorem wake_order : orderB wakeD 3 [] = [3] ∧ orderE wakeD 3 [] = 0 := by
  have h : findS wakeD.certs 3 = ((0 : Nat) : Int) := by decide
  have hr : risS [] = true := risS_iff.2 (fun j hj => absurd hj (by simp))
  have := order_ok wake_may hr h (by decide)
  refine ⟨this.1.trans ?_, this.2⟩
  decide
set_option maxRecDepth 100000 in
set_option maxHeartbeats 1000000 in
theorem law17_wakes (w : World) : Calls Try.prog 35 #[] w fun e w' => e = .returned (.bool true) ∧ Below w.heap.size w w' := by
  have hw := wake_order
  have HW := Lib.hid hw
  clear hw
  go_enter Try.func35, Try.ntmps35
  go_wp2_with (fail)
  refine (order_Order _ 1 1 wakeD 3 none 0 0 [] _ (wake_certs w _ _ _) (IntsR.nil _ _) (by omega)).mono ?_
  rintro e w1 ⟨v, rfl, hown, hb1⟩
  rw [HW.out.2]
  rw [HW.out.1] at hown
  obtain ⟨xA, xc, rfl, hint, _⟩ := hown.ints (by simp)
  have HI := Lib.hid hint
  clear hown hint
  go_wp2_with (go_at_call 34; refine (law17_num _ _).mono ?_; rintro e w' ⟨rfl, rfl⟩)
  refine (ref0_EqNumbers_same _ _ _ [3] _ _ _ _ (HI.out.up (by (repeat (first | (with_reducible exact Below.refl _ _) | (with_reducible assumption) | (with_reducible apply bel_alloc) | (with_reducible apply bel_drew) | (with_reducible apply bel_drewN) | (with_reducible refine bel_trans ?_ (by with_reducible assumption)) | (with_reducible refine bel_trans ?_ (HF.out _)) | (with_reducible refine bel_set ?_ (by simp) _) | (with_reducible refine bel_set ?_ (by simp; omega) _) | (with_reducible refine bel_set ?_ (by omega) _))))) (IntsR.box (l := [3]) (BoxR.new _ [.int .i64 3] _) (by simp))).mono ?_
  rintro e w2 ⟨rfl, hb2⟩
  go_wp2_with fail
  go_ret
  exact ⟨rfl, by (repeat (first | (with_reducible exact Below.refl _ _) | (with_reducible assumption) | (with_reducible apply bel_alloc) | (with_reducible apply bel_drew) | (with_reducible apply bel_drewN) | (with_reducible refine bel_trans ?_ (by with_reducible assumption)) | (with_reducible refine bel_trans ?_ (HF.out _)) | (with_reducible refine bel_set ?_ (by simp) _) | (with_reducible refine bel_set ?_ (by simp; omega) _) | (with_reducible refine bel_set ?_ (by omega) _)))⟩
end Go.Proofs.Ythpljlffjbodpaa
