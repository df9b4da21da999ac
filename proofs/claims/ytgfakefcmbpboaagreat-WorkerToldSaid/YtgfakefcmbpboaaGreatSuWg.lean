/- Workers: copied, the same, at the reference. -/
import Derived.Test.YtgfakefcmbpboaaGreatSuWe
namespace Go.Proofs.YtgfakefcmbpboaaGreat
set_option linter.all false
set_option maxRecDepth 100000
open Go.RowKit

/-- A worker whose lists are one's own, from block B on. -/
structure WorkO (w : World) (B : Nat) (P : WorkP) (D : WorkD) : Prop where
  op : OwnX w B P.op.v D.op
  wa : OwnWs w B P.wa.v D.wa
  he : OwnHs w B P.he.v D.he
  re : OwnI w B P.re.v D.re
theorem WorkO.up {w w' : World} {B : Nat} {P D} (h : WorkO w B P D) (hb : Below w.heap.size w w') : WorkO w' B P D := ⟨h.op.up hb, h.wa.up hb, h.he.up hb, h.re.up hb⟩
theorem WorkO.mono {w : World} {B B' : Nat} {P D} (h : WorkO w B P D) (hB : B' ≤ B) : WorkO w B' P D := ⟨h.op.mono hB, h.wa.mono hB, h.he.mono hB, h.re.mono hB⟩
theorem WorkO.low {w : World} {B b o : Nat} {u : Value} {P D} (h : WorkO w B P D) (hp : b < B) : WorkO (w.setCell ⟨b, o, none⟩ u) B P D := ⟨h.op.set3 hp u, h.wa.low hp, h.he.low hp, h.re.low hp u⟩
structure BigD (D : WorkD) : Prop where
  op : D.op.length ≤ 800000000
  wa : BigW D.wa
  he : BigH D.he
  re : D.re.length ≤ 800000000
theorem WorkO.work {w : World} {B : Nat} {P : WorkP} {D : WorkD} (h : WorkO w B P D) (hs : BigD D) : WorkR w P D := by
  obtain ⟨⟨oA, on, oc⟩, ⟨tA, tn, tc⟩, ⟨eA, en, ec⟩, ⟨rA, rn, rc⟩⟩ := P
  obtain ⟨A1, c1, e1, r1, s1, m1⟩ := h.op.txs (by have := hs.op; omega)
  obtain ⟨A2, c2, e2, r2, _⟩ := h.wa.waits hs.wa
  obtain ⟨A3, c3, e3, r3, _⟩ := h.he.helds hs.he
  obtain ⟨A4, c4, e4, r4, _⟩ := h.re.ints (by have := hs.re; omega)
  have hrc : rn ≤ rc := by
    rcases own_shape h.re with ⟨e, h0⟩ | ⟨g, c, e, _, hc⟩
    · unfold SlP.v at e; injection e with x1 x2 x3; dsimp only at x2; omega
    · unfold SlP.v at e; injection e with x1 x2 x3; dsimp only at x2 x3; omega
  unfold SlP.v at e1 e2 e3 e4
  injection e1 with a1 a2 a3; injection e2 with b1 b2 b3; injection e3 with d1 d2 d3; injection e4 with f1 f2 f3
  dsimp only at a1 a2 a3 b1 b2 b3 d1 d2 d3 f1 f2 f3
  subst a1; subst a2; subst a3; subst b1; subst b2; subst b3; subst d1; subst d2; subst d3; subst f1; subst f2; subst f3
  exact ⟨r1, r2, r3, r4, s1, m1, hrc⟩
set_option maxHeartbeats 4000000 in
theorem ref0_CopyWorker (P : WorkP) (D : WorkD) (w : World) (h : WorkR w P D) (hs : BigD D) :
    Calls Tryz.prog 17 #[P.val D] w fun e w' => ∃ P', e = .returned (P'.val D) ∧ WorkO w' w.heap.size P' D ∧ Below w.heap.size w w' := by
  obtain ⟨⟨oA, on, oc⟩, ⟨tA, tn, tc⟩, ⟨eA, en, ec⟩, ⟨rA, rn, rc⟩⟩ := P
  have HO : Hid (TxsR w oA on D.op) := ħ h.op
  have HT : Hid (WaitsR w tA tn D.wa) := ħ h.wa
  have HE : Hid (HeldsR w eA en D.he) := ħ h.he
  have HR : Hid (IntsR w rA rn D.re) := ħ h.re
  have hon : on ≤ 800000000 := by rw [← HO.out.1]; exact hs.op
  have hrn : rn ≤ 800000000 := by rw [← HR.out.1]; exact hs.re
  have HS := ħ hs
  clear h hs
  show Calls Tryz.prog 17 #[.agg #[.int .i64 D.id, .int .i64 D.nodes, .int .i64 D.next, .slice oA on oc, .int .i64 D.age, .int .i64 D.clock, .slice tA tn tc, .slice eA en ec, .slice rA rn rc]] w _
  go_enter Tryz.func17, Tryz.ntmps17
  go_wp2_with fail
  refine (ref0_CopyTxs oA on oc D.op _ (HO.out.up (belB)) hon).mono ?_
  rintro e w1 ⟨v1, rfl, ho1, hb1⟩
  obtain ⟨A1, c1, rfl, _⟩ := ho1.txs (by rw [HO.out.1]; omega)
  rw [HO.out.1] at ho1 ⊢
  have HO1 := ħ (ho1.mono (B' := w.heap.size + 3) (by simp))
  have hz_w1 : w.heap.size + 3 ≤ w1.heap.size := (by have hq := (hb1).size; (try simp at hq); omega); have hc0_w1 := fun o => (bcell hb1).1 (w.heap.size) o (by first | (simp; done) | (simp; omega) | omega); have hc1_w1 := fun o => (bcell hb1).1 (w.heap.size + 1) o (by first | (simp; done) | (simp; omega) | omega); have hc2_w1 := fun o => (bcell hb1).1 (w.heap.size + 2) o (by first | (simp; done) | (simp; omega) | omega); have hf0_w1 := fun o => (bcell hb1).2 (w.heap.size) o (by first | (simp; done) | (simp; omega) | omega); have hf1_w1 := fun o => (bcell hb1).2 (w.heap.size + 1) o (by first | (simp; done) | (simp; omega) | omega); have hf2_w1 := fun o => (bcell hb1).2 (w.heap.size + 2) o (by first | (simp; done) | (simp; omega) | omega)
  clear ho1
  go_wp2_with fail
  refine (ref0_CopyWaits tA tn tc D.wa _ (HT.out.up (belB)) HS.out.wa).mono ?_
  rintro e w2 ⟨v2, rfl, ho2, hb2⟩
  obtain ⟨A2, c2, rfl, _⟩ := ho2.waits HS.out.wa
  rw [HT.out.1] at ho2 ⊢
  have HO2 := ħ (ho2.mono (B' := w.heap.size + 3) (by simp; omega))
  have hz_w2 : w.heap.size + 3 ≤ w2.heap.size := (by have hq := (hb2).size; (try simp at hq); omega); have hc0_w2 := fun o => (bcell hb2).1 (w.heap.size) o (by first | (simp; done) | (simp; omega) | omega); have hc1_w2 := fun o => (bcell hb2).1 (w.heap.size + 1) o (by first | (simp; done) | (simp; omega) | omega); have hc2_w2 := fun o => (bcell hb2).1 (w.heap.size + 2) o (by first | (simp; done) | (simp; omega) | omega); have hf0_w2 := fun o => (bcell hb2).2 (w.heap.size) o (by first | (simp; done) | (simp; omega) | omega); have hf1_w2 := fun o => (bcell hb2).2 (w.heap.size + 1) o (by first | (simp; done) | (simp; omega) | omega); have hf2_w2 := fun o => (bcell hb2).2 (w.heap.size + 2) o (by first | (simp; done) | (simp; omega) | omega)
  clear ho2
  go_wp2_with fail
  refine (ref0_CopyHelds eA en ec D.he _ (HE.out.up (belB)) HS.out.he).mono ?_
  rintro e w3 ⟨v3, rfl, ho3, hb3⟩
  obtain ⟨A3, c3, rfl, _⟩ := ho3.helds HS.out.he
  rw [HE.out.1] at ho3 ⊢
  have HO3 := ħ (ho3.mono (B' := w.heap.size + 3) (by simp; omega))
  have hz_w3 : w.heap.size + 3 ≤ w3.heap.size := (by have hq := (hb3).size; (try simp at hq); omega); have hc0_w3 := fun o => (bcell hb3).1 (w.heap.size) o (by first | (simp; done) | (simp; omega) | omega); have hc1_w3 := fun o => (bcell hb3).1 (w.heap.size + 1) o (by first | (simp; done) | (simp; omega) | omega); have hc2_w3 := fun o => (bcell hb3).1 (w.heap.size + 2) o (by first | (simp; done) | (simp; omega) | omega); have hf0_w3 := fun o => (bcell hb3).2 (w.heap.size) o (by first | (simp; done) | (simp; omega) | omega); have hf1_w3 := fun o => (bcell hb3).2 (w.heap.size + 1) o (by first | (simp; done) | (simp; omega) | omega); have hf2_w3 := fun o => (bcell hb3).2 (w.heap.size + 2) o (by first | (simp; done) | (simp; omega) | omega)
  clear ho3
  go_wp2_with fail
  refine (ref0_CopyNumbers rA rn rc D.re _ (HR.out.up (belB)) (by omega)).mono ?_
  rintro e w4 ⟨v4, rfl, ho4, hb4⟩
  obtain ⟨A4, c4, rfl, _⟩ := ho4.ints (by rw [HR.out.1]; omega)
  rw [HR.out.1] at ho4 ⊢
  have HO4 := ħ (ho4.mono (B' := w.heap.size + 3) (by simp; omega))
  have hz_w4 : w.heap.size + 3 ≤ w4.heap.size := (by have hq := (hb4).size; (try simp at hq); omega); have hc0_w4 := fun o => (bcell hb4).1 (w.heap.size) o (by first | (simp; done) | (simp; omega) | omega); have hc1_w4 := fun o => (bcell hb4).1 (w.heap.size + 1) o (by first | (simp; done) | (simp; omega) | omega); have hc2_w4 := fun o => (bcell hb4).1 (w.heap.size + 2) o (by first | (simp; done) | (simp; omega) | omega); have hf0_w4 := fun o => (bcell hb4).2 (w.heap.size) o (by first | (simp; done) | (simp; omega) | omega); have hf1_w4 := fun o => (bcell hb4).2 (w.heap.size + 1) o (by first | (simp; done) | (simp; omega) | omega); have hf2_w4 := fun o => (bcell hb4).2 (w.heap.size + 2) o (by first | (simp; done) | (simp; omega) | omega)
  clear ho4
  have k4 : WorkO w4 (w.heap.size + 3) ⟨⟨A1, on, c1⟩, ⟨A2, tn, c2⟩, ⟨A3, en, c3⟩, ⟨A4, rn, c4⟩⟩ D := ⟨(((((HO1.out.set3 (b := w.heap.size + 2) (o := 3) (by omega) (.slice A1 on c1)).up hb2).set3 (b := w.heap.size + 2) (o := 6) (by omega) (.slice A2 tn c2)).up hb3).set3 (b := w.heap.size + 2) (o := 7) (by omega) (.slice A3 en c3)).up hb4, (((HO2.out.low (b := w.heap.size + 2) (o := 6) (u := .slice A2 tn c2) (by omega)).up hb3).low (b := w.heap.size + 2) (o := 7) (u := .slice A3 en c3) (by omega)).up hb4, (HO3.out.low (b := w.heap.size + 2) (o := 7) (u := .slice A3 en c3) (by omega)).up hb4, HO4.out⟩
  have K4 := ħ k4
  clear k4
  go_wp2_with fail
  exact bodyPost_ret (v := .agg #[.int .i64 D.id, .int .i64 D.nodes, .int .i64 D.next, .slice A1 on c1, .int .i64 D.age, .int .i64 D.clock, .slice A2 tn c2, .slice A3 en c3, .slice A4 rn c4]) (by simp [results, Tryz.results17, go_sem, *]) rfl ⟨⟨⟨A1, on, c1⟩, ⟨A2, tn, c2⟩, ⟨A3, en, c3⟩, ⟨A4, rn, c4⟩⟩, rfl, (by (refine WorkO.mono (B := w.heap.size + 3) ?_ (by omega)); (repeat (first | (with_reducible exact K4.out) | ((with_reducible refine WorkO.low ?_ ?_); rotate_left; (omega))))), belB⟩
theorem eqN_same (A : Option Addr) (n c : Nat) (B : Option Addr) (m d : Nat) (l : List Int) (w : World) (hl : IntsR w A n l) (hk : IntsR w B m l) : Calls Tryz.prog 65 #[.slice A n c, .slice B m d] w fun e w' => e = .returned (.bool true) ∧ Below w.heap.size w w' :=
  (ref0_EqNumbers A n c l B m d l w hl hk).mono fun e w' ⟨h1, h2⟩ => ⟨by rw [h1, show eqL l l = true from dec_iff.2 rfl], h2⟩
set_option maxHeartbeats 1000000 in
theorem ref0_EqWait (x : WaitD) (A : Option Addr) (n c : Nat) (A' : Option Addr) (n' c' : Nat) (w : World) (hl : IntsR w A n x.ak) (hl' : IntsR w A' n' x.ak) :
    Calls Tryz.prog 114 #[.agg #[.int .i64 x.di, .slice A n c], .agg #[.int .i64 x.di, .slice A' n' c']] w fun e w' => e = .returned (.bool true) ∧ Below w.heap.size w w' := by
  have HL := ħ hl
  have HL' := ħ hl'
  clear hl hl'
  go_enter Tryz.func114, Tryz.ntmps114
  go_wp2_with fail
  refine (eqN_same _ _ _ _ _ _ x.ak _ (HL.out.up (belB)) (HL'.out.up (belB))).mono ?_
  rintro e w1 ⟨rfl, hb1⟩
  go_wp2_with fail
  go_ret
  exact ⟨rfl, belB⟩
set_option maxHeartbeats 1000000 in
theorem ref0_EqHeld (x : HeldD) (A : Option Addr) (n c : Nat) (A' : Option Addr) (n' c' : Nat) (w : World) (hl : TxsR w A n x.b.tx) (hl' : TxsR w A' n' x.b.tx) :
    Calls Tryz.prog 115 #[.agg #[.int .i64 x.di, .int .i64 x.b.au, .int .i64 x.b.n, .slice A n c], .agg #[.int .i64 x.di, .int .i64 x.b.au, .int .i64 x.b.n, .slice A' n' c']] w fun e w' => e = .returned (.bool true) ∧ Below w.heap.size w w' := by
  have HL := ħ hl
  have HL' := ħ hl'
  clear hl hl'
  go_enter Tryz.func115, Tryz.ntmps115
  go_wp2_with fail
  refine (ref0_EqBatch x.b _ _ _ _ _ _ _ (HL.out.up (belB)) (HL'.out.up (belB))).mono ?_
  rintro e w1 ⟨rfl, hb1⟩
  go_wp2_with fail
  go_ret
  exact ⟨rfl, belB⟩
set_option maxHeartbeats 2000000 in
theorem ref0_EqWaits (A : Option Addr) (n c : Nat) (A' : Option Addr) (n' c' : Nat) (l : List WaitD) (w : World) (hl : WaitsR w A n l) (hl' : WaitsR w A' n' l) :
    Calls Tryz.prog 81 #[.slice A n c, .slice A' n' c'] w fun e w' => e = .returned (.bool true) ∧ Below w.heap.size w w' := by
  have hnn : n' = n := by rw [← hl.1, ← hl'.1]
  subst hnn
  have HL := ħ hl
  have HL' := ħ hl'
  have hn : n' ≤ 9223372036854775807 := hl.2.1
  clear hl hl'
  go_enter Tryz.func81, Tryz.ntmps81
  go_wp2_with fail
  go_loopw [5] (fun si wr => ∃ k : Nat, k ≤ n' ∧ si = .int .i64 k ∧ Below w.heap.size w wr) (fun si _ => n' - (intOf si).toNat)
  case atStart => exact ⟨0, Nat.zero_le _, rfl, Below.refl _ _⟩
  case round =>
    obtain ⟨k, hk, rfl, hbw⟩ := hrel
    (obtain ⟨wk, hwk⟩ : ∃ x, x = wr := ⟨_, rfl⟩); subst hwk
    by_cases hlt : k < n'
    · obtain ⟨b, off, rfl, hb, hc⟩ := (HL.out.up hbw).2.2 (by omega)
      obtain ⟨B, m, d, ⟨c0, c1⟩, hin⟩ := hc k hlt
      obtain ⟨b', off', rfl, hb', hc'⟩ := (HL'.out.up hbw).2.2 (by omega)
      obtain ⟨B', m', d', ⟨f0, f1⟩, hin'⟩ := hc' k hlt
      have HIN := ħ hin
      have HIN' := ħ hin'
      clear hc hc' hin hin'
      go_wp2_with fail
      refine wp_region_fam (by kernel_rfl) (by kernel_rfl) (fun ι F hne hF hcl => ?_)
      have hcF0 := fun n o => (bcell (hF n)).1 (b) o (by first | (simp; done) | (simp; omega) | omega)
      have hcF1 := fun n o => (bcell (hF n)).1 (b') o (by first | (simp; done) | (simp; omega) | omega)
      have HF := ħ hF; clear hF
      have HC := ħ hcl; clear hcl
      repeat (any_goals (first
       | go_big_quiet_step (first | (go_at_call 114; exact Calls.fam HC.out (ref0_EqWait (wth l k) B m d B' m' d' _ (HIN.out.up (HF.out _)) (HIN'.out.up (HF.out _)))))
       | (refine wpQuiet_guard _ _ _ rfl rfl ?_; (fail_if_success (intro b' hb; have h2 := hb.symm; have : b' = true := h2.trans (by with_reducible rfl))); (fail_if_success (intro b' hb; have h2 := hb.symm; have : b' = false := h2.trans (by with_reducible rfl))); intro b' hb; simp only [hb]; cases b' <;> (try simp only [Bool.not_eq_true', Bool.not_eq_false', decide_eq_true_eq, decide_eq_false_iff_not, Int.not_lt, Int.not_le, Bool.and_eq_true, Bool.or_eq_true, Bool.or_eq_false_iff, beq_iff_eq, beq_eq_false_iff_ne, Int.natCast_pos] at hb))))
      all_goals (refine wpQuiet_nil ?_; intro nq)
      all_goals (try (exfalso; omega))
      have hFwf := HF.out nq
      clear HF HC hne
      generalize F nq = wf at *
      go_wp2_with fail
      (first | (go_round; (case rel => exact ⟨k + 1, by omega, by go_num, bel_trans hbw hFwf⟩); (case measure => (simp [intOf] <;> omega))) | (go_roundw; (case rel => exact ⟨k + 1, by omega, by go_num, bel_trans hbw hFwf⟩); (case measure => (simp [intOf] <;> omega))) | (refine ⟨?_, by simp [intOf] <;> omega⟩; (repeat apply Exists.intro); refine ⟨?rel, ?fr⟩; (case fr => ((repeat' apply And.intro) <;> rfl)); (case rel => exact ⟨k + 1, by omega, by go_num, bel_trans hbw hFwf⟩)))
    · go_wp2_with fail
      go_ret
      exact ⟨rfl, hbw⟩
set_option maxHeartbeats 2000000 in
theorem ref0_EqHelds (A : Option Addr) (n c : Nat) (A' : Option Addr) (n' c' : Nat) (l : List HeldD) (w : World) (hl : HeldsR w A n l) (hl' : HeldsR w A' n' l) :
    Calls Tryz.prog 82 #[.slice A n c, .slice A' n' c'] w fun e w' => e = .returned (.bool true) ∧ Below w.heap.size w w' := by
  have hnn : n' = n := by rw [← hl.1, ← hl'.1]
  subst hnn
  have HL := ħ hl
  have HL' := ħ hl'
  have hn : n' ≤ 9223372036854775807 := hl.2.1
  clear hl hl'
  go_enter Tryz.func82, Tryz.ntmps82
  go_wp2_with fail
  go_loopw [5] (fun si wr => ∃ k : Nat, k ≤ n' ∧ si = .int .i64 k ∧ Below w.heap.size w wr) (fun si _ => n' - (intOf si).toNat)
  case atStart => exact ⟨0, Nat.zero_le _, rfl, Below.refl _ _⟩
  case round =>
    obtain ⟨k, hk, rfl, hbw⟩ := hrel
    (obtain ⟨wk, hwk⟩ : ∃ x, x = wr := ⟨_, rfl⟩); subst hwk
    by_cases hlt : k < n'
    · obtain ⟨b, off, rfl, hb, hc⟩ := (HL.out.up hbw).2.2 (by omega)
      obtain ⟨B, m, d, ⟨c0, c1, c2, c3⟩, hin⟩ := hc k hlt
      obtain ⟨b', off', rfl, hb', hc'⟩ := (HL'.out.up hbw).2.2 (by omega)
      obtain ⟨B', m', d', ⟨f0, f1, f2, f3⟩, hin'⟩ := hc' k hlt
      have HIN := ħ hin
      have HIN' := ħ hin'
      clear hc hc' hin hin'
      go_wp2_with fail
      refine wp_region_fam (by kernel_rfl) (by kernel_rfl) (fun ι F hne hF hcl => ?_)
      have hcF0 := fun n o => (bcell (hF n)).1 (b) o (by first | (simp; done) | (simp; omega) | omega)
      have hcF1 := fun n o => (bcell (hF n)).1 (b') o (by first | (simp; done) | (simp; omega) | omega)
      have HF := ħ hF; clear hF
      have HC := ħ hcl; clear hcl
      repeat (any_goals (first
       | go_big_quiet_step (first | (go_at_call 115; exact Calls.fam HC.out (ref0_EqHeld (hth l k) B m d B' m' d' _ (HIN.out.up (HF.out _)) (HIN'.out.up (HF.out _)))))
       | (refine wpQuiet_guard _ _ _ rfl rfl ?_; (fail_if_success (intro b' hb; have h2 := hb.symm; have : b' = true := h2.trans (by with_reducible rfl))); (fail_if_success (intro b' hb; have h2 := hb.symm; have : b' = false := h2.trans (by with_reducible rfl))); intro b' hb; simp only [hb]; cases b' <;> (try simp only [Bool.not_eq_true', Bool.not_eq_false', decide_eq_true_eq, decide_eq_false_iff_not, Int.not_lt, Int.not_le, Bool.and_eq_true, Bool.or_eq_true, Bool.or_eq_false_iff, beq_iff_eq, beq_eq_false_iff_ne, Int.natCast_pos] at hb))))
      all_goals (refine wpQuiet_nil ?_; intro nq)
      all_goals (try (exfalso; omega))
      have hFwf := HF.out nq
      clear HF HC hne
      generalize F nq = wf at *
      go_wp2_with fail
      (first | (go_round; (case rel => exact ⟨k + 1, by omega, by go_num, bel_trans hbw hFwf⟩); (case measure => (simp [intOf] <;> omega))) | (go_roundw; (case rel => exact ⟨k + 1, by omega, by go_num, bel_trans hbw hFwf⟩); (case measure => (simp [intOf] <;> omega))) | (refine ⟨?_, by simp [intOf] <;> omega⟩; (repeat apply Exists.intro); refine ⟨?rel, ?fr⟩; (case fr => ((repeat' apply And.intro) <;> rfl)); (case rel => exact ⟨k + 1, by omega, by go_num, bel_trans hbw hFwf⟩)))
    · go_wp2_with fail
      go_ret
      exact ⟨rfl, hbw⟩
set_option maxHeartbeats 4000000 in
theorem ref0_EqWorker (P Q : WorkP) (D : WorkD) (w : World) (h : WorkR w P D) (h' : WorkR w Q D) :
    Calls Tryz.prog 44 #[P.val D, Q.val D] w fun e w' => e = .returned (.bool true) ∧ Below w.heap.size w w' := by
  obtain ⟨⟨oA, on, oc⟩, ⟨tA, tn, tc⟩, ⟨eA, en, ec⟩, ⟨rA, rn, rc⟩⟩ := P
  obtain ⟨⟨oA', on', oc'⟩, ⟨tA', tn', tc'⟩, ⟨eA', en', ec'⟩, ⟨rA', rn', rc'⟩⟩ := Q
  have H := ħ h
  have H' := ħ h'
  clear h h'
  show Calls Tryz.prog 44 #[.agg #[.int .i64 D.id, .int .i64 D.nodes, .int .i64 D.next, .slice oA on oc, .int .i64 D.age, .int .i64 D.clock, .slice tA tn tc, .slice eA en ec, .slice rA rn rc], .agg #[.int .i64 D.id, .int .i64 D.nodes, .int .i64 D.next, .slice oA' on' oc', .int .i64 D.age, .int .i64 D.clock, .slice tA' tn' tc', .slice eA' en' ec', .slice rA' rn' rc']] w _
  go_enter Tryz.func44, Tryz.ntmps44
  go_wp2_with fail
  refine (ref0_EqTxs oA on oc oA' on' oc' D.op _ (H.out.op.up (belB)) (H'.out.op.up (belB))).mono ?_
  rintro e w1 ⟨rfl, hb1⟩
  have hz_w1 : w.heap.size + 2 ≤ w1.heap.size := (by have hq := (hb1).size; (try simp at hq); omega); have hc0_w1 := fun o => (bcell hb1).1 (w.heap.size) o (by first | (simp; done) | (simp; omega) | omega); have hc1_w1 := fun o => (bcell hb1).1 (w.heap.size + 1) o (by first | (simp; done) | (simp; omega) | omega)
  go_wp2_with fail
  refine (ref0_EqWaits tA tn tc tA' tn' tc' D.wa _ (H.out.wa.up (belB)) (H'.out.wa.up (belB))).mono ?_
  rintro e w2 ⟨rfl, hb2⟩
  have hz_w2 : w.heap.size + 2 ≤ w2.heap.size := (by have hq := (hb2).size; (try simp at hq); omega); have hc0_w2 := fun o => (bcell hb2).1 (w.heap.size) o (by first | (simp; done) | (simp; omega) | omega); have hc1_w2 := fun o => (bcell hb2).1 (w.heap.size + 1) o (by first | (simp; done) | (simp; omega) | omega)
  go_wp2_with fail
  refine (ref0_EqHelds eA en ec eA' en' ec' D.he _ (H.out.he.up (belB)) (H'.out.he.up (belB))).mono ?_
  rintro e w3 ⟨rfl, hb3⟩
  have hz_w3 : w.heap.size + 2 ≤ w3.heap.size := (by have hq := (hb3).size; (try simp at hq); omega); have hc0_w3 := fun o => (bcell hb3).1 (w.heap.size) o (by first | (simp; done) | (simp; omega) | omega); have hc1_w3 := fun o => (bcell hb3).1 (w.heap.size + 1) o (by first | (simp; done) | (simp; omega) | omega)
  go_wp2_with fail
  refine (eqN_same rA rn rc rA' rn' rc' D.re _ (H.out.re.up (belB)) (H'.out.re.up (belB))).mono ?_
  rintro e w4 ⟨rfl, hb4⟩
  go_wp2_with fail
  go_ret
  exact ⟨rfl, belB⟩
end Go.Proofs.YtgfakefcmbpboaaGreat
