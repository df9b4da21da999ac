/- droverlaw22: weights, num, heavy, check, wakes. -/
import Derived.Test.YtbakkpabiknlmaaSzNl
import Derived.Test.YtbakkpabiknlmaaSzNo
import Derived.Test.YtbakkpabiknlmaaSzNq
namespace Go.Proofs.Ytbakkpabiknlmaa
open Go.RowKit
set_option linter.unusedSimpArgs false
set_option linter.unusedVariables false

/-- A weight, up to more than is played. -/
def wgo {α : Type} (f : α → Int) : List α → Int → Int
  | [], v => v
  | x :: l, v => if v < 1048576 then wgo f l (v + f x) else v
theorem wgo_le {α : Type} {f : α → Int} (hf : ∀ x, 0 ≤ f x) : ∀ (l : List α) (v : Int), v ≤ wgo f l v
  | [], v => Int.le_refl _
  | x :: l, v => by
    unfold wgo
    split
    · have := wgo_le hf l (v + f x); have := hf x; omega
    · exact Int.le_refl _
theorem wgo_bound {α : Type} {f : α → Int} : ∀ (l : List α) (v : Int), (∀ x ∈ l, f x ≤ 281474976710656) → v ≤ 562949953421312 → wgo f l v ≤ 562949953421312
  | [], v, _, h => h
  | x :: l, v, hf, h => by
    unfold wgo
    split
    · have := hf x (by simp)
      exact wgo_bound l _ (fun y hy => hf y (by simp [hy])) (by omega)
    · exact h
theorem wgo_stop {α : Type} {f : α → Int} (l : List α) {v : Int} (h : ¬ v < 1048576) : wgo f l v = v := by
  cases l with
  | nil => rfl
  | cons x l => unfold wgo; rw [if_neg h]
theorem wgo_step {α : Type} [Inhabited α] {f : α → Int} (l : List α) {v : Int} {k : Nat} (hk : k < l.length) (h : v < 1048576) : wgo f (l.drop k) v = wgo f (l.drop (k + 1)) (v + f (l.getD k default)) := by
  rw [drop_getD l k hk]
  conv => lhs; unfold wgo
  rw [if_pos h]
def szP (p : PairD) : Int := (p.k.size : Int) + (p.v.size : Int)
def szX (x : TxD) : Int := (x.k.size : Int) + (x.v.size : Int)
def twS (l : List PairD) (q : List AcctD) : Int := wgo szP l ((q.length : Int) + (l.length : Int))
def xwS (l : List TxD) : Int := wgo szX l (l.length : Int)
theorem szP_ge (p : PairD) : 0 ≤ szP p := by unfold szP; omega
theorem szX_ge (p : TxD) : 0 ≤ szX p := by unfold szX; omega
theorem szX_le {x : TxD} (h : SmX x) : szX x ≤ 281474976710656 := by have := h.1; have := h.2; unfold szX; omega
theorem szP_le {x : PairD} (h : SmP x) : szP x ≤ 281474976710656 := by have := h.1; have := h.2; unfold szP; omega
theorem sm_at {α : Type} [Inhabited α] {G : α → Prop} {l : List α} (h : ∀ v ∈ l, G v) {k : Nat} (hk : k < l.length) : G (l.getD k default) := (mem_getD (P := G)).2 h k hk
set_option maxRecDepth 100000 in
set_option maxHeartbeats 2000000 in
theorem law0_TxWeight (A : Option Addr) (n c : Nat) (l : List TxD) (y : Int) (w : World) (hl : TxsR w A n l) (hs : ∀ x ∈ l, SmX x) (hn : n ≤ 17592186044416) (hy : xwS l = y) :
    Calls Try.prog 45 #[.slice A n c] w fun e w' => e = .returned (.int .i64 y) ∧ Below w.heap.size w w' := by
  have HL := Lib.hid hl
  have HN := Lib.hid hl.1
  have HS := Lib.hid hs
  have HY := Lib.hid hy
  clear hl hs hy
  go_enter Try.func45, Try.ntmps45
  go_wp2_with fail
  go_loopw [3, 4] (fun sv si wr => ∃ (k : Nat) (v : Int), k ≤ n ∧ si = .int .i64 k ∧ sv = .int .i64 v ∧ 0 ≤ v ∧ v ≤ 562949953421312 ∧ Hid (wgo szX (l.drop k) v = y) ∧ Below w.heap.size w wr) (fun _ si _ => n - (intOf si).toNat)
  case atStart => exact ⟨0, n, Nat.zero_le _, rfl, rfl, by omega, by omega, Lib.hid (by have := HY.out; unfold xwS at this; rw [HN.out] at this; exact this), Below.refl _ _⟩
  case round =>
    obtain ⟨k, v, hk, rfl, rfl, hv0, hv1, HW, hbw⟩ := hrel
    (obtain ⟨wk, hwk⟩ : ∃ x, x = wr := ⟨_, rfl⟩); subst hwk
    by_cases hlt : k < n
    · by_cases hvl : v < 1048576
      · obtain ⟨b, off, rfl, hb, hc⟩ := (HL.out.up hbw).at (by omega)
        obtain ⟨c0, c1, c2, c3⟩ := hc k hlt
        have hsm := sm_at HS.out (k := k) (by rw [HN.out]; exact hlt)
        obtain ⟨hs1, hs2⟩ := hsm
        have hst := wgo_step (f := szX) l (v := v) (k := k) (by rw [HN.out]; exact hlt) hvl
        rw [HW.out] at hst
        obtain ⟨p, hp⟩ : ∃ p, p = xth l k := ⟨_, rfl⟩
        have hp2 : l.getD k default = p := hp.symm
        rw [hp2] at hst hs1 hs2
        rw [← hp] at c0 c1 c2 c3
        have HST := Lib.hid hst.symm
        clear hc hst hp hp2
        go_wp2_with fail
        refine wp_region_fam (by kernel_rfl) (by kernel_rfl) (fun ι F hne hF hcl => ?_)
        have hcF0 := fun n o => (bcell (hF n)).1 (b) o (by first | (simp; done) | (simp; omega) | omega)
        have HF := Lib.hid hF; clear hF
        have HC := Lib.hid hcl; clear hcl
        repeat (any_goals (first
         | go_big_quiet_step (first | (fail))
         | (refine wpQuiet_guard _ _ _ rfl rfl ?_; (fail_if_success (intro b' hb; have h2 := hb.symm; have : b' = true := h2.trans (by with_reducible rfl))); (fail_if_success (intro b' hb; have h2 := hb.symm; have : b' = false := h2.trans (by with_reducible rfl))); intro b' hb; simp only [hb]; cases b' <;> (try simp only [Bool.not_eq_true', Bool.not_eq_false', decide_eq_true_eq, decide_eq_false_iff_not, Int.not_lt, Int.not_le, Bool.and_eq_true, Bool.or_eq_true, Bool.or_eq_false_iff, beq_iff_eq, beq_eq_false_iff_ne, Int.natCast_pos] at hb))))
        all_goals (refine wpQuiet_nil ?_; intro nq)
        all_goals (try (exfalso; omega))
        have hFwf := HF.out nq
        clear HF HC hne
        generalize F nq = wf at *
        go_wp2_with fail
        (first | (go_round; (case rel => exact ⟨k + 1, v + szX p, by omega, by go_num, by (first | rfl | (unfold szX; rw [Int.add_assoc])), by (unfold szX; omega), by (unfold szX; omega), HST, bel_trans hbw hFwf⟩); (case measure => (simp [intOf] <;> omega))) | (go_roundw; (case rel => exact ⟨k + 1, v + szX p, by omega, by go_num, by (first | rfl | (unfold szX; rw [Int.add_assoc])), by (unfold szX; omega), by (unfold szX; omega), HST, bel_trans hbw hFwf⟩); (case measure => (simp [intOf] <;> omega))) | (refine ⟨?_, by simp [intOf] <;> omega⟩; (repeat apply Exists.intro); refine ⟨?rel, ?fr⟩; (case fr => ((repeat' apply And.intro) <;> rfl)); (case rel => exact ⟨k + 1, v + szX p, by omega, by go_num, by (first | rfl | (unfold szX; rw [Int.add_assoc])), by (unfold szX; omega), by (unfold szX; omega), HST, bel_trans hbw hFwf⟩)))
      · have hd : decide (v < 1048576) = false := by simpa using hvl
        have e := wgo_stop (f := szX) (l.drop k) hvl
        rw [HW.out] at e
        subst e
        clear hvl
        go_wp2_with fail
        go_ret
        exact ⟨rfl, hbw⟩
    · have e : y = v := by
        have := HW.out
        rw [List.drop_of_length_le (by rw [HN.out]; omega)] at this
        exact this.symm
      subst e
      go_wp2_with fail
      go_ret
      exact ⟨rfl, hbw⟩
set_option maxRecDepth 100000 in
set_option maxHeartbeats 2000000 in
theorem law0_TableWeight (A : Option Addr) (n c : Nat) (l : List PairD) (B : Option Addr) (m d : Nat) (q : List AcctD) (y : Int) (w : World) (hl : PairsR w A n l) (hq : AcctsR w B m q) (hs : ∀ x ∈ l, SmP x) (hn : n ≤ 17592186044416) (hm : m ≤ 17592186044416) (hy : twS l q = y) :
    Calls Try.prog 46 #[.agg #[.slice A n c, .slice B m d]] w fun e w' => e = .returned (.int .i64 y) ∧ Below w.heap.size w w' := by
  have HL := Lib.hid hl
  have HN := Lib.hid hl.1
  have HM := Lib.hid hq.1
  have HS := Lib.hid hs
  have HY := Lib.hid hy
  clear hl hs hy hq
  go_enter Try.func46, Try.ntmps46
  go_wp2_with fail
  go_loopw [3, 4] (fun sv si wr => ∃ (k : Nat) (v : Int), k ≤ n ∧ si = .int .i64 k ∧ sv = .int .i64 v ∧ 0 ≤ v ∧ v ≤ 562949953421312 ∧ Hid (wgo szP (l.drop k) v = y) ∧ BoxR wr w.heap.size [.slice A n c, .slice B m d] ∧ Below w.heap.size w wr) (fun _ si _ => n - (intOf si).toNat)
  case atStart => exact ⟨0, (m : Int) + (n : Int), Nat.zero_le _, rfl, rfl, by omega, by omega, Lib.hid (by have := HY.out; unfold twS at this; rw [HN.out, HM.out] at this; exact this), BoxR.new w [.slice A n c, .slice B m d] 25, by (repeat (first | (with_reducible exact Below.refl _ _) | (with_reducible assumption) | (with_reducible apply bel_alloc) | (with_reducible apply bel_drew) | (with_reducible apply bel_drewN) | (with_reducible refine bel_trans ?_ (by with_reducible assumption)) | (with_reducible refine bel_trans ?_ (HF.out _)) | (with_reducible refine bel_set ?_ (by simp) _) | (with_reducible refine bel_set ?_ (by simp; omega) _) | (with_reducible refine bel_set ?_ (by omega) _)))⟩
  case round =>
    obtain ⟨k, v, hk, rfl, rfl, hv0, hv1, HW, hT, hbw⟩ := hrel
    (obtain ⟨wk, hwk⟩ : ∃ x, x = wr := ⟨_, rfl⟩); subst hwk
    have hg0 := hT.1
    have HT := Lib.hid hT
    have t_0 := (hT).2 0 _ rfl; have t_1 := (hT).2 1 _ rfl
    clear hT
    by_cases hlt : k < n
    · by_cases hvl : v < 1048576
      · obtain ⟨b, off, rfl, hb, hc⟩ := (HL.out.up hbw).at (by omega)
        obtain ⟨c0, c1⟩ := hc k hlt
        have hsm := sm_at HS.out (k := k) (by rw [HN.out]; exact hlt)
        obtain ⟨hs1, hs2⟩ := hsm
        have hst := wgo_step (f := szP) l (v := v) (k := k) (by rw [HN.out]; exact hlt) hvl
        rw [HW.out] at hst
        obtain ⟨p, hp⟩ : ∃ p, p = pth l k := ⟨_, rfl⟩
        have hp2 : l.getD k default = p := hp.symm
        rw [hp2] at hst hs1 hs2
        rw [← hp] at c0 c1
        have HST := Lib.hid hst.symm
        clear hc hst hp hp2
        go_wp2_with fail
        refine wp_region_fam (by kernel_rfl) (by kernel_rfl) (fun ι F hne hF hcl => ?_)
        have hcF0 := fun n o => (bcell (hF n)).1 (b) o (by first | (simp; done) | (simp; omega) | omega)
        have hcF1 := fun n o => (bcell (hF n)).1 (w.heap.size) o (by first | (simp; done) | (simp; omega) | omega)
        have HF := Lib.hid hF; clear hF
        have HC := Lib.hid hcl; clear hcl
        repeat (any_goals (first
         | go_big_quiet_step (first | (fail))
         | (refine wpQuiet_guard _ _ _ rfl rfl ?_; (fail_if_success (intro b' hb; have h2 := hb.symm; have : b' = true := h2.trans (by with_reducible rfl))); (fail_if_success (intro b' hb; have h2 := hb.symm; have : b' = false := h2.trans (by with_reducible rfl))); intro b' hb; simp only [hb]; cases b' <;> (try simp only [Bool.not_eq_true', Bool.not_eq_false', decide_eq_true_eq, decide_eq_false_iff_not, Int.not_lt, Int.not_le, Bool.and_eq_true, Bool.or_eq_true, Bool.or_eq_false_iff, beq_iff_eq, beq_eq_false_iff_ne, Int.natCast_pos] at hb))))
        all_goals (refine wpQuiet_nil ?_; intro nq)
        all_goals (try (exfalso; omega))
        have hFwf := HF.out nq
        clear HF HC hne
        generalize F nq = wf at *
        go_wp2_with fail
        (first | (go_round; (case rel => exact ⟨k + 1, v + szP p, by omega, by go_num, by (first | rfl | (unfold szP; rw [Int.add_assoc])), by (unfold szP; omega), by (unfold szP; omega), HST, HT.out.up hFwf, bel_trans hbw hFwf⟩); (case measure => (simp [intOf] <;> omega))) | (go_roundw; (case rel => exact ⟨k + 1, v + szP p, by omega, by go_num, by (first | rfl | (unfold szP; rw [Int.add_assoc])), by (unfold szP; omega), by (unfold szP; omega), HST, HT.out.up hFwf, bel_trans hbw hFwf⟩); (case measure => (simp [intOf] <;> omega))) | (refine ⟨?_, by simp [intOf] <;> omega⟩; (repeat apply Exists.intro); refine ⟨?rel, ?fr⟩; (case fr => ((repeat' apply And.intro) <;> rfl)); (case rel => exact ⟨k + 1, v + szP p, by omega, by go_num, by (first | rfl | (unfold szP; rw [Int.add_assoc])), by (unfold szP; omega), by (unfold szP; omega), HST, HT.out.up hFwf, bel_trans hbw hFwf⟩)))
      · have hd : decide (v < 1048576) = false := by simpa using hvl
        have e := wgo_stop (f := szP) (l.drop k) hvl
        rw [HW.out] at e
        subst e
        clear hvl
        go_wp2_with fail
        go_ret
        exact ⟨rfl, hbw⟩
    · have e : y = v := by
        have := HW.out
        rw [List.drop_of_length_le (by rw [HN.out]; omega)] at this
        exact this.symm
      subst e
      go_wp2_with fail
      go_ret
      exact ⟨rfl, hbw⟩
end Go.Proofs.Ytbakkpabiknlmaa
namespace Go.Proofs.Ytbakkpabiknlmaa
open Go.RowKit
set_option linter.unusedSimpArgs false
set_option linter.unusedVariables false

/-- An asking that is played. -/
structure Light (P : AskP) (D : AskD) : Prop where
  p : P.p.n ≤ 6000
  q : P.q.n ≤ 6000
  x : P.x.n ≤ 100
  b : P.b.n ≤ 6000
  k : P.k.n ≤ 100
  t : ∀ v ∈ D.b, v.tx.length ≤ 6000
end Go.Proofs.Ytbakkpabiknlmaa
namespace Go.Proofs.Ytbakkpabiknlmaa
set_option linter.unusedSimpArgs false
set_option linter.unusedVariables false

theorem lastA_no {q : List AcctD} {s : Int} (h : khasA q s = false) : lastA q s = 0 := by unfold lastA; rw [if_neg (by rw [h]; simp)]
theorem doP_yes {l : List PairD} {q : List AcctD} {x : TxD} (h : okT l q x = true) : doP l q x = setP l x ∧ doA l q x = setA q x := by unfold doP doA; rw [if_pos h, if_pos h]; exact ⟨rfl, rfl⟩
theorem okT_iff {l : List PairD} {q : List AcctD} {x : TxD} : okT l q x = true ↔ OkT l q x := dec_iff
theorem khasA_nil (s : Int) : khasA [] s = false := by
  cases h : khasA [] s
  · rfl
  · have := (dec_iff.1 h).1; simp at this
theorem khasP_nil (s : ByteArray) : khasP [] s = false := by
  cases h : khasP [] s
  · rfl
  · have := (dec_iff.1 h).1; simp at this
def wkX : TxD := ⟨1, 1, ⟨#[107]⟩, ⟨#[118]⟩⟩
theorem wk_ok22 : okT [] [] wkX = true := okT_iff.2 ⟨by decide, by rw [lastA_no (khasA_nil _)]; rfl, fun h => by simp at h, fun h => by simp at h⟩
end Go.Proofs.Ytbakkpabiknlmaa
namespace Go.Proofs.Ytbakkpabiknlmaa
open Go.RowKit
set_option linter.unusedSimpArgs false
set_option linter.unusedVariables false

theorem PairsR.nil0 (w : World) : PairsR w none 0 [] := ⟨rfl, by simp [flat], by omega, fun h => absurd h (by omega)⟩
theorem AcctsR.nil0 (w : World) : AcctsR w none 0 [] := ⟨rfl, by simp [flat], by omega, fun h => absurd h (by omega)⟩
end Go.Proofs.Ytbakkpabiknlmaa
