/- Weights of held batches; droverlaw23: num, Heavy, heavy. -/
import Derived.Test.YtbakkpabiknlmaaSzEb
namespace Go.Proofs.Ytbakkpabiknlmaa
open Go.RowKit
set_option linter.unusedSimpArgs false
set_option linter.unusedVariables false

theorem wgo_bd {α : Type} {f : α → Int} {M N : Int} (hMN : 1048576 + M ≤ N) : ∀ (l : List α) (v : Int), (∀ x ∈ l, f x ≤ M) → v ≤ N → wgo f l v ≤ N
  | [], v, _, h => h
  | x :: l, v, hf, h => by
    unfold wgo
    split
    · have := hf x (by simp)
      exact wgo_bd hMN l _ (fun y hy => hf y (by simp [hy])) (by omega)
    · exact h
theorem wgo_all {α : Type} {f : α → Int} (hf : ∀ x, 0 ≤ f x) : ∀ (l : List α) (v : Int), 0 ≤ v → wgo f l v < 1048576 → ∀ x ∈ l, f x ≤ wgo f l v
  | [], v, _, _ => fun x hx => by cases hx
  | y :: l, v, h0, h => by
    unfold wgo at h ⊢
    split
    · rename_i hv
      rw [if_pos hv] at h
      intro x hx
      have hy := hf y
      rcases List.mem_cons.1 hx with rfl | hx
      · have := wgo_le hf l (v + f x); omega
      · exact wgo_all hf l (v + f y) (by omega) h x hx
    · rename_i hv
      rw [if_neg hv] at h
      exact absurd h hv
def hwF (h : HeldD) : Int := xwS h.b.tx
def hwS (l : List HeldD) : Int := wgo hwF l (l.length : Int)
theorem xwS_ge (l : List TxD) : (l.length : Int) ≤ xwS l := wgo_le szX_ge _ _
theorem hwF_ge (h : HeldD) : 0 ≤ hwF h := by have := xwS_ge h.b.tx; unfold hwF; omega
theorem hwF_le {h : HeldD} (hs : SmH h) : hwF h ≤ 562949953421312 := by
  have h1 : h.b.tx.length ≤ 17592186044416 := hs.1
  exact wgo_bound _ _ (fun x hx => szX_le (hs.2 x hx)) (by omega)
theorem hwS_ge (l : List HeldD) : (l.length : Int) ≤ hwS l := wgo_le hwF_ge _ _
theorem hwS_le {l : List HeldD} (hs : ∀ x ∈ l, SmH x) (hl : l.length ≤ 17592186044416) : hwS l ≤ 1125899906842624 :=
  wgo_bd (M := 562949953421312) (by omega) _ _ (fun x hx => hwF_le (hs x hx)) (by omega)
theorem hwS_tx {l : List HeldD} (h : hwS l < 1048576) : ∀ x ∈ l, (x.b.tx.length : Int) ≤ hwS l := fun x hx => by
  have h1 : xwS x.b.tx ≤ hwS l := wgo_all hwF_ge l (l.length : Int) (by omega) h x hx
  have h2 := xwS_ge x.b.tx
  omega
set_option maxRecDepth 100000 in
set_option maxHeartbeats 2000000 in
theorem law0_HeldWeight (A : Option Addr) (n c : Nat) (l : List HeldD) (y : Int) (w : World) (hl : HeldsR w A n l) (hs : ∀ x ∈ l, SmH x) (hn : n ≤ 17592186044416) (hy : hwS l = y) :
    Calls Try.prog 20 #[.slice A n c] w fun e w' => e = .returned (.int .i64 y) ∧ Below w.heap.size w w' := by
  have HL := Lib.hid hl
  have HN := Lib.hid hl.1
  have HS := Lib.hid hs
  have HY := Lib.hid hy
  clear hl hs hy
  go_enter Try.func20, Try.ntmps20
  go_wp2_with fail
  go_loopw [3, 4] (fun sv si wr => ∃ (k : Nat) (v : Int), k ≤ n ∧ si = .int .i64 k ∧ sv = .int .i64 v ∧ 0 ≤ v ∧ v ≤ 1125899906842624 ∧ Hid (wgo hwF (l.drop k) v = y) ∧ Below w.heap.size w wr) (fun _ si _ => n - (intOf si).toNat)
  case atStart => exact ⟨0, n, Nat.zero_le _, rfl, rfl, by omega, by omega, Lib.hid (by have := HY.out; unfold hwS at this; rw [HN.out] at this; exact this), Below.refl _ _⟩
  case round =>
    obtain ⟨k, v, hk, rfl, rfl, hv0, hv1, HW, hbw⟩ := hrel
    (obtain ⟨wk, hwk⟩ : ∃ x, x = wr := ⟨_, rfl⟩); subst hwk
    by_cases hlt : k < n
    · by_cases hvl : v < 1048576
      · obtain ⟨b, off, rfl, hb, hc⟩ := (HL.out.up hbw).2.2 (by omega)
        obtain ⟨B, m, d, ⟨c0, c1, c2, c3⟩, htx⟩ := hc k hlt
        have hsm : SmH (hth l k) := sm_at HS.out (k := k) (by rw [HN.out]; exact hlt)
        have hst := wgo_step (f := hwF) l (v := v) (k := k) (by rw [HN.out]; exact hlt) hvl
        rw [HW.out] at hst
        obtain ⟨p, hp⟩ : ∃ p, p = hth l k := ⟨_, rfl⟩
        have hp2 : l.getD k default = p := hp.symm
        rw [hp2] at hst
        rw [← hp] at c0 c1 c2 htx hsm
        obtain ⟨y4, hy4⟩ : ∃ y, xwS p.b.tx = y := ⟨_, rfl⟩
        have hst2 : y = wgo hwF (l.drop (k + 1)) (v + y4) := by rw [← hy4]; exact hst
        have hb41 : 0 ≤ y4 := by rw [← hy4]; exact hwF_ge p
        have hb42 : y4 ≤ 562949953421312 := by rw [← hy4]; exact hwF_le hsm
        have hm : m ≤ 17592186044416 := by rw [← htx.1]; exact hsm.1
        have HST := Lib.hid hst2.symm
        have HTX := Lib.hid htx
        have HSM := Lib.hid hsm
        have HY4 := Lib.hid hy4
        clear hc hst hp hp2 htx hsm hy4 hst2
        go_wp2_with (go_at_call 45; refine (law0_TxWeight B m d _ y4 _ HTX.out HSM.out.2 hm HY4.out).mono ?_; rintro e w5 ⟨rfl, hb5⟩)
        (first | (go_round; (case rel => exact ⟨k + 1, v + y4, by omega, by go_num, by first | rfl | go_num, by omega, by omega, HST, bel_trans hbw hb5⟩); (case measure => (simp [intOf] <;> omega))) | (go_roundw; (case rel => exact ⟨k + 1, v + y4, by omega, by go_num, by first | rfl | go_num, by omega, by omega, HST, bel_trans hbw hb5⟩); (case measure => (simp [intOf] <;> omega))) | (refine ⟨?_, by simp [intOf] <;> omega⟩; (repeat apply Exists.intro); refine ⟨?rel, ?fr⟩; (case fr => ((repeat' apply And.intro) <;> rfl)); (case rel => exact ⟨k + 1, v + y4, by omega, by go_num, by first | rfl | go_num, by omega, by omega, HST, bel_trans hbw hb5⟩)))
      · have hd : decide (v < 1048576) = false := by simpa using hvl
        have e := wgo_stop (f := hwF) (l.drop k) hvl
        rw [HW.out] at e
        subst e
        clear hvl
        go_wp2_with fail
        go_ret
        exact ⟨rfl, hbw⟩
    · have e : y = v := by
        have := HW.out
        rw [List.drop_of_length_le (by rw [HN.out]; omega)] at this
        exact this.symm
      subst e
      go_wp2_with fail
      go_ret
      exact ⟨rfl, hbw⟩
set_option maxRecDepth 100000 in
set_option maxHeartbeats 1000000 in
theorem law23_num (x : Int) (w : World) : Calls Try.prog 11 #[.int .i64 x] w fun e w' => e = .returned (.int .i64 x) ∧ w = w' := by
  go_enter Try.func11, Try.ntmps11
  go_wp2
  go_ret
  exact ⟨rfl, rfl⟩
noncomputable def hvE (v : Int) (s : Nat) : Bool := decide (4000 < v ∨ 300 < s)
theorem hvE_iff {v : Int} {s : Nat} : hvE v s = true ↔ (4000 < v ∨ 300 < s) := by simp [hvE]
set_option maxRecDepth 100000 in
set_option maxHeartbeats 2000000 in
theorem law23_Heavy (pA qA sA : Option Addr) (pn pc qn qc sn sc : Nat) (p : List PairD) (q : List AcctD) (c : Int) (y : Int) (w : World) (hp : PairsR w pA pn p) (hq : AcctsR w qA qn q) (hs : ∀ x ∈ p, SmP x) (sp : pn ≤ 17592186044416) (sq : qn ≤ 17592186044416) (hy : twS p q = y) :
    Calls Try.prog 21 #[.agg #[.slice pA pn pc, .slice qA qn qc, .slice sA sn sc, .int .i64 c]] w fun e w' => e = .returned (.bool (hvE y sn)) ∧ Below w.heap.size w w' := by
  have HP := Lib.hid hp
  have HQ := Lib.hid hq
  have HS := Lib.hid hs
  have HY := Lib.hid hy
  clear hp hq hs hy
  go_enter Try.func21, Try.ntmps21
  go_wp2_with fail
  refine (law0_TableWeight pA pn pc p qA qn qc q y _ (HP.out.up (by (repeat (first | (with_reducible exact Below.refl _ _) | (with_reducible assumption) | (with_reducible apply bel_alloc) | (with_reducible apply bel_drew) | (with_reducible apply bel_drewN) | (with_reducible refine bel_trans ?_ (by with_reducible assumption)) | (with_reducible refine bel_trans ?_ (HF.out _)) | (with_reducible refine bel_set ?_ (by simp) _) | (with_reducible refine bel_set ?_ (by simp; omega) _) | (with_reducible refine bel_set ?_ (by omega) _))))) (HQ.out.up (by (repeat (first | (with_reducible exact Below.refl _ _) | (with_reducible assumption) | (with_reducible apply bel_alloc) | (with_reducible apply bel_drew) | (with_reducible apply bel_drewN) | (with_reducible refine bel_trans ?_ (by with_reducible assumption)) | (with_reducible refine bel_trans ?_ (HF.out _)) | (with_reducible refine bel_set ?_ (by simp) _) | (with_reducible refine bel_set ?_ (by simp; omega) _) | (with_reducible refine bel_set ?_ (by omega) _))))) HS.out sp sq HY.out).mono ?_
  rintro e w1 ⟨rfl, hb1⟩
  have hz_w1 : w.heap.size + 1 ≤ w1.heap.size := (by have hq := (hb1).size; (try simp at hq); omega); have hc0_w1 := fun o => (bcell hb1).1 (w.heap.size) o (by first | (simp; done) | (simp; omega) | omega)
  go_wp2_with fail
  all_goals
    go_ret
    refine ⟨ret_bool ?_, by (repeat (first | (with_reducible exact Below.refl _ _) | (with_reducible assumption) | (with_reducible apply bel_alloc) | (with_reducible apply bel_drew) | (with_reducible apply bel_drewN) | (with_reducible refine bel_trans ?_ (by with_reducible assumption)) | (with_reducible refine bel_trans ?_ (HF.out _)) | (with_reducible refine bel_set ?_ (by simp) _) | (with_reducible refine bel_set ?_ (by simp; omega) _) | (with_reducible refine bel_set ?_ (by omega) _)))⟩
    rw [Bool.eq_iff_iff, hvE_iff]
    simp
    try omega
/-- A script that is played. -/
structure LightS (P : ScrP) (D : ScrD) : Prop where
  p : P.p.n ≤ 4000
  q : P.q.n ≤ 4000
  s : P.s.n ≤ 300
  l : P.l.n ≤ 100
  li : ∀ a ∈ D.l, a.l.length ≤ 6000
  hi : ∀ a ∈ D.l, a.h.length ≤ 6000
  ti : ∀ a ∈ D.l, ∀ x ∈ a.h, x.b.tx.length ≤ 6000
def HeavyS (P : ScrP) (D : ScrD) (w : World) (e : Ending) (w' : World) : Prop := ∃ x : Bool, e = .returned (.bool x) ∧ (x = false → LightS P D) ∧ Below w.heap.size w w'
set_option maxRecDepth 100000 in
set_option maxHeartbeats 4000000 in
theorem law23_heavy (P : ScrP) (D : ScrD) (w : World) (h : ScrR w P D) :
    Calls Try.prog 4 #[P.val D] w (HeavyS P D w) := by
  obtain ⟨⟨pA, pn, pc⟩, ⟨qA, qn, qc⟩, ⟨sA, sn, sc⟩, ⟨lA, ln, lc⟩⟩ := P
  have H := Lib.hid h
  have HP : Hid (PairsR w pA pn D.e.p) := Lib.hid h.p
  have HQ : Hid (AcctsR w qA qn D.e.q) := Lib.hid h.q
  have HL : Hid (ActsR w lA ln D.l) := Lib.hid h.l
  have sp : pn ≤ 17592186044416 := h.sp
  have sq : qn ≤ 17592186044416 := h.sq
  have ss : sn ≤ 17592186044416 := h.ss
  have sl : ln ≤ 17592186044416 := h.sl
  obtain ⟨y1, hy1⟩ : ∃ y, twS D.e.p D.e.q = y := ⟨_, rfl⟩
  have b1 : (qn : Int) + (pn : Int) ≤ y1 ∧ y1 ≤ 562949953421312 := by
    rw [← hy1, ← HQ.out.1, ← HP.out.1]
    exact ⟨wgo_le szP_ge _ _, wgo_bound _ _ (fun x hx => szP_le (h.gp x hx)) (by have := HQ.out.1; have := HP.out.1; omega)⟩
  have HY1 := Lib.hid hy1
  obtain ⟨b11, b12⟩ := b1
  obtain ⟨ec, hec⟩ : ∃ z, D.e.c = z := ⟨_, rfl⟩
  have HEC := Lib.hid hec
  clear h hy1
  show Calls Try.prog 4 #[.agg #[.slice pA pn pc, .slice qA qn qc, .slice sA sn sc, .int .i64 D.e.c, .slice lA ln lc]] w (HeavyS _ D w)
  rw [hec]
  clear hec
  go_enter Try.func4, Try.ntmps4
  go_wp2_with fail
  have hA : BoxR (w.alloc (.cells #[.slice pA pn pc, .slice qA qn qc, .slice sA sn sc, .int .i64 ec, .slice lA ln lc] 31)) w.heap.size [.slice pA pn pc, .slice qA qn qc, .slice sA sn sc, .int .i64 ec, .slice lA ln lc] := BoxR.new w [.slice pA pn pc, .slice qA qn qc, .slice sA sn sc, .int .i64 ec, .slice lA ln lc] 31
  have hbX : Below w.heap.size w (w.alloc (.cells #[.slice pA pn pc, .slice qA qn qc, .slice sA sn sc, .int .i64 ec, .slice lA ln lc] 31)) := by (repeat (first | (with_reducible exact Below.refl _ _) | (with_reducible assumption) | (with_reducible apply bel_alloc) | (with_reducible apply bel_drew) | (with_reducible apply bel_drewN) | (with_reducible refine bel_trans ?_ (by with_reducible assumption)) | (with_reducible refine bel_trans ?_ (HF.out _)) | (with_reducible refine bel_set ?_ (by simp) _) | (with_reducible refine bel_set ?_ (by simp; omega) _) | (with_reducible refine bel_set ?_ (by omega) _)))
  have HAF := Lib.hid hA
  have hbf := hbX
  clear hA hbX
  go_loopw [3, 4] (fun sv si wr => ∃ (k : Nat) (v : Int), k ≤ ln ∧ si = .int .i64 k ∧ sv = .int .i64 v ∧ 0 ≤ v ∧ v ≤ 2251799813685248 ∧ Hid (v < 1048576 → ∀ j, j < k → ((acth D.l j).l.length : Int) ≤ v ∧ hwS (acth D.l j).h ≤ v) ∧ BoxR wr w.heap.size [.slice pA pn pc, .slice qA qn qc, .slice sA sn sc, .int .i64 ec, .slice lA ln lc] ∧ Below w.heap.size w wr) (fun _ si _ => ln - (intOf si).toNat)
  case atStart => exact ⟨0, 0, Nat.zero_le _, rfl, rfl, by omega, by omega, Lib.hid (fun _ j hj => absurd hj (by omega)), HAF.out, hbf⟩
  case round =>
    clear hbf
    obtain ⟨k, v, hk, rfl, rfl, hv0, hv1, HW, hT, hbw⟩ := hrel
    (obtain ⟨wk, hwk⟩ : ∃ x, x = wr := ⟨_, rfl⟩); subst hwk
    have hg1 := hT.1
    have HT := Lib.hid hT
    have t_0 := (hT).2 0 _ rfl; have t_1 := (hT).2 1 _ rfl; have t_2 := (hT).2 2 _ rfl; have t_3 := (hT).2 3 _ rfl; have t_4 := (hT).2 4 _ rfl
    clear hT
    by_cases hlt : k < ln ∧ v < 1048576
    · obtain ⟨hlt1, hvl⟩ := hlt
      obtain ⟨b, off, rfl, hb, hc⟩ := (HL.out.up hbw).2.2 (by omega)
      obtain ⟨B, m, d, C, k2, e2, c0, c1, c2, hI, hH⟩ := hc k hlt1
      have hsa : SmA (acth D.l k) := sm_at H.out.gl (k := k) (by rw [HL.out.1]; exact hlt1)
      obtain ⟨y4, hy4⟩ : ∃ y, hwS (acth D.l k).h = y := ⟨_, rfl⟩
      have hk2 : k2 ≤ 17592186044416 := by rw [← hH.1]; exact hsa.h
      have hm2 : m ≤ 17592186044416 := by rw [← hI.1]; exact hsa.l
      have hb41 : 0 ≤ y4 := by rw [← hy4]; have := hwS_ge (acth D.l k).h; omega
      have hb42 : y4 ≤ 1125899906842624 := by rw [← hy4]; exact hwS_le hsa.hh hsa.h
      have HI := Lib.hid hI
      have HH := Lib.hid hH
      have HSA := Lib.hid hsa
      have HY4 := Lib.hid hy4
      clear hc hI hH hsa hy4
      go_wp2_with fail
      refine wp_region_fam (by kernel_rfl) (by kernel_rfl) (fun ι F hne hF hcl => ?_)
      have hcF0 := fun n o => (bcell (hF n)).1 (w.heap.size) o (by first | (simp; done) | (simp; omega) | omega)
      have hcF1 := fun n o => (bcell (hF n)).1 (b) o (by first | (simp; done) | (simp; omega) | omega)
      have HF := Lib.hid hF; clear hF
      have HC := Lib.hid hcl; clear hcl
      repeat (any_goals (first
       | go_big_quiet_step (first | (go_at_call 20; exact Calls.fam HC.out (law0_HeldWeight C k2 e2 _ y4 _ (HH.out.up (HF.out _)) HSA.out.hh hk2 HY4.out)))
       | (refine wpQuiet_guard _ _ _ rfl rfl ?_; (fail_if_success (intro b' hb; have h2 := hb.symm; have : b' = true := h2.trans (by with_reducible rfl))); (fail_if_success (intro b' hb; have h2 := hb.symm; have : b' = false := h2.trans (by with_reducible rfl))); intro b' hb; simp only [hb]; cases b' <;> (try simp only [Bool.not_eq_true', Bool.not_eq_false', decide_eq_true_eq, decide_eq_false_iff_not, Int.not_lt, Int.not_le, Bool.and_eq_true, Bool.or_eq_true, Bool.or_eq_false_iff, beq_iff_eq, beq_eq_false_iff_ne, Int.natCast_pos] at hb))))
      all_goals (refine wpQuiet_nil ?_; intro nq)
      all_goals (try (exfalso; omega))
      have hFwf := HF.out nq
      clear HF HC hne
      generalize F nq = wf at *
      go_wp2_with fail
      have hT5 := HT.out.up hFwf
      have hW5 : v + m + y4 < 1048576 → ∀ j, j < k + 1 → ((acth D.l j).l.length : Int) ≤ v + m + y4 ∧ hwS (acth D.l j).h ≤ v + m + y4 := fun hq j hj => by
        rcases Nat.lt_or_ge j k with h | h
        · have := HW.out (by omega) j h; omega
        · obtain rfl : j = k := by omega
          have := HI.out.1; have := HY4.out; omega
      (first | (go_round; (case rel => exact ⟨k + 1, v + m + y4, by omega, by go_num, by first | rfl | go_num, by omega, by omega, Lib.hid hW5, hT5, bel_trans hbw hFwf⟩); (case measure => (simp [intOf] <;> omega))) | (go_roundw; (case rel => exact ⟨k + 1, v + m + y4, by omega, by go_num, by first | rfl | go_num, by omega, by omega, Lib.hid hW5, hT5, bel_trans hbw hFwf⟩); (case measure => (simp [intOf] <;> omega))) | (refine ⟨?_, by simp [intOf] <;> omega⟩; (repeat apply Exists.intro); refine ⟨?rel, ?fr⟩; (case fr => ((repeat' apply And.intro) <;> rfl)); (case rel => exact ⟨k + 1, v + m + y4, by omega, by go_num, by first | rfl | go_num, by omega, by omega, Lib.hid hW5, hT5, bel_trans hbw hFwf⟩)))
    · have hend : v ≤ 6000 → ln ≤ 100 → hvE y1 sn = false → LightS ⟨⟨pA, pn, pc⟩, ⟨qA, qn, qc⟩, ⟨sA, sn, sc⟩, ⟨lA, ln, lc⟩⟩ D := fun h1 h2 h3 => by
        have h4 : ¬ (4000 < y1 ∨ 300 < sn) := fun hq => by rw [hvE_iff.2 hq] at h3; cases h3
        have hkb : k = ln := by omega
        have hall : ∀ j, j < D.l.length → ((acth D.l j).l.length : Int) ≤ 6000 ∧ hwS (acth D.l j).h ≤ 6000 := fun j hj => by
          have := HW.out (by omega) j (by rw [hkb, ← HL.out.1]; exact hj)
          omega
        have ha2 : ∀ a ∈ D.l, (a.l.length : Int) ≤ 6000 ∧ hwS a.h ≤ 6000 := (mem_getD (P := fun a : ActD => (a.l.length : Int) ≤ 6000 ∧ hwS a.h ≤ 6000)).1 hall
        refine ⟨by show pn ≤ 4000; omega, by show qn ≤ 4000; omega, by show sn ≤ 300; omega, h2, fun a ha => by have := ha2 a ha; omega, fun a ha => by have := ha2 a ha; have := hwS_ge a.h; omega, fun a ha x hx => by
          have h5 := (ha2 a ha).2
          have := hwS_tx (by omega) x hx
          omega⟩
      have HEND := Lib.hid hend
      have hbwW := hbw
      have HPK := Lib.hid (HP.out.up hbw)
      have HQK := Lib.hid (HQ.out.up hbw)
      clear hend
      by_cases h1 : k < ln
      case' pos =>
        have h2 : ¬ v < 1048576 := fun h => hlt ⟨h1, h⟩
        have h2d : decide (v < 1048576) = false := by simpa using h2
        clear h2
      all_goals
        clear hlt
        go_wp2_with (go_at_call 21; refine (law23_Heavy pA qA sA pn pc qn qc sn sc D.e.p D.e.q ec y1 _ (HPK.out.up (by (repeat (first | (with_reducible exact Below.refl _ _) | (with_reducible assumption) | (with_reducible apply bel_alloc) | (with_reducible apply bel_drew) | (with_reducible apply bel_drewN) | (with_reducible refine bel_trans ?_ (by with_reducible assumption)) | (with_reducible refine bel_trans ?_ (HF.out _)) | (with_reducible refine bel_set ?_ (by simp) _) | (with_reducible refine bel_set ?_ (by simp; omega) _) | (with_reducible refine bel_set ?_ (by omega) _))))) (HQK.out.up (by (repeat (first | (with_reducible exact Below.refl _ _) | (with_reducible assumption) | (with_reducible apply bel_alloc) | (with_reducible apply bel_drew) | (with_reducible apply bel_drewN) | (with_reducible refine bel_trans ?_ (by with_reducible assumption)) | (with_reducible refine bel_trans ?_ (HF.out _)) | (with_reducible refine bel_set ?_ (by simp) _) | (with_reducible refine bel_set ?_ (by simp; omega) _) | (with_reducible refine bel_set ?_ (by omega) _))))) H.out.gp sp sq HY1.out).mono ?_; rintro e w5 ⟨rfl, hb5⟩; have hT5 := HT.out.up hb5; have d_0 := (hT5).2 0 _ rfl; have d_1 := (hT5).2 1 _ rfl; have d_2 := (hT5).2 2 _ rfl; have d_3 := (hT5).2 3 _ rfl; have d_4 := (hT5).2 4 _ rfl; have hgg5 := hT5.1; clear hT5)
        all_goals
          go_ret
          refine ⟨_, ret_bool rfl, fun hx => ?_, by (repeat (first | (with_reducible exact Below.refl _ _) | (with_reducible assumption) | (with_reducible apply bel_alloc) | (with_reducible apply bel_drew) | (with_reducible apply bel_drewN) | (with_reducible refine bel_trans ?_ (by with_reducible assumption)) | (with_reducible refine bel_trans ?_ (HF.out _)) | (with_reducible refine bel_set ?_ (by simp) _) | (with_reducible refine bel_set ?_ (by simp; omega) _) | (with_reducible refine bel_set ?_ (by omega) _)))⟩
          first
            | (exfalso; simp at hx; done)
            | (simp at hx; refine HEND.out ?_ ?_ ?_ <;> (first | omega | simp_all))
end Go.Proofs.Ytbakkpabiknlmaa
