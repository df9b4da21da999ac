/- What a worker may be: at the program, at the reference. -/
import Derived.Test.YtgfakefcmbpboaaSxWb
namespace Go.Proofs.Ytgfakefcmbpboaa
open Go.RowKit
set_option linter.unusedSimpArgs false
set_option linter.unusedVariables false

def isS (n : Int) : Bool := decide (1 ≤ n) && decide (n ≤ 16) && decide (n % 3 = 1)
theorem isS_iff {n : Int} : isS n = true ↔ (1 ≤ n ∧ n ≤ 16 ∧ n % 3 = 1) := by simp [isS, and_assoc]
theorem isS_bd {n : Int} (h : isS n = true) : 1 ≤ n ∧ n ≤ 16 := by have := isS_iff.1 h; omega
def Rises (l : List Int) : Prop := ∀ j, j + 1 < l.length → nth l j < nth l (j + 1)
def Within (l : List Int) (lo hi : Int) : Prop := ∀ j, j < l.length → lo ≤ nth l j ∧ nth l j ≤ hi
noncomputable def risS (l : List Int) : Bool := dec (Rises l)
noncomputable def crisS (l : List Int) (lo hi : Int) : Bool := dec (Rises l ∧ Within l lo hi)
theorem ref2_May (n : Int) (w : World) : Calls Try.prog 29 #[.int .i64 n] w fun e w' => e = .returned (.bool (isS n)) ∧ w = w' := by
  go_enter Try.func29, Try.ntmps29
  go_wp2
  all_goals (go_ret; refine ⟨ret_bool ?_, rfl⟩; rw [Bool.eq_iff_iff, isS_iff]; simp; omega)
theorem committee_Is (n : Int) (w : World) : Calls Try.prog 38 #[.int .i64 n] w fun e w' => e = .returned (.bool (isS n)) ∧ w = w' := by
  go_enter Try.func38, Try.ntmps38
  go_wp2
  all_goals (go_ret; refine ⟨ret_bool ?_, rfl⟩; rw [Bool.eq_iff_iff, isS_iff]; simp; omega)
theorem committee_F (n : Int) (w : World) (h0 : 1 ≤ n) (h1 : n ≤ 1000) : Calls Try.prog 90 #[.int .i64 n] w fun e w' => e = .returned (.int .i64 ((n - 1) / 3)) ∧ w = w' := by
  go_enter Try.func90, Try.ntmps90
  go_wp2
  go_ret
  exact ⟨rfl, rfl⟩
theorem committee_Q (n : Int) (w : World) (h0 : 1 ≤ n) (h1 : n ≤ 1000) : Calls Try.prog 77 #[.int .i64 n] w fun e w' => e = .returned (.int .i64 (2 * ((n - 1) / 3) + 1)) ∧ w = w' := by
  go_enter Try.func77, Try.ntmps77
  go_wp2_with (go_at_call 90; refine (committee_F _ _ h0 h1).mono ?_; rintro e w' ⟨rfl, rfl⟩)
  go_ret
  exact ⟨rfl, rfl⟩
set_option maxRecDepth 100000 in
set_option maxHeartbeats 1000000 in
theorem committee_Rising (A : Option Addr) (n c : Nat) (l : List Int) (lo hi : Int) (w : World) (hl : IntsR w A n l) :
    Calls Try.prog 65 #[.slice A n c, .int .i64 lo, .int .i64 hi] w fun e w' => e = .returned (.bool (crisS l lo hi)) ∧ w = w' := by
  obtain ⟨h1, h2, h3⟩ := hl
  have H1 := Lib.hid h1; clear h1
  go_enter Try.func65, Try.ntmps65
  go_wp2
  go_loop [11] (fun i => ∃ k : Nat, k ≤ n ∧ i = .int .i64 k ∧ ∀ j, j < k → lo ≤ nth l j ∧ nth l j ≤ hi ∧ (0 < j → nth l (j - 1) < nth l j)) (fun i => n - (intOf i).toNat)
  case atStart => exact ⟨0, Nat.zero_le _, rfl, fun j hj => absurd hj (by omega)⟩
  case round =>
    obtain ⟨k, hk, rfl, hr⟩ := hrel
    have HR := Lib.hid hr; clear hr
    by_cases hlt : k < n
    · obtain ⟨b, off, rfl, _, hc⟩ := h3 (by omega)
      have hck := hc k hlt
      have hcp : 0 < k → w.cell? ⟨b, off + (k-1), none⟩ = some (.int .i64 (nth l (k-1))) := fun h => hc _ (by omega)
      clear hc h3
      have bad : ¬ (lo ≤ nth l k ∧ nth l k ≤ hi ∧ (0 < k → nth l (k - 1) < nth l k)) → false = crisS l lo hi := fun h => dec_false fun ⟨g1, g2⟩ => h ⟨(g2 k (by rw [H1.out]; exact hlt)).1, (g2 k (by rw [H1.out]; exact hlt)).2, fun h0 => by
        have := g1 (k - 1) (by rw [H1.out]; omega)
        rwa [show k - 1 + 1 = k from by omega] at this⟩
      have B := Lib.hid bad; clear bad
      go_wp2
      all_goals first
        | (go_round
           case rel =>
             refine ⟨k + 1, by omega, by go_num, fun j hj => ?_⟩
             by_cases hjk : j = k
             · subst hjk; exact ⟨by omega, by omega, by omega⟩
             · exact HR.out j (by omega)
           case measure => simp [intOf]; omega)
        | (go_ret; exact ⟨ret_bool (B.out (by omega)), rfl⟩)
    · go_wp2
      go_ret
      refine ⟨ret_bool (dec_true ⟨fun j hj => ?_, fun j hj => ?_⟩), rfl⟩
      · rw [H1.out] at hj
        have := (HR.out (j + 1) (by omega)).2.2 (by omega)
        simpa using this
      · rw [H1.out] at hj
        have := HR.out j (by omega)
        exact ⟨this.1, this.2.1⟩
set_option maxRecDepth 100000 in
set_option maxHeartbeats 1000000 in
theorem ref0_Rising (A : Option Addr) (n c : Nat) (l : List Int) (w : World) (hl : IntsR w A n l) :
    Calls Try.prog 36 #[.slice A n c] w fun e w' => e = .returned (.bool (risS l)) ∧ Below w.heap.size w w' := by
  obtain ⟨h1, h2, h3⟩ := hl
  have H1 := Lib.hid h1; clear h1
  go_enter Try.func36, Try.ntmps36
  go_wp2
  go_loopw [3] (fun i wr => ∃ k : Nat, 1 ≤ k ∧ (k ≤ n ∨ k = 1) ∧ i = .int .i64 k ∧ (∀ j, j + 1 < k → nth l j < nth l (j + 1)) ∧ ∃ m, wr = w.drewN m) (fun i _ => n - (intOf i).toNat)
  case atStart => exact ⟨1, by omega, by omega, rfl, fun j hj => absurd hj (by omega), 0, rfl⟩
  case round =>
    obtain ⟨k, hk1, hk, rfl, hr, m, rfl⟩ := hrel
    have HR := Lib.hid hr; clear hr
    by_cases hlt : k < n
    · obtain ⟨b, off, rfl, _, hc⟩ := h3 (by omega)
      have hck := hc k hlt
      have hcp := hc (k - 1) (by omega)
      have e1 : (k : Int) - 1 = ((k - 1 : Nat) : Int) := by omega
      clear hc h3
      have bad : ¬ (nth l (k - 1) < nth l k) → false = risS l := fun h => dec_false fun g1 => h (by
        have := g1 (k - 1) (by rw [H1.out]; omega)
        rwa [show k - 1 + 1 = k from by omega] at this)
      have B := Lib.hid bad; clear bad
      go_wp2
      go_quiet (fail)
      go_wp2
      all_goals first
        | (go_roundw
           case rel =>
             refine ⟨k + 1, by omega, by omega, by go_num, fun j hj => ?_, _, rfl⟩
             by_cases hjk : j = k - 1
             · subst hjk; rw [show k - 1 + 1 = k from by omega]; omega
             · exact HR.out j (by omega)
           case measure => simp [intOf]; omega)
        | (go_ret; exact ⟨ret_bool (B.out (by omega)), belA⟩)
    · go_wp2
      go_ret
      refine ⟨ret_bool (dec_true fun j hj => ?_), belA⟩
      rw [H1.out] at hj
      exact HR.out j (by omega)
theorem cris_bet (l : List Int) (lo hi : Int) : crisS l lo hi = true ↔ (risS l = true ∧ betS l lo hi = true) := by
  unfold crisS risS betS; rw [dec_iff, dec_iff, dec_iff]; exact Iff.rfl
set_option maxRecDepth 100000 in
set_option maxHeartbeats 1000000 in
theorem worker_May1 (x : TxD) (y : Bool) (w : World) (hy : txS x = y) : Calls Try.prog 41 #[.agg #[.int .i64 x.se, .int .i64 x.sq, .string x.k, .string x.v]] w fun e w' => e = .returned (.bool (!y)) ∧ Below w.heap.size w w' := by
  go_enter Try.func41, Try.ntmps41
  go_wp2_with fail
  refine (batch_MayTx x y _ hy).mono ?_
  rintro e w1 ⟨rfl, hb1⟩
  go_wp2_with fail
  go_ret
  exact ⟨rfl, belB⟩
set_option maxRecDepth 100000 in
set_option maxHeartbeats 2000000 in
theorem slices_IndexFunc_W (A : Option Addr) (n c : Nat) (l : List TxD) (w : World) (hl : TxsR w A n l) :
    Calls Try.prog 64 #[.slice A n c, .func (.func 41) #[] #[]] w fun e w' => ∃ y, e = .returned (.int .i64 y) ∧ FirstX l n y ∧ Below w.heap.size w w' := by
  have HL := Lib.hid hl
  have hnn : n ≤ 9223372036854775807 := hl.2.2.1
  clear hl
  go_enter Try.func64, Try.ntmps64
  go_wp2_with fail
  go_loopw [8] (fun ix wr => ∃ k : Nat, k ≤ n ∧ ix = .int .i64 k ∧ Hid (∀ j, j < k → txS (xth l j) = true) ∧ Below w.heap.size w wr) (fun ix _ => n - (intOf ix).toNat)
  case atStart => exact ⟨0, Nat.zero_le _, rfl, Lib.hid (fun j hj => absurd hj (by omega)), Below.refl _ _⟩
  case round =>
    obtain ⟨k, hk, rfl, HG, hbw⟩ := hrel
    (obtain ⟨wk, hwk⟩ : ∃ x, x = wr := ⟨_, rfl⟩); subst hwk
    by_cases hlt : k < n
    · obtain ⟨b, off, rfl, hb, hc⟩ := (HL.out.up hbw).at (by omega)
      obtain ⟨c0, c1, c2, c3⟩ := hc k hlt
      clear hc
      cases hy : txS (xth l k)
      · have HY := Lib.hid hy
        clear hy
        go_wp2_with (go_at_call 41; refine (worker_May1 (xth l k) false _ HY.out).mono ?_; rintro e w1 ⟨rfl, hb1⟩)
        go_ret
        exact ⟨k, rfl, .inr ⟨k, rfl, hlt, HY.out⟩, bel_trans hbw hb1⟩
      · have HY := Lib.hid hy
        clear hy
        go_wp2_with (go_at_call 41; refine (worker_May1 (xth l k) true _ HY.out).mono ?_; rintro e w1 ⟨rfl, hb1⟩)
        (first | (go_round; (case rel => exact ⟨k + 1, by omega, by go_num, Lib.hid (fun j hj => by (rcases Nat.lt_or_ge j k with h | h; exact HG.out j h; (obtain rfl : j = k := by omega); exact HY.out)), bel_trans hbw hb1⟩); (case measure => (simp [intOf] <;> omega))) | (go_roundw; (case rel => exact ⟨k + 1, by omega, by go_num, Lib.hid (fun j hj => by (rcases Nat.lt_or_ge j k with h | h; exact HG.out j h; (obtain rfl : j = k := by omega); exact HY.out)), bel_trans hbw hb1⟩); (case measure => (simp [intOf] <;> omega))) | (refine ⟨?_, by simp [intOf] <;> omega⟩; (repeat apply Exists.intro); refine ⟨?rel, ?fr⟩; (case fr => ((repeat' apply And.intro) <;> rfl)); (case rel => exact ⟨k + 1, by omega, by go_num, Lib.hid (fun j hj => by (rcases Nat.lt_or_ge j k with h | h; exact HG.out j h; (obtain rfl : j = k := by omega); exact HY.out)), bel_trans hbw hb1⟩)))
    · obtain rfl : k = n := by omega
      go_wp2_with fail
      go_ret
      exact ⟨-1, rfl, .inl ⟨rfl, HG.out⟩, hbw⟩
set_option maxRecDepth 100000 in
set_option maxHeartbeats 1000000 in
theorem slices_ContainsFunc_W (A : Option Addr) (n c : Nat) (l : List TxD) (w : World) (hl : TxsR w A n l) :
    Calls Try.prog 40 #[.slice A n c, .func (.func 41) #[] #[]] w fun e w' => ∃ y : Int, e = .returned (.bool (decide (0 ≤ y))) ∧ FirstX l n y ∧ Below w.heap.size w w' := by
  have HL := Lib.hid hl
  clear hl
  go_enter Try.func40, Try.ntmps40
  go_wp2_with fail
  refine (slices_IndexFunc_W A n c l _ (HL.out.up (belB))).mono ?_
  rintro e w1 ⟨y, rfl, hf, hb1⟩
  go_wp2_with fail
  go_ret
  exact ⟨y, rfl, hf, belB⟩
noncomputable def numB (n least : Int) : Bool := dec (least ≤ n ∧ n ≤ 1099511627776)
theorem numB_iff {n least : Int} : numB n least = true ↔ (least ≤ n ∧ n ≤ 1099511627776) := dec_iff
theorem worker_number (n least : Int) (y : Bool) (w : World) (hy : numB n least = y) : Calls Try.prog 39 #[.int .i64 n, .int .i64 least] w fun e w' => e = .returned (.bool y) ∧ w = w' := by
  have HY := Lib.hid hy
  clear hy
  go_enter Try.func39, Try.ntmps39
  go_wp2
  all_goals (go_ret; refine ⟨ret_bool ?_, rfl⟩; rw [← HY.out, Bool.eq_iff_iff, numB_iff]; simp; omega)
theorem ref0_Num (n : Int) (y : Bool) (w : World) (hy : numB n 0 = y) : Calls Try.prog 31 #[.int .i64 n] w fun e w' => e = .returned (.bool y) ∧ w = w' := by
  have HY := Lib.hid hy
  clear hy
  go_enter Try.func31, Try.ntmps31
  go_wp2
  all_goals (go_ret; refine ⟨ret_bool ?_, rfl⟩; rw [← HY.out, Bool.eq_iff_iff, numB_iff]; simp; omega)
theorem comm_Is (n : Int) (y : Bool) (w : World) (hy : isS n = y) : Calls Try.prog 38 #[.int .i64 n] w fun e w' => e = .returned (.bool y) ∧ w = w' := (committee_Is n w).mono fun e w' ⟨h1, h2⟩ => ⟨by rw [h1, hy], h2⟩
theorem refm_May (n : Int) (y : Bool) (w : World) (hy : isS n = y) : Calls Try.prog 29 #[.int .i64 n] w fun e w' => e = .returned (.bool y) ∧ w = w' := (ref2_May n w).mono fun e w' ⟨h1, h2⟩ => ⟨by rw [h1, hy], h2⟩
theorem comm_Rising (A : Option Addr) (n c : Nat) (l : List Int) (lo hi : Int) (y : Bool) (w : World) (hl : IntsR w A n l) (hy : crisS l lo hi = y) : Calls Try.prog 65 #[.slice A n c, .int .i64 lo, .int .i64 hi] w fun e w' => e = .returned (.bool y) ∧ w = w' := (committee_Rising A n c l lo hi w hl).mono fun e w' ⟨h1, h2⟩ => ⟨by rw [h1, hy], h2⟩
theorem refr_Rising (A : Option Addr) (n c : Nat) (l : List Int) (y : Bool) (w : World) (hl : IntsR w A n l) (hy : risS l = y) : Calls Try.prog 36 #[.slice A n c] w fun e w' => e = .returned (.bool y) ∧ Below w.heap.size w w' := (ref0_Rising A n c l w hl).mono fun e w' ⟨h1, h2⟩ => ⟨by rw [h1, hy], h2⟩
theorem refb_Between (A : Option Addr) (n c : Nat) (l : List Int) (lo hi : Int) (y : Bool) (w : World) (hl : IntsR w A n l) (hy : betS l lo hi = y) : Calls Try.prog 37 #[.slice A n c, .int .i64 lo, .int .i64 hi] w fun e w' => e = .returned (.bool y) ∧ w = w' := (ref0_Between A n c l lo hi w hl).mono fun e w' ⟨h1, h2⟩ => ⟨by rw [h1, hy], h2⟩
theorem refd_Digests (A : Option Addr) (n c : Nat) (l : List Int) (y : Bool) (w : World) (hl : IntsR w A n l) (hy : betS l 1 65536 = y) : Calls Try.prog 33 #[.slice A n c] w fun e w' => e = .returned (.bool y) ∧ w = w' := (ref0_Digests A n c l w hl).mono fun e w' ⟨h1, h2⟩ => ⟨by rw [h1, hy], h2⟩
theorem no_y {y : Bool} {p : Prop} (h : y = true ↔ p) (hn : ¬ p) : false = y := by
  cases y
  · rfl
  · exact absurd (h.1 rfl) hn
def WaitOk (l : List WaitD) (nodes : Int) (k : Nat) : Prop := digS (wth l k).di = true ∧ crisS (wth l k).ak 1 nodes = true ∧ (0 < k → (wth l (k - 1)).di < (wth l k).di)
noncomputable def wtB (l : List WaitD) (nodes : Int) : Bool := dec (∀ k, k < l.length → WaitOk l nodes k)
theorem wtB_iff {l : List WaitD} {nodes : Int} : wtB l nodes = true ↔ ∀ k, k < l.length → WaitOk l nodes k := dec_iff
set_option maxRecDepth 100000 in
set_option maxHeartbeats 4000000 in
theorem worker_waits (A : Option Addr) (n c : Nat) (l : List WaitD) (nodes : Int) (y : Bool) (w : World) (hl : WaitsR w A n l) (hy : wtB l nodes = y) : Calls Try.prog 42 #[.slice A n c, .int .i64 nodes] w fun e w' => e = .returned (.bool y) ∧ Below w.heap.size w w' := by
  have HY := Lib.hid hy
  have HL := Lib.hid hl
  have HN := Lib.hid hl.1
  have hnn : n ≤ 9223372036854775807 := hl.2.1
  clear hy hl
  go_enter Try.func42, Try.ntmps42
  go_wp2_with fail
  go_loopw [9] (fun ix wr => ∃ k : Nat, k ≤ n ∧ ix = .int .i64 k ∧ Hid (∀ j, j < k → WaitOk l nodes j) ∧ Below w.heap.size w wr) (fun ix _ => n - (intOf ix).toNat)
  case atStart => exact ⟨0, Nat.zero_le _, rfl, Lib.hid (fun j hj => absurd hj (by omega)), Below.refl _ _⟩
  case round =>
    obtain ⟨k, hk, rfl, HG, hbw⟩ := hrel
    (obtain ⟨wk, hwk⟩ : ∃ x, x = wr := ⟨_, rfl⟩); subst hwk
    by_cases hlt : k < n
    · obtain ⟨b, off, rfl, hb, hc⟩ := (HL.out.up hbw).2.2 (by omega)
      obtain ⟨B, m, d, ⟨c0, c1⟩, hak⟩ := hc k hlt
      have hbad : ¬ WaitOk l nodes k → wtB l nodes = false := fun h => by
        cases hm : wtB l nodes
        · rfl
        · exact absurd (wtB_iff.1 hm k (by rw [HN.out]; exact hlt)) h
      have HB := Lib.hid hbad
      obtain ⟨p, hp⟩ : ∃ p, p = wth l k := ⟨_, rfl⟩
      rw [← hp] at c0 hak
      have HP := Lib.hid hp
      obtain ⟨o, ho⟩ : ∃ o, o = (wth l (k - 1)).di := ⟨_, rfl⟩
      have hd : 0 < k → wk.cell? ⟨b, off + (k - 1) * 2, none⟩ = some (.int .i64 o) := fun h => by rw [ho]; obtain ⟨_, _, _, ⟨q, _⟩, _⟩ := hc (k - 1) (by omega); exact q
      have HO := Lib.hid ho
      have HD := Lib.hid hd
      clear hc hd ho hp hbad
      have hA : BoxR (wk.alloc (.cells #[.int .i64 p.di, .slice B m d] 84)) wk.heap.size [.int .i64 p.di, .slice B m d] := BoxR.new wk [.int .i64 p.di, .slice B m d] 84
      have hba : Below wk.heap.size wk (wk.alloc (.cells #[.int .i64 p.di, .slice B m d] 84)) := by (repeat (first | (with_reducible exact Below.refl _ _) | (with_reducible assumption) | (with_reducible apply bel_alloc) | (with_reducible apply bel_drew) | (with_reducible apply bel_drewN) | (with_reducible refine bel_trans ?_ (by with_reducible assumption)) | (with_reducible refine bel_trans ?_ (HF.out _)) | (with_reducible refine bel_set ?_ (by simp) _) | (with_reducible refine bel_set ?_ (by simp; omega) _) | (with_reducible refine bel_set ?_ (by omega) _)))
      have a_0 := (hA).2 0 _ rfl; have a_1 := (hA).2 1 _ rfl
      have HAK := Lib.hid (hak.up hba)
      clear hak
      cases h1 : digS p.di
      · have H1 := Lib.hid h1
        clear h1
        go_wp2_with fail
        refine wp_region_fam (by kernel_rfl) (by kernel_rfl) (fun ι F hne hF hcl => ?_)
        have hcF0 := fun n o => (bcell (hF n)).1 (wk.heap.size) o (by first | (simp; done) | (simp; omega) | omega)
        have hcF1 := fun n o => (bcell (hF n)).1 (b) o (by first | (simp; done) | (simp; omega) | omega)
        have HF := Lib.hid hF; clear hF
        have HC := Lib.hid hcl; clear hcl
        repeat (any_goals (first
         | go_big_quiet_step (first | (go_at_call 49; exact Calls.fam_same (comm_Digest p.di false _ H1.out)))
         | (refine wpQuiet_guard _ _ _ rfl rfl ?_; (fail_if_success (intro b' hb; have h2 := hb.symm; have : b' = true := h2.trans (by with_reducible rfl))); (fail_if_success (intro b' hb; have h2 := hb.symm; have : b' = false := h2.trans (by with_reducible rfl))); intro b' hb; simp only [hb]; cases b' <;> (try simp only [Bool.not_eq_true', Bool.not_eq_false', decide_eq_true_eq, decide_eq_false_iff_not, Int.not_lt, Int.not_le, Bool.and_eq_true, Bool.or_eq_true, Bool.or_eq_false_iff, beq_iff_eq, beq_eq_false_iff_ne, Int.natCast_pos] at hb))))
        all_goals (refine wpQuiet_nil ?_; intro nq)
        all_goals (try (exfalso; omega))
        have hFwf := HF.out nq
        clear HF HC hne
        generalize F nq = wf at *
        have hbf : Below w.heap.size w wf := bel_trans hbw (bel_trans hba hFwf)
        go_wp2_with fail
        go_ret
        exact ⟨ret_bool (by rw [← HY.out, HB.out (fun g => (by have := g.1; rw [← HP.out, H1.out] at this; cases this))]), hbf⟩
      have H1 := Lib.hid h1
      clear h1
      cases h3 : crisS p.ak 1 nodes
      all_goals
        have H3 := Lib.hid h3
        clear h3
        rcases Nat.eq_zero_or_pos k with hk0 | hk0
        case' inl =>
          subst hk0
          rw [Nat.zero_mul, Nat.add_zero] at c0 c1
        case' inr =>
          have d0 := HD.out hk0
          have hk1 : (0 : Int) < (k : Int) := by omega
          by_cases h2 : o < p.di
          case' neg => have h2b : decide (p.di ≤ o) = true := by simp; omega
          case' pos => have h2b : decide (p.di ≤ o) = false := by simp; omega
        all_goals
          (try have H2 := Lib.hid h2)
          (try clear h2)
          go_wp2_with fail
          refine wp_region_fam (by kernel_rfl) (by kernel_rfl) (fun ι F hne hF hcl => ?_)
          have hcF0 := fun n o => (bcell (hF n)).1 (wk.heap.size) o (by first | (simp; done) | (simp; omega) | omega)
          have hcF1 := fun n o => (bcell (hF n)).1 (b) o (by first | (simp; done) | (simp; omega) | omega)
          have HF := Lib.hid hF; clear hF
          have HC := Lib.hid hcl; clear hcl
          repeat (any_goals (first
           | go_big_quiet_step (first | (go_at_call 49; exact Calls.fam_same (comm_Digest p.di true _ H1.out)) | (go_at_call 65; exact Calls.fam_same (comm_Rising B m d p.ak 1 nodes _ _ (HAK.out.up (HF.out _)) H3.out)))
           | (refine wpQuiet_guard _ _ _ rfl rfl ?_; (fail_if_success (intro b' hb; have h2 := hb.symm; have : b' = true := h2.trans (by with_reducible rfl))); (fail_if_success (intro b' hb; have h2 := hb.symm; have : b' = false := h2.trans (by with_reducible rfl))); intro b' hb; simp only [hb]; cases b' <;> (try simp only [Bool.not_eq_true', Bool.not_eq_false', decide_eq_true_eq, decide_eq_false_iff_not, Int.not_lt, Int.not_le, Bool.and_eq_true, Bool.or_eq_true, Bool.or_eq_false_iff, beq_iff_eq, beq_eq_false_iff_ne, Int.natCast_pos] at hb))))
          all_goals (refine wpQuiet_nil ?_; intro nq)
          all_goals (try (exfalso; omega))
          have hFwf := HF.out nq
          clear HF HC hne
          generalize F nq = wf at *
          have hbf : Below w.heap.size w wf := bel_trans hbw (bel_trans hba hFwf)
          go_wp2_with fail
          first
            | (go_ret; exact ⟨ret_bool (by rw [← HY.out, HB.out (fun g => (by have g1 := g.2.1; have g2 := g.2.2; rw [← HP.out] at g1 g2; first | (rw [H3.out] at g1; cases g1; done) | (have g3 := g2 hk0; rw [← HO.out] at g3; have h9 := H2.out; omega)))]), hbf⟩)
            | (first | (go_round; (case rel => exact ⟨1, by omega, rfl, Lib.hid (fun j hj => by ((obtain rfl : j = 0 := by omega); exact ⟨by rw [← HP.out]; exact H1.out, by rw [← HP.out]; exact H3.out, fun h => absurd h (by omega)⟩)), hbf⟩); (case measure => (simp [intOf] <;> omega))) | (go_roundw; (case rel => exact ⟨1, by omega, rfl, Lib.hid (fun j hj => by ((obtain rfl : j = 0 := by omega); exact ⟨by rw [← HP.out]; exact H1.out, by rw [← HP.out]; exact H3.out, fun h => absurd h (by omega)⟩)), hbf⟩); (case measure => (simp [intOf] <;> omega))) | (refine ⟨?_, by simp [intOf] <;> omega⟩; (repeat apply Exists.intro); refine ⟨?rel, ?fr⟩; (case fr => ((repeat' apply And.intro) <;> rfl)); (case rel => exact ⟨1, by omega, rfl, Lib.hid (fun j hj => by ((obtain rfl : j = 0 := by omega); exact ⟨by rw [← HP.out]; exact H1.out, by rw [← HP.out]; exact H3.out, fun h => absurd h (by omega)⟩)), hbf⟩)))
            | (first | (go_round; (case rel => exact ⟨k + 1, by omega, by go_num, Lib.hid (fun j hj => by (rcases Nat.lt_or_ge j k with h | h; exact HG.out j h; (obtain rfl : j = k := by omega); exact ⟨by rw [← HP.out]; exact H1.out, by rw [← HP.out]; exact H3.out, fun _ => by rw [← HP.out, ← HO.out]; exact H2.out⟩)), hbf⟩); (case measure => (simp [intOf] <;> omega))) | (go_roundw; (case rel => exact ⟨k + 1, by omega, by go_num, Lib.hid (fun j hj => by (rcases Nat.lt_or_ge j k with h | h; exact HG.out j h; (obtain rfl : j = k := by omega); exact ⟨by rw [← HP.out]; exact H1.out, by rw [← HP.out]; exact H3.out, fun _ => by rw [← HP.out, ← HO.out]; exact H2.out⟩)), hbf⟩); (case measure => (simp [intOf] <;> omega))) | (refine ⟨?_, by simp [intOf] <;> omega⟩; (repeat apply Exists.intro); refine ⟨?rel, ?fr⟩; (case fr => ((repeat' apply And.intro) <;> rfl)); (case rel => exact ⟨k + 1, by omega, by go_num, Lib.hid (fun j hj => by (rcases Nat.lt_or_ge j k with h | h; exact HG.out j h; (obtain rfl : j = k := by omega); exact ⟨by rw [← HP.out]; exact H1.out, by rw [← HP.out]; exact H3.out, fun _ => by rw [← HP.out, ← HO.out]; exact H2.out⟩)), hbf⟩)))
    · obtain rfl : k = n := by omega
      have hyes : y = true := by rw [← HY.out]; exact wtB_iff.2 (fun j hj => HG.out j (by rw [HN.out] at hj; exact hj))
      subst hyes
      go_wp2_with fail
      go_ret
      exact ⟨rfl, hbw⟩
noncomputable def seenB (l : List Int) : Bool := dec (Seen l)
theorem seenB_iff {l : List Int} : seenB l = true ↔ Seen l := dec_iff
set_option maxRecDepth 100000 in
set_option maxHeartbeats 4000000 in
theorem worker_unlike (sA : Option Addr) (sn sc : Nat) (s : List Int) (y : Bool) (w : World) (hs : IntsR w sA sn s) (hy : seenB s = y) :
    Calls Try.prog 44 #[.slice sA sn sc] w fun e w' => e = .returned (.bool y) ∧ Below w.heap.size w w' := by
  have HS := Lib.hid hs
  have HN := Lib.hid hs.1
  have hsn : sn ≤ 9223372036854775807 := hs.2.1
  have HY := Lib.hid hy
  clear hs hy
  have hmm := @run_makeMap Try.prog
  go_enter Try.func44, Try.ntmps44
  go_wp2_with fail
  go_loopw [9] (fun ix wr => ∃ k : Nat, k ≤ sn ∧ ix = .int .i64 k ∧ Hid (∀ j, j < k → digS (nth s j) = true) ∧ Hid ((s.take k).Nodup) ∧ Hid (MapR Value.bool false wr w.heap.size (fun m => decide (m ∈ s.take k))) ∧ Below w.heap.size w wr) (fun ix _ => sn - (intOf ix).toNat)
  case atStart => exact ⟨0, Nat.zero_le _, rfl, Lib.hid (fun j hj => absurd hj (by omega)), Lib.hid (by simp), Lib.hid (MapR.made' (by simp) (by funext m; simp)), belA⟩
  case round =>
    obtain ⟨k, hk, rfl, HD, HU, HM, hbw⟩ := hrel
    (obtain ⟨wk, hwk⟩ : ∃ x, x = wr := ⟨_, rfl⟩); subst hwk
    by_cases hlt : k < sn
    · obtain ⟨b, off, rfl, hb, hc⟩ := (HS.out.up hbw).2.2 (by omega)
      have hck := hc k hlt
      clear hc
      obtain ⟨x, hx⟩ : ∃ x, nth s k = x := ⟨_, rfl⟩
      rw [hx] at hck
      have HX := Lib.hid hx
      have HKL : Hid (k < s.length) := Lib.hid (by rw [HN.out]; exact hlt)
      clear hx
      cases hd : digS x
      · have HDX := Lib.hid hd
        clear hd
        go_wp2_with (go_at_call 49; refine (comm_Digest x false _ HDX.out).mono ?_; rintro e w' ⟨rfl, rfl⟩)
        go_ret
        exact ⟨ret_bool (by rw [← HY.out]; exact dec_false fun h => (by
          have := h.1 k HKL.out
          rw [HX.out, ← digS_iff, HDX.out] at this
          cases this)), hbw⟩
      · have HDX := Lib.hid hd
        clear hd
        have hlook := HM.out.lookup (P := Try.prog) Try.underlying111 Try.underlying3 (by kernel_rfl) x
        obtain ⟨z, hz⟩ : ∃ z, decide (x ∈ s.take k) = z := ⟨_, rfl⟩
        rw [hz] at hlook
        cases z
        · have HZ : Hid (x ∉ s.take k) := Lib.hid (by simpa using hz)
          clear hz
          go_wp2_with (first | (go_at_call 49; refine (comm_Digest x true _ HDX.out).mono ?_; rintro e w' ⟨rfl, rfl⟩) | (at_mapUpdate; refine wpList_mapUpd Value.bool false rfl _ _ _ 111 3 4 (.inl rfl) Try.underlying111 Try.underlying3 HM.out rfl _ rfl true rfl ?_; intro w2 hM2 hg2 hsz2))
          have hb2 : Below w.heap.size w w2 := bel_grown hbw hg2 (by omega)
          rw [take_succ_mem HKL.out HX.out] at hM2
          (first | (go_round; (case rel => exact ⟨k + 1, by omega, by go_num, Lib.hid (fun j hj => by (rcases Nat.lt_or_ge j k with h | h; exact HD.out j h; (obtain rfl : j = k := by omega); rw [HX.out]; exact HDX.out)), Lib.hid (take_succ_nodup HKL.out HX.out HU.out HZ.out), Lib.hid hM2, hb2⟩); (case measure => (simp [intOf] <;> omega))) | (go_roundw; (case rel => exact ⟨k + 1, by omega, by go_num, Lib.hid (fun j hj => by (rcases Nat.lt_or_ge j k with h | h; exact HD.out j h; (obtain rfl : j = k := by omega); rw [HX.out]; exact HDX.out)), Lib.hid (take_succ_nodup HKL.out HX.out HU.out HZ.out), Lib.hid hM2, hb2⟩); (case measure => (simp [intOf] <;> omega))) | (refine ⟨?_, by simp [intOf] <;> omega⟩; (repeat apply Exists.intro); refine ⟨?rel, ?fr⟩; (case fr => ((repeat' apply And.intro) <;> rfl)); (case rel => exact ⟨k + 1, by omega, by go_num, Lib.hid (fun j hj => by (rcases Nat.lt_or_ge j k with h | h; exact HD.out j h; (obtain rfl : j = k := by omega); rw [HX.out]; exact HDX.out)), Lib.hid (take_succ_nodup HKL.out HX.out HU.out HZ.out), Lib.hid hM2, hb2⟩)))
        · have HZ : Hid (x ∈ s.take k) := Lib.hid (by simpa using hz)
          clear hz
          go_wp2_with (go_at_call 49; refine (comm_Digest x true _ HDX.out).mono ?_; rintro e w' ⟨rfl, rfl⟩)
          go_ret
          exact ⟨ret_bool (by rw [← HY.out]; exact dec_false fun h => nodup_not HKL.out HX.out HZ.out h.2), hbw⟩
    · obtain rfl : k = sn := by omega
      have hseen : Seen s := ⟨fun j hj => digS_iff.1 (HD.out j (by rw [HN.out] at hj; exact hj)), by have := HU.out; rwa [List.take_of_length_le (by rw [HN.out]; omega)] at this⟩
      have HSE := Lib.hid hseen
      clear hseen
      go_wp2_with fail
      go_ret
      exact ⟨ret_bool (by rw [← HY.out]; exact dec_true HSE.out), hbw⟩
end Go.Proofs.Ytgfakefcmbpboaa
