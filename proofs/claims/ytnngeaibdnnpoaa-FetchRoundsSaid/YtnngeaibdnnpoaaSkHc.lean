/- Fetch: kinds, rows, whether wants may be, whom one asks: at the program, at the reference. -/
import Derived.Test.YtnngeaibdnnpoaaSkHa
namespace Go.Proofs.Ytnngeaibdnnpoaa
open Go.RowKit
set_option linter.unusedSimpArgs false
set_option linter.unusedVariables false

def isS (n : Int) : Bool := decide (1 ≤ n) && decide (n ≤ 16) && decide (n % 3 = 1)
theorem isS_iff {n : Int} : isS n = true ↔ (1 ≤ n ∧ n ≤ 16 ∧ n % 3 = 1) := by simp [isS, and_assoc]
theorem isS_bd {n : Int} (h : isS n = true) : 1 ≤ n ∧ n ≤ 16 := by have := isS_iff.1 h; omega
theorem ref2_May (n : Int) (w : World) : Calls Try.prog 33 #[.int .i64 n] w fun e w' => e = .returned (.bool (isS n)) ∧ w = w' := by
  go_enter Try.func33, Try.ntmps33
  go_wp2
  all_goals (go_ret; refine ⟨ret_bool ?_, rfl⟩; rw [Bool.eq_iff_iff, isS_iff]; simp; omega)
theorem committee_Is (n : Int) (w : World) : Calls Try.prog 57 #[.int .i64 n] w fun e w' => e = .returned (.bool (isS n)) ∧ w = w' := by
  go_enter Try.func57, Try.ntmps57
  go_wp2
  all_goals (go_ret; refine ⟨ret_bool ?_, rfl⟩; rw [Bool.eq_iff_iff, isS_iff]; simp; omega)
theorem wp_world {F : World → Prop} {w : World} (h : ∀ W, W = w → F W) : F w := h w rfl
noncomputable def numB (n least : Int) : Bool := dec (least ≤ n ∧ n ≤ 1099511627776)
theorem numB_iff {n least : Int} : numB n least = true ↔ (least ≤ n ∧ n ≤ 1099511627776) := dec_iff
theorem ref0_Num (n : Int) (y : Bool) (w : World) (hy : numB n 0 = y) : Calls Try.prog 47 #[.int .i64 n] w fun e w' => e = .returned (.bool y) ∧ w = w' := by
  have HY := Lib.hid hy
  clear hy
  go_enter Try.func47, Try.ntmps47
  go_wp2
  all_goals (go_ret; refine ⟨ret_bool ?_, rfl⟩; rw [← HY.out, Bool.eq_iff_iff, numB_iff]; simp; omega)
theorem comm_Is (n : Int) (y : Bool) (w : World) (hy : isS n = y) : Calls Try.prog 57 #[.int .i64 n] w fun e w' => e = .returned (.bool y) ∧ w = w' := (committee_Is n w).mono fun e w' ⟨h1, h2⟩ => ⟨by rw [h1, hy], h2⟩
theorem refm_May (n : Int) (y : Bool) (w : World) (hy : isS n = y) : Calls Try.prog 33 #[.int .i64 n] w fun e w' => e = .returned (.bool y) ∧ w = w' := (ref2_May n w).mono fun e w' ⟨h1, h2⟩ => ⟨by rw [h1, hy], h2⟩
theorem no_y {y : Bool} {p : Prop} (h : y = true ↔ p) (hn : ¬ p) : false = y := by
  cases y
  · rfl
  · exact absurd (h.1 rfl) hn
def kdS (k : Int) : Bool := decide (k = 7) || decide (k = 8)
theorem kdS_iff {k : Int} : kdS k = true ↔ (k = 7 ∨ k = 8) := by simp [kdS]
noncomputable def rowS (r : FRowD) : Bool := kdS r.ki && digS r.di && numB r.ag 0 && numB r.tr 0
theorem rowS_iff {r : FRowD} : rowS r = true ↔ (kdS r.ki = true ∧ digS r.di = true ∧ numB r.ag 0 = true ∧ numB r.tr 0 = true) := by simp [rowS, and_assoc]
def befQ (a b : FRowD) : Bool := befS a.ki a.di b.ki b.di
def GoodQ (l : List FRowD) (k : Nat) : Prop := ∀ j, j < k → rowS (qth l j) = true ∧ (0 < j → befQ (qth l (j - 1)) (qth l j) = true)
theorem GoodQ.succ {l : List FRowD} {k : Nat} (h : GoodQ l k) (h1 : rowS (qth l k) = true) (h2 : 0 < k → befQ (qth l (k - 1)) (qth l k) = true) : GoodQ l (k + 1) := fun j hj => by
  rcases Nat.lt_or_ge j k with h3 | h3
  · exact h j h3
  · obtain rfl : j = k := by omega
    exact ⟨h1, h2⟩
def MayF (f : FetD) : Prop := isS f.nodes = true ∧ 1 ≤ f.id ∧ f.id ≤ f.nodes ∧ f.rows.length ≤ 64 ∧ GoodQ f.rows f.rows.length
noncomputable def mayF (f : FetD) : Bool := dec (MayF f)
theorem mayF_iff {f : FetD} : mayF f = true ↔ MayF f := dec_iff
set_option maxRecDepth 100000 in
set_option maxHeartbeats 1000000 in
theorem fetch_kind (k : Int) (y : Bool) (w : World) (hy : kdS k = y) : Calls Try.prog 26 #[.int .i64 k] w fun e w' => e = .returned (.bool y) ∧ w = w' := by
  have HY := Lib.hid hy
  clear hy
  go_enter Try.func26, Try.ntmps26
  go_wp2
  all_goals (go_ret; refine ⟨ret_bool ?_, rfl⟩; rw [← HY.out, Bool.eq_iff_iff, kdS_iff]; simp <;> omega)
set_option maxRecDepth 100000 in
set_option maxHeartbeats 1000000 in
theorem ref21_kind (k : Int) (y : Bool) (w : World) (hy : kdS k = y) : Calls Try.prog 46 #[.int .i64 k] w fun e w' => e = .returned (.bool y) ∧ w = w' := by
  have HY := Lib.hid hy
  clear hy
  go_enter Try.func46, Try.ntmps46
  go_wp2
  all_goals (go_ret; refine ⟨ret_bool ?_, rfl⟩; rw [← HY.out, Bool.eq_iff_iff, kdS_iff]; simp <;> omega)
set_option maxRecDepth 100000 in
set_option maxHeartbeats 1000000 in
theorem ref21_Kind (k : Int) (y : Bool) (w : World) (hy : kdS k = y) : Calls Try.prog 50 #[.int .i64 k] w fun e w' => e = .returned (.bool y) ∧ w = w' := by
  have HY := Lib.hid hy
  clear hy
  go_enter Try.func50, Try.ntmps50
  go_wp2_with (go_at_call 46; refine (ref21_kind _ y _ HY.out).mono ?_; rintro e w' ⟨rfl, rfl⟩)
  go_ret
  exact ⟨rfl, rfl⟩
set_option maxRecDepth 100000 in
set_option maxHeartbeats 1000000 in
theorem commD (d : Int) (y : Bool) (w : World) (hy : digS d = y) : Calls Try.prog 29 #[.int .i64 d] w fun e w' => e = .returned (.bool y) ∧ w = w' := (committee_Digest d w).mono fun e w' ⟨h1, h2⟩ => ⟨by rw [h1, hy], h2⟩
set_option maxRecDepth 100000 in
set_option maxHeartbeats 1000000 in
theorem refD (d : Int) (y : Bool) (w : World) (hy : digS d = y) : Calls Try.prog 34 #[.int .i64 d] w fun e w' => e = .returned (.bool y) ∧ w = w' := (ref0_Digest d w).mono fun e w' ⟨h1, h2⟩ => ⟨by rw [h1, hy], h2⟩
set_option maxRecDepth 100000 in
set_option maxHeartbeats 1000000 in
theorem fetch_row (ki di ag tr : Int) (y : Bool) (w : World) (hy : rowS ⟨ki, di, ag, tr⟩ = y) : Calls Try.prog 58 #[.agg #[.int .i64 ki, .int .i64 di, .int .i64 ag, .int .i64 tr]] w fun e w' => e = .returned (.bool y) ∧ Below w.heap.size w w' := by
  obtain ⟨y1, h1⟩ : ∃ z, kdS ki = z := ⟨_, rfl⟩
  obtain ⟨y2, h2⟩ : ∃ z, digS di = z := ⟨_, rfl⟩
  have hY : y = true ↔ (y1 = true ∧ y2 = true ∧ (0 ≤ ag ∧ ag ≤ 1099511627776) ∧ (0 ≤ tr ∧ tr ≤ 1099511627776)) := by rw [← hy, rowS_iff, ← numB_iff, ← numB_iff, ← h1, ← h2]
  have HY := Lib.hid hY
  have H1 := Lib.hid h1
  have H2 := Lib.hid h2
  clear hy hY h1 h2
  go_enter Try.func58, Try.ntmps58
  cases y1
  · go_wp2_with (first | (go_at_call 26; refine (fetch_kind _ _ _ H1.out).mono ?_; rintro e w' ⟨rfl, rfl⟩))
    go_ret
    exact ⟨ret_bool (no_y HY.out (by rintro ⟨g1, -⟩; cases g1)), by (repeat (first | (with_reducible exact Below.refl _ _) | (with_reducible assumption) | (with_reducible apply bel_alloc) | (with_reducible apply bel_drew) | (with_reducible apply bel_drewN) | (with_reducible refine bel_trans ?_ (by with_reducible assumption)) | (with_reducible refine bel_trans ?_ (HF.out _)) | (with_reducible refine bel_set ?_ (by simp) _) | (with_reducible refine bel_set ?_ (by simp; omega) _) | (with_reducible refine bel_set ?_ (by omega) _)))⟩
  cases y2
  · go_wp2_with (first | (go_at_call 26; refine (fetch_kind _ _ _ H1.out).mono ?_; rintro e w' ⟨rfl, rfl⟩) | (go_at_call 29; refine (commD _ _ _ H2.out).mono ?_; rintro e w' ⟨rfl, rfl⟩))
    go_ret
    exact ⟨ret_bool (no_y HY.out (by rintro ⟨-, g1, -⟩; cases g1)), by (repeat (first | (with_reducible exact Below.refl _ _) | (with_reducible assumption) | (with_reducible apply bel_alloc) | (with_reducible apply bel_drew) | (with_reducible apply bel_drewN) | (with_reducible refine bel_trans ?_ (by with_reducible assumption)) | (with_reducible refine bel_trans ?_ (HF.out _)) | (with_reducible refine bel_set ?_ (by simp) _) | (with_reducible refine bel_set ?_ (by simp; omega) _) | (with_reducible refine bel_set ?_ (by omega) _)))⟩
  go_wp2_with (first | (go_at_call 26; refine (fetch_kind _ _ _ H1.out).mono ?_; rintro e w' ⟨rfl, rfl⟩) | (go_at_call 29; refine (commD _ _ _ H2.out).mono ?_; rintro e w' ⟨rfl, rfl⟩))
  all_goals (go_ret; refine ⟨ret_bool ?_, by (repeat (first | (with_reducible exact Below.refl _ _) | (with_reducible assumption) | (with_reducible apply bel_alloc) | (with_reducible apply bel_drew) | (with_reducible apply bel_drewN) | (with_reducible refine bel_trans ?_ (by with_reducible assumption)) | (with_reducible refine bel_trans ?_ (HF.out _)) | (with_reducible refine bel_set ?_ (by simp) _) | (with_reducible refine bel_set ?_ (by simp; omega) _) | (with_reducible refine bel_set ?_ (by omega) _)))⟩; rw [Bool.eq_iff_iff, HY.out]; simp; try omega)
def peerI (id nodes t : Int) : Int := (id + t % (nodes - 1)) % nodes + 1
theorem peer_bd {id nodes t : Int} (h1 : 1 ≤ id) (h2 : id ≤ nodes) (h3 : 2 ≤ nodes) (h4 : nodes ≤ 16) : 0 ≤ t % (nodes - 1) ∧ t % (nodes - 1) ≤ 16 ∧ 0 ≤ (id + t % (nodes - 1)) % nodes ∧ (id + t % (nodes - 1)) % nodes ≤ 15 := by
  have a1 := Int.emod_nonneg t (show nodes - 1 ≠ 0 by omega)
  have a2 := Int.emod_lt_of_pos t (show 0 < nodes - 1 by omega)
  have a3 := Int.emod_nonneg (id + t % (nodes - 1)) (show nodes ≠ 0 by omega)
  have a4 := Int.emod_lt_of_pos (id + t % (nodes - 1)) (show 0 < nodes by omega)
  omega
set_option maxRecDepth 100000 in
set_option maxHeartbeats 1000000 in
theorem fetch_whom (id nodes t : Int) (A : Option Addr) (n c : Nat) (y : Int) (w : World) (h1 : 1 ≤ id) (h2 : id ≤ nodes) (h3 : 2 ≤ nodes) (h4 : nodes ≤ 16) (h5 : 0 ≤ t) (h6 : t ≤ 1099511627776) (hy : peerI id nodes t = y) : Calls Try.prog 62 #[.agg #[.int .i64 id, .int .i64 nodes, .slice A n c], .int .i64 t] w fun e w' => e = .returned (.int .i64 y) ∧ Below w.heap.size w w' := by
  obtain ⟨a1, a2, a3, a4⟩ := peer_bd (t := t) h1 h2 h3 h4
  have HY : Hid ((id + t % (nodes - 1)) % nodes + 1 = y) := Lib.hid hy
  clear hy
  have hn1 : nodes - 1 ≠ 0 := by omega
  have hn0 : nodes ≠ 0 := by omega
  have hnn : (nodes - 1 == 0) = false := by simp; omega
  have hnb : (nodes == 0) = false := by simp; omega
  go_enter Try.func62, Try.ntmps62
  go_wp2_with fail
  refine wp_region_fam (by kernel_rfl) (by kernel_rfl) (fun ι F hne hF hcl => ?_)
  have hcF0 := fun n o => (bcell (hF n)).1 (w.heap.size) o (by first | (simp; done) | (simp; omega) | omega)
  have HF := Lib.hid hF; clear hF
  have HC := Lib.hid hcl; clear hcl
  repeat (any_goals (first
   | go_big_quiet_step (first | fail)
   | (refine wpQuiet_guard _ _ _ rfl rfl ?_; (fail_if_success (intro b' hb; have h2 := hb.symm; have : b' = true := h2.trans (by with_reducible rfl))); (fail_if_success (intro b' hb; have h2 := hb.symm; have : b' = false := h2.trans (by with_reducible rfl))); intro b' hb; simp only [hb]; cases b' <;> (try simp only [Bool.not_eq_true', Bool.not_eq_false', decide_eq_true_eq, decide_eq_false_iff_not, Int.not_lt, Int.not_le, Bool.and_eq_true, Bool.or_eq_true, Bool.or_eq_false_iff, beq_iff_eq, beq_eq_false_iff_ne, Int.natCast_pos] at hb))))
  all_goals (refine wpQuiet_nil ?_; intro nq)
  all_goals (go_wp2_with fail; go_ret; exact ⟨ret_int HY.out, by (repeat (first | (with_reducible exact Below.refl _ _) | (with_reducible assumption) | (with_reducible apply bel_alloc) | (with_reducible apply bel_drew) | (with_reducible apply bel_drewN) | (with_reducible refine bel_trans ?_ (by with_reducible assumption)) | (with_reducible refine bel_trans ?_ (HF.out _)) | (with_reducible refine bel_set ?_ (by simp) _) | (with_reducible refine bel_set ?_ (by simp; omega) _) | (with_reducible refine bel_set ?_ (by omega) _)))⟩)
set_option maxRecDepth 100000 in
set_option maxHeartbeats 1000000 in
theorem ref21_peer (id nodes t : Int) (A : Option Addr) (n c : Nat) (y : Int) (w : World) (h1 : 1 ≤ id) (h2 : id ≤ nodes) (h3 : 2 ≤ nodes) (h4 : nodes ≤ 16) (h5 : 0 ≤ t) (h6 : t ≤ 1099511627776) (hy : peerI id nodes t = y) : Calls Try.prog 91 #[.agg #[.int .i64 id, .int .i64 nodes, .slice A n c], .int .i64 t] w fun e w' => e = .returned (.int .i64 y) ∧ Below w.heap.size w w' := by
  obtain ⟨a1, a2, a3, a4⟩ := peer_bd (t := t) h1 h2 h3 h4
  have HY : Hid ((id + t % (nodes - 1)) % nodes + 1 = y) := Lib.hid hy
  clear hy
  have hn1 : nodes - 1 ≠ 0 := by omega
  have hn0 : nodes ≠ 0 := by omega
  have hnn : (nodes - 1 == 0) = false := by simp; omega
  have hnb : (nodes == 0) = false := by simp; omega
  go_enter Try.func91, Try.ntmps91
  go_wp2_with fail
  refine wp_region_fam (by kernel_rfl) (by kernel_rfl) (fun ι F hne hF hcl => ?_)
  have hcF0 := fun n o => (bcell (hF n)).1 (w.heap.size) o (by first | (simp; done) | (simp; omega) | omega)
  have HF := Lib.hid hF; clear hF
  have HC := Lib.hid hcl; clear hcl
  repeat (any_goals (first
   | go_big_quiet_step (first | fail)
   | (refine wpQuiet_guard _ _ _ rfl rfl ?_; (fail_if_success (intro b' hb; have h2 := hb.symm; have : b' = true := h2.trans (by with_reducible rfl))); (fail_if_success (intro b' hb; have h2 := hb.symm; have : b' = false := h2.trans (by with_reducible rfl))); intro b' hb; simp only [hb]; cases b' <;> (try simp only [Bool.not_eq_true', Bool.not_eq_false', decide_eq_true_eq, decide_eq_false_iff_not, Int.not_lt, Int.not_le, Bool.and_eq_true, Bool.or_eq_true, Bool.or_eq_false_iff, beq_iff_eq, beq_eq_false_iff_ne, Int.natCast_pos] at hb))))
  all_goals (refine wpQuiet_nil ?_; intro nq)
  all_goals (go_wp2_with fail; go_ret; exact ⟨ret_int HY.out, by (repeat (first | (with_reducible exact Below.refl _ _) | (with_reducible assumption) | (with_reducible apply bel_alloc) | (with_reducible apply bel_drew) | (with_reducible apply bel_drewN) | (with_reducible refine bel_trans ?_ (by with_reducible assumption)) | (with_reducible refine bel_trans ?_ (HF.out _)) | (with_reducible refine bel_set ?_ (by simp) _) | (with_reducible refine bel_set ?_ (by simp; omega) _) | (with_reducible refine bel_set ?_ (by omega) _)))⟩)
theorem two_new (w : World) (x y : Value) (t : TypeId) (n : Nat) (hn : n = w.heap.size) : (w.alloc (.cells #[x, y] t)).cell? ⟨n, 0, none⟩ = some x ∧ (w.alloc (.cells #[x, y] t)).cell? ⟨n, 1, none⟩ = some y := by subst hn; simp
set_option maxRecDepth 100000 in
set_option maxHeartbeats 1000000 in
theorem fetch_less (a b : FRowD) (y : Int) (w : World) (hy : cmpP a.ki a.di b.ki b.di = y) : Calls Try.prog 42 #[.agg #[.int .i64 a.ki, .int .i64 a.di, .int .i64 a.ag, .int .i64 a.tr], .agg #[.int .i64 b.ki, .int .i64 b.di, .int .i64 b.ag, .int .i64 b.tr]] w fun e w' => e = .returned (.int .i64 y) ∧ Below w.heap.size w w' := by
  subst hy
  go_enter Try.func42, Try.ntmps42
  go_upto_region 1 with fail
  refine wp_world (fun W hW => ?_)
  have hbW : Below w.heap.size w W := by rw [hW]; (repeat (first | (with_reducible exact Below.refl _ _) | (with_reducible assumption) | (with_reducible apply bel_alloc) | (with_reducible apply bel_drew) | (with_reducible apply bel_drewN) | (with_reducible refine bel_trans ?_ (by with_reducible assumption)) | (with_reducible refine bel_trans ?_ (HF.out _)) | (with_reducible refine bel_set ?_ (by simp) _) | (with_reducible refine bel_set ?_ (by simp; omega) _) | (with_reducible refine bel_set ?_ (by omega) _)))
  have hsz : W.heap.size = w.heap.size + 1 + 1 := by rw [hW]; simp
  obtain ⟨S, hSd⟩ : ∃ S : World → Prop, S = fun Q => Q.cell? ⟨w.heap.size, 0, none⟩ = some (.int .i64 a.ki) ∧ Q.cell? ⟨w.heap.size + 1, 0, none⟩ = some (.int .i64 b.ki) ∧ Q.cell? ⟨w.heap.size, 1, none⟩ = some (.int .i64 a.di) ∧ Q.cell? ⟨w.heap.size + 1, 1, none⟩ = some (.int .i64 b.di) := ⟨_, rfl⟩
  have hS1 : ∀ Q, S Q → Q.cell? ⟨w.heap.size, 0, none⟩ = some (.int .i64 a.ki) := fun Q h => by rw [hSd] at h; exact h.1
  have hS2 : ∀ Q, S Q → Q.cell? ⟨w.heap.size + 1, 0, none⟩ = some (.int .i64 b.ki) := fun Q h => by rw [hSd] at h; exact h.2.1
  have hS3 : ∀ Q, S Q → Q.cell? ⟨w.heap.size, 1, none⟩ = some (.int .i64 a.di) := fun Q h => by rw [hSd] at h; exact h.2.2.1
  have hS4 : ∀ Q, S Q → Q.cell? ⟨w.heap.size + 1, 1, none⟩ = some (.int .i64 b.di) := fun Q h => by rw [hSd] at h; exact h.2.2.2
  have hSW : S W := by rw [hSd, hW]; exact ⟨by simp, by simp, by simp, by simp⟩
  have hS : ∀ Q, Below W.heap.size W Q → S Q := fun Q hQ => by
    have h1 := hSW
    rw [hSd] at h1 ⊢
    have g := (bcell hQ).1
    exact ⟨(g _ _ (by omega)).trans h1.1, (g _ _ (by omega)).trans h1.2.1, (g _ _ (by omega)).trans h1.2.2.1, (g _ _ (by omega)).trans h1.2.2.2⟩
  clear hSd hW hSW
  refine wp_region_held_drew (S := S) (by kernel_rfl) (hS _ (bel_drew (Below.refl _ _))) (fun hHeld => ?_)
  have hbd : Below W.heap.size W W.drew := bel_drew (Below.refl _ _)
  generalize W.drew = Z at *
  (refine wpAnyH_tk 0 (some 5) (v := ?_) rfl rfl ?_ ?_; rotate_left; (focus (intro wq hSw; clear hSw; go_simp; all_goals (with_reducible rfl))); simp only [Act.put, List.setIfInBounds_toArray, List.set_cons_zero, List.set_cons_succ])
  (refine wpAnyH_tk 1 (some 6) (v := ?_) rfl rfl ?_ ?_; rotate_left; (focus (intro wq hSw; have q1 := hS1 wq hSw; clear hSw; go_simp; all_goals (with_reducible rfl))); simp only [Act.put, List.setIfInBounds_toArray, List.set_cons_zero, List.set_cons_succ])
  (refine wpAnyH_tk 2 (some 7) (v := ?_) rfl rfl ?_ ?_; rotate_left; (focus (intro wq hSw; clear hSw; go_simp; all_goals (with_reducible rfl))); simp only [Act.put, List.setIfInBounds_toArray, List.set_cons_zero, List.set_cons_succ])
  (refine wpAnyH_tk 3 (some 8) (v := ?_) rfl rfl ?_ ?_; rotate_left; (focus (intro wq hSw; have q1 := hS2 wq hSw; clear hSw; go_simp; all_goals (with_reducible rfl))); simp only [Act.put, List.setIfInBounds_toArray, List.set_cons_zero, List.set_cons_succ])
  (refine wpAnyH_tk 5 (some 10) (v := ?_) rfl rfl ?_ ?_; rotate_left; (focus (intro wq hSw; clear hSw; go_simp; all_goals (with_reducible rfl))); simp only [Act.put, List.setIfInBounds_toArray, List.set_cons_zero, List.set_cons_succ])
  (refine wpAnyH_tk 6 (some 11) (v := ?_) rfl rfl ?_ ?_; rotate_left; (focus (intro wq hSw; have q1 := hS3 wq hSw; clear hSw; go_simp; all_goals (with_reducible rfl))); simp only [Act.put, List.setIfInBounds_toArray, List.set_cons_zero, List.set_cons_succ])
  (refine wpAnyH_tk 7 (some 12) (v := ?_) rfl rfl ?_ ?_; rotate_left; (focus (intro wq hSw; clear hSw; go_simp; all_goals (with_reducible rfl))); simp only [Act.put, List.setIfInBounds_toArray, List.set_cons_zero, List.set_cons_succ])
  (refine wpAnyH_tk 8 (some 13) (v := ?_) rfl rfl ?_ ?_; rotate_left; (focus (intro wq hSw; have q1 := hS4 wq hSw; clear hSw; go_simp; all_goals (with_reducible rfl))); simp only [Act.put, List.setIfInBounds_toArray, List.set_cons_zero, List.set_cons_succ])
  refine wpAnyH_ready (rs := [4]) (by kernel_rfl) (by simp) ?_
  refine AllReadyH.cons (o := _) rfl (fun K hK => ?_) AllReadyH.nil
  go_simp
  (go_at_call 75; refine (cmp_Compare_int _ _ _).mono ?_; rintro e w' ⟨rfl, rfl⟩)
  refine hK.out _ _ (hS _ hbd) (fun hHeld => ?_)
  clear hK K
  (try simp only [Act.put, List.setIfInBounds_toArray, List.set_cons_zero, List.set_cons_succ])
  refine wpAnyH_ready (rs := [9]) (by kernel_rfl) (by simp) ?_
  refine AllReadyH.cons (o := _) rfl (fun K hK => ?_) AllReadyH.nil
  go_simp
  (go_at_call 75; refine (cmp_Compare_int _ _ _).mono ?_; rintro e w' ⟨rfl, rfl⟩)
  refine hK.out _ _ (hS _ hbd) (fun hHeld => ?_)
  clear hK K
  (try simp only [Act.put, List.setIfInBounds_toArray, List.set_cons_zero, List.set_cons_succ])
  refine wpAnyH_ready (rs := [10]) (by kernel_rfl) (by simp) ?_
  refine AllReadyH.cons (o := _) rfl (fun K hK => ?_) AllReadyH.nil
  go_simp
  refine hK.out _ _ (hS _ (bel_alloc hbd)) (fun hHeld => ?_)
  clear hK K
  (try simp only [Act.put, List.setIfInBounds_toArray, List.set_cons_zero, List.set_cons_succ])
  refine wpAnyH_ready (rs := [11]) (by kernel_rfl) (by simp) ?_
  refine AllReadyH.cons (o := _) rfl (fun K hK => ?_) AllReadyH.nil
  go_simp
  (go_at_call 74; refine (cmp_Or _ (cmp3 a.ki b.ki) (cmp3 a.di b.di) _ (by exact (two_new _ _ _ _ _ (by simp)).1) (by exact (two_new _ _ _ _ _ (by simp)).2)).mono ?_; rintro e w' ⟨rfl, rfl⟩)
  refine hK.out _ _ (hS _ (bel_alloc hbd)) (fun hHeld => ?_)
  clear hK K
  (try simp only [Act.put, List.setIfInBounds_toArray, List.set_cons_zero, List.set_cons_succ])
  (refine wpAnyH_tk 12 (some 4) (v := ?_) rfl rfl ?_ ?_; rotate_left; (focus (intro wq hSw; clear hSw; go_simp; all_goals (with_reducible rfl))); simp only [Act.put, List.setIfInBounds_toArray, List.set_cons_zero, List.set_cons_succ])
  refine wpAnyH_done (by kernel_rfl) ?_ _
  go_wp2_with fail
  go_ret
  exact ⟨rfl, bel_trans hbW (bel_alloc hbd)⟩
end Go.Proofs.Ytnngeaibdnnpoaa
