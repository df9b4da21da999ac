/- The small functions: committees, digests, lists of numbers that rise, that lie between two bounds. -/
import Derived.Test.YtfkbilbgndekkaaBase
namespace Go.Proofs.Ytfkbilbgndekkaa
open Go.RowKit
set_option linter.unusedSimpArgs false
set_option linter.unusedVariables false

/-! ### words -/
def isS (n : Int) : Bool := decide (1 ≤ n) && decide (n ≤ 16) && decide (n % 3 = 1)
theorem isS_iff {n : Int} : isS n = true ↔ (1 ≤ n ∧ n ≤ 16 ∧ n % 3 = 1) := by simp [isS, and_assoc]
theorem isS_bd {n : Int} (h : isS n = true) : 1 ≤ n ∧ n ≤ 16 := by have := isS_iff.1 h; omega
def digS (d : Int) : Bool := decide (1 ≤ d) && decide (d ≤ 65536)
theorem digS_iff {n : Int} : digS n = true ↔ (1 ≤ n ∧ n ≤ 65536) := by simp [digS]
def Rises (l : List Int) : Prop := ∀ j, j + 1 < l.length → nth l j < nth l (j + 1)
def Within (l : List Int) (lo hi : Int) : Prop := ∀ j, j < l.length → lo ≤ nth l j ∧ nth l j ≤ hi
open Classical in
noncomputable def dec (p : Prop) : Bool := decide p
theorem dec_iff {p : Prop} : dec p = true ↔ p := by simp [dec]
theorem dec_true {p : Prop} (h : p) : true = dec p := (dec_iff.2 h).symm
theorem dec_false {p : Prop} (h : ¬ p) : false = dec p := by cases e : dec p with | true => exact absurd (dec_iff.1 e) h | false => rfl
noncomputable def risS (l : List Int) : Bool := dec (Rises l)
noncomputable def betS (l : List Int) (lo hi : Int) : Bool := dec (Within l lo hi)
noncomputable def crisS (l : List Int) (lo hi : Int) : Bool := dec (Rises l ∧ Within l lo hi)
def few3 (n : Int) : Int := 2 * (n / 3) + 1

/-! ### committees -/
theorem ref2_May (n : Int) (w : World) : Calls Try.prog 67 #[.int .i64 n] w fun e w' => e = .returned (.bool (isS n)) ∧ w = w' := by
  go_enter Try.func67, Try.ntmps67
  go_wp2
  all_goals (go_ret; refine ⟨ret_bool ?_, rfl⟩; rw [Bool.eq_iff_iff, isS_iff]; simp; omega)
theorem committee_Is (n : Int) (w : World) : Calls Try.prog 87 #[.int .i64 n] w fun e w' => e = .returned (.bool (isS n)) ∧ w = w' := by
  go_enter Try.func87, Try.ntmps87
  go_wp2
  all_goals (go_ret; refine ⟨ret_bool ?_, rfl⟩; rw [Bool.eq_iff_iff, isS_iff]; simp; omega)
theorem ref2_Quorum (n : Int) (w : World) (h0 : 0 ≤ n) (h1 : n ≤ 1000) : Calls Try.prog 60 #[.int .i64 n] w fun e w' => e = .returned (.int .i64 (2 * (n / 3) + 1)) ∧ w = w' := by
  go_enter Try.func60, Try.ntmps60
  go_wp2
  go_ret
  exact ⟨rfl, rfl⟩
theorem committee_F (n : Int) (w : World) (h0 : 1 ≤ n) (h1 : n ≤ 1000) : Calls Try.prog 111 #[.int .i64 n] w fun e w' => e = .returned (.int .i64 ((n - 1) / 3)) ∧ w = w' := by
  go_enter Try.func111, Try.ntmps111
  go_wp2
  go_ret
  exact ⟨rfl, rfl⟩
theorem committee_Q (n : Int) (w : World) (h0 : 1 ≤ n) (h1 : n ≤ 1000) : Calls Try.prog 118 #[.int .i64 n] w fun e w' => e = .returned (.int .i64 (2 * ((n - 1) / 3) + 1)) ∧ w = w' := by
  go_enter Try.func118, Try.ntmps118
  go_wp2_with (go_at_call 111; refine (committee_F _ _ h0 h1).mono ?_; rintro e w' ⟨rfl, rfl⟩)
  go_ret
  exact ⟨rfl, rfl⟩
theorem ref0_Digest (n : Int) (w : World) : Calls Try.prog 89 #[.int .i64 n] w fun e w' => e = .returned (.bool (digS n)) ∧ w = w' := by
  go_enter Try.func89, Try.ntmps89
  go_wp2
  all_goals (go_ret; refine ⟨ret_bool ?_, rfl⟩; rw [Bool.eq_iff_iff, digS_iff]; simp; omega)
theorem committee_Digest (n : Int) (w : World) : Calls Try.prog 116 #[.int .i64 n] w fun e w' => e = .returned (.bool (digS n)) ∧ w = w' := by
  go_enter Try.func116, Try.ntmps116
  go_wp2
  all_goals (go_ret; refine ⟨ret_bool ?_, rfl⟩; rw [Bool.eq_iff_iff, digS_iff]; simp; omega)

/-! ### lists of numbers -/
set_option maxRecDepth 100000 in
set_option maxHeartbeats 1000000 in
theorem committee_Rising (A : Option Addr) (n c : Nat) (l : List Int) (lo hi : Int) (w : World) (hl : IntsR w A n l) :
    Calls Try.prog 117 #[.slice A n c, .int .i64 lo, .int .i64 hi] w fun e w' => e = .returned (.bool (crisS l lo hi)) ∧ w = w' := by
  obtain ⟨h1, h2, h3⟩ := hl
  have H1 := Lib.hid h1; clear h1
  go_enter Try.func117, Try.ntmps117
  go_wp2
  go_loop [11] (fun i => ∃ k : Nat, k ≤ n ∧ i = .int .i64 k ∧ ∀ j, j < k → lo ≤ nth l j ∧ nth l j ≤ hi ∧ (0 < j → nth l (j - 1) < nth l j)) (fun i => n - (intOf i).toNat)
  case atStart => exact ⟨0, Nat.zero_le _, rfl, fun j hj => absurd hj (by omega)⟩
  case round =>
    obtain ⟨k, hk, rfl, hr⟩ := hrel
    have HR := Lib.hid hr; clear hr
    by_cases hlt : k < n
    · obtain ⟨b, off, rfl, _, hc⟩ := h3 (by omega)
      have hck := hc k hlt
      have hcp : 0 < k → w.cell? ⟨b, off + (k-1), none⟩ = some (.int .i64 (nth l (k-1))) := fun h => hc _ (by omega)
      clear hc h3
      have bad : ¬ (lo ≤ nth l k ∧ nth l k ≤ hi ∧ (0 < k → nth l (k - 1) < nth l k)) → false = crisS l lo hi := fun h => dec_false fun ⟨g1, g2⟩ => h ⟨(g2 k (by rw [H1.out]; exact hlt)).1, (g2 k (by rw [H1.out]; exact hlt)).2, fun h0 => by
        have := g1 (k - 1) (by rw [H1.out]; omega)
        rwa [show k - 1 + 1 = k from by omega] at this⟩
      have B := Lib.hid bad; clear bad
      go_wp2
      all_goals first
        | (go_round
           case rel =>
             refine ⟨k + 1, by omega, by go_num, fun j hj => ?_⟩
             by_cases hjk : j = k
             · subst hjk; exact ⟨by omega, by omega, by omega⟩
             · exact HR.out j (by omega)
           case measure => simp [intOf]; omega)
        | (go_ret; exact ⟨ret_bool (B.out (by omega)), rfl⟩)
    · go_wp2
      go_ret
      refine ⟨ret_bool (dec_true ⟨fun j hj => ?_, fun j hj => ?_⟩), rfl⟩
      · rw [H1.out] at hj
        have := (HR.out (j + 1) (by omega)).2.2 (by omega)
        simpa using this
      · rw [H1.out] at hj
        have := HR.out j (by omega)
        exact ⟨this.1, this.2.1⟩
theorem committee_Digests (A : Option Addr) (n c : Nat) (l : List Int) (w : World) (hl : IntsR w A n l) :
    Calls Try.prog 143 #[.slice A n c] w fun e w' => e = .returned (.bool (crisS l 1 65536)) ∧ w = w' := by
  go_enter Try.func143, Try.ntmps143
  go_wp2_with (go_at_call 117; refine (committee_Rising _ _ _ l _ _ _ hl).mono ?_; rintro e w' ⟨rfl, rfl⟩)
  go_ret
  exact ⟨rfl, rfl⟩

set_option maxRecDepth 100000 in
set_option maxHeartbeats 1000000 in
theorem ref0_Rising (A : Option Addr) (n c : Nat) (l : List Int) (w : World) (hl : IntsR w A n l) :
    Calls Try.prog 27 #[.slice A n c] w fun e w' => e = .returned (.bool (risS l)) ∧ Below w.heap.size w w' := by
  obtain ⟨h1, h2, h3⟩ := hl
  have H1 := Lib.hid h1; clear h1
  go_enter Try.func27, Try.ntmps27
  go_wp2
  go_loopw [3] (fun i wr => ∃ k : Nat, 1 ≤ k ∧ (k ≤ n ∨ k = 1) ∧ i = .int .i64 k ∧ (∀ j, j + 1 < k → nth l j < nth l (j + 1)) ∧ ∃ m, wr = w.drewN m) (fun i _ => n - (intOf i).toNat)
  case atStart => exact ⟨1, by omega, by omega, rfl, fun j hj => absurd hj (by omega), 0, rfl⟩
  case round =>
    obtain ⟨k, hk1, hk, rfl, hr, m, rfl⟩ := hrel
    have HR := Lib.hid hr; clear hr
    by_cases hlt : k < n
    · obtain ⟨b, off, rfl, _, hc⟩ := h3 (by omega)
      have hck := hc k hlt
      have hcp := hc (k - 1) (by omega)
      have e1 : (k : Int) - 1 = ((k - 1 : Nat) : Int) := by omega
      clear hc h3
      have bad : ¬ (nth l (k - 1) < nth l k) → false = risS l := fun h => dec_false fun g1 => h (by
        have := g1 (k - 1) (by rw [H1.out]; omega)
        rwa [show k - 1 + 1 = k from by omega] at this)
      have B := Lib.hid bad; clear bad
      go_wp2
      go_quiet (fail)
      go_wp2
      all_goals first
        | (go_roundw
           case rel =>
             refine ⟨k + 1, by omega, by omega, by go_num, fun j hj => ?_, _, rfl⟩
             by_cases hjk : j = k - 1
             · subst hjk; rw [show k - 1 + 1 = k from by omega]; omega
             · exact HR.out j (by omega)
           case measure => simp [intOf]; omega)
        | (go_ret; exact ⟨ret_bool (B.out (by omega)), by (repeat (first | (with_reducible exact Below.refl _ _) | (with_reducible assumption) | (with_reducible apply bel_alloc) | (with_reducible apply bel_drew) | (with_reducible apply bel_drewN) | (with_reducible refine bel_trans ?_ (by with_reducible assumption)) | (with_reducible refine bel_trans ?_ (HF.out _)) | (with_reducible refine bel_set ?_ (by simp) _) | (with_reducible refine bel_set ?_ (by simp; omega) _) | (with_reducible refine bel_set ?_ (by omega) _)))⟩)
    · go_wp2
      go_ret
      refine ⟨ret_bool (dec_true fun j hj => ?_), by (repeat (first | (with_reducible exact Below.refl _ _) | (with_reducible assumption) | (with_reducible apply bel_alloc) | (with_reducible apply bel_drew) | (with_reducible apply bel_drewN) | (with_reducible refine bel_trans ?_ (by with_reducible assumption)) | (with_reducible refine bel_trans ?_ (HF.out _)) | (with_reducible refine bel_set ?_ (by simp) _) | (with_reducible refine bel_set ?_ (by simp; omega) _) | (with_reducible refine bel_set ?_ (by omega) _)))⟩
      rw [H1.out] at hj
      exact HR.out j (by omega)
end Go.Proofs.Ytfkbilbgndekkaa
