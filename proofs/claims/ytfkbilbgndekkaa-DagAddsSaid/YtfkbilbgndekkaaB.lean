/- Headers and certificates, at the program and at the reference; places. -/
import Derived.Test.YtfkbilbgndekkaaA
import Derived.Test.YtfkbilbgndekkaaF
namespace Go.Proofs.Ytfkbilbgndekkaa
open Go.RowKit
set_option linter.unusedSimpArgs false
set_option linter.unusedVariables false

/-! ### words -/
noncomputable def digsS (l : List Int) (m : Int) : Bool := decide ((l.length : Int) ≤ m) && crisS l 1 65536
noncomputable def headS (H : HeaderD) (n : Int) : Bool :=
  isS n && decide (1 ≤ H.au) && decide (H.au ≤ n) && decide (1 ≤ H.ro) && decide (H.ro ≤ 1099511627776) && digsS H.ba 8 && digsS H.pa n && cond (H.ro == 1) (H.pa.length == 0) (decide (2 * (n / 3) + 1 ≤ (H.pa.length : Int)))
noncomputable def certS (C : CertD) (n : Int) : Bool := headS C.h n && digS C.di && crisS C.si 1 n && decide (2 * (n / 3) + 1 ≤ (C.si.length : Int))
def befS (r a s b : Int) : Bool := decide (r < s ∨ r = s ∧ a < b)
theorem befS_iff {r a s b : Int} : befS r a s b = true ↔ (r < s ∨ r = s ∧ a < b) := by simp [befS]
theorem cris_eq (l : List Int) (lo hi : Int) : crisS l lo hi = (betS l lo hi && risS l) := by
  rw [Bool.eq_iff_iff, Bool.and_eq_true]; simp only [crisS, betS, risS, dec_iff]; exact ⟨fun ⟨a, b⟩ => ⟨b, a⟩, fun ⟨a, b⟩ => ⟨b, a⟩⟩
theorem headS_bd {H : HeaderD} {n : Int} (h : headS H n = true) : 1 ≤ n ∧ n ≤ 16 ∧ n % 3 = 1 ∧ 1 ≤ H.au ∧ H.au ≤ n ∧ 1 ≤ H.ro ∧ H.ro ≤ 1099511627776 := by
  simp only [headS, Bool.and_eq_true, decide_eq_true_eq, isS_iff] at h; omega
theorem certS_hd {C : CertD} {n : Int} (h : certS C n = true) : headS C.h n = true := by
  simp only [certS, Bool.and_eq_true] at h; exact h.1.1.1
theorem certS_bd {C : CertD} {n : Int} (h : certS C n = true) : 1 ≤ n ∧ n ≤ 16 ∧ n % 3 = 1 ∧ 1 ≤ C.h.au ∧ C.h.au ≤ n ∧ 1 ≤ C.h.ro ∧ C.h.ro ≤ 1099511627776 ∧ 1 ≤ C.di ∧ C.di ≤ 65536 := by
  simp only [certS, Bool.and_eq_true, digS_iff] at h
  have := headS_bd h.1.1.1
  omega

/-! ### the reference's lists -/
set_option maxRecDepth 100000 in
set_option maxHeartbeats 1000000 in
theorem ref0_Between (A : Option Addr) (n c : Nat) (l : List Int) (lo hi : Int) (w : World) (hl : IntsR w A n l) :
    Calls Try.prog 90 #[.slice A n c, .int .i64 lo, .int .i64 hi] w fun e w' => e = .returned (.bool (betS l lo hi)) ∧ w = w' := by
  obtain ⟨h1, h2, h3⟩ := hl
  have H1 := Lib.hid h1; clear h1
  go_enter Try.func90, Try.ntmps90
  go_wp2
  go_loop [7] (fun i => ∃ k : Nat, k ≤ n ∧ i = .int .i64 k ∧ ∀ j, j < k → lo ≤ nth l j ∧ nth l j ≤ hi) (fun i => n - (intOf i).toNat)
  case atStart => exact ⟨0, Nat.zero_le _, rfl, fun j hj => absurd hj (by omega)⟩
  case round =>
    obtain ⟨k, hk, rfl, hr⟩ := hrel
    have HR := Lib.hid hr; clear hr
    by_cases hlt : k < n
    · obtain ⟨b, off, rfl, _, hc⟩ := h3 (by omega)
      have hck := hc k hlt
      clear hc h3
      have bad : ¬ (lo ≤ nth l k ∧ nth l k ≤ hi) → false = betS l lo hi := fun h => dec_false fun g => h (g k (by rw [H1.out]; exact hlt))
      have B := Lib.hid bad; clear bad
      go_wp2
      all_goals first
        | (go_round
           case rel =>
             refine ⟨k + 1, by omega, by go_num, fun j hj => ?_⟩
             by_cases hjk : j = k
             · subst hjk; exact ⟨by omega, by omega⟩
             · exact HR.out j (by omega)
           case measure => simp [intOf]; omega)
        | (go_ret; exact ⟨ret_bool (B.out (by omega)), rfl⟩)
    · go_wp2
      go_ret
      exact ⟨ret_bool (dec_true fun j hj => HR.out j (by rw [H1.out] at hj; omega)), rfl⟩
theorem ref0_Digests (A : Option Addr) (n c : Nat) (l : List Int) (w : World) (hl : IntsR w A n l) :
    Calls Try.prog 140 #[.slice A n c] w fun e w' => e = .returned (.bool (betS l 1 65536)) ∧ w = w' := by
  go_enter Try.func140, Try.ntmps140
  go_wp2_with (go_at_call 90; refine (ref0_Between _ _ _ l _ _ _ hl).mono ?_; rintro e w' ⟨rfl, rfl⟩)
  go_ret
  exact ⟨rfl, rfl⟩
set_option maxRecDepth 100000 in
set_option maxHeartbeats 1000000 in
theorem ref4_digests (A : Option Addr) (n c : Nat) (l : List Int) (m : Int) (w : World) (hl : IntsR w A n l) :
    Calls Try.prog 123 #[.slice A n c, .int .i64 m] w fun e w' => e = .returned (.bool (digsS l m)) ∧ Below w.heap.size w w' := by
  unfold digsS
  have hll := hl.1
  have H1 := Lib.hid hl; clear hl
  have H2 := Lib.hid hll; clear hll
  go_enter Try.func123, Try.ntmps123
  go_wp2_with (first
    | (go_at_call 140; refine (ref0_Digests _ _ _ l _ H1.out).mono ?_; rintro e w' ⟨rfl, rfl⟩)
    | (go_at_call 27; refine (ref0_Rising _ _ _ l _ H1.out).mono ?_; rintro e w1 ⟨rfl, hb1⟩))
  all_goals (go_ret; refine ⟨ret_bool ?_, by (repeat (first | (with_reducible exact Below.refl _ _) | (with_reducible assumption) | (with_reducible apply bel_alloc) | (with_reducible apply bel_drew) | (with_reducible apply bel_drewN) | (with_reducible refine bel_trans ?_ (by with_reducible assumption)) | (with_reducible refine bel_trans ?_ (HF.out _)) | (with_reducible refine bel_set ?_ (by simp) _) | (with_reducible refine bel_set ?_ (by simp; omega) _) | (with_reducible refine bel_set ?_ (by omega) _)))⟩; go_light; rw [Bool.eq_iff_iff]; (first | (simp [cris_eq, H2.out, *]; done) | (simp_all [cris_eq, H2.out]; done) | (simp_all [cris_eq, H2.out]; omega) | (simp [cris_eq, H2.out, *]; omega)))
set_option maxRecDepth 100000 in
set_option maxHeartbeats 1000000 in
theorem ref1_Before (r a s b : Int) (w : World) :
    Calls Try.prog 68 #[.int .i64 r, .int .i64 a, .int .i64 s, .int .i64 b] w fun e w' => e = .returned (.bool (befS r a s b)) ∧ w = w' := by
  go_enter Try.func68, Try.ntmps68
  go_wp2
  all_goals (go_ret; refine ⟨ret_bool ?_, rfl⟩; rw [Bool.eq_iff_iff, befS_iff]; simp; omega)

set_option maxRecDepth 100000 in
set_option maxHeartbeats 1000000 in
theorem ref4_Header (p : HeaderP) (H : HeaderD) (n : Int) (w : World) (hR : HeaderR w p H) :
    Calls Try.prog 88 #[.agg #[.int .i64 H.au, .int .i64 H.ro, .slice p.b.A p.b.n p.b.c, .slice p.p.A p.p.n p.p.c], .int .i64 n] w fun e w' => e = .returned (.bool (headS H n)) ∧ Below w.heap.size w w' := by
  have hl1 := hR.1.1
  have hl2 := hR.2.1
  have H1 := Lib.hid hR; clear hR
  have H2 := Lib.hid hl1; clear hl1
  have H3 := Lib.hid hl2; clear hl2
  go_enter Try.func88, Try.ntmps88
  go_wp2_with (first
    | (go_at_call 67; refine (ref2_May _ _).mono ?_; rintro e w' ⟨rfl, rfl⟩)
    | (go_at_call 123; refine (ref4_digests _ _ _ _ _ _ (by first | exact H1.out.1.up (by (repeat (first | (with_reducible exact Below.refl _ _) | (with_reducible assumption) | (with_reducible apply bel_alloc) | (with_reducible apply bel_drew) | (with_reducible apply bel_drewN) | (with_reducible refine bel_trans ?_ (by with_reducible assumption)) | (with_reducible refine bel_trans ?_ (HF.out _)) | (with_reducible refine bel_set ?_ (by simp) _) | (with_reducible refine bel_set ?_ (by simp; omega) _) | (with_reducible refine bel_set ?_ (by omega) _)))) | exact H1.out.2.up (by (repeat (first | (with_reducible exact Below.refl _ _) | (with_reducible assumption) | (with_reducible apply bel_alloc) | (with_reducible apply bel_drew) | (with_reducible apply bel_drewN) | (with_reducible refine bel_trans ?_ (by with_reducible assumption)) | (with_reducible refine bel_trans ?_ (HF.out _)) | (with_reducible refine bel_set ?_ (by simp) _) | (with_reducible refine bel_set ?_ (by simp; omega) _) | (with_reducible refine bel_set ?_ (by omega) _)))))).mono ?_; rintro e w1 ⟨rfl, hb1⟩; have hz_w1 : w.heap.size + 1 ≤ w1.heap.size := (by have hq := (hb1).size; (try simp at hq); omega); have hc0_w1 := fun o => (bcell hb1).1 (w.heap.size) o (by first | (simp; done) | (simp; omega) | omega)))
  any_goals
    refine wp_region_fam (by kernel_rfl) (by kernel_rfl) (fun ι F hne hF hcl => ?_)
    have hcF0 := fun n o => (bcell (hF n)).1 (w.heap.size) o (by first | (simp; done) | (simp; omega) | omega)
    have HF := Lib.hid hF; clear hF
    have HC := Lib.hid hcl; clear hcl
    repeat (any_goals (first
     | go_big_quiet_step (first | (go_at_call 60; exact Calls.fam_same (ref2_Quorum _ _ (by have := isS_bd (by assumption); omega) (by have := isS_bd (by assumption); omega))))
     | (refine wpQuiet_guard _ _ _ rfl rfl ?_; (fail_if_success (intro b' hb; have h2 := hb.symm; have : b' = true := h2.trans (by with_reducible rfl))); (fail_if_success (intro b' hb; have h2 := hb.symm; have : b' = false := h2.trans (by with_reducible rfl))); intro b' hb; simp only [hb]; cases b' <;> (try simp only [Bool.not_eq_true', Bool.not_eq_false', decide_eq_true_eq, decide_eq_false_iff_not, Int.not_lt, Int.not_le, Bool.and_eq_true, Bool.or_eq_true, Bool.or_eq_false_iff, beq_iff_eq, beq_eq_false_iff_ne, Int.natCast_pos] at hb))))
    all_goals (refine wpQuiet_nil ?_; intro nq; go_wp2_with (fail))
  all_goals (go_ret; refine ⟨ret_bool ?_, by (repeat (first | (with_reducible exact Below.refl _ _) | (with_reducible assumption) | (with_reducible apply bel_alloc) | (with_reducible apply bel_drew) | (with_reducible apply bel_drewN) | (with_reducible refine bel_trans ?_ (by with_reducible assumption)) | (with_reducible refine bel_trans ?_ (HF.out _)) | (with_reducible refine bel_set ?_ (by simp) _) | (with_reducible refine bel_set ?_ (by simp; omega) _) | (with_reducible refine bel_set ?_ (by omega) _)))⟩; go_light; rw [Bool.eq_iff_iff]; rcases hq0 : (digsS H.pa n) with _ | _ <;> (first | (simp [headS, H3.out, *]; done) | (simp_all [headS, H3.out]; done) | (simp_all [headS, H3.out]; omega) | (simp [headS, H3.out, *]; omega)))

set_option maxRecDepth 100000 in
set_option maxHeartbeats 1000000 in
theorem ref4_Cert (p : CertP) (C : CertD) (n : Int) (w : World) (hR : CertR w p C) :
    Calls Try.prog 51 #[.agg #[.int .i64 C.h.au, .int .i64 C.h.ro, .slice p.h.b.A p.h.b.n p.h.b.c, .slice p.h.p.A p.h.p.n p.h.p.c, .int .i64 C.di, .slice p.s.A p.s.n p.s.c], .int .i64 n] w fun e w' => e = .returned (.bool (certS C n)) ∧ Below w.heap.size w w' := by
  have hl1 := hR.2.1
  have H1 := Lib.hid hR; clear hR
  have H2 := Lib.hid hl1; clear hl1
  go_enter Try.func51, Try.ntmps51
  go_wp2
  refine wp_region_fam (by kernel_rfl) (by kernel_rfl) (fun ι F hne hF hcl => ?_)
  have hcF0 := fun n o => (bcell (hF n)).1 (w.heap.size) o (by first | (simp; done) | (simp; omega) | omega)
  have HF := Lib.hid hF; clear hF
  have HC := Lib.hid hcl; clear hcl
  repeat (any_goals (first
   | go_big_quiet_step (first | (go_at_call 88; exact Calls.fam HC.out (ref4_Header p.h C.h _ _ (H1.out.1.up (by (repeat (first | (with_reducible exact Below.refl _ _) | (with_reducible assumption) | (with_reducible apply bel_alloc) | (with_reducible apply bel_drew) | (with_reducible apply bel_drewN) | (with_reducible refine bel_trans ?_ (by with_reducible assumption)) | (with_reducible refine bel_trans ?_ (HF.out _)) | (with_reducible refine bel_set ?_ (by simp) _) | (with_reducible refine bel_set ?_ (by simp; omega) _) | (with_reducible refine bel_set ?_ (by omega) _))))))) | (go_at_call 89; exact Calls.fam_same (ref0_Digest _ _)) | (go_at_call 27; exact Calls.fam HC.out (ref0_Rising _ _ _ _ _ (H1.out.2.up (by (repeat (first | (with_reducible exact Below.refl _ _) | (with_reducible assumption) | (with_reducible apply bel_alloc) | (with_reducible apply bel_drew) | (with_reducible apply bel_drewN) | (with_reducible refine bel_trans ?_ (by with_reducible assumption)) | (with_reducible refine bel_trans ?_ (HF.out _)) | (with_reducible refine bel_set ?_ (by simp) _) | (with_reducible refine bel_set ?_ (by simp; omega) _) | (with_reducible refine bel_set ?_ (by omega) _))))))) | (go_at_call 90; exact Calls.fam_same (ref0_Between _ _ _ _ _ _ _ (H1.out.2.up (by (repeat (first | (with_reducible exact Below.refl _ _) | (with_reducible assumption) | (with_reducible apply bel_alloc) | (with_reducible apply bel_drew) | (with_reducible apply bel_drewN) | (with_reducible refine bel_trans ?_ (by with_reducible assumption)) | (with_reducible refine bel_trans ?_ (HF.out _)) | (with_reducible refine bel_set ?_ (by simp) _) | (with_reducible refine bel_set ?_ (by simp; omega) _) | (with_reducible refine bel_set ?_ (by omega) _))))))) | (go_at_call 60; exact Calls.fam_same (ref2_Quorum _ _ (by have := headS_bd (by assumption); omega) (by have := headS_bd (by assumption); omega))))
   | (refine wpQuiet_guard _ _ _ rfl rfl ?_; (fail_if_success (intro b' hb; have h2 := hb.symm; have : b' = true := h2.trans (by with_reducible rfl))); (fail_if_success (intro b' hb; have h2 := hb.symm; have : b' = false := h2.trans (by with_reducible rfl))); intro b' hb; simp only [hb]; cases b' <;> (try simp only [Bool.not_eq_true', Bool.not_eq_false', decide_eq_true_eq, decide_eq_false_iff_not, Int.not_lt, Int.not_le, Bool.and_eq_true, Bool.or_eq_true, Bool.or_eq_false_iff, beq_iff_eq, beq_eq_false_iff_ne, Int.natCast_pos] at hb))))
  all_goals (refine wpQuiet_nil ?_; intro nq; go_wp2_with (fail))
  all_goals (go_ret; refine ⟨ret_bool ?_, by (repeat (first | (with_reducible exact Below.refl _ _) | (with_reducible assumption) | (with_reducible apply bel_alloc) | (with_reducible apply bel_drew) | (with_reducible apply bel_drewN) | (with_reducible refine bel_trans ?_ (by with_reducible assumption)) | (with_reducible refine bel_trans ?_ (HF.out _)) | (with_reducible refine bel_set ?_ (by simp) _) | (with_reducible refine bel_set ?_ (by simp; omega) _) | (with_reducible refine bel_set ?_ (by omega) _)))⟩; go_light; rw [Bool.eq_iff_iff]; (first | (simp [certS, cris_eq, H2.out, *]; done) | (simp_all [certS, cris_eq, H2.out]; done) | (simp_all [certS, cris_eq, H2.out]; omega) | (simp [certS, cris_eq, H2.out, *]; omega)))
end Go.Proofs.Ytfkbilbgndekkaa
