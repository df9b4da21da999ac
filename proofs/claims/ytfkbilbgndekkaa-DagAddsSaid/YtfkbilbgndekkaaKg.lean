/- A new DAG; a DAG asked; the first certificate; numbers of errors. -/
import Derived.Test.YtfkbilbgndekkaaKf
import Derived.Test.YtfkbilbgndekkaaKv
import Derived.Test.YtfkbilbgndekkaaKi
namespace Go.Proofs.Ytfkbilbgndekkaa
open Go.RowKit
set_option linter.unusedSimpArgs false
set_option linter.unusedVariables false

theorem law14_num (x : Int) (w : World) : Calls Try.prog 44 #[.int .i64 x] w fun e w' => e = .returned (.int .i64 x) ∧ w = w' := by
  go_enter Try.func44, Try.ntmps44
  go_wp2
  go_ret
  exact ⟨rfl, rfl⟩
set_option maxRecDepth 100000 in
set_option maxHeartbeats 1000000 in
theorem law14_check (A : Option Addr) (n c : Nat) (D : DagD) (y : Int) (w : World) (hl : CertsR w A n D.certs) (hy : chkE D = y) : Calls Try.prog 40 #[.agg #[.int .i64 D.nodes, .int .i64 D.low, .slice A n c]] w fun e w' => e = .returned (.int .i64 y) ∧ Below w.heap.size w w' := by
  cases hm : mayS D
  all_goals
    have HY := Lib.hid hy
    have HM := Lib.hid hm
    have HR : Hid (refMayS D = _) := Lib.hid ((may_eq D).trans hm)
    have HL := Lib.hid hl
    clear hy hm hl
    go_enter Try.func40, Try.ntmps40
    go_wp2_with fail
    refine (ref14_May A n c D _ (HL.out.up (by (repeat (first | (with_reducible exact Below.refl _ _) | (with_reducible assumption) | (with_reducible apply bel_alloc) | (with_reducible apply bel_drew) | (with_reducible apply bel_drewN) | (with_reducible refine bel_trans ?_ (by with_reducible assumption)) | (with_reducible refine bel_trans ?_ (HF.out _)) | (with_reducible refine bel_set ?_ (by simp) _) | (with_reducible refine bel_set ?_ (by simp; omega) _) | (with_reducible refine bel_set ?_ (by omega) _)))))).mono ?_
    rintro e w1 ⟨rfl, hb1⟩
    rw [HR.out]
    go_wp2_with fail
    go_ret
    exact ⟨ret_int (by rw [← HY.out]; unfold chkE; rw [HM.out]; rfl), by (repeat (first | (with_reducible exact Below.refl _ _) | (with_reducible assumption) | (with_reducible apply bel_alloc) | (with_reducible apply bel_drew) | (with_reducible apply bel_drewN) | (with_reducible refine bel_trans ?_ (by with_reducible assumption)) | (with_reducible refine bel_trans ?_ (HF.out _)) | (with_reducible refine bel_set ?_ (by simp) _) | (with_reducible refine bel_set ?_ (by simp; omega) _) | (with_reducible refine bel_set ?_ (by omega) _)))⟩
set_option maxRecDepth 100000 in
set_option maxHeartbeats 1000000 in
theorem dag_Check (A : Option Addr) (n c : Nat) (D : DagD) (y : Int) (w : World) (hl : CertsR w A n D.certs) (hy : chkE D = y) : Calls Try.prog 48 #[.agg #[.int .i64 D.nodes, .int .i64 D.low, .slice A n c]] w fun e w' => e = .returned (.int .i64 y) ∧ Below w.heap.size w w' := by
  cases hm : mayS D
  all_goals
    have HY := Lib.hid hy
    have HM := Lib.hid hm
    have HL := Lib.hid hl
    clear hy hm hl
    go_enter Try.func48, Try.ntmps48
    go_wp2_with fail
    refine (dag_May A n c D _ (HL.out.up (by (repeat (first | (with_reducible exact Below.refl _ _) | (with_reducible assumption) | (with_reducible apply bel_alloc) | (with_reducible apply bel_drew) | (with_reducible apply bel_drewN) | (with_reducible refine bel_trans ?_ (by with_reducible assumption)) | (with_reducible refine bel_trans ?_ (HF.out _)) | (with_reducible refine bel_set ?_ (by simp) _) | (with_reducible refine bel_set ?_ (by simp; omega) _) | (with_reducible refine bel_set ?_ (by omega) _)))))).mono ?_
    rintro e w1 ⟨rfl, hb1⟩
    rw [HM.out]
    go_wp2_with fail
    go_ret
    exact ⟨ret_int (by rw [← HY.out]; unfold chkE; rw [HM.out]; rfl), by (repeat (first | (with_reducible exact Below.refl _ _) | (with_reducible assumption) | (with_reducible apply bel_alloc) | (with_reducible apply bel_drew) | (with_reducible apply bel_drewN) | (with_reducible refine bel_trans ?_ (by with_reducible assumption)) | (with_reducible refine bel_trans ?_ (HF.out _)) | (with_reducible refine bel_set ?_ (by simp) _) | (with_reducible refine bel_set ?_ (by simp; omega) _) | (with_reducible refine bel_set ?_ (by omega) _)))⟩
theorem may_empty (n : Int) : mayS ⟨n, 0, []⟩ = isS n := by
  rw [Bool.eq_iff_iff, mayS_iff]
  exact ⟨fun h => h.1, fun h => ⟨h, Int.le_refl _, (by show (0 : Int) ≤ 1099511627776; omega), (by show 0 ≤ 65536; omega), fun k hk => absurd hk (by simp)⟩⟩
set_option maxRecDepth 100000 in
set_option maxHeartbeats 1000000 in
theorem dag_New (n : Int) (y : Bool) (w : World) (hy : isS n = y) : Calls Try.prog 49 #[.int .i64 n] w fun e w' => e = .returned (.tuple #[.agg #[.int .i64 (if y then n else 0), .int .i64 0, .slice none 0 0], .int .i64 (if y then 0 else 1)]) ∧ Below w.heap.size w w' := by
  cases y
  all_goals
    have HY := Lib.hid hy
    clear hy
    go_enter Try.func49, Try.ntmps49
    go_wp2_with fail
    refine (committee_Is _ _).mono ?_
    rintro e w1 ⟨rfl, rfl⟩
    rw [HY.out]
    go_wp2_with fail
    try (first
      | exact bodyPost_ret (v := .tuple #[.agg #[.int .i64 0, .int .i64 0, .slice none 0 0], .int .i64 1]) (by simp [results, Try.results49, go_sem]) rfl ⟨rfl, by (repeat (first | (with_reducible exact Below.refl _ _) | (with_reducible assumption) | (with_reducible apply bel_alloc) | (with_reducible apply bel_drew) | (with_reducible apply bel_drewN) | (with_reducible refine bel_trans ?_ (by with_reducible assumption)) | (with_reducible refine bel_trans ?_ (HF.out _)) | ((with_reducible refine bel_set3 ?_ ?_); rotate_left; omega)))⟩
      | exact bodyPost_ret (v := .tuple #[.agg #[.int .i64 n, .int .i64 0, .slice none 0 0], .int .i64 0]) (by simp [results, Try.results49, go_sem]) rfl ⟨rfl, by (repeat (first | (with_reducible exact Below.refl _ _) | (with_reducible assumption) | (with_reducible apply bel_alloc) | (with_reducible apply bel_drew) | (with_reducible apply bel_drewN) | (with_reducible refine bel_trans ?_ (by with_reducible assumption)) | (with_reducible refine bel_trans ?_ (HF.out _)) | ((with_reducible refine bel_set3 ?_ ?_); rotate_left; omega)))⟩)
theorem wake_add : addE ⟨1, 0, []⟩ wakeC = 0 ∧ addD ⟨1, 0, []⟩ wakeC = wakeD := by
  have h1 : mayS ⟨1, 0, []⟩ = true := by rw [may_empty]; decide
  have h2 : certS wakeC 1 = true := by
    have := (mayS_iff.1 wake_may).2.2.2.2 0 (by decide)
    exact this.1
  have h3 : putE ⟨1, 0, []⟩ wakeC = 0 := by
    unfold putE
    rw [if_neg (by decide), if_neg (by decide), if_neg (by decide), if_pos (by decide)]
  have h4 : addE ⟨1, 0, []⟩ wakeC = 0 := by unfold addE; rw [if_pos ⟨h1, h2⟩, h3]
  exact ⟨h4, by unfold addD; rw [if_pos h4]; rfl⟩
set_option maxRecDepth 100000 in
set_option maxHeartbeats 1000000 in
theorem law14_wakes (w : World) : Calls Try.prog 47 #[] w fun e w' => e = .returned (.bool true) ∧ Below w.heap.size w w' := by
  have hw := wake_add
  have HW := Lib.hid hw
  clear hw
  go_enter Try.func47, Try.ntmps47
  go_wp2_with fail
  refine (dag_New 1 true _ (by decide)).mono ?_
  rintro e w1 ⟨rfl, hb1⟩
  simp only [if_true]
  go_wp2_with fail
  have hr : CertR ((w1.alloc (.cells #[.int .i64 1, .int .i64 0, .slice none 0 0] 24)).alloc (.cells #[.int .i64 1] 3)) ⟨⟨⟨none, 0, 0⟩, ⟨none, 0, 0⟩⟩, ⟨some ⟨w1.heap.size + 1, 0, none⟩, 1, 1⟩⟩ wakeC :=
    ⟨⟨IntsR.nil _ _, IntsR.nil _ _⟩, IntsR.box (l := [1]) (BoxR.new' _ [.int .i64 1] 3 (by simp)) (by simp)⟩
  refine (dag_Add none 0 0 ⟨1, 0, []⟩ wakeC none none (some ⟨w1.heap.size + 1, 0, none⟩) 0 0 0 0 1 1 0 wakeD _ CertsR.none hr HW.out.1 HW.out.2).mono ?_
  rintro e w2 ⟨v, qs, rfl, hown, hb2⟩
  obtain ⟨A2, c2, rfl, _⟩ := own_row hown.1 (by decide)
  have hcc := fun o => (bcell hb2).1 w1.heap.size o (by simp; omega)
  have hff := fun o => (bcell hb2).2 w1.heap.size o (by simp; omega)
  have hz2 : w1.heap.size < w2.heap.size := by have := hb2.size; simp at this; omega
  have hbw2 : Below w.heap.size w w2 := by (repeat (first | (with_reducible exact Below.refl _ _) | (with_reducible assumption) | (with_reducible apply bel_alloc) | (with_reducible apply bel_drew) | (with_reducible apply bel_drewN) | (with_reducible refine bel_trans ?_ (by with_reducible assumption)) | (with_reducible refine bel_trans ?_ (HF.out _)) | (with_reducible refine bel_set ?_ (by simp) _) | (with_reducible refine bel_set ?_ (by simp; omega) _) | (with_reducible refine bel_set ?_ (by omega) _)))
  have hz1 := hb1.size
  rw [show wakeD.certs.length = 1 from rfl, show wakeD.nodes = 1 from rfl, show wakeD.low = 0 from rfl]
  clear hr hown
  go_wp2_with (go_at_call 44; refine (law14_num _ _).mono ?_; rintro e w' ⟨rfl, rfl⟩)
  go_ret
  exact ⟨rfl, by (repeat (first | (with_reducible exact Below.refl _ _) | (with_reducible assumption) | (with_reducible apply bel_alloc) | (with_reducible apply bel_drew) | (with_reducible apply bel_drewN) | (with_reducible refine bel_trans ?_ (by with_reducible assumption)) | (with_reducible refine bel_trans ?_ (HF.out _)) | ((with_reducible refine bel_set3 ?_ ?_); rotate_left; omega)))⟩
end Go.Proofs.Ytfkbilbgndekkaa
