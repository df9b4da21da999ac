/- A certificate put into a DAG, at the program: what is refused. -/
import Derived.Test.YtfkbilbgndekkaaKc
import Derived.Deep.RegionWith
namespace Go.Proofs.Ytfkbilbgndekkaa
open Go.RowKit
set_option linter.unusedSimpArgs false
set_option linter.unusedVariables false

theorem blk3 (w : World) (t1 t2 t3 : TypeId) (c1 c2 c3 : List Value) : Blk (((w.alloc (.cells c1.toArray t1)).alloc (.cells c2.toArray t2)).alloc (.cells c3.toArray t3)) w.heap.size t1 c1 ∧ Blk (((w.alloc (.cells c1.toArray t1)).alloc (.cells c2.toArray t2)).alloc (.cells c3.toArray t3)) (w.heap.size + 1) t2 c2 ∧ Blk (((w.alloc (.cells c1.toArray t1)).alloc (.cells c2.toArray t2)).alloc (.cells c3.toArray t3)) (w.heap.size + 1 + 1) t3 c3 ∧ Below w.heap.size w (((w.alloc (.cells c1.toArray t1)).alloc (.cells c2.toArray t2)).alloc (.cells c3.toArray t3)) ∧ w.heap.size + 3 ≤ (((w.alloc (.cells c1.toArray t1)).alloc (.cells c2.toArray t2)).alloc (.cells c3.toArray t3)).heap.size := by
  refine ⟨(Blk.new w t1 c1).up (by (repeat (first | (with_reducible exact Below.refl _ _) | (with_reducible assumption) | (with_reducible apply bel_alloc) | (with_reducible apply bel_drew) | (with_reducible apply bel_drewN) | (with_reducible refine bel_trans ?_ (by with_reducible assumption)) | (with_reducible refine bel_trans ?_ (HF.out _)) | (with_reducible refine bel_set ?_ (by simp) _) | (with_reducible refine bel_set ?_ (by simp; omega) _) | (with_reducible refine bel_set ?_ (by omega) _)))), ?_, ?_, by (repeat (first | (with_reducible exact Below.refl _ _) | (with_reducible assumption) | (with_reducible apply bel_alloc) | (with_reducible apply bel_drew) | (with_reducible apply bel_drewN) | (with_reducible refine bel_trans ?_ (by with_reducible assumption)) | (with_reducible refine bel_trans ?_ (HF.out _)) | (with_reducible refine bel_set ?_ (by simp) _) | (with_reducible refine bel_set ?_ (by simp; omega) _) | (with_reducible refine bel_set ?_ (by omega) _))), by simp⟩
  · have := (Blk.new (w.alloc (.cells c1.toArray t1)) t2 c2).up (w' := ((w.alloc (.cells c1.toArray t1)).alloc (.cells c2.toArray t2)).alloc (.cells c3.toArray t3)) (by (repeat (first | (with_reducible exact Below.refl _ _) | (with_reducible assumption) | (with_reducible apply bel_alloc) | (with_reducible apply bel_drew) | (with_reducible apply bel_drewN) | (with_reducible refine bel_trans ?_ (by with_reducible assumption)) | (with_reducible refine bel_trans ?_ (HF.out _)) | (with_reducible refine bel_set ?_ (by simp) _) | (with_reducible refine bel_set ?_ (by simp; omega) _) | (with_reducible refine bel_set ?_ (by omega) _))))
    simpa using this
  · have := Blk.new ((w.alloc (.cells c1.toArray t1)).alloc (.cells c2.toArray t2)) t3 c3
    simpa using this
theorem posC_cut {l : List CertD} {r a : Int} (hP : Places l) : CutP l l.length r a (posC l r a) (posC l r a) := by
  have hp := posC_at r a l
  refine ⟨hp.1, fun t h1 h2 => ?_⟩
  rcases Nat.lt_or_ge (posC l r a) t with h | h
  · exact befS_no (hP.1 _ _ h h2) (hp.2 (by omega))
  · obtain rfl : t = posC l r a := by omega
    exact hp.2 h2
theorem cut_pos {l : List CertD} {r a : Int} {n lo : Nat} (hN : l.length = n) (hlo : lo ≤ n) (h : CutP l n r a lo lo) : posC l r a = lo := h.pos hN hlo
theorem dag_findAt (A : Option Addr) (n c : Nat) (l : List CertD) (r a : Int) (lo : Nat) (y : Bool) (w : World) (hl : CertsR w A n l) (hP : Places l) (hn : n ≤ 1000000000) (h3 : Sm r) (h4 : Sm a) (hlo : posC l r a = lo) (hy : hereS l r a lo = y) :
    Calls Try.prog 119 #[.slice A n c, .complex .f64 (fl r) (fl a)] w fun e w' => e = .returned (.tuple #[.int .i64 lo, .bool y]) ∧ Below w.heap.size w w' :=
  (dag_find A n c l r a w hl hP hn h3 h4).mono fun e w' ⟨lo', he, h1, h2, hb⟩ => by
    have e1 := h2.pos hl.1 h1
    rw [hlo] at e1
    subst e1
    rw [hy] at he
    exact ⟨he, hb⟩
/-- What find tells of a place. -/
theorem here_at {l : List CertD} {r a : Int} {lo : Nat} {y : Bool} (hP : Places l) (hlo : posC l r a = lo) (hy : hereS l r a lo = y) : (y = true ∧ atS l r a = (lo : Int) ∧ lo < l.length) ∨ (y = false ∧ atS l r a = -1) := by
  subst hlo
  rw [← hy]
  exact at_here hP (posC_cut hP)

set_option maxRecDepth 100000 in
set_option maxHeartbeats 4000000 in
theorem dag_Put_old (A : Option Addr) (n c : Nat) (D : DagD) (C : CertD) (bA pA sA : Option Addr) (bn bc pn pc sn sc : Nat) (w : World) (hl : CertsR w A n D.certs) (hr : CertR w ⟨⟨⟨bA, bn, bc⟩, ⟨pA, pn, pc⟩⟩, ⟨sA, sn, sc⟩⟩ C) (hok : DagOk D) (hC : certS C D.nodes = true) (hcap : n ≤ c) (hcb : c ≤ 9223372036854775807) (hq : C.h.ro ≤ D.low) :
    Calls Try.prog 84 #[.agg #[.int .i64 D.nodes, .int .i64 D.low, .slice A n c], .agg #[.int .i64 C.h.au, .int .i64 C.h.ro, .slice bA bn bc, .slice pA pn pc, .int .i64 C.di, .slice sA sn sc]] w fun e w' => e = .returned (.tuple #[.agg #[.int .i64 D.nodes, .int .i64 D.low, .slice A n c], .int .i64 6]) ∧ Below w.heap.size w w' := by
  have HL := Lib.hid hl
  have HR := Lib.hid hr
  have HN := Lib.hid hl.1
  have hn : n ≤ 65536 := by rw [← hl.1]; exact hok.2.2.2.1
  have HP := Lib.hid hok.places
  have HA := Lib.hid hok.auths
  have HOK := Lib.hid hok
  have HCS := Lib.hid hC
  have hsm := certS_sm hC
  have hs1 := hsm.1
  have hs2 := hsm.2
  have hbd := certS_bd hC
  have hr1 : 1 ≤ C.h.ro := hbd.2.2.2.2.2.1
  have hr2 : C.h.ro ≤ 1099511627776 := hbd.2.2.2.2.2.2.1
  have hlo1 : 0 ≤ D.low := hok.2.1
  have hlo2 : D.low ≤ 1099511627776 := hok.2.2.1
  obtain ⟨lo, hlo⟩ : ∃ lo, posC D.certs C.h.ro C.h.au = lo := ⟨_, rfl⟩
  obtain ⟨y, hy⟩ : ∃ y, hereS D.certs C.h.ro C.h.au lo = y := ⟨_, rfl⟩
  have hln : lo ≤ n := by rw [← hlo, ← hl.1]; exact posC_le _ _ _
  have hhere := here_at (l := D.certs) hok.places hlo hy
  have HLO := Lib.hid hlo
  have HY := Lib.hid hy
  have hd : decide (C.h.ro ≤ D.low) = true := by simpa using hq
  clear hq
  clear hl hr hok hC hsm hbd hlo hy
  go_enter Try.func84, Try.ntmps84
  go_wp2_with fail
  obtain ⟨hX1, hX2, hX3, hbX, hzX⟩ := blk3 w 24 48 24 [.int .i64 D.nodes, .int .i64 D.low, .slice A n c] [.int .i64 C.h.au, .int .i64 C.h.ro, .slice bA bn bc, .slice pA pn pc, .int .i64 C.di, .slice sA sn sc] [.int .i64 0, .int .i64 0, .slice none 0 0]
  generalize (((w.alloc (.cells #[.int .i64 D.nodes, .int .i64 D.low, .slice A n c] 24)).alloc (.cells #[.int .i64 C.h.au, .int .i64 C.h.ro, .slice bA bn bc, .slice pA pn pc, .int .i64 C.di, .slice sA sn sc] 48)).alloc (.cells #[.int .i64 0, .int .i64 0, .slice none 0 0] 24)) = X at *
  have d_0 := (hX1.box).2 0 _ rfl; have d_1 := (hX1.box).2 1 _ rfl; have d_2 := (hX1.box).2 2 _ rfl
  have e_0 := (hX2.box).2 0 _ rfl; have e_1 := (hX2.box).2 1 _ rfl; have e_2 := (hX2.box).2 2 _ rfl; have e_3 := (hX2.box).2 3 _ rfl; have e_4 := (hX2.box).2 4 _ rfl; have e_5 := (hX2.box).2 5 _ rfl
  have HX1 := Lib.hid hX1
  have HX2 := Lib.hid hX2
  have HX3 := Lib.hid hX3
  have HLX := Lib.hid (HL.out.up hbX)
  clear hX1 hX2 hX3
  refine wp_region_fam (by kernel_rfl) (by kernel_rfl) (fun ι F hne hF hcl => ?_)
  have hcF0 := fun n o => (bcell (hF n)).1 (w.heap.size) o (by first | (simp; done) | (simp; omega) | omega)
  have hcF1 := fun n o => (bcell (hF n)).1 (w.heap.size + 1) o (by first | (simp; done) | (simp; omega) | omega)
  have HF := Lib.hid hF; clear hF
  have HC := Lib.hid hcl; clear hcl
  repeat (any_goals (first
   | go_big_quiet_step (first | (go_at_call 102; exact Calls.fam HC.out (dag_Place' _ _ _ _ _ _ _ _ _ _ _ _ _)) | (go_at_call 119; exact Calls.fam HC.out (dag_findAt A n c D.certs C.h.ro C.h.au lo _ _ (HLX.out.up (HF.out _)) HP.out (by omega) hs1 hs2 HLO.out HY.out)))
   | (refine wpQuiet_guard _ _ _ rfl rfl ?_; (fail_if_success (intro b' hb; have h2 := hb.symm; have : b' = true := h2.trans (by with_reducible rfl))); (fail_if_success (intro b' hb; have h2 := hb.symm; have : b' = false := h2.trans (by with_reducible rfl))); intro b' hb; simp only [hb]; cases b' <;> (try simp only [Bool.not_eq_true', Bool.not_eq_false', decide_eq_true_eq, decide_eq_false_iff_not, Int.not_lt, Int.not_le, Bool.and_eq_true, Bool.or_eq_true, Bool.or_eq_false_iff, beq_iff_eq, beq_eq_false_iff_ne, Int.natCast_pos] at hb))))
  all_goals (refine wpQuiet_nil ?_; intro nq)
  have hFwf := HF.out nq
  clear HF HC hne
  generalize F nq = wf at *
  have hbwf : Below w.heap.size w wf := bel_trans hbX hFwf
  have hX1 := HX1.out.up hFwf
  have hX2 := HX2.out.up hFwf
  have hX3 := HX3.out.up hFwf
  have hzf : w.heap.size + 3 ≤ wf.heap.size := Nat.le_trans hzX hFwf.size
  clear hcF0 hcF1 d_0 d_1 d_2 e_0 e_1 e_2 e_3 e_4 e_5 HX1 HX2 HX3 HLX
  have d_0 := (hX1.box).2 0 _ rfl; have d_1 := (hX1.box).2 1 _ rfl; have d_2 := (hX1.box).2 2 _ rfl
  have e_0 := (hX2.box).2 0 _ rfl; have e_1 := (hX2.box).2 1 _ rfl; have e_2 := (hX2.box).2 2 _ rfl; have e_3 := (hX2.box).2 3 _ rfl; have e_4 := (hX2.box).2 4 _ rfl; have e_5 := (hX2.box).2 5 _ rfl
  have hX3l := hX3.lt
  have hX3f := hX3.frozen
  have hR := ((hX3.set_ 0 (.int .i64 D.nodes)).set_ 1 (.int .i64 D.low)).set_ 2 (.slice A n c)
  have r_0 := (hR.box).2 0 _ rfl; have r_1 := (hR.box).2 1 _ rfl; have r_2 := (hR.box).2 2 _ rfl
  have k_0 := (hX3.box).2 0 _ rfl; have k_1 := (hX3.box).2 1 _ rfl; have k_2 := (hX3.box).2 2 _ rfl
  clear hR
  go_wp2_with fail
  exact bodyPost_ret (v := .tuple #[.agg #[.int .i64 D.nodes, .int .i64 D.low, .slice A n c], .int .i64 6]) (by simp [results, Try.results84, go_sem, r_0, r_1, r_2]) rfl ⟨rfl, by (repeat (first | (with_reducible exact Below.refl _ _) | (with_reducible assumption) | (with_reducible apply bel_alloc) | (with_reducible apply bel_drew) | (with_reducible apply bel_drewN) | (with_reducible refine bel_trans ?_ (by with_reducible assumption)) | (with_reducible refine bel_trans ?_ (HF.out _)) | ((with_reducible refine bel_set3 ?_ ?_); rotate_left; omega)))⟩
set_option maxRecDepth 100000 in
set_option maxHeartbeats 4000000 in
theorem dag_Put_there (A : Option Addr) (n c : Nat) (D : DagD) (C : CertD) (bA pA sA : Option Addr) (bn bc pn pc sn sc : Nat) (w : World) (hl : CertsR w A n D.certs) (hr : CertR w ⟨⟨⟨bA, bn, bc⟩, ⟨pA, pn, pc⟩⟩, ⟨sA, sn, sc⟩⟩ C) (hok : DagOk D) (hC : certS C D.nodes = true) (hcap : n ≤ c) (hcb : c ≤ 9223372036854775807) (hq : ¬ C.h.ro ≤ D.low) (hat : 0 ≤ atS D.certs C.h.ro C.h.au) (hdi : (cth D.certs (atS D.certs C.h.ro C.h.au).toNat).di = C.di) :
    Calls Try.prog 84 #[.agg #[.int .i64 D.nodes, .int .i64 D.low, .slice A n c], .agg #[.int .i64 C.h.au, .int .i64 C.h.ro, .slice bA bn bc, .slice pA pn pc, .int .i64 C.di, .slice sA sn sc]] w fun e w' => e = .returned (.tuple #[.agg #[.int .i64 D.nodes, .int .i64 D.low, .slice A n c], .int .i64 4]) ∧ Below w.heap.size w w' := by
  have HL := Lib.hid hl
  have HR := Lib.hid hr
  have HN := Lib.hid hl.1
  have hn : n ≤ 65536 := by rw [← hl.1]; exact hok.2.2.2.1
  have HP := Lib.hid hok.places
  have HA := Lib.hid hok.auths
  have HOK := Lib.hid hok
  have HCS := Lib.hid hC
  have hsm := certS_sm hC
  have hs1 := hsm.1
  have hs2 := hsm.2
  have hbd := certS_bd hC
  have hr1 : 1 ≤ C.h.ro := hbd.2.2.2.2.2.1
  have hr2 : C.h.ro ≤ 1099511627776 := hbd.2.2.2.2.2.2.1
  have hlo1 : 0 ≤ D.low := hok.2.1
  have hlo2 : D.low ≤ 1099511627776 := hok.2.2.1
  obtain ⟨lo, hlo⟩ : ∃ lo, posC D.certs C.h.ro C.h.au = lo := ⟨_, rfl⟩
  obtain ⟨y, hy⟩ : ∃ y, hereS D.certs C.h.ro C.h.au lo = y := ⟨_, rfl⟩
  have hln : lo ≤ n := by rw [← hlo, ← hl.1]; exact posC_le _ _ _
  have hhere := here_at (l := D.certs) hok.places hlo hy
  have HLO := Lib.hid hlo
  have HY := Lib.hid hy
  have hd : decide (C.h.ro ≤ D.low) = false := by simpa using hq
  obtain ⟨rfl, hat2, hlt⟩ : y = true ∧ atS D.certs C.h.ro C.h.au = (lo : Int) ∧ lo < n := by
    rcases hhere with ⟨h1, h2, h3⟩ | ⟨h1, h2⟩
    · exact ⟨h1, h2, by rw [← hl.1]; exact h3⟩
    · omega
  rw [hat2, Int.toNat_natCast] at hdi
  have hdb : ((cth D.certs lo).di == C.di) = true := by simpa using hdi
  clear hhere hat hat2 hdi hq
  clear hl hr hok hC hsm hbd hlo hy
  go_enter Try.func84, Try.ntmps84
  go_wp2_with fail
  obtain ⟨hX1, hX2, hX3, hbX, hzX⟩ := blk3 w 24 48 24 [.int .i64 D.nodes, .int .i64 D.low, .slice A n c] [.int .i64 C.h.au, .int .i64 C.h.ro, .slice bA bn bc, .slice pA pn pc, .int .i64 C.di, .slice sA sn sc] [.int .i64 0, .int .i64 0, .slice none 0 0]
  generalize (((w.alloc (.cells #[.int .i64 D.nodes, .int .i64 D.low, .slice A n c] 24)).alloc (.cells #[.int .i64 C.h.au, .int .i64 C.h.ro, .slice bA bn bc, .slice pA pn pc, .int .i64 C.di, .slice sA sn sc] 48)).alloc (.cells #[.int .i64 0, .int .i64 0, .slice none 0 0] 24)) = X at *
  have d_0 := (hX1.box).2 0 _ rfl; have d_1 := (hX1.box).2 1 _ rfl; have d_2 := (hX1.box).2 2 _ rfl
  have e_0 := (hX2.box).2 0 _ rfl; have e_1 := (hX2.box).2 1 _ rfl; have e_2 := (hX2.box).2 2 _ rfl; have e_3 := (hX2.box).2 3 _ rfl; have e_4 := (hX2.box).2 4 _ rfl; have e_5 := (hX2.box).2 5 _ rfl
  have HX1 := Lib.hid hX1
  have HX2 := Lib.hid hX2
  have HX3 := Lib.hid hX3
  have HLX := Lib.hid (HL.out.up hbX)
  clear hX1 hX2 hX3
  refine wp_region_fam (by kernel_rfl) (by kernel_rfl) (fun ι F hne hF hcl => ?_)
  have hcF0 := fun n o => (bcell (hF n)).1 (w.heap.size) o (by first | (simp; done) | (simp; omega) | omega)
  have hcF1 := fun n o => (bcell (hF n)).1 (w.heap.size + 1) o (by first | (simp; done) | (simp; omega) | omega)
  have HF := Lib.hid hF; clear hF
  have HC := Lib.hid hcl; clear hcl
  repeat (any_goals (first
   | go_big_quiet_step (first | (go_at_call 102; exact Calls.fam HC.out (dag_Place' _ _ _ _ _ _ _ _ _ _ _ _ _)) | (go_at_call 119; exact Calls.fam HC.out (dag_findAt A n c D.certs C.h.ro C.h.au lo _ _ (HLX.out.up (HF.out _)) HP.out (by omega) hs1 hs2 HLO.out HY.out)))
   | (refine wpQuiet_guard _ _ _ rfl rfl ?_; (fail_if_success (intro b' hb; have h2 := hb.symm; have : b' = true := h2.trans (by with_reducible rfl))); (fail_if_success (intro b' hb; have h2 := hb.symm; have : b' = false := h2.trans (by with_reducible rfl))); intro b' hb; simp only [hb]; cases b' <;> (try simp only [Bool.not_eq_true', Bool.not_eq_false', decide_eq_true_eq, decide_eq_false_iff_not, Int.not_lt, Int.not_le, Bool.and_eq_true, Bool.or_eq_true, Bool.or_eq_false_iff, beq_iff_eq, beq_eq_false_iff_ne, Int.natCast_pos] at hb))))
  all_goals (refine wpQuiet_nil ?_; intro nq)
  have hFwf := HF.out nq
  clear HF HC hne
  generalize F nq = wf at *
  have hbwf : Below w.heap.size w wf := bel_trans hbX hFwf
  have hX1 := HX1.out.up hFwf
  have hX2 := HX2.out.up hFwf
  have hX3 := HX3.out.up hFwf
  have hzf : w.heap.size + 3 ≤ wf.heap.size := Nat.le_trans hzX hFwf.size
  clear hcF0 hcF1 d_0 d_1 d_2 e_0 e_1 e_2 e_3 e_4 e_5 HX1 HX2 HX3 HLX
  have d_0 := (hX1.box).2 0 _ rfl; have d_1 := (hX1.box).2 1 _ rfl; have d_2 := (hX1.box).2 2 _ rfl
  have e_0 := (hX2.box).2 0 _ rfl; have e_1 := (hX2.box).2 1 _ rfl; have e_2 := (hX2.box).2 2 _ rfl; have e_3 := (hX2.box).2 3 _ rfl; have e_4 := (hX2.box).2 4 _ rfl; have e_5 := (hX2.box).2 5 _ rfl
  have hX3l := hX3.lt
  have hX3f := hX3.frozen
  obtain ⟨cb, coff, rfl, hcb1, hcc⟩ := (HL.out.up hbwf).2.2 (by omega)
  obtain ⟨pp, hat, _⟩ := hcc lo hlt
  obtain ⟨q0, q1, q2, q3, q4, q5⟩ := hat
  clear hcc
  have HX1 := Lib.hid hX1
  have HX2 := Lib.hid hX2
  have HX3 := Lib.hid hX3
  clear hX1 hX2 hX3
  go_wp2_with fail
  refine wp_region_fam (by kernel_rfl) (by kernel_rfl) (fun ι F hne hF hcl => ?_)
  have hcF0 := fun n o => (bcell (hF n)).1 (w.heap.size) o (by first | (simp; done) | (simp; omega) | omega)
  have hcF1 := fun n o => (bcell (hF n)).1 (w.heap.size + 1) o (by first | (simp; done) | (simp; omega) | omega)
  have hcF2 := fun n o => (bcell (hF n)).1 (cb) o (by first | (simp; done) | (simp; omega) | omega)
  have HF := Lib.hid hF; clear hF
  have HC := Lib.hid hcl; clear hcl
  repeat (any_goals (first
   | go_big_quiet_step (first | (fail))
   | (refine wpQuiet_guard _ _ _ rfl rfl ?_; (fail_if_success (intro b' hb; have h2 := hb.symm; have : b' = true := h2.trans (by with_reducible rfl))); (fail_if_success (intro b' hb; have h2 := hb.symm; have : b' = false := h2.trans (by with_reducible rfl))); intro b' hb; simp only [hb]; cases b' <;> (try simp only [Bool.not_eq_true', Bool.not_eq_false', decide_eq_true_eq, decide_eq_false_iff_not, Int.not_lt, Int.not_le, Bool.and_eq_true, Bool.or_eq_true, Bool.or_eq_false_iff, beq_iff_eq, beq_eq_false_iff_ne, Int.natCast_pos] at hb))))
  all_goals (refine wpQuiet_nil ?_; intro nq)
  all_goals (try (exfalso; omega))
  have hFwg := HF.out nq
  clear HF HC hne
  generalize F nq = wg at *
  have hbwg : Below w.heap.size w wg := bel_trans hbwf hFwg
  have hX1 := HX1.out.up hFwg
  have hX2 := HX2.out.up hFwg
  have hX3 := HX3.out.up hFwg
  have hzg : w.heap.size + 3 ≤ wg.heap.size := Nat.le_trans hzf hFwg.size
  clear hcF0 hcF1 hcF2 d_0 d_1 d_2 e_0 e_1 e_2 e_3 e_4 e_5 HX1 HX2 HX3 hX3f hX3l q0 q1 q2 q3 q4 q5
  have d_0 := (hX1.box).2 0 _ rfl; have d_1 := (hX1.box).2 1 _ rfl; have d_2 := (hX1.box).2 2 _ rfl
  have e_0 := (hX2.box).2 0 _ rfl; have e_1 := (hX2.box).2 1 _ rfl; have e_2 := (hX2.box).2 2 _ rfl; have e_3 := (hX2.box).2 3 _ rfl; have e_4 := (hX2.box).2 4 _ rfl; have e_5 := (hX2.box).2 5 _ rfl
  have hX3l := hX3.lt
  have hX3f := hX3.frozen
  have hR := ((hX3.set_ 0 (.int .i64 D.nodes)).set_ 1 (.int .i64 D.low)).set_ 2 (.slice (some ⟨cb, coff, none⟩) n c)
  have r_0 := (hR.box).2 0 _ rfl; have r_1 := (hR.box).2 1 _ rfl; have r_2 := (hR.box).2 2 _ rfl
  have k_0 := (hX3.box).2 0 _ rfl; have k_1 := (hX3.box).2 1 _ rfl; have k_2 := (hX3.box).2 2 _ rfl
  clear hR
  go_wp2_with fail
  exact bodyPost_ret (v := .tuple #[.agg #[.int .i64 D.nodes, .int .i64 D.low, .slice (some ⟨cb, coff, none⟩) n c], .int .i64 4]) (by simp [results, Try.results84, go_sem, r_0, r_1, r_2]) rfl ⟨rfl, by (repeat (first | (with_reducible exact Below.refl _ _) | (with_reducible assumption) | (with_reducible apply bel_alloc) | (with_reducible apply bel_drew) | (with_reducible apply bel_drewN) | (with_reducible refine bel_trans ?_ (by with_reducible assumption)) | (with_reducible refine bel_trans ?_ (HF.out _)) | ((with_reducible refine bel_set3 ?_ ?_); rotate_left; omega)))⟩
set_option maxRecDepth 100000 in
set_option maxHeartbeats 4000000 in
theorem dag_Put_two (A : Option Addr) (n c : Nat) (D : DagD) (C : CertD) (bA pA sA : Option Addr) (bn bc pn pc sn sc : Nat) (w : World) (hl : CertsR w A n D.certs) (hr : CertR w ⟨⟨⟨bA, bn, bc⟩, ⟨pA, pn, pc⟩⟩, ⟨sA, sn, sc⟩⟩ C) (hok : DagOk D) (hC : certS C D.nodes = true) (hcap : n ≤ c) (hcb : c ≤ 9223372036854775807) (hq : ¬ C.h.ro ≤ D.low) (hat : 0 ≤ atS D.certs C.h.ro C.h.au) (hdi : ¬ (cth D.certs (atS D.certs C.h.ro C.h.au).toNat).di = C.di) :
    Calls Try.prog 84 #[.agg #[.int .i64 D.nodes, .int .i64 D.low, .slice A n c], .agg #[.int .i64 C.h.au, .int .i64 C.h.ro, .slice bA bn bc, .slice pA pn pc, .int .i64 C.di, .slice sA sn sc]] w fun e w' => e = .returned (.tuple #[.agg #[.int .i64 D.nodes, .int .i64 D.low, .slice A n c], .int .i64 5]) ∧ Below w.heap.size w w' := by
  have HL := Lib.hid hl
  have HR := Lib.hid hr
  have HN := Lib.hid hl.1
  have hn : n ≤ 65536 := by rw [← hl.1]; exact hok.2.2.2.1
  have HP := Lib.hid hok.places
  have HA := Lib.hid hok.auths
  have HOK := Lib.hid hok
  have HCS := Lib.hid hC
  have hsm := certS_sm hC
  have hs1 := hsm.1
  have hs2 := hsm.2
  have hbd := certS_bd hC
  have hr1 : 1 ≤ C.h.ro := hbd.2.2.2.2.2.1
  have hr2 : C.h.ro ≤ 1099511627776 := hbd.2.2.2.2.2.2.1
  have hlo1 : 0 ≤ D.low := hok.2.1
  have hlo2 : D.low ≤ 1099511627776 := hok.2.2.1
  obtain ⟨lo, hlo⟩ : ∃ lo, posC D.certs C.h.ro C.h.au = lo := ⟨_, rfl⟩
  obtain ⟨y, hy⟩ : ∃ y, hereS D.certs C.h.ro C.h.au lo = y := ⟨_, rfl⟩
  have hln : lo ≤ n := by rw [← hlo, ← hl.1]; exact posC_le _ _ _
  have hhere := here_at (l := D.certs) hok.places hlo hy
  have HLO := Lib.hid hlo
  have HY := Lib.hid hy
  have hd : decide (C.h.ro ≤ D.low) = false := by simpa using hq
  obtain ⟨rfl, hat2, hlt⟩ : y = true ∧ atS D.certs C.h.ro C.h.au = (lo : Int) ∧ lo < n := by
    rcases hhere with ⟨h1, h2, h3⟩ | ⟨h1, h2⟩
    · exact ⟨h1, h2, by rw [← hl.1]; exact h3⟩
    · omega
  rw [hat2, Int.toNat_natCast] at hdi
  have hdb : ((cth D.certs lo).di == C.di) = false := by simpa using hdi
  clear hhere hat hat2 hdi hq
  clear hl hr hok hC hsm hbd hlo hy
  go_enter Try.func84, Try.ntmps84
  go_wp2_with fail
  obtain ⟨hX1, hX2, hX3, hbX, hzX⟩ := blk3 w 24 48 24 [.int .i64 D.nodes, .int .i64 D.low, .slice A n c] [.int .i64 C.h.au, .int .i64 C.h.ro, .slice bA bn bc, .slice pA pn pc, .int .i64 C.di, .slice sA sn sc] [.int .i64 0, .int .i64 0, .slice none 0 0]
  generalize (((w.alloc (.cells #[.int .i64 D.nodes, .int .i64 D.low, .slice A n c] 24)).alloc (.cells #[.int .i64 C.h.au, .int .i64 C.h.ro, .slice bA bn bc, .slice pA pn pc, .int .i64 C.di, .slice sA sn sc] 48)).alloc (.cells #[.int .i64 0, .int .i64 0, .slice none 0 0] 24)) = X at *
  have d_0 := (hX1.box).2 0 _ rfl; have d_1 := (hX1.box).2 1 _ rfl; have d_2 := (hX1.box).2 2 _ rfl
  have e_0 := (hX2.box).2 0 _ rfl; have e_1 := (hX2.box).2 1 _ rfl; have e_2 := (hX2.box).2 2 _ rfl; have e_3 := (hX2.box).2 3 _ rfl; have e_4 := (hX2.box).2 4 _ rfl; have e_5 := (hX2.box).2 5 _ rfl
  have HX1 := Lib.hid hX1
  have HX2 := Lib.hid hX2
  have HX3 := Lib.hid hX3
  have HLX := Lib.hid (HL.out.up hbX)
  clear hX1 hX2 hX3
  refine wp_region_fam (by kernel_rfl) (by kernel_rfl) (fun ι F hne hF hcl => ?_)
  have hcF0 := fun n o => (bcell (hF n)).1 (w.heap.size) o (by first | (simp; done) | (simp; omega) | omega)
  have hcF1 := fun n o => (bcell (hF n)).1 (w.heap.size + 1) o (by first | (simp; done) | (simp; omega) | omega)
  have HF := Lib.hid hF; clear hF
  have HC := Lib.hid hcl; clear hcl
  repeat (any_goals (first
   | go_big_quiet_step (first | (go_at_call 102; exact Calls.fam HC.out (dag_Place' _ _ _ _ _ _ _ _ _ _ _ _ _)) | (go_at_call 119; exact Calls.fam HC.out (dag_findAt A n c D.certs C.h.ro C.h.au lo _ _ (HLX.out.up (HF.out _)) HP.out (by omega) hs1 hs2 HLO.out HY.out)))
   | (refine wpQuiet_guard _ _ _ rfl rfl ?_; (fail_if_success (intro b' hb; have h2 := hb.symm; have : b' = true := h2.trans (by with_reducible rfl))); (fail_if_success (intro b' hb; have h2 := hb.symm; have : b' = false := h2.trans (by with_reducible rfl))); intro b' hb; simp only [hb]; cases b' <;> (try simp only [Bool.not_eq_true', Bool.not_eq_false', decide_eq_true_eq, decide_eq_false_iff_not, Int.not_lt, Int.not_le, Bool.and_eq_true, Bool.or_eq_true, Bool.or_eq_false_iff, beq_iff_eq, beq_eq_false_iff_ne, Int.natCast_pos] at hb))))
  all_goals (refine wpQuiet_nil ?_; intro nq)
  have hFwf := HF.out nq
  clear HF HC hne
  generalize F nq = wf at *
  have hbwf : Below w.heap.size w wf := bel_trans hbX hFwf
  have hX1 := HX1.out.up hFwf
  have hX2 := HX2.out.up hFwf
  have hX3 := HX3.out.up hFwf
  have hzf : w.heap.size + 3 ≤ wf.heap.size := Nat.le_trans hzX hFwf.size
  clear hcF0 hcF1 d_0 d_1 d_2 e_0 e_1 e_2 e_3 e_4 e_5 HX1 HX2 HX3 HLX
  have d_0 := (hX1.box).2 0 _ rfl; have d_1 := (hX1.box).2 1 _ rfl; have d_2 := (hX1.box).2 2 _ rfl
  have e_0 := (hX2.box).2 0 _ rfl; have e_1 := (hX2.box).2 1 _ rfl; have e_2 := (hX2.box).2 2 _ rfl; have e_3 := (hX2.box).2 3 _ rfl; have e_4 := (hX2.box).2 4 _ rfl; have e_5 := (hX2.box).2 5 _ rfl
  have hX3l := hX3.lt
  have hX3f := hX3.frozen
  obtain ⟨cb, coff, rfl, hcb1, hcc⟩ := (HL.out.up hbwf).2.2 (by omega)
  obtain ⟨pp, hat, _⟩ := hcc lo hlt
  obtain ⟨q0, q1, q2, q3, q4, q5⟩ := hat
  clear hcc
  have HX1 := Lib.hid hX1
  have HX2 := Lib.hid hX2
  have HX3 := Lib.hid hX3
  clear hX1 hX2 hX3
  go_wp2_with fail
  refine wp_region_fam (by kernel_rfl) (by kernel_rfl) (fun ι F hne hF hcl => ?_)
  have hcF0 := fun n o => (bcell (hF n)).1 (w.heap.size) o (by first | (simp; done) | (simp; omega) | omega)
  have hcF1 := fun n o => (bcell (hF n)).1 (w.heap.size + 1) o (by first | (simp; done) | (simp; omega) | omega)
  have hcF2 := fun n o => (bcell (hF n)).1 (cb) o (by first | (simp; done) | (simp; omega) | omega)
  have HF := Lib.hid hF; clear hF
  have HC := Lib.hid hcl; clear hcl
  repeat (any_goals (first
   | go_big_quiet_step (first | (fail))
   | (refine wpQuiet_guard _ _ _ rfl rfl ?_; (fail_if_success (intro b' hb; have h2 := hb.symm; have : b' = true := h2.trans (by with_reducible rfl))); (fail_if_success (intro b' hb; have h2 := hb.symm; have : b' = false := h2.trans (by with_reducible rfl))); intro b' hb; simp only [hb]; cases b' <;> (try simp only [Bool.not_eq_true', Bool.not_eq_false', decide_eq_true_eq, decide_eq_false_iff_not, Int.not_lt, Int.not_le, Bool.and_eq_true, Bool.or_eq_true, Bool.or_eq_false_iff, beq_iff_eq, beq_eq_false_iff_ne, Int.natCast_pos] at hb))))
  all_goals (refine wpQuiet_nil ?_; intro nq)
  all_goals (try (exfalso; omega))
  have hFwg := HF.out nq
  clear HF HC hne
  generalize F nq = wg at *
  have hbwg : Below w.heap.size w wg := bel_trans hbwf hFwg
  have hX1 := HX1.out.up hFwg
  have hX2 := HX2.out.up hFwg
  have hX3 := HX3.out.up hFwg
  have hzg : w.heap.size + 3 ≤ wg.heap.size := Nat.le_trans hzf hFwg.size
  clear hcF0 hcF1 hcF2 d_0 d_1 d_2 e_0 e_1 e_2 e_3 e_4 e_5 HX1 HX2 HX3 hX3f hX3l q0 q1 q2 q3 q4 q5
  have d_0 := (hX1.box).2 0 _ rfl; have d_1 := (hX1.box).2 1 _ rfl; have d_2 := (hX1.box).2 2 _ rfl
  have e_0 := (hX2.box).2 0 _ rfl; have e_1 := (hX2.box).2 1 _ rfl; have e_2 := (hX2.box).2 2 _ rfl; have e_3 := (hX2.box).2 3 _ rfl; have e_4 := (hX2.box).2 4 _ rfl; have e_5 := (hX2.box).2 5 _ rfl
  have hX3l := hX3.lt
  have hX3f := hX3.frozen
  have hR := ((hX3.set_ 0 (.int .i64 D.nodes)).set_ 1 (.int .i64 D.low)).set_ 2 (.slice (some ⟨cb, coff, none⟩) n c)
  have r_0 := (hR.box).2 0 _ rfl; have r_1 := (hR.box).2 1 _ rfl; have r_2 := (hR.box).2 2 _ rfl
  have k_0 := (hX3.box).2 0 _ rfl; have k_1 := (hX3.box).2 1 _ rfl; have k_2 := (hX3.box).2 2 _ rfl
  clear hR
  go_wp2_with fail
  exact bodyPost_ret (v := .tuple #[.agg #[.int .i64 D.nodes, .int .i64 D.low, .slice (some ⟨cb, coff, none⟩) n c], .int .i64 5]) (by simp [results, Try.results84, go_sem, r_0, r_1, r_2]) rfl ⟨rfl, by (repeat (first | (with_reducible exact Below.refl _ _) | (with_reducible assumption) | (with_reducible apply bel_alloc) | (with_reducible apply bel_drew) | (with_reducible apply bel_drewN) | (with_reducible refine bel_trans ?_ (by with_reducible assumption)) | (with_reducible refine bel_trans ?_ (HF.out _)) | ((with_reducible refine bel_set3 ?_ ?_); rotate_left; omega)))⟩
set_option maxRecDepth 100000 in
set_option maxHeartbeats 4000000 in
theorem dag_Put_has (A : Option Addr) (n c : Nat) (D : DagD) (C : CertD) (bA pA sA : Option Addr) (bn bc pn pc sn sc : Nat) (w : World) (hl : CertsR w A n D.certs) (hr : CertR w ⟨⟨⟨bA, bn, bc⟩, ⟨pA, pn, pc⟩⟩, ⟨sA, sn, sc⟩⟩ C) (hok : DagOk D) (hC : certS C D.nodes = true) (hcap : n ≤ c) (hcb : c ≤ 9223372036854775807) (hq : ¬ C.h.ro ≤ D.low) (hat : atS D.certs C.h.ro C.h.au < 0) (hdi : 0 ≤ findS D.certs C.di) :
    Calls Try.prog 84 #[.agg #[.int .i64 D.nodes, .int .i64 D.low, .slice A n c], .agg #[.int .i64 C.h.au, .int .i64 C.h.ro, .slice bA bn bc, .slice pA pn pc, .int .i64 C.di, .slice sA sn sc]] w fun e w' => e = .returned (.tuple #[.agg #[.int .i64 D.nodes, .int .i64 D.low, .slice A n c], .int .i64 5]) ∧ Below w.heap.size w w' := by
  have HL := Lib.hid hl
  have HR := Lib.hid hr
  have HN := Lib.hid hl.1
  have hn : n ≤ 65536 := by rw [← hl.1]; exact hok.2.2.2.1
  have HP := Lib.hid hok.places
  have HA := Lib.hid hok.auths
  have HOK := Lib.hid hok
  have HCS := Lib.hid hC
  have hsm := certS_sm hC
  have hs1 := hsm.1
  have hs2 := hsm.2
  have hbd := certS_bd hC
  have hr1 : 1 ≤ C.h.ro := hbd.2.2.2.2.2.1
  have hr2 : C.h.ro ≤ 1099511627776 := hbd.2.2.2.2.2.2.1
  have hlo1 : 0 ≤ D.low := hok.2.1
  have hlo2 : D.low ≤ 1099511627776 := hok.2.2.1
  obtain ⟨lo, hlo⟩ : ∃ lo, posC D.certs C.h.ro C.h.au = lo := ⟨_, rfl⟩
  obtain ⟨y, hy⟩ : ∃ y, hereS D.certs C.h.ro C.h.au lo = y := ⟨_, rfl⟩
  have hln : lo ≤ n := by rw [← hlo, ← hl.1]; exact posC_le _ _ _
  have hhere := here_at (l := D.certs) hok.places hlo hy
  have HLO := Lib.hid hlo
  have HY := Lib.hid hy
  have hd : decide (C.h.ro ≤ D.low) = false := by simpa using hq
  obtain rfl : y = false := by
    rcases hhere with ⟨h1, h2, h3⟩ | ⟨h1, h2⟩
    · omega
    · exact h1
  obtain ⟨hv, hhv⟩ : ∃ hv, hasC D.certs C.di = hv := ⟨_, rfl⟩
  obtain rfl : hv = true := by rw [← hhv]; unfold hasC; simpa using hdi
  have HHV := Lib.hid hhv
  clear hhere hat hdi hq hhv
  clear hl hr hok hC hsm hbd hlo hy
  go_enter Try.func84, Try.ntmps84
  go_wp2_with fail
  obtain ⟨hX1, hX2, hX3, hbX, hzX⟩ := blk3 w 24 48 24 [.int .i64 D.nodes, .int .i64 D.low, .slice A n c] [.int .i64 C.h.au, .int .i64 C.h.ro, .slice bA bn bc, .slice pA pn pc, .int .i64 C.di, .slice sA sn sc] [.int .i64 0, .int .i64 0, .slice none 0 0]
  generalize (((w.alloc (.cells #[.int .i64 D.nodes, .int .i64 D.low, .slice A n c] 24)).alloc (.cells #[.int .i64 C.h.au, .int .i64 C.h.ro, .slice bA bn bc, .slice pA pn pc, .int .i64 C.di, .slice sA sn sc] 48)).alloc (.cells #[.int .i64 0, .int .i64 0, .slice none 0 0] 24)) = X at *
  have d_0 := (hX1.box).2 0 _ rfl; have d_1 := (hX1.box).2 1 _ rfl; have d_2 := (hX1.box).2 2 _ rfl
  have e_0 := (hX2.box).2 0 _ rfl; have e_1 := (hX2.box).2 1 _ rfl; have e_2 := (hX2.box).2 2 _ rfl; have e_3 := (hX2.box).2 3 _ rfl; have e_4 := (hX2.box).2 4 _ rfl; have e_5 := (hX2.box).2 5 _ rfl
  have HX1 := Lib.hid hX1
  have HX2 := Lib.hid hX2
  have HX3 := Lib.hid hX3
  have HLX := Lib.hid (HL.out.up hbX)
  clear hX1 hX2 hX3
  refine wp_region_fam (by kernel_rfl) (by kernel_rfl) (fun ι F hne hF hcl => ?_)
  have hcF0 := fun n o => (bcell (hF n)).1 (w.heap.size) o (by first | (simp; done) | (simp; omega) | omega)
  have hcF1 := fun n o => (bcell (hF n)).1 (w.heap.size + 1) o (by first | (simp; done) | (simp; omega) | omega)
  have HF := Lib.hid hF; clear hF
  have HC := Lib.hid hcl; clear hcl
  repeat (any_goals (first
   | go_big_quiet_step (first | (go_at_call 102; exact Calls.fam HC.out (dag_Place' _ _ _ _ _ _ _ _ _ _ _ _ _)) | (go_at_call 119; exact Calls.fam HC.out (dag_findAt A n c D.certs C.h.ro C.h.au lo _ _ (HLX.out.up (HF.out _)) HP.out (by omega) hs1 hs2 HLO.out HY.out)))
   | (refine wpQuiet_guard _ _ _ rfl rfl ?_; (fail_if_success (intro b' hb; have h2 := hb.symm; have : b' = true := h2.trans (by with_reducible rfl))); (fail_if_success (intro b' hb; have h2 := hb.symm; have : b' = false := h2.trans (by with_reducible rfl))); intro b' hb; simp only [hb]; cases b' <;> (try simp only [Bool.not_eq_true', Bool.not_eq_false', decide_eq_true_eq, decide_eq_false_iff_not, Int.not_lt, Int.not_le, Bool.and_eq_true, Bool.or_eq_true, Bool.or_eq_false_iff, beq_iff_eq, beq_eq_false_iff_ne, Int.natCast_pos] at hb))))
  all_goals (refine wpQuiet_nil ?_; intro nq)
  have hFwf := HF.out nq
  clear HF HC hne
  generalize F nq = wf at *
  have hbwf : Below w.heap.size w wf := bel_trans hbX hFwf
  have hX1 := HX1.out.up hFwf
  have hX2 := HX2.out.up hFwf
  have hX3 := HX3.out.up hFwf
  have hzf : w.heap.size + 3 ≤ wf.heap.size := Nat.le_trans hzX hFwf.size
  clear hcF0 hcF1 d_0 d_1 d_2 e_0 e_1 e_2 e_3 e_4 e_5 HX1 HX2 HX3 HLX
  have d_0 := (hX1.box).2 0 _ rfl; have d_1 := (hX1.box).2 1 _ rfl; have d_2 := (hX1.box).2 2 _ rfl
  have e_0 := (hX2.box).2 0 _ rfl; have e_1 := (hX2.box).2 1 _ rfl; have e_2 := (hX2.box).2 2 _ rfl; have e_3 := (hX2.box).2 3 _ rfl; have e_4 := (hX2.box).2 4 _ rfl; have e_5 := (hX2.box).2 5 _ rfl
  have hX3l := hX3.lt
  have hX3f := hX3.frozen
  have HX1 := Lib.hid hX1
  have HX2 := Lib.hid hX2
  have HX3 := Lib.hid hX3
  clear hX1 hX2 hX3
  go_wp2_with fail
  refine wp_region_fam (by kernel_rfl) (by kernel_rfl) (fun ι F hne hF hcl => ?_)
  have hcF0 := fun n o => (bcell (hF n)).1 (w.heap.size) o (by first | (simp; done) | (simp; omega) | omega)
  have hcF1 := fun n o => (bcell (hF n)).1 (w.heap.size + 1) o (by first | (simp; done) | (simp; omega) | omega)
  have HF := Lib.hid hF; clear hF
  have HC := Lib.hid hcl; clear hcl
  repeat (any_goals (first
   | go_big_quiet_step (first | (fail))
   | (refine wpQuiet_guard _ _ _ rfl rfl ?_; (fail_if_success (intro b' hb; have h2 := hb.symm; have : b' = true := h2.trans (by with_reducible rfl))); (fail_if_success (intro b' hb; have h2 := hb.symm; have : b' = false := h2.trans (by with_reducible rfl))); intro b' hb; simp only [hb]; cases b' <;> (try simp only [Bool.not_eq_true', Bool.not_eq_false', decide_eq_true_eq, decide_eq_false_iff_not, Int.not_lt, Int.not_le, Bool.and_eq_true, Bool.or_eq_true, Bool.or_eq_false_iff, beq_iff_eq, beq_eq_false_iff_ne, Int.natCast_pos] at hb))))
  all_goals (refine wpQuiet_nil ?_; intro nq)
  all_goals (try (exfalso; omega))
  have hFwg := HF.out nq
  clear HF HC hne
  generalize F nq = wg at *
  have hbwg : Below w.heap.size w wg := bel_trans hbwf hFwg
  have hX1 := HX1.out.up hFwg
  have hX2 := HX2.out.up hFwg
  have hX3 := HX3.out.up hFwg
  have hzg : w.heap.size + 3 ≤ wg.heap.size := Nat.le_trans hzf hFwg.size
  clear hcF0 hcF1 d_0 d_1 d_2 e_0 e_1 e_2 e_3 e_4 e_5 HX1 HX2 HX3 hX3f hX3l
  have d_0 := (hX1.box).2 0 _ rfl; have d_1 := (hX1.box).2 1 _ rfl; have d_2 := (hX1.box).2 2 _ rfl
  have e_0 := (hX2.box).2 0 _ rfl; have e_1 := (hX2.box).2 1 _ rfl; have e_2 := (hX2.box).2 2 _ rfl; have e_3 := (hX2.box).2 3 _ rfl; have e_4 := (hX2.box).2 4 _ rfl; have e_5 := (hX2.box).2 5 _ rfl
  have hX3l := hX3.lt
  have hX3f := hX3.frozen
  go_wp2_with fail
  refine (dag_has A n c D.certs C.di _ _ (HL.out.up hbwg) HHV.out).mono ?_
  rintro e w3 ⟨rfl, hb3⟩
  have hbw3 : Below w.heap.size w w3 := bel_trans hbwg hb3
  have hY1 := hX1.up hb3
  have hY2 := hX2.up hb3
  have hY3 := hX3.up hb3
  have hz3 : w.heap.size + 3 ≤ w3.heap.size := Nat.le_trans hzg hb3.size
  clear d_0 d_1 d_2 e_0 e_1 e_2 e_3 e_4 e_5 hX3f hX3l hX1 hX2 hX3
  have d_0 := (hY1.box).2 0 _ rfl; have d_1 := (hY1.box).2 1 _ rfl; have d_2 := (hY1.box).2 2 _ rfl
  have e_0 := (hY2.box).2 0 _ rfl; have e_1 := (hY2.box).2 1 _ rfl; have e_2 := (hY2.box).2 2 _ rfl; have e_3 := (hY2.box).2 3 _ rfl; have e_4 := (hY2.box).2 4 _ rfl; have e_5 := (hY2.box).2 5 _ rfl
  have hX3l := hY3.lt
  have hX3f := hY3.frozen
  have hR := ((hY3.set_ 0 (.int .i64 D.nodes)).set_ 1 (.int .i64 D.low)).set_ 2 (.slice A n c)
  have r_0 := (hR.box).2 0 _ rfl; have r_1 := (hR.box).2 1 _ rfl; have r_2 := (hR.box).2 2 _ rfl
  have k_0 := (hY3.box).2 0 _ rfl; have k_1 := (hY3.box).2 1 _ rfl; have k_2 := (hY3.box).2 2 _ rfl
  clear hR
  go_wp2_with fail
  exact bodyPost_ret (v := .tuple #[.agg #[.int .i64 D.nodes, .int .i64 D.low, .slice A n c], .int .i64 5]) (by simp [results, Try.results84, go_sem, r_0, r_1, r_2]) rfl ⟨rfl, by (repeat (first | (with_reducible exact Below.refl _ _) | (with_reducible assumption) | (with_reducible apply bel_alloc) | (with_reducible apply bel_drew) | (with_reducible apply bel_drewN) | (with_reducible refine bel_trans ?_ (by with_reducible assumption)) | (with_reducible refine bel_trans ?_ (HF.out _)) | ((with_reducible refine bel_set3 ?_ ?_); rotate_left; omega)))⟩
set_option maxRecDepth 100000 in
set_option maxHeartbeats 4000000 in
theorem dag_Put_lack (A : Option Addr) (n c : Nat) (D : DagD) (C : CertD) (bA pA sA : Option Addr) (bn bc pn pc sn sc : Nat) (w : World) (hl : CertsR w A n D.certs) (hr : CertR w ⟨⟨⟨bA, bn, bc⟩, ⟨pA, pn, pc⟩⟩, ⟨sA, sn, sc⟩⟩ C) (hok : DagOk D) (hC : certS C D.nodes = true) (hcap : n ≤ c) (hcb : c ≤ 9223372036854775807) (hq : ¬ C.h.ro ≤ D.low) (hat : atS D.certs C.h.ro C.h.au < 0) (hdi : findS D.certs C.di < 0) (hlk : lacksS D.certs D.low C.h ≠ []) :
    Calls Try.prog 84 #[.agg #[.int .i64 D.nodes, .int .i64 D.low, .slice A n c], .agg #[.int .i64 C.h.au, .int .i64 C.h.ro, .slice bA bn bc, .slice pA pn pc, .int .i64 C.di, .slice sA sn sc]] w fun e w' => e = .returned (.tuple #[.agg #[.int .i64 D.nodes, .int .i64 D.low, .slice A n c], .int .i64 7]) ∧ Below w.heap.size w w' := by
  have HL := Lib.hid hl
  have HR := Lib.hid hr
  have HN := Lib.hid hl.1
  have hn : n ≤ 65536 := by rw [← hl.1]; exact hok.2.2.2.1
  have HP := Lib.hid hok.places
  have HA := Lib.hid hok.auths
  have HOK := Lib.hid hok
  have HCS := Lib.hid hC
  have hsm := certS_sm hC
  have hs1 := hsm.1
  have hs2 := hsm.2
  have hbd := certS_bd hC
  have hr1 : 1 ≤ C.h.ro := hbd.2.2.2.2.2.1
  have hr2 : C.h.ro ≤ 1099511627776 := hbd.2.2.2.2.2.2.1
  have hlo1 : 0 ≤ D.low := hok.2.1
  have hlo2 : D.low ≤ 1099511627776 := hok.2.2.1
  obtain ⟨lo, hlo⟩ : ∃ lo, posC D.certs C.h.ro C.h.au = lo := ⟨_, rfl⟩
  obtain ⟨y, hy⟩ : ∃ y, hereS D.certs C.h.ro C.h.au lo = y := ⟨_, rfl⟩
  have hln : lo ≤ n := by rw [← hlo, ← hl.1]; exact posC_le _ _ _
  have hhere := here_at (l := D.certs) hok.places hlo hy
  have HLO := Lib.hid hlo
  have HY := Lib.hid hy
  have hd : decide (C.h.ro ≤ D.low) = false := by simpa using hq
  obtain rfl : y = false := by
    rcases hhere with ⟨h1, h2, h3⟩ | ⟨h1, h2⟩
    · omega
    · exact h1
  obtain ⟨hv, hhv⟩ : ∃ hv, hasC D.certs C.di = hv := ⟨_, rfl⟩
  obtain rfl : hv = false := by rw [← hhv]; unfold hasC; simpa using hdi
  have HHV := Lib.hid hhv
  obtain ⟨k, hk⟩ : ∃ k, (lackP D.certs D.low C.h).length = k := ⟨_, rfl⟩
  have hk0 : 0 < k := by
    rw [← hk, lackP_eq hok.dist]
    exact List.length_pos_iff.2 hlk
  have hkd : decide (0 < (k : Int)) = true := by simp; omega
  have hpn : pn ≤ 65536 := by
    have h1 := hr.1.2.1
    have h2 := head_pa (certS_hd hC)
    dsimp only at h1
    omega
  have hkm : k ≤ 65536 := by
    rw [← hk]
    have h1 := hr.1.2.1
    have := lackP_len D.certs D.low C.h
    dsimp only at h1
    omega
  have HK := Lib.hid hk
  clear hhere hat hdi hq hhv hlk hk
  clear hl hr hok hC hsm hbd hlo hy
  go_enter Try.func84, Try.ntmps84
  go_wp2_with fail
  obtain ⟨hX1, hX2, hX3, hbX, hzX⟩ := blk3 w 24 48 24 [.int .i64 D.nodes, .int .i64 D.low, .slice A n c] [.int .i64 C.h.au, .int .i64 C.h.ro, .slice bA bn bc, .slice pA pn pc, .int .i64 C.di, .slice sA sn sc] [.int .i64 0, .int .i64 0, .slice none 0 0]
  generalize (((w.alloc (.cells #[.int .i64 D.nodes, .int .i64 D.low, .slice A n c] 24)).alloc (.cells #[.int .i64 C.h.au, .int .i64 C.h.ro, .slice bA bn bc, .slice pA pn pc, .int .i64 C.di, .slice sA sn sc] 48)).alloc (.cells #[.int .i64 0, .int .i64 0, .slice none 0 0] 24)) = X at *
  have d_0 := (hX1.box).2 0 _ rfl; have d_1 := (hX1.box).2 1 _ rfl; have d_2 := (hX1.box).2 2 _ rfl
  have e_0 := (hX2.box).2 0 _ rfl; have e_1 := (hX2.box).2 1 _ rfl; have e_2 := (hX2.box).2 2 _ rfl; have e_3 := (hX2.box).2 3 _ rfl; have e_4 := (hX2.box).2 4 _ rfl; have e_5 := (hX2.box).2 5 _ rfl
  have HX1 := Lib.hid hX1
  have HX2 := Lib.hid hX2
  have HX3 := Lib.hid hX3
  have HLX := Lib.hid (HL.out.up hbX)
  clear hX1 hX2 hX3
  refine wp_region_fam (by kernel_rfl) (by kernel_rfl) (fun ι F hne hF hcl => ?_)
  have hcF0 := fun n o => (bcell (hF n)).1 (w.heap.size) o (by first | (simp; done) | (simp; omega) | omega)
  have hcF1 := fun n o => (bcell (hF n)).1 (w.heap.size + 1) o (by first | (simp; done) | (simp; omega) | omega)
  have HF := Lib.hid hF; clear hF
  have HC := Lib.hid hcl; clear hcl
  repeat (any_goals (first
   | go_big_quiet_step (first | (go_at_call 102; exact Calls.fam HC.out (dag_Place' _ _ _ _ _ _ _ _ _ _ _ _ _)) | (go_at_call 119; exact Calls.fam HC.out (dag_findAt A n c D.certs C.h.ro C.h.au lo _ _ (HLX.out.up (HF.out _)) HP.out (by omega) hs1 hs2 HLO.out HY.out)))
   | (refine wpQuiet_guard _ _ _ rfl rfl ?_; (fail_if_success (intro b' hb; have h2 := hb.symm; have : b' = true := h2.trans (by with_reducible rfl))); (fail_if_success (intro b' hb; have h2 := hb.symm; have : b' = false := h2.trans (by with_reducible rfl))); intro b' hb; simp only [hb]; cases b' <;> (try simp only [Bool.not_eq_true', Bool.not_eq_false', decide_eq_true_eq, decide_eq_false_iff_not, Int.not_lt, Int.not_le, Bool.and_eq_true, Bool.or_eq_true, Bool.or_eq_false_iff, beq_iff_eq, beq_eq_false_iff_ne, Int.natCast_pos] at hb))))
  all_goals (refine wpQuiet_nil ?_; intro nq)
  have hFwf := HF.out nq
  clear HF HC hne
  generalize F nq = wf at *
  have hbwf : Below w.heap.size w wf := bel_trans hbX hFwf
  have hX1 := HX1.out.up hFwf
  have hX2 := HX2.out.up hFwf
  have hX3 := HX3.out.up hFwf
  have hzf : w.heap.size + 3 ≤ wf.heap.size := Nat.le_trans hzX hFwf.size
  clear hcF0 hcF1 d_0 d_1 d_2 e_0 e_1 e_2 e_3 e_4 e_5 HX1 HX2 HX3 HLX
  have d_0 := (hX1.box).2 0 _ rfl; have d_1 := (hX1.box).2 1 _ rfl; have d_2 := (hX1.box).2 2 _ rfl
  have e_0 := (hX2.box).2 0 _ rfl; have e_1 := (hX2.box).2 1 _ rfl; have e_2 := (hX2.box).2 2 _ rfl; have e_3 := (hX2.box).2 3 _ rfl; have e_4 := (hX2.box).2 4 _ rfl; have e_5 := (hX2.box).2 5 _ rfl
  have hX3l := hX3.lt
  have hX3f := hX3.frozen
  have HX1 := Lib.hid hX1
  have HX2 := Lib.hid hX2
  have HX3 := Lib.hid hX3
  clear hX1 hX2 hX3
  go_wp2_with fail
  refine wp_region_fam (by kernel_rfl) (by kernel_rfl) (fun ι F hne hF hcl => ?_)
  have hcF0 := fun n o => (bcell (hF n)).1 (w.heap.size) o (by first | (simp; done) | (simp; omega) | omega)
  have hcF1 := fun n o => (bcell (hF n)).1 (w.heap.size + 1) o (by first | (simp; done) | (simp; omega) | omega)
  have HF := Lib.hid hF; clear hF
  have HC := Lib.hid hcl; clear hcl
  repeat (any_goals (first
   | go_big_quiet_step (first | (fail))
   | (refine wpQuiet_guard _ _ _ rfl rfl ?_; (fail_if_success (intro b' hb; have h2 := hb.symm; have : b' = true := h2.trans (by with_reducible rfl))); (fail_if_success (intro b' hb; have h2 := hb.symm; have : b' = false := h2.trans (by with_reducible rfl))); intro b' hb; simp only [hb]; cases b' <;> (try simp only [Bool.not_eq_true', Bool.not_eq_false', decide_eq_true_eq, decide_eq_false_iff_not, Int.not_lt, Int.not_le, Bool.and_eq_true, Bool.or_eq_true, Bool.or_eq_false_iff, beq_iff_eq, beq_eq_false_iff_ne, Int.natCast_pos] at hb))))
  all_goals (refine wpQuiet_nil ?_; intro nq)
  all_goals (try (exfalso; omega))
  have hFwg := HF.out nq
  clear HF HC hne
  generalize F nq = wg at *
  have hbwg : Below w.heap.size w wg := bel_trans hbwf hFwg
  have hX1 := HX1.out.up hFwg
  have hX2 := HX2.out.up hFwg
  have hX3 := HX3.out.up hFwg
  have hzg : w.heap.size + 3 ≤ wg.heap.size := Nat.le_trans hzf hFwg.size
  clear hcF0 hcF1 d_0 d_1 d_2 e_0 e_1 e_2 e_3 e_4 e_5 HX1 HX2 HX3 hX3f hX3l
  have d_0 := (hX1.box).2 0 _ rfl; have d_1 := (hX1.box).2 1 _ rfl; have d_2 := (hX1.box).2 2 _ rfl
  have e_0 := (hX2.box).2 0 _ rfl; have e_1 := (hX2.box).2 1 _ rfl; have e_2 := (hX2.box).2 2 _ rfl; have e_3 := (hX2.box).2 3 _ rfl; have e_4 := (hX2.box).2 4 _ rfl; have e_5 := (hX2.box).2 5 _ rfl
  have hX3l := hX3.lt
  have hX3f := hX3.frozen
  go_wp2_with fail
  refine (dag_has A n c D.certs C.di _ _ (HL.out.up hbwg) HHV.out).mono ?_
  rintro e w3 ⟨rfl, hb3⟩
  have hbw3 : Below w.heap.size w w3 := bel_trans hbwg hb3
  have hY1 := hX1.up hb3
  have hY2 := hX2.up hb3
  have hY3 := hX3.up hb3
  have hz3 : w.heap.size + 3 ≤ w3.heap.size := Nat.le_trans hzg hb3.size
  clear d_0 d_1 d_2 e_0 e_1 e_2 e_3 e_4 e_5 hX3f hX3l hX1 hX2 hX3
  have d_0 := (hY1.box).2 0 _ rfl; have d_1 := (hY1.box).2 1 _ rfl; have d_2 := (hY1.box).2 2 _ rfl
  have e_0 := (hY2.box).2 0 _ rfl; have e_1 := (hY2.box).2 1 _ rfl; have e_2 := (hY2.box).2 2 _ rfl; have e_3 := (hY2.box).2 3 _ rfl; have e_4 := (hY2.box).2 4 _ rfl; have e_5 := (hY2.box).2 5 _ rfl
  have hX3l := hY3.lt
  have hX3f := hY3.frozen
  go_wp2_with fail
  refine (dag_Lack A n c D.certs D.nodes D.low bA pA bn bc pn pc C.h _ (HL.out.up hbw3) (HR.out.1.up hbw3) HP.out HA.out hn hcap hcb hpn hr1 hr2 hlo1 hlo2).mono ?_
  rintro e w4 ⟨v4, rfl, hown4, hb4⟩
  obtain ⟨A4, c4, rfl, _⟩ := hown4.ints (by rw [HK.out]; omega)
  rw [HK.out]
  have hbw4 : Below w.heap.size w w4 := bel_trans hbw3 hb4
  have hZ1 := hY1.up hb4
  have hZ2 := hY2.up hb4
  have hZ3 := hY3.up hb4
  have hz4 : w.heap.size + 3 ≤ w4.heap.size := Nat.le_trans hz3 hb4.size
  clear d_0 d_1 d_2 e_0 e_1 e_2 e_3 e_4 e_5 hX3f hX3l hY1 hY2 hY3
  have d_0 := (hZ1.box).2 0 _ rfl; have d_1 := (hZ1.box).2 1 _ rfl; have d_2 := (hZ1.box).2 2 _ rfl
  have e_0 := (hZ2.box).2 0 _ rfl; have e_1 := (hZ2.box).2 1 _ rfl; have e_2 := (hZ2.box).2 2 _ rfl; have e_3 := (hZ2.box).2 3 _ rfl; have e_4 := (hZ2.box).2 4 _ rfl; have e_5 := (hZ2.box).2 5 _ rfl
  have hX3l := hZ3.lt
  have hX3f := hZ3.frozen
  have hR := ((hZ3.set_ 0 (.int .i64 D.nodes)).set_ 1 (.int .i64 D.low)).set_ 2 (.slice A n c)
  have r_0 := (hR.box).2 0 _ rfl; have r_1 := (hR.box).2 1 _ rfl; have r_2 := (hR.box).2 2 _ rfl
  have k_0 := (hZ3.box).2 0 _ rfl; have k_1 := (hZ3.box).2 1 _ rfl; have k_2 := (hZ3.box).2 2 _ rfl
  clear hR
  go_wp2_with fail
  exact bodyPost_ret (v := .tuple #[.agg #[.int .i64 D.nodes, .int .i64 D.low, .slice A n c], .int .i64 7]) (by simp [results, Try.results84, go_sem, r_0, r_1, r_2]) rfl ⟨rfl, by (repeat (first | (with_reducible exact Below.refl _ _) | (with_reducible assumption) | (with_reducible apply bel_alloc) | (with_reducible apply bel_drew) | (with_reducible apply bel_drewN) | (with_reducible refine bel_trans ?_ (by with_reducible assumption)) | (with_reducible refine bel_trans ?_ (HF.out _)) | ((with_reducible refine bel_set3 ?_ ?_); rotate_left; omega)))⟩
end Go.Proofs.Ytfkbilbgndekkaa
