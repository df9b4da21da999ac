/- Headers and certificates at the program; places as complex numbers. -/
import Derived.Test.YtfkbilbgndekkaaB
namespace Go.Proofs.Ytfkbilbgndekkaa
open Go.RowKit
set_option linter.unusedSimpArgs false
set_option linter.unusedVariables false

noncomputable def formS (H : HeaderD) (n : Int) : Bool :=
  !(decide (H.au < 1) || decide (n < H.au) || decide (H.ro < 1) || decide (1099511627776 < H.ro) || decide (8 < (H.ba.length : Int))) &&
  (crisS H.ba 1 65536 && crisS H.pa 1 65536 && decide ((H.pa.length : Int) ≤ n) && (decide (1 < H.ro) || decide (H.pa.length = 0)))
theorem head_eq (H : HeaderD) (n : Int) : headS H n = (isS n && formS H n && (decide (H.ro = 1) || decide (2 * ((n - 1) / 3) + 1 ≤ (H.pa.length : Int)))) := by
  rw [Bool.eq_iff_iff]
  cases h : isS n
  · simp [headS, h]
  · have := isS_iff.1 h
    have e : (n - 1) / 3 = n / 3 := by omega
    have e2 : (H.pa.length == 0) = decide (H.pa.length = 0) := by rw [Bool.eq_iff_iff]; simp
    simp only [headS, formS, digsS, e2]
    generalize H.pa.length = x
    generalize H.ba.length = y
    cases h1 : crisS H.ba 1 65536 <;> cases h2 : crisS H.pa 1 65536 <;> simp [h, e]
    by_cases h3 : H.ro = 1
    · simp [h3]; omega
    · simp [h3]; omega
theorem cert_eq (C : CertD) (n : Int) : certS C n = (headS C.h n && digS C.di && crisS C.si 1 n && decide (2 * ((n - 1) / 3) + 1 ≤ (C.si.length : Int))) := by
  cases h : headS C.h n
  · simp [certS, h]
  · have := headS_bd h
    have e : (n - 1) / 3 = n / 3 := by omega
    simp [certS, h, e]

set_option maxRecDepth 100000 in
set_option maxHeartbeats 1000000 in
theorem header_form (p : HeaderP) (H : HeaderD) (n : Int) (w : World) (hR : HeaderR w p H) :
    Calls Try.prog 131 #[.agg #[.int .i64 H.au, .int .i64 H.ro, .slice p.b.A p.b.n p.b.c, .slice p.p.A p.p.n p.p.c], .int .i64 n] w fun e w' => e = .returned (.bool (formS H n)) ∧ Below w.heap.size w w' := by
  have hl1 := hR.1.1
  have hl2 := hR.2.1
  have H1 := Lib.hid hR; clear hR
  have H2 := Lib.hid hl1; clear hl1
  have H3 := Lib.hid hl2; clear hl2
  go_enter Try.func131, Try.ntmps131
  go_wp2_with (go_at_call 143; refine (committee_Digests _ _ _ _ _ (by first | exact H1.out.1.up (by (repeat (first | (with_reducible exact Below.refl _ _) | (with_reducible assumption) | (with_reducible apply bel_alloc) | (with_reducible apply bel_drew) | (with_reducible apply bel_drewN) | (with_reducible refine bel_trans ?_ (by with_reducible assumption)) | (with_reducible refine bel_trans ?_ (HF.out _)) | (with_reducible refine bel_set ?_ (by simp) _) | (with_reducible refine bel_set ?_ (by simp; omega) _) | (with_reducible refine bel_set ?_ (by omega) _)))) | exact H1.out.2.up (by (repeat (first | (with_reducible exact Below.refl _ _) | (with_reducible assumption) | (with_reducible apply bel_alloc) | (with_reducible apply bel_drew) | (with_reducible apply bel_drewN) | (with_reducible refine bel_trans ?_ (by with_reducible assumption)) | (with_reducible refine bel_trans ?_ (HF.out _)) | (with_reducible refine bel_set ?_ (by simp) _) | (with_reducible refine bel_set ?_ (by simp; omega) _) | (with_reducible refine bel_set ?_ (by omega) _)))))).mono ?_; rintro e w' ⟨rfl, rfl⟩)
  all_goals (go_ret; refine ⟨ret_bool ?_, by (repeat (first | (with_reducible exact Below.refl _ _) | (with_reducible assumption) | (with_reducible apply bel_alloc) | (with_reducible apply bel_drew) | (with_reducible apply bel_drewN) | (with_reducible refine bel_trans ?_ (by with_reducible assumption)) | (with_reducible refine bel_trans ?_ (HF.out _)) | (with_reducible refine bel_set ?_ (by simp) _) | (with_reducible refine bel_set ?_ (by simp; omega) _) | (with_reducible refine bel_set ?_ (by omega) _)))⟩; go_light; rw [Bool.eq_iff_iff]; (first | (simp [formS, H2.out, H3.out, *]; done) | (simp_all [formS, H2.out, H3.out]; done) | (simp_all [formS, H2.out, H3.out]; omega) | (simp [formS, H2.out, H3.out, *]; omega)))
set_option maxRecDepth 100000 in
set_option maxHeartbeats 1000000 in
theorem header_May (p : HeaderP) (H : HeaderD) (n : Int) (w : World) (hR : HeaderR w p H) :
    Calls Try.prog 115 #[.agg #[.int .i64 H.au, .int .i64 H.ro, .slice p.b.A p.b.n p.b.c, .slice p.p.A p.p.n p.p.c], .int .i64 n] w fun e w' => e = .returned (.bool (headS H n)) ∧ Below w.heap.size w w' := by
  have hl2 := hR.2.1
  have H1 := Lib.hid hR; clear hR
  have H3 := Lib.hid hl2; clear hl2
  go_enter Try.func115, Try.ntmps115
  go_wp2
  refine wp_region_fam (by kernel_rfl) (by kernel_rfl) (fun ι F hne hF hcl => ?_)
  have hcF0 := fun n o => (bcell (hF n)).1 (w.heap.size) o (by first | (simp; done) | (simp; omega) | omega)
  have HF := Lib.hid hF; clear hF
  have HC := Lib.hid hcl; clear hcl
  repeat (any_goals (first
   | go_big_quiet_step (first | (go_at_call 87; exact Calls.fam_same (committee_Is _ _)) | (go_at_call 131; exact Calls.fam HC.out (header_form p H _ _ (H1.out.up (by (repeat (first | (with_reducible exact Below.refl _ _) | (with_reducible assumption) | (with_reducible apply bel_alloc) | (with_reducible apply bel_drew) | (with_reducible apply bel_drewN) | (with_reducible refine bel_trans ?_ (by with_reducible assumption)) | (with_reducible refine bel_trans ?_ (HF.out _)) | (with_reducible refine bel_set ?_ (by simp) _) | (with_reducible refine bel_set ?_ (by simp; omega) _) | (with_reducible refine bel_set ?_ (by omega) _))))))) | (go_at_call 118; exact Calls.fam_same (committee_Q _ _ (by have := isS_bd (by assumption); omega) (by have := isS_bd (by assumption); omega))))
   | (refine wpQuiet_guard _ _ _ rfl rfl ?_; (fail_if_success (intro b' hb; have h2 := hb.symm; have : b' = true := h2.trans (by with_reducible rfl))); (fail_if_success (intro b' hb; have h2 := hb.symm; have : b' = false := h2.trans (by with_reducible rfl))); intro b' hb; simp only [hb]; cases b' <;> (try simp only [Bool.not_eq_true', Bool.not_eq_false', decide_eq_true_eq, decide_eq_false_iff_not, Int.not_lt, Int.not_le, Bool.and_eq_true, Bool.or_eq_true, Bool.or_eq_false_iff, beq_iff_eq, beq_eq_false_iff_ne, Int.natCast_pos] at hb))))
  all_goals (refine wpQuiet_nil ?_; intro nq; go_wp2_with (fail))
  all_goals (go_ret; refine ⟨ret_bool ?_, by (repeat (first | (with_reducible exact Below.refl _ _) | (with_reducible assumption) | (with_reducible apply bel_alloc) | (with_reducible apply bel_drew) | (with_reducible apply bel_drewN) | (with_reducible refine bel_trans ?_ (by with_reducible assumption)) | (with_reducible refine bel_trans ?_ (HF.out _)) | (with_reducible refine bel_set ?_ (by simp) _) | (with_reducible refine bel_set ?_ (by simp; omega) _) | (with_reducible refine bel_set ?_ (by omega) _)))⟩; go_light; rw [Bool.eq_iff_iff]; (first | (simp [head_eq, H3.out, *]; done) | (simp_all [head_eq, H3.out]; done) | (simp_all [head_eq, H3.out]; omega) | (simp [head_eq, H3.out, *]; omega)))
set_option maxRecDepth 100000 in
set_option maxHeartbeats 1000000 in
theorem header_MayCert (p : CertP) (C : CertD) (n : Int) (w : World) (hR : CertR w p C) :
    Calls Try.prog 83 #[.agg #[.int .i64 C.h.au, .int .i64 C.h.ro, .slice p.h.b.A p.h.b.n p.h.b.c, .slice p.h.p.A p.h.p.n p.h.p.c, .int .i64 C.di, .slice p.s.A p.s.n p.s.c], .int .i64 n] w fun e w' => e = .returned (.bool (certS C n)) ∧ Below w.heap.size w w' := by
  have hl1 := hR.2.1
  have H1 := Lib.hid hR; clear hR
  have H2 := Lib.hid hl1; clear hl1
  go_enter Try.func83, Try.ntmps83
  go_wp2
  refine wp_region_fam (by kernel_rfl) (by kernel_rfl) (fun ι F hne hF hcl => ?_)
  have hcF0 := fun n o => (bcell (hF n)).1 (w.heap.size) o (by first | (simp; done) | (simp; omega) | omega)
  have HF := Lib.hid hF; clear hF
  have HC := Lib.hid hcl; clear hcl
  repeat (any_goals (first
   | go_big_quiet_step (first | (go_at_call 115; exact Calls.fam HC.out (header_May p.h C.h _ _ (H1.out.1.up (by (repeat (first | (with_reducible exact Below.refl _ _) | (with_reducible assumption) | (with_reducible apply bel_alloc) | (with_reducible apply bel_drew) | (with_reducible apply bel_drewN) | (with_reducible refine bel_trans ?_ (by with_reducible assumption)) | (with_reducible refine bel_trans ?_ (HF.out _)) | (with_reducible refine bel_set ?_ (by simp) _) | (with_reducible refine bel_set ?_ (by simp; omega) _) | (with_reducible refine bel_set ?_ (by omega) _))))))) | (go_at_call 116; exact Calls.fam_same (committee_Digest _ _)) | (go_at_call 117; exact Calls.fam_same (committee_Rising _ _ _ _ _ _ _ (H1.out.2.up (by (repeat (first | (with_reducible exact Below.refl _ _) | (with_reducible assumption) | (with_reducible apply bel_alloc) | (with_reducible apply bel_drew) | (with_reducible apply bel_drewN) | (with_reducible refine bel_trans ?_ (by with_reducible assumption)) | (with_reducible refine bel_trans ?_ (HF.out _)) | (with_reducible refine bel_set ?_ (by simp) _) | (with_reducible refine bel_set ?_ (by simp; omega) _) | (with_reducible refine bel_set ?_ (by omega) _))))))) | (go_at_call 118; exact Calls.fam_same (committee_Q _ _ (by have := headS_bd (by assumption); omega) (by have := headS_bd (by assumption); omega))))
   | (refine wpQuiet_guard _ _ _ rfl rfl ?_; (fail_if_success (intro b' hb; have h2 := hb.symm; have : b' = true := h2.trans (by with_reducible rfl))); (fail_if_success (intro b' hb; have h2 := hb.symm; have : b' = false := h2.trans (by with_reducible rfl))); intro b' hb; simp only [hb]; cases b' <;> (try simp only [Bool.not_eq_true', Bool.not_eq_false', decide_eq_true_eq, decide_eq_false_iff_not, Int.not_lt, Int.not_le, Bool.and_eq_true, Bool.or_eq_true, Bool.or_eq_false_iff, beq_iff_eq, beq_eq_false_iff_ne, Int.natCast_pos] at hb))))
  all_goals (refine wpQuiet_nil ?_; intro nq; go_wp2_with (fail))
  all_goals (go_ret; refine ⟨ret_bool ?_, by (repeat (first | (with_reducible exact Below.refl _ _) | (with_reducible assumption) | (with_reducible apply bel_alloc) | (with_reducible apply bel_drew) | (with_reducible apply bel_drewN) | (with_reducible refine bel_trans ?_ (by with_reducible assumption)) | (with_reducible refine bel_trans ?_ (HF.out _)) | (with_reducible refine bel_set ?_ (by simp) _) | (with_reducible refine bel_set ?_ (by simp; omega) _) | (with_reducible refine bel_set ?_ (by omega) _)))⟩; go_light; rw [Bool.eq_iff_iff]; (first | (simp [cert_eq, H2.out, *]; done) | (simp_all [cert_eq, H2.out]; done) | (simp_all [cert_eq, H2.out]; omega) | (simp [cert_eq, H2.out, *]; omega)))

/-! ### places -/
set_option maxRecDepth 100000 in
set_option maxHeartbeats 1000000 in
theorem place_Of (r a : Int) (w : World) : Calls Try.prog 112 #[.int .i64 r, .int .i64 a] w fun e w' => e = .returned (.complex .f64 (fl r) (fl a)) ∧ w = w' := by
  go_enter Try.func112, Try.ntmps112
  go_wp2
  go_ret
  exact ⟨rfl, rfl⟩
set_option maxRecDepth 100000 in
set_option maxHeartbeats 1000000 in
theorem dag_Place (p : CertP) (C : CertD) (w : World) : Calls Try.prog 102 #[.agg #[.int .i64 C.h.au, .int .i64 C.h.ro, .slice p.h.b.A p.h.b.n p.h.b.c, .slice p.h.p.A p.h.p.n p.h.p.c, .int .i64 C.di, .slice p.s.A p.s.n p.s.c]] w fun e w' => e = .returned (.complex .f64 (fl C.h.ro) (fl C.h.au)) ∧ Below w.heap.size w w' := by
  go_enter Try.func102, Try.ntmps102
  go_wp2_with (go_at_call 112; refine (place_Of _ _ _).mono ?_; rintro e w' ⟨rfl, rfl⟩)
  go_ret
  exact ⟨rfl, by (repeat (first | (with_reducible exact Below.refl _ _) | (with_reducible assumption) | (with_reducible apply bel_alloc) | (with_reducible apply bel_drew) | (with_reducible apply bel_drewN) | (with_reducible refine bel_trans ?_ (by with_reducible assumption)) | (with_reducible refine bel_trans ?_ (HF.out _)) | (with_reducible refine bel_set ?_ (by simp) _) | (with_reducible refine bel_set ?_ (by simp; omega) _) | (with_reducible refine bel_set ?_ (by omega) _)))⟩
theorem cmpLt {a b : Int} : (compare a b = Ordering.lt) = (a < b) := by
  have := cmp_lt a b
  rw [Bool.eq_iff_iff] at this
  simpa using this
def Sm (n : Int) : Prop := 0 ≤ n ∧ n < 9007199254740992
set_option maxRecDepth 100000 in
set_option maxHeartbeats 1000000 in
theorem place_Less (r a s b : Int) (w : World) (h1 : Sm r) (h2 : Sm a) (h3 : Sm s) (h4 : Sm b) :
    Calls Try.prog 101 #[.complex .f64 (fl r) (fl a), .complex .f64 (fl s) (fl b)] w fun e w' => e = .returned (.bool (befS r a s b)) ∧ w = w' := by
  have o1 := order_fl r s h1.1 h3.1 h1.2 h3.2
  have o2 := order_fl a b h2.1 h4.1 h2.2 h4.2
  go_enter Try.func101, Try.ntmps101
  go_wp2
  all_goals (go_ret; refine ⟨ret_bool ?_, rfl⟩; go_light; rw [Bool.eq_iff_iff, befS_iff]; simp only [cmpLt] at *; simp [*, cmpLt]; try omega)
set_option maxRecDepth 100000 in
set_option maxHeartbeats 1000000 in
theorem cmp_isNaN (r : Int) (w : World) (h1 : Sm r) :
    Calls Try.prog 144 #[.float .f64 (fl r)] w fun e w' => e = .returned (.bool false) ∧ w = w' := by
  have o1 := order_fl r r h1.1 h1.1 h1.2 h1.2
  go_enter Try.func144, Try.ntmps144
  go_wp2
  go_ret
  exact ⟨ret_bool (by simp), rfl⟩

/-! ### the same, at pointers that are plain variables: they fit whatever stands at a call -/
theorem dag_Place' (au ro di : Int) (bA pA sA : Option Addr) (bn bc pn pc sn sc : Nat) (w : World) : Calls Try.prog 102 #[.agg #[.int .i64 au, .int .i64 ro, .slice bA bn bc, .slice pA pn pc, .int .i64 di, .slice sA sn sc]] w fun e w' => e = .returned (.complex .f64 (fl ro) (fl au)) ∧ Below w.heap.size w w' :=
  dag_Place ⟨⟨⟨bA, bn, bc⟩, ⟨pA, pn, pc⟩⟩, ⟨sA, sn, sc⟩⟩ ⟨⟨au, ro, [], []⟩, di, []⟩ w
theorem header_MayCert' (C : CertD) (bA pA sA : Option Addr) (bn bc pn pc sn sc : Nat) (n : Int) (w : World) (hR : CertR w ⟨⟨⟨bA, bn, bc⟩, ⟨pA, pn, pc⟩⟩, ⟨sA, sn, sc⟩⟩ C) :
    Calls Try.prog 83 #[.agg #[.int .i64 C.h.au, .int .i64 C.h.ro, .slice bA bn bc, .slice pA pn pc, .int .i64 C.di, .slice sA sn sc], .int .i64 n] w fun e w' => e = .returned (.bool (certS C n)) ∧ Below w.heap.size w w' :=
  header_MayCert ⟨⟨⟨bA, bn, bc⟩, ⟨pA, pn, pc⟩⟩, ⟨sA, sn, sc⟩⟩ C n w hR
theorem ref4_Cert' (C : CertD) (bA pA sA : Option Addr) (bn bc pn pc sn sc : Nat) (n : Int) (w : World) (hR : CertR w ⟨⟨⟨bA, bn, bc⟩, ⟨pA, pn, pc⟩⟩, ⟨sA, sn, sc⟩⟩ C) :
    Calls Try.prog 51 #[.agg #[.int .i64 C.h.au, .int .i64 C.h.ro, .slice bA bn bc, .slice pA pn pc, .int .i64 C.di, .slice sA sn sc], .int .i64 n] w fun e w' => e = .returned (.bool (certS C n)) ∧ Below w.heap.size w w' :=
  ref4_Cert ⟨⟨⟨bA, bn, bc⟩, ⟨pA, pn, pc⟩⟩, ⟨sA, sn, sc⟩⟩ C n w hR
end Go.Proofs.Ytfkbilbgndekkaa
