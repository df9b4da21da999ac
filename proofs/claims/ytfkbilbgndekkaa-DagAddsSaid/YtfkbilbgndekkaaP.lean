/- Weights: what heavy reaches, num, wakes. -/
import Derived.Test.YtfkbilbgndekkaaL
namespace Go.Proofs.Ytfkbilbgndekkaa
open Go.RowKit
set_option linter.unusedSimpArgs false
set_option linter.unusedVariables false

def hwS (bn pn : Nat) : Int := IntKind.i64.wrap (IntKind.i64.wrap (1 + bn) + pn)
set_option maxRecDepth 100000 in
set_option maxHeartbeats 1000000 in
theorem law0_HeaderWeight (v0 v1 : Value) (bA : Option Addr) (bn bc : Nat) (pA : Option Addr) (pn pc : Nat) (w : World) :
    Calls Try.prog 130 #[.agg #[v0, v1, .slice bA bn bc, .slice pA pn pc]] w fun e w' => e = .returned (.int .i64 (hwS bn pn)) ∧ Below w.heap.size w w' := by
  go_enter Try.func130, Try.ntmps130
  go_wp2
  go_ret
  exact ⟨ret_int (by simp [hwS, IntKind.wrap_i64, wrap64]), by (repeat (first | (with_reducible exact Below.refl _ _) | (with_reducible assumption) | (with_reducible apply bel_alloc) | (with_reducible apply bel_drew) | (with_reducible apply bel_drewN) | (with_reducible refine bel_trans ?_ (by with_reducible assumption)) | (with_reducible refine bel_trans ?_ (HF.out _)) | (with_reducible refine bel_set ?_ (by simp) _) | (with_reducible refine bel_set ?_ (by simp; omega) _) | (with_reducible refine bel_set ?_ (by omega) _)))⟩
set_option maxRecDepth 100000 in
set_option maxHeartbeats 1000000 in
theorem law0_CertWeight (v0 v1 v4 : Value) (bA : Option Addr) (bn bc : Nat) (pA : Option Addr) (pn pc : Nat) (sA : Option Addr) (sn sc : Nat) (w : World) :
    Calls Try.prog 114 #[.agg #[v0, v1, .slice bA bn bc, .slice pA pn pc, v4, .slice sA sn sc]] w fun e w' => (∃ x, e = .returned (.int .i64 x)) ∧ Below w.heap.size w w' := by
  go_enter Try.func114, Try.ntmps114
  go_wp2_with fail
  refine wp_region_fam (by kernel_rfl) (by kernel_rfl) (fun ι F hne hF hcl => ?_)
  have hcF0 := fun n o => (bcell (hF n)).1 (w.heap.size) o (by first | (simp; done) | (simp; omega) | omega)
  have HF := Lib.hid hF; clear hF
  have HC := Lib.hid hcl; clear hcl
  repeat (any_goals (first
   | go_big_quiet_step (first | (go_at_call 130; exact Calls.fam HC.out (law0_HeaderWeight _ _ _ _ _ _ _ _ _)))
   | (refine wpQuiet_guard _ _ _ rfl rfl ?_; (fail_if_success (intro b' hb; have h2 := hb.symm; have : b' = true := h2.trans (by with_reducible rfl))); (fail_if_success (intro b' hb; have h2 := hb.symm; have : b' = false := h2.trans (by with_reducible rfl))); intro b' hb; simp only [hb]; cases b' <;> (try simp only [Bool.not_eq_true', Bool.not_eq_false', decide_eq_true_eq, decide_eq_false_iff_not, Int.not_lt, Int.not_le, Bool.and_eq_true, Bool.or_eq_true, Bool.or_eq_false_iff, beq_iff_eq, beq_eq_false_iff_ne, Int.natCast_pos] at hb))))
  all_goals (refine wpQuiet_nil ?_; intro nq; go_wp2_with (fail))
  go_ret
  exact ⟨⟨_, rfl⟩, by (repeat (first | (with_reducible exact Below.refl _ _) | (with_reducible assumption) | (with_reducible apply bel_alloc) | (with_reducible apply bel_drew) | (with_reducible apply bel_drewN) | (with_reducible refine bel_trans ?_ (by with_reducible assumption)) | (with_reducible refine bel_trans ?_ (HF.out _)) | (with_reducible refine bel_set ?_ (by simp) _) | (with_reducible refine bel_set ?_ (by simp; omega) _) | (with_reducible refine bel_set ?_ (by omega) _)))⟩
set_option maxRecDepth 100000 in
set_option maxHeartbeats 1000000 in
theorem law0_CertsWeight (A : Option Addr) (n c : Nat) (certs : List CertD) (w : World) (hl : CertsR w A n certs) :
    Calls Try.prog 80 #[.slice A n c] w fun e w' => (∃ x, e = .returned (.int .i64 x)) ∧ Below w.heap.size w w' := by
  have HL := Lib.hid hl
  have hn : n ≤ 9223372036854775807 := hl.2.1
  clear hl
  go_enter Try.func80, Try.ntmps80
  go_wp2_with fail
  go_loopw [3, 4] (fun s i wr => ∃ (k : Nat) (x : Int), k ≤ n ∧ i = .int .i64 k ∧ s = .int .i64 x ∧ Below w.heap.size w wr) (fun _ i _ => n - (intOf i).toNat)
  case atStart => exact ⟨0, _, Nat.zero_le _, rfl, rfl, by (repeat (first | (with_reducible exact Below.refl _ _) | (with_reducible assumption) | (with_reducible apply bel_alloc) | (with_reducible apply bel_drew) | (with_reducible apply bel_drewN) | (with_reducible refine bel_trans ?_ (by with_reducible assumption)) | (with_reducible refine bel_trans ?_ (HF.out _)) | (with_reducible refine bel_set ?_ (by simp) _) | (with_reducible refine bel_set ?_ (by simp; omega) _) | (with_reducible refine bel_set ?_ (by omega) _)))⟩
  case round =>
    obtain ⟨k, x, hk, rfl, rfl, hbw⟩ := hrel
    by_cases hlt : k < n
    · obtain ⟨b, off, rfl, hb, hc⟩ := HL.out.2.2 (by omega)
      obtain ⟨p, hat, _⟩ := hc k hlt
      have hbr : b < wr.heap.size := Nat.lt_of_lt_of_le hb hbw.size
      obtain ⟨c0, c1, c2, c3, c4, c5⟩ := hat.up hbw hb
      clear hc hat
      by_cases hx : x < 1048576
      · go_wp2_with (go_at_call 114; refine (law0_CertWeight _ _ _ _ _ _ _ _ _ _ _ _ _).mono ?_; rintro e w1 ⟨⟨y, rfl⟩, hb1⟩)
        (first | (go_round; (case rel => exact ⟨k + 1, _, by omega, by go_num, rfl, by (repeat (first | (with_reducible exact Below.refl _ _) | (with_reducible assumption) | (with_reducible apply bel_alloc) | (with_reducible apply bel_drew) | (with_reducible apply bel_drewN) | (with_reducible refine bel_trans ?_ (by with_reducible assumption)) | (with_reducible refine bel_trans ?_ (HF.out _)) | (with_reducible refine bel_set ?_ (by simp) _) | (with_reducible refine bel_set ?_ (by simp; omega) _) | (with_reducible refine bel_set ?_ (by omega) _)))⟩); (case measure => (simp [intOf] <;> omega))) | (go_roundw; (case rel => exact ⟨k + 1, _, by omega, by go_num, rfl, by (repeat (first | (with_reducible exact Below.refl _ _) | (with_reducible assumption) | (with_reducible apply bel_alloc) | (with_reducible apply bel_drew) | (with_reducible apply bel_drewN) | (with_reducible refine bel_trans ?_ (by with_reducible assumption)) | (with_reducible refine bel_trans ?_ (HF.out _)) | (with_reducible refine bel_set ?_ (by simp) _) | (with_reducible refine bel_set ?_ (by simp; omega) _) | (with_reducible refine bel_set ?_ (by omega) _)))⟩); (case measure => (simp [intOf] <;> omega))) | (refine ⟨?_, by simp [intOf] <;> omega⟩; (repeat apply Exists.intro); refine ⟨?rel, ?fr⟩; (case fr => ((repeat' apply And.intro) <;> rfl)); (case rel => exact ⟨k + 1, _, by omega, by go_num, rfl, by (repeat (first | (with_reducible exact Below.refl _ _) | (with_reducible assumption) | (with_reducible apply bel_alloc) | (with_reducible apply bel_drew) | (with_reducible apply bel_drewN) | (with_reducible refine bel_trans ?_ (by with_reducible assumption)) | (with_reducible refine bel_trans ?_ (HF.out _)) | (with_reducible refine bel_set ?_ (by simp) _) | (with_reducible refine bel_set ?_ (by simp; omega) _) | (with_reducible refine bel_set ?_ (by omega) _)))⟩)))
      · go_wp2_with fail
        go_ret
        exact ⟨⟨_, rfl⟩, by (repeat (first | (with_reducible exact Below.refl _ _) | (with_reducible assumption) | (with_reducible apply bel_alloc) | (with_reducible apply bel_drew) | (with_reducible apply bel_drewN) | (with_reducible refine bel_trans ?_ (by with_reducible assumption)) | (with_reducible refine bel_trans ?_ (HF.out _)) | (with_reducible refine bel_set ?_ (by simp) _) | (with_reducible refine bel_set ?_ (by simp; omega) _) | (with_reducible refine bel_set ?_ (by omega) _)))⟩
    · go_wp2_with fail
      go_ret
      exact ⟨⟨_, rfl⟩, by (repeat (first | (with_reducible exact Below.refl _ _) | (with_reducible assumption) | (with_reducible apply bel_alloc) | (with_reducible apply bel_drew) | (with_reducible apply bel_drewN) | (with_reducible refine bel_trans ?_ (by with_reducible assumption)) | (with_reducible refine bel_trans ?_ (HF.out _)) | (with_reducible refine bel_set ?_ (by simp) _) | (with_reducible refine bel_set ?_ (by simp; omega) _) | (with_reducible refine bel_set ?_ (by omega) _)))⟩
/-- The ending is some Bool. -/
def RetB (e : Ending) : Prop := ∃ x : Bool, e = .returned (.bool x)
theorem RetB.mk (x : Bool) : RetB (.returned (.bool x)) := ⟨x, rfl⟩
set_option maxRecDepth 100000 in
set_option maxHeartbeats 1000000 in
theorem law14_Heavy (v0 v1 : Value) (A : Option Addr) (n c : Nat) (certs : List CertD) (w : World) (hl : CertsR w A n certs) :
    Calls Try.prog 66 #[.agg #[v0, v1, .slice A n c]] w fun e w' => RetB e ∧ Below w.heap.size w w' := by
  have HL := Lib.hid hl
  clear hl
  go_enter Try.func66, Try.ntmps66
  go_wp2_with (go_at_call 80; refine (law0_CertsWeight _ _ _ certs _ (HL.out.up (by (repeat (first | (with_reducible exact Below.refl _ _) | (with_reducible assumption) | (with_reducible apply bel_alloc) | (with_reducible apply bel_drew) | (with_reducible apply bel_drewN) | (with_reducible refine bel_trans ?_ (by with_reducible assumption)) | (with_reducible refine bel_trans ?_ (HF.out _)) | (with_reducible refine bel_set ?_ (by simp) _) | (with_reducible refine bel_set ?_ (by simp; omega) _) | (with_reducible refine bel_set ?_ (by omega) _)))))).mono ?_; rintro e w1 ⟨⟨y, rfl⟩, hb1⟩)
  all_goals
    go_ret
    exact ⟨RetB.mk _, by (repeat (first | (with_reducible exact Below.refl _ _) | (with_reducible assumption) | (with_reducible apply bel_alloc) | (with_reducible apply bel_drew) | (with_reducible apply bel_drewN) | (with_reducible refine bel_trans ?_ (by with_reducible assumption)) | (with_reducible refine bel_trans ?_ (HF.out _)) | (with_reducible refine bel_set ?_ (by simp) _) | (with_reducible refine bel_set ?_ (by simp; omega) _) | (with_reducible refine bel_set ?_ (by omega) _)))⟩
set_option maxRecDepth 100000 in
set_option maxHeartbeats 1000000 in
theorem law15_heavy (v0 v1 : Value) (A : Option Addr) (n c : Nat) (certs : List CertD) (iA : Option Addr) (im ic : Nat) (lA : Option Addr) (lm lc : Nat) (w : World) (hl : CertsR w A n certs) :
    Calls Try.prog 15 #[.agg #[v0, v1, .slice A n c, .slice iA im ic, .slice lA lm lc]] w fun e w' => RetB e ∧ Below w.heap.size w w' := by
  have HL := Lib.hid hl
  clear hl
  go_enter Try.func15, Try.ntmps15
  go_wp2_with (go_at_call 66; refine (law14_Heavy _ _ _ _ _ certs _ (HL.out.up (by (repeat (first | (with_reducible exact Below.refl _ _) | (with_reducible assumption) | (with_reducible apply bel_alloc) | (with_reducible apply bel_drew) | (with_reducible apply bel_drewN) | (with_reducible refine bel_trans ?_ (by with_reducible assumption)) | (with_reducible refine bel_trans ?_ (HF.out _)) | (with_reducible refine bel_set ?_ (by simp) _) | (with_reducible refine bel_set ?_ (by simp; omega) _) | (with_reducible refine bel_set ?_ (by omega) _)))))).mono ?_; rintro e w1 ⟨⟨y, rfl⟩, hb1⟩; have hz_w1 : w.heap.size + 1 ≤ w1.heap.size := (by have hq := (hb1).size; (try simp at hq); omega); have hc0_w1 := fun o => (bcell hb1).1 (w.heap.size) o (by first | (simp; done) | (simp; omega) | omega))
  all_goals
    go_ret
    exact ⟨RetB.mk _, by (repeat (first | (with_reducible exact Below.refl _ _) | (with_reducible assumption) | (with_reducible apply bel_alloc) | (with_reducible apply bel_drew) | (with_reducible apply bel_drewN) | (with_reducible refine bel_trans ?_ (by with_reducible assumption)) | (with_reducible refine bel_trans ?_ (HF.out _)) | (with_reducible refine bel_set ?_ (by simp) _) | (with_reducible refine bel_set ?_ (by simp; omega) _) | (with_reducible refine bel_set ?_ (by omega) _)))⟩
theorem law15_num (x : Int) (w : World) : Calls Try.prog 21 #[.int .i64 x] w fun e w' => e = .returned (.int .i64 x) ∧ w = w' := by
  go_enter Try.func21, Try.ntmps21
  go_wp2
  go_ret
  exact ⟨rfl, rfl⟩
def wakeC : CertD := ⟨⟨1, 1, [], []⟩, 3, [1]⟩
def wakeD : DagD := ⟨1, 0, [wakeC]⟩
theorem wake_may : mayS wakeD = true := by
  refine mayS_iff.2 ⟨by decide, by decide, by decide, by decide, fun k hk => ?_⟩
  obtain rfl : k = 0 := by simp [wakeD] at hk; omega
  refine ⟨?_, by decide, by decide, fun h => absurd h (by decide), fun i hi => absurd hi (by simp [wakeD, wakeC, cth])⟩
  have e0 : crisS [] 1 65536 = true := dec_iff.2 ⟨fun j hj => absurd hj (by simp), fun j hj => absurd hj (by simp)⟩
  have e1 : crisS [1] 1 1 = true := dec_iff.2 ⟨fun j hj => absurd hj (by simp), fun j hj => by (obtain rfl : j = 0 := by simp at hj; omega); decide⟩
  simp [certS, headS, isS, digS, digsS, wakeD, wakeC, cth, e0, e1]
theorem wake_reach : reachB wakeD 3 3 = true ∧ reachE wakeD 3 3 = 0 := by
  have h : findS wakeD.certs 3 = 0 := by decide
  constructor
  · simp [reachB, wake_may, h]
    decide
  · simp [reachE, wake_may, h]
theorem IntsR.box {w : World} {g : Nat} {l : List Int} (h : BoxR w g (l.map (Value.int .i64))) (hl : l.length ≤ 9223372036854775807) : IntsR w (some ⟨g, 0, none⟩) l.length l :=
  ⟨rfl, hl, fun _ => ⟨g, 0, rfl, h.1, fun j hj => by rw [Nat.zero_add]; exact h.2 j _ (by simp [nth, hj])⟩⟩
theorem IntsR.nil (w : World) (A : Option Addr) : IntsR w A 0 [] := ⟨rfl, by omega, fun h => absurd h (by omega)⟩
theorem wake_certs (w : World) (t1 t2 : TypeId) (o : Obj) : CertsR (((w.alloc (.cells #[.int .i64 1] t1)).alloc (.cells #[.int .i64 1, .int .i64 1, .slice none 0 0, .slice none 0 0, .int .i64 3, .slice (some ⟨w.heap.size, 0, none⟩) 1 1] t2)).alloc o) (some ⟨w.heap.size + 1, 0, none⟩) 1 wakeD.certs := by
  have h1 : BoxR ((w.alloc (.cells #[.int .i64 1] t1)).alloc (.cells #[.int .i64 1, .int .i64 1, .slice none 0 0, .slice none 0 0, .int .i64 3, .slice (some ⟨w.heap.size, 0, none⟩) 1 1] t2)) w.heap.size [.int .i64 1] := (BoxR.new w [.int .i64 1] t1).up (by (repeat (first | (with_reducible exact Below.refl _ _) | (with_reducible assumption) | (with_reducible apply bel_alloc) | (with_reducible apply bel_drew) | (with_reducible apply bel_drewN) | (with_reducible refine bel_trans ?_ (by with_reducible assumption)) | (with_reducible refine bel_trans ?_ (HF.out _)) | (with_reducible refine bel_set ?_ (by simp) _) | (with_reducible refine bel_set ?_ (by simp; omega) _) | (with_reducible refine bel_set ?_ (by omega) _))))
  have h2 : BoxR ((w.alloc (.cells #[.int .i64 1] t1)).alloc (.cells #[.int .i64 1, .int .i64 1, .slice none 0 0, .slice none 0 0, .int .i64 3, .slice (some ⟨w.heap.size, 0, none⟩) 1 1] t2)) (w.heap.size + 1) [.int .i64 1, .int .i64 1, .slice none 0 0, .slice none 0 0, .int .i64 3, .slice (some ⟨w.heap.size, 0, none⟩) 1 1] :=
    BoxR.new' _ [.int .i64 1, .int .i64 1, .slice none 0 0, .slice none 0 0, .int .i64 3, .slice (some ⟨w.heap.size, 0, none⟩) 1 1] t2 (by simp)
  refine CertsR.up (w := (w.alloc (.cells #[.int .i64 1] t1)).alloc (.cells #[.int .i64 1, .int .i64 1, .slice none 0 0, .slice none 0 0, .int .i64 3, .slice (some ⟨w.heap.size, 0, none⟩) 1 1] t2)) ?_ (by (repeat (first | (with_reducible exact Below.refl _ _) | (with_reducible assumption) | (with_reducible apply bel_alloc) | (with_reducible apply bel_drew) | (with_reducible apply bel_drewN) | (with_reducible refine bel_trans ?_ (by with_reducible assumption)) | (with_reducible refine bel_trans ?_ (HF.out _)) | (with_reducible refine bel_set ?_ (by simp) _) | (with_reducible refine bel_set ?_ (by simp; omega) _) | (with_reducible refine bel_set ?_ (by omega) _))))
  refine ⟨rfl, by omega, fun _ => ⟨w.heap.size + 1, 0, rfl, h2.1, fun j hj => ?_⟩⟩
  obtain rfl : j = 0 := by omega
  exact ⟨⟨⟨⟨none, 0, 0⟩, ⟨none, 0, 0⟩⟩, ⟨some ⟨w.heap.size, 0, none⟩, 1, 1⟩⟩, ⟨h2.2 0 _ rfl, h2.2 1 _ rfl, h2.2 2 _ rfl, h2.2 3 _ rfl, h2.2 4 _ rfl, h2.2 5 _ rfl⟩, ⟨⟨IntsR.nil _ _, IntsR.nil _ _⟩, IntsR.box (l := [1]) h1 (by simp)⟩⟩
set_option maxRecDepth 100000 in
set_option maxHeartbeats 1000000 in
theorem law15_wakes (w : World) : Calls Try.prog 25 #[] w fun e w' => e = .returned (.bool true) ∧ Below w.heap.size w w' := by
  have hw := wake_reach
  go_enter Try.func25, Try.ntmps25
  go_wp2_with (fail)
  refine (path_Reach _ 1 1 wakeD 3 3 _ (wake_certs w _ _ _)).mono ?_
  rintro e w1 ⟨rfl, hb1⟩
  rw [hw.1, hw.2]
  go_wp2_with (go_at_call 21; refine (law15_num _ _).mono ?_; rintro e w' ⟨rfl, rfl⟩)
  go_ret
  exact ⟨rfl, by (repeat (first | (with_reducible exact Below.refl _ _) | (with_reducible assumption) | (with_reducible apply bel_alloc) | (with_reducible apply bel_drew) | (with_reducible apply bel_drewN) | (with_reducible refine bel_trans ?_ (by with_reducible assumption)) | (with_reducible refine bel_trans ?_ (HF.out _)) | (with_reducible refine bel_set ?_ (by simp) _) | (with_reducible refine bel_set ?_ (by simp; omega) _) | (with_reducible refine bel_set ?_ (by omega) _)))⟩
end Go.Proofs.Ytfkbilbgndekkaa
