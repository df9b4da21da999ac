/- Weights: what is not heavy is light. -/
import Derived.Test.YtfkbilbgndekkaaCq
import Derived.Test.YtfkbilbgndekkaaP
namespace Go.Proofs.Ytfkbilbgndekkaa
open Go.RowKit
set_option linter.unusedSimpArgs false
set_option linter.unusedVariables false

def big44 : Nat := 17592186044416
theorem hwS_eq {bn pn : Nat} (h1 : bn ≤ 17592186044416) (h2 : pn ≤ 17592186044416) : hwS bn pn = 1 + bn + pn := by
  unfold hwS
  rw [IntWalk.i64_in (1 + (bn : Int)) (by omega), IntWalk.i64_in (1 + (bn : Int) + pn) (by omega)]
set_option maxRecDepth 100000 in
set_option maxHeartbeats 1000000 in
theorem law0_CertWeight' (v0 v1 v4 : Value) (bA : Option Addr) (bn bc : Nat) (pA : Option Addr) (pn pc : Nat) (sA : Option Addr) (sn sc : Nat) (w : World) (h1 : bn ≤ 17592186044416) (h2 : pn ≤ 17592186044416) (h3 : sn ≤ 17592186044416) :
    Calls Try.prog 114 #[.agg #[v0, v1, .slice bA bn bc, .slice pA pn pc, v4, .slice sA sn sc]] w fun e w' => e = .returned (.int .i64 (1 + bn + pn + sn)) ∧ Below w.heap.size w w' := by
  have he := hwS_eq h1 h2
  have HE := Lib.hid he; clear he
  go_enter Try.func114, Try.ntmps114
  go_wp2_with fail
  refine wp_region_fam (by kernel_rfl) (by kernel_rfl) (fun ι F hne hF hcl => ?_)
  have hcF0 := fun n o => (bcell (hF n)).1 (w.heap.size) o (by first | (simp; done) | (simp; omega) | omega)
  have HF := Lib.hid hF; clear hF
  have HC := Lib.hid hcl; clear hcl
  repeat (any_goals (first
   | go_big_quiet_step (first | (go_at_call 130; exact Calls.fam HC.out (law0_HeaderWeight _ _ _ _ _ _ _ _ _)))
   | (refine wpQuiet_guard _ _ _ rfl rfl ?_; (fail_if_success (intro b' hb; have h2 := hb.symm; have : b' = true := h2.trans (by with_reducible rfl))); (fail_if_success (intro b' hb; have h2 := hb.symm; have : b' = false := h2.trans (by with_reducible rfl))); intro b' hb; simp only [hb]; cases b' <;> (try simp only [Bool.not_eq_true', Bool.not_eq_false', decide_eq_true_eq, decide_eq_false_iff_not, Int.not_lt, Int.not_le, Bool.and_eq_true, Bool.or_eq_true, Bool.or_eq_false_iff, beq_iff_eq, beq_eq_false_iff_ne, Int.natCast_pos] at hb))))
  all_goals (refine wpQuiet_nil ?_; intro nq; go_wp2_with (fail))
  go_ret
  exact ⟨ret_int (by go_light; rw [HE.out]; first | rfl | (rw [IntWalk.i64_in _ (by omega)]) | (simp [IntKind.wrap_i64, wrap64]; omega)), by (repeat (first | (with_reducible exact Below.refl _ _) | (with_reducible assumption) | (with_reducible apply bel_alloc) | (with_reducible apply bel_drew) | (with_reducible apply bel_drewN) | (with_reducible refine bel_trans ?_ (by with_reducible assumption)) | (with_reducible refine bel_trans ?_ (HF.out _)) | (with_reducible refine bel_set ?_ (by simp) _) | (with_reducible refine bel_set ?_ (by simp; omega) _) | (with_reducible refine bel_set ?_ (by omega) _)))⟩
/-- The ending is some number of a kind. -/
def RetW (P : Int → Prop) (e : Ending) : Prop := ∃ x : Int, e = .returned (.int .i64 x) ∧ P x
/-- The ending is some Bool; false: then P. -/
def RetQ (P : Prop) (e : Ending) : Prop := ∃ x : Bool, e = .returned (.bool x) ∧ (x = false → P)
theorem RetQ.mk {P : Prop} (x : Bool) (h : x = false → P) : RetQ P (.returned (.bool x)) := ⟨x, rfl, h⟩
def WOk (certs : List CertD) (k : Nat) (x : Int) : Prop := ∀ j, j < k → ((cth certs j).h.ba.length + (cth certs j).h.pa.length + (cth certs j).si.length : Nat) + 1 ≤ x
def WLight (certs : List CertD) (n : Nat) (x : Int) : Prop := x ≤ 3000 → ∀ k, k < n → LightC (cth certs k)
set_option maxRecDepth 100000 in
set_option maxHeartbeats 1000000 in
theorem law0_CertsWeight' (A : Option Addr) (n c : Nat) (certs : List CertD) (w : World) (hl : CertsR w A n certs) (hs : Small certs) :
    Calls Try.prog 80 #[.slice A n c] w fun e w' => RetW (WLight certs n) e ∧ Below w.heap.size w w' := by
  have HL := Lib.hid hl
  have HN := Lib.hid hl.1
  have hn : n ≤ 17592186044416 := by rw [← hl.1]; exact hs.1
  have HS := Lib.hid hs
  clear hl hs
  go_enter Try.func80, Try.ntmps80
  go_wp2_with fail
  go_loopw [3, 4] (fun s i wr => ∃ (k : Nat) (x : Int), k ≤ n ∧ i = .int .i64 k ∧ s = .int .i64 x ∧ 0 ≤ x ∧ x ≤ 140737488355328 ∧ Hid (WOk certs k x) ∧ Below w.heap.size w wr) (fun _ i _ => n - (intOf i).toNat)
  case atStart => exact ⟨0, _, Nat.zero_le _, rfl, rfl, by omega, by omega, fun j hj => absurd hj (by omega), by (repeat (first | (with_reducible exact Below.refl _ _) | (with_reducible assumption) | (with_reducible apply bel_alloc) | (with_reducible apply bel_drew) | (with_reducible apply bel_drewN) | (with_reducible refine bel_trans ?_ (by with_reducible assumption)) | (with_reducible refine bel_trans ?_ (HF.out _)) | (with_reducible refine bel_set ?_ (by simp) _) | (with_reducible refine bel_set ?_ (by simp; omega) _) | (with_reducible refine bel_set ?_ (by omega) _)))⟩
  case round =>
    obtain ⟨k, x, hk, rfl, rfl, hx0, hx1, hok, hbw⟩ := hrel
    by_cases hlt : k < n
    · obtain ⟨b, off, rfl, hb, hc⟩ := HL.out.2.2 (by omega)
      obtain ⟨p, hat, hcr⟩ := hc k hlt
      have hbr : b < wr.heap.size := Nat.lt_of_lt_of_le hb hbw.size
      obtain ⟨c0, c1, c2, c3, c4, c5⟩ := hat.up hbw hb
      have hsk := HS.out.2 k (by rw [HN.out]; exact hlt)
      obtain ⟨⟨⟨bA, bn, bc⟩, ⟨pA, pn, pc⟩⟩, ⟨sA, sn, sc⟩⟩ := p
      dsimp only at c0 c1 c2 c3 c4 c5
      have e1 : (cth certs k).h.ba.length = bn := hcr.1.1.1
      have e2 : (cth certs k).h.pa.length = pn := hcr.1.2.1
      have e3 : (cth certs k).si.length = sn := hcr.2.1
      have q1 : bn ≤ 17592186044416 := by rw [← e1]; exact hsk.1
      have q2 : pn ≤ 17592186044416 := by rw [← e2]; exact hsk.2.1
      have q3 : sn ≤ 17592186044416 := by rw [← e3]; exact hsk.2.2
      have E1 := Lib.hid e1; have E2 := Lib.hid e2; have E3 := Lib.hid e3
      clear hc hat hcr hsk e1 e2 e3
      by_cases hx : x < 1048576
      · go_wp2_with (go_at_call 114; refine (law0_CertWeight' _ _ _ _ _ _ _ _ _ _ _ _ _ q1 q2 q3).mono ?_; rintro e w1 ⟨rfl, hb1⟩)
        (first | (go_round; (case rel => (refine ⟨k + 1, x + (1 + bn + pn + sn), by omega, by go_num, by go_num, by omega, by omega, Lib.hid (fun j hj => ?_), by (repeat (first | (with_reducible exact Below.refl _ _) | (with_reducible assumption) | (with_reducible apply bel_alloc) | (with_reducible apply bel_drew) | (with_reducible apply bel_drewN) | (with_reducible refine bel_trans ?_ (by with_reducible assumption)) | (with_reducible refine bel_trans ?_ (HF.out _)) | (with_reducible refine bel_set ?_ (by simp) _) | (with_reducible refine bel_set ?_ (by simp; omega) _) | (with_reducible refine bel_set ?_ (by omega) _)))⟩; rcases Nat.lt_or_ge j k with h1 | h1; (have := hok.out j h1; omega); (obtain rfl : j = k := by omega); rw [E1.out, E2.out, E3.out]; omega)); (case measure => (simp [intOf] <;> omega))) | (go_roundw; (case rel => (refine ⟨k + 1, x + (1 + bn + pn + sn), by omega, by go_num, by go_num, by omega, by omega, Lib.hid (fun j hj => ?_), by (repeat (first | (with_reducible exact Below.refl _ _) | (with_reducible assumption) | (with_reducible apply bel_alloc) | (with_reducible apply bel_drew) | (with_reducible apply bel_drewN) | (with_reducible refine bel_trans ?_ (by with_reducible assumption)) | (with_reducible refine bel_trans ?_ (HF.out _)) | (with_reducible refine bel_set ?_ (by simp) _) | (with_reducible refine bel_set ?_ (by simp; omega) _) | (with_reducible refine bel_set ?_ (by omega) _)))⟩; rcases Nat.lt_or_ge j k with h1 | h1; (have := hok.out j h1; omega); (obtain rfl : j = k := by omega); rw [E1.out, E2.out, E3.out]; omega)); (case measure => (simp [intOf] <;> omega))) | (refine ⟨?_, by simp [intOf] <;> omega⟩; (repeat apply Exists.intro); refine ⟨?rel, ?fr⟩; (case fr => ((repeat' apply And.intro) <;> rfl)); (case rel => (refine ⟨k + 1, x + (1 + bn + pn + sn), by omega, by go_num, by go_num, by omega, by omega, Lib.hid (fun j hj => ?_), by (repeat (first | (with_reducible exact Below.refl _ _) | (with_reducible assumption) | (with_reducible apply bel_alloc) | (with_reducible apply bel_drew) | (with_reducible apply bel_drewN) | (with_reducible refine bel_trans ?_ (by with_reducible assumption)) | (with_reducible refine bel_trans ?_ (HF.out _)) | (with_reducible refine bel_set ?_ (by simp) _) | (with_reducible refine bel_set ?_ (by simp; omega) _) | (with_reducible refine bel_set ?_ (by omega) _)))⟩; rcases Nat.lt_or_ge j k with h1 | h1; (have := hok.out j h1; omega); (obtain rfl : j = k := by omega); rw [E1.out, E2.out, E3.out]; omega))))
      · go_wp2_with fail
        go_ret
        exact ⟨⟨x, rfl, fun h => by omega⟩, by (repeat (first | (with_reducible exact Below.refl _ _) | (with_reducible assumption) | (with_reducible apply bel_alloc) | (with_reducible apply bel_drew) | (with_reducible apply bel_drewN) | (with_reducible refine bel_trans ?_ (by with_reducible assumption)) | (with_reducible refine bel_trans ?_ (HF.out _)) | (with_reducible refine bel_set ?_ (by simp) _) | (with_reducible refine bel_set ?_ (by simp; omega) _) | (with_reducible refine bel_set ?_ (by omega) _)))⟩
    · go_wp2_with fail
      go_ret
      refine ⟨⟨x, rfl, fun h j hj => ?_⟩, by (repeat (first | (with_reducible exact Below.refl _ _) | (with_reducible assumption) | (with_reducible apply bel_alloc) | (with_reducible apply bel_drew) | (with_reducible apply bel_drewN) | (with_reducible refine bel_trans ?_ (by with_reducible assumption)) | (with_reducible refine bel_trans ?_ (HF.out _)) | (with_reducible refine bel_set ?_ (by simp) _) | (with_reducible refine bel_set ?_ (by simp; omega) _) | (with_reducible refine bel_set ?_ (by omega) _)))⟩
      have := hok.out j (by omega)
      exact ⟨by omega, by omega, by omega⟩
set_option maxRecDepth 100000 in
set_option maxHeartbeats 1000000 in
theorem law14_Heavy' (v0 v1 : Value) (A : Option Addr) (n c : Nat) (certs : List CertD) (w : World) (hl : CertsR w A n certs) (hs : Small certs) :
    Calls Try.prog 66 #[.agg #[v0, v1, .slice A n c]] w fun e w' => RetQ (Light certs) e ∧ Below w.heap.size w w' := by
  have HL := Lib.hid hl
  have HN := Lib.hid hl.1
  have HS := Lib.hid hs
  clear hl hs
  go_enter Try.func66, Try.ntmps66
  go_wp2_with (go_at_call 80; refine (law0_CertsWeight' _ _ _ certs _ (HL.out.up (by (repeat (first | (with_reducible exact Below.refl _ _) | (with_reducible assumption) | (with_reducible apply bel_alloc) | (with_reducible apply bel_drew) | (with_reducible apply bel_drewN) | (with_reducible refine bel_trans ?_ (by with_reducible assumption)) | (with_reducible refine bel_trans ?_ (HF.out _)) | (with_reducible refine bel_set ?_ (by simp) _) | (with_reducible refine bel_set ?_ (by simp; omega) _) | (with_reducible refine bel_set ?_ (by omega) _))))) HS.out).mono ?_; rintro e w1 ⟨⟨y, rfl, hy⟩, hb1⟩; have HY := Lib.hid hy; clear hy)
  all_goals
    go_ret
    refine ⟨RetQ.mk _ (fun h => ?_), by (repeat (first | (with_reducible exact Below.refl _ _) | (with_reducible assumption) | (with_reducible apply bel_alloc) | (with_reducible apply bel_drew) | (with_reducible apply bel_drewN) | (with_reducible refine bel_trans ?_ (by with_reducible assumption)) | (with_reducible refine bel_trans ?_ (HF.out _)) | (with_reducible refine bel_set ?_ (by simp) _) | (with_reducible refine bel_set ?_ (by simp; omega) _) | (with_reducible refine bel_set ?_ (by omega) _)))⟩
    first
      | (exfalso; revert h; simp; done)
      | (refine ⟨by rw [HN.out]; omega, fun k hk => HY.out (by go_light; simp at h; omega) k (by rw [← HN.out]; exact hk)⟩)
set_option maxRecDepth 100000 in
set_option maxHeartbeats 1000000 in
theorem law15_heavy' (v0 v1 : Value) (A : Option Addr) (n c : Nat) (certs : List CertD) (iA : Option Addr) (im ic : Nat) (lA : Option Addr) (lm lc : Nat) (w : World) (hl : CertsR w A n certs) (hs : Small certs) :
    Calls Try.prog 15 #[.agg #[v0, v1, .slice A n c, .slice iA im ic, .slice lA lm lc]] w fun e w' => RetQ (Light certs ∧ im ≤ 30 ∧ lm ≤ 30) e ∧ Below w.heap.size w w' := by
  have HL := Lib.hid hl
  have HS := Lib.hid hs
  clear hl hs
  go_enter Try.func15, Try.ntmps15
  go_wp2_with (go_at_call 66; refine (law14_Heavy' _ _ _ _ _ certs _ (HL.out.up (by (repeat (first | (with_reducible exact Below.refl _ _) | (with_reducible assumption) | (with_reducible apply bel_alloc) | (with_reducible apply bel_drew) | (with_reducible apply bel_drewN) | (with_reducible refine bel_trans ?_ (by with_reducible assumption)) | (with_reducible refine bel_trans ?_ (HF.out _)) | (with_reducible refine bel_set ?_ (by simp) _) | (with_reducible refine bel_set ?_ (by simp; omega) _) | (with_reducible refine bel_set ?_ (by omega) _))))) HS.out).mono ?_; rintro e w1 ⟨⟨y, rfl, hy⟩, hb1⟩; have HY := Lib.hid hy; clear hy; have hz_w1 : w.heap.size + 1 ≤ w1.heap.size := (by have hq := (hb1).size; (try simp at hq); omega); have hc0_w1 := fun o => (bcell hb1).1 (w.heap.size) o (by first | (simp; done) | (simp; omega) | omega))
  all_goals
    go_ret
    refine ⟨RetQ.mk _ (fun h => ?_), by (repeat (first | (with_reducible exact Below.refl _ _) | (with_reducible assumption) | (with_reducible apply bel_alloc) | (with_reducible apply bel_drew) | (with_reducible apply bel_drewN) | (with_reducible refine bel_trans ?_ (by with_reducible assumption)) | (with_reducible refine bel_trans ?_ (HF.out _)) | (with_reducible refine bel_set ?_ (by simp) _) | (with_reducible refine bel_set ?_ (by simp; omega) _) | (with_reducible refine bel_set ?_ (by omega) _)))⟩
    first
      | (exfalso; revert h; simp; done)
      | (refine ⟨HY.out (by go_light; simp_all), by go_light; simp at h; omega, by go_light; simp at h; omega⟩)
end Go.Proofs.Ytfkbilbgndekkaa
