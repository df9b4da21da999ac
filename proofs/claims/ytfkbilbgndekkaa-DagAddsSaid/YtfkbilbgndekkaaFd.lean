/- The certificates of a round; votes. -/
import Derived.Test.YtfkbilbgndekkaaFc
import Derived.Test.YtfkbilbgndekkaaS
import Derived.Test.YtfkbilbgndekkaaR
namespace Go.Proofs.Ytfkbilbgndekkaa
open Go.RowKit
set_option linter.unusedSimpArgs false
set_option linter.unusedVariables false

theorem fl_0 : (0 : Nat) = fl 0 := by decide +kernel
theorem fl_17 : (4625478292286210048 : Nat) = fl 17 := by decide +kernel
theorem dag_find_lit (A : Option Addr) (n c : Nat) (l : List CertD) (r a : Int) (x : Nat) (hx : x = fl a) (w : World) (hl : CertsR w A n l) (hP : Places l) (hn : n ≤ 1000000000) (h3 : Sm r) (h4 : Sm a) :
    Calls Try.prog 119 #[.slice A n c, .complex .f64 (fl r) x] w fun e w' => ∃ lo : Nat, e = .returned (.tuple #[.int .i64 lo, .bool (hereS l r a lo)]) ∧ lo ≤ n ∧ CutP l n r a lo lo ∧ Below w.heap.size w w' := by
  subst hx; exact dag_find A n c l r a w hl hP hn h3 h4
def roundL (l : List CertD) (r : Int) : List CertD := l.filter fun c => decide (c.h.ro = r)
def Auths (l : List CertD) : Prop := ∀ k, k < l.length → 1 ≤ (cth l k).h.au ∧ (cth l k).h.au ≤ 16
theorem mem_cth {l : List CertD} {x : CertD} (h : x ∈ l) : ∃ k, k < l.length ∧ cth l k = x := by
  obtain ⟨k, hk, e⟩ := List.getElem_of_mem h
  exact ⟨k, hk, by simp [cth, hk, e]⟩
theorem filter_none {p : CertD → Bool} {l : List CertD} (h : ∀ k, k < l.length → p (cth l k) = false) : l.filter p = [] := by
  rw [List.filter_eq_nil_iff]
  intro x hx
  obtain ⟨k, hk, rfl⟩ := mem_cth hx
  rw [h k hk]; simp
theorem filter_all {p : CertD → Bool} {l : List CertD} (h : ∀ k, k < l.length → p (cth l k) = true) : l.filter p = l := by
  rw [List.filter_eq_self]
  intro x hx
  obtain ⟨k, hk, rfl⟩ := mem_cth hx
  exact h k hk
theorem cth_take {l : List CertD} {n k : Nat} (h : k < n) : cth (l.take n) k = cth l k := by
  unfold cth; simp [List.getD, List.getElem?_take, h]
theorem cth_drop {l : List CertD} {n k : Nat} : cth (l.drop n) k = cth l (n + k) := by
  unfold cth; simp [List.getD, List.getElem?_drop]
theorem round_cut {l : List CertD} {r : Int} {lo1 lo2 : Nat} (hA : Auths l) (h1 : CutP l l.length r 0 lo1 lo1) (h2 : CutP l l.length r 17 lo2 lo2) (hl1 : lo1 ≤ l.length) (hl2 : lo2 ≤ l.length) : lo1 ≤ lo2 ∧ roundL l r = (l.drop lo1).take (lo2 - lo1) := by
  have h12 : lo1 ≤ lo2 := by
    rcases Nat.lt_or_ge lo2 lo1 with h | h
    · have a1 := befS_iff.1 (h1.1 lo2 h)
      have a2 := h2.2 lo2 (Nat.le_refl _) (by omega)
      have a3 := hA lo2 (by omega)
      have : befS (cth l lo2).h.ro (cth l lo2).h.au r 17 = true := befS_iff.2 (by omega)
      rw [a2] at this; cases this
    · exact h
  refine ⟨h12, ?_⟩
  have e : l = l.take lo1 ++ ((l.drop lo1).take (lo2 - lo1) ++ l.drop lo2) := by
    have e1 : (l.drop lo1).drop (lo2 - lo1) = l.drop lo2 := by rw [List.drop_drop]; congr 1; omega
    rw [← e1, List.take_append_drop, List.take_append_drop]
  have f2 : ((l.drop lo1).take (lo2 - lo1)).filter (fun c => decide (c.h.ro = r)) = (l.drop lo1).take (lo2 - lo1) := filter_all (by
    intro k hk
    simp only [List.length_take, List.length_drop] at hk
    rw [cth_take (by omega), cth_drop]
    have a1 := h1.2 (lo1 + k) (by omega) (by omega)
    have a2 := befS_iff.1 (h2.1 (lo1 + k) (by omega))
    have a3 := hA (lo1 + k) (by omega)
    have a4 : ¬ ((cth l (lo1 + k)).h.ro < r ∨ (cth l (lo1 + k)).h.ro = r ∧ (cth l (lo1 + k)).h.au < 0) := fun g => by rw [befS_iff.2 g] at a1; cases a1
    simp; omega)
  have f3 : (l.drop lo2).filter (fun c => decide (c.h.ro = r)) = [] := filter_none (by
    intro k hk
    simp only [List.length_drop] at hk
    rw [cth_drop]
    have a1 := h2.2 (lo2 + k) (by omega) (by omega)
    have a3 := hA (lo2 + k) (by omega)
    have a4 : ¬ ((cth l (lo2 + k)).h.ro < r ∨ (cth l (lo2 + k)).h.ro = r ∧ (cth l (lo2 + k)).h.au < 17) := fun g => by rw [befS_iff.2 g] at a1; cases a1
    simp; omega)
  have f1 : (l.take lo1).filter (fun c => decide (c.h.ro = r)) = [] := filter_none (by
    intro k hk
    simp only [List.length_take] at hk
    rw [cth_take (by omega)]
    have a1 := befS_iff.1 (h1.1 k (by omega))
    have a3 := hA k (by omega)
    simp; omega)
  unfold roundL
  conv => lhs; rw [e]
  rw [List.filter_append, List.filter_append, f1, f2, f3, List.nil_append, List.append_nil]
theorem CertsR.cut {w : World} {b off n : Nat} {l : List CertD} (h : CertsR w (some ⟨b, off, none⟩) n l) {x y : Nat} (hxy : x < y) (hy : y ≤ n) : CertsR w (some ⟨b, off + x * 6, none⟩) (y - x) ((l.drop x).take (y - x)) := by
  refine ⟨by simp [h.1]; omega, by have := h.2.1; omega, fun hn => ?_⟩
  obtain ⟨b', off', e, hb, hc⟩ := h.2.2 (by omega)
  injection e with e; injection e with e1 e2 e3
  subst e1; subst e2
  refine ⟨b, off + x * 6, rfl, hb, fun j hj => ?_⟩
  obtain ⟨p, h1, h2⟩ := hc (x + j) (by omega)
  refine ⟨p, ?_, ?_⟩
  · rw [cth_take (by omega), cth_drop, show off + x * 6 + j * 6 = off + (x + j) * 6 by omega]; exact h1
  · rw [cth_take (by omega), cth_drop]; exact h2
theorem CertsR.none {w : World} {A : Option Addr} : CertsR w A 0 [] := ⟨rfl, by omega, fun h => absurd h (by omega)⟩
/-- The ending is a slice that reads as these certificates. -/
def RetC (l : List CertD) (e : Ending) (w' : World) : Prop := ∃ A' m c', e = .returned (.slice A' m c') ∧ CertsR w' A' m l
set_option maxRecDepth 100000 in
set_option maxHeartbeats 1000000 in
theorem dag_Of (A : Option Addr) (n c : Nat) (l : List CertD) (nodes low r : Int) (w : World) (hl : CertsR w A n l) (hP : Places l) (hA : Auths l) (hn : n ≤ 1000000000) (hcap : n ≤ c) (hcb : c ≤ 9223372036854775807) (h3 : Sm r) :
    Calls Try.prog 95 #[.agg #[.int .i64 nodes, .int .i64 low, .slice A n c], .int .i64 r] w fun e w' => RetC (roundL l r) e w' ∧ Below w.heap.size w w' := by
  have HL := Lib.hid hl
  have HP := Lib.hid hP
  have HN := Lib.hid hl.1
  have HAU := Lib.hid hA
  clear hl hP hA
  go_enter Try.func95, Try.ntmps95
  go_wp2_with fail
  refine (dag_find_lit A n c l r 0 _ fl_0 _ (HL.out.up (by (repeat (first | (with_reducible exact Below.refl _ _) | (with_reducible assumption) | (with_reducible apply bel_alloc) | (with_reducible apply bel_drew) | (with_reducible apply bel_drewN) | (with_reducible refine bel_trans ?_ (by with_reducible assumption)) | (with_reducible refine bel_trans ?_ (HF.out _)) | (with_reducible refine bel_set ?_ (by simp) _) | (with_reducible refine bel_set ?_ (by simp; omega) _) | (with_reducible refine bel_set ?_ (by omega) _))))) HP.out hn h3 ⟨by omega, by omega⟩).mono ?_
  rintro e w1 ⟨lo1, rfl, h1, hc1, hb1⟩
  have hz_w1 : w.heap.size + 1 ≤ w1.heap.size := (by have hq := (hb1).size; (try simp at hq); omega); have hc0_w1 := fun o => (bcell hb1).1 (w.heap.size) o (by first | (simp; done) | (simp; omega) | omega)
  have HC1 := Lib.hid hc1
  clear hc1
  go_wp2_with fail
  refine (dag_find_lit A n c l r 17 _ fl_17 _ (HL.out.up (by (repeat (first | (with_reducible exact Below.refl _ _) | (with_reducible assumption) | (with_reducible apply bel_alloc) | (with_reducible apply bel_drew) | (with_reducible apply bel_drewN) | (with_reducible refine bel_trans ?_ (by with_reducible assumption)) | (with_reducible refine bel_trans ?_ (HF.out _)) | (with_reducible refine bel_set ?_ (by simp) _) | (with_reducible refine bel_set ?_ (by simp; omega) _) | (with_reducible refine bel_set ?_ (by omega) _))))) HP.out hn h3 ⟨by omega, by omega⟩).mono ?_
  rintro e w2 ⟨lo2, rfl, h2, hc2, hb2⟩
  have hz2 : w.heap.size + 1 ≤ w2.heap.size := by have := hb2.size; omega
  have hcc2 := fun o => (bcell hb2).1 w.heap.size o (by omega)
  have hcut := round_cut HAU.out (by rw [HN.out]; exact HC1.out) (by rw [HN.out]; exact hc2) (by rw [HN.out]; exact h1) (by rw [HN.out]; exact h2)
  have h12 := hcut.1
  have HCU := Lib.hid hcut.2
  clear hcut hc2
  have hl0 : 0 ≤ (lo1 : Int) := by omega
  have hbw2 : Below w.heap.size w w2 := by (repeat (first | (with_reducible exact Below.refl _ _) | (with_reducible assumption) | (with_reducible apply bel_alloc) | (with_reducible apply bel_drew) | (with_reducible apply bel_drewN) | (with_reducible refine bel_trans ?_ (by with_reducible assumption)) | (with_reducible refine bel_trans ?_ (HF.out _)) | (with_reducible refine bel_set ?_ (by simp) _) | (with_reducible refine bel_set ?_ (by simp; omega) _) | (with_reducible refine bel_set ?_ (by omega) _)))
  rcases Nat.lt_or_ge lo1 lo2 with h | h
  · obtain ⟨b, off, rfl, hb, _⟩ := HL.out.2.2 (by omega)
    go_wp2_with fail
    go_ret
    exact ⟨⟨_, _, _, rfl, by rw [HCU.out]; exact (HL.out.up hbw2).cut h h2⟩, hbw2⟩
  · have e12 : lo2 = lo1 := by omega
    subst e12
    go_wp2_with fail
    all_goals
      go_ret
      exact ⟨⟨_, _, _, rfl, by rw [HCU.out, Nat.sub_self, List.take_zero]; exact CertsR.none⟩, hbw2⟩

/-! ### votes -/
def votL (l : List CertD) (q a : Int) : List CertD := l.filter fun c => decide (c.h.ro = q) && hasS c.h.pa a
def hasL (l : List CertD) (a : Int) : List CertD := l.filter fun c => hasS c.h.pa a
theorem votL_eq (l : List CertD) (q a : Int) : votL l q a = hasL (roundL l q) a := by unfold votL hasL roundL; rw [List.filter_filter]; congr 1; funext c; exact Bool.and_comm _ _
theorem hasL_yes {l : List CertD} {a : Int} {k : Nat} (h : k < l.length) (hh : hasS (cth l k).h.pa a = true) : (hasL (l.take (k + 1)) a).length = (hasL (l.take k) a).length + 1 := by
  unfold hasL; rw [take_cth l k h, List.filter_append]; simp [hh]
theorem hasL_no {l : List CertD} {a : Int} {k : Nat} (h : k < l.length) (hh : hasS (cth l k).h.pa a = false) : (hasL (l.take (k + 1)) a).length = (hasL (l.take k) a).length := by
  unfold hasL; rw [take_cth l k h, List.filter_append]; simp [hh]
theorem votL_yes {l : List CertD} {q a : Int} {k : Nat} (h : k < l.length) (hr : (cth l k).h.ro = q) (hh : hasS (cth l k).h.pa a = true) : (votL (l.take (k + 1)) q a).length = (votL (l.take k) q a).length + 1 := by
  unfold votL; rw [take_cth l k h, List.filter_append]; simp [hh, hr]
theorem votL_no {l : List CertD} {q a : Int} {k : Nat} (h : k < l.length) (hh : ¬ ((cth l k).h.ro = q ∧ hasS (cth l k).h.pa a = true)) : (votL (l.take (k + 1)) q a).length = (votL (l.take k) q a).length := by
  unfold votL; rw [take_cth l k h, List.filter_append, List.length_append]
  have : (decide ((cth l k).h.ro = q) && hasS (cth l k).h.pa a) = false := by
    rw [Bool.eq_false_iff]; intro g; rw [Bool.and_eq_true, decide_eq_true_eq] at g; exact hh g
  simp [this]
theorem votL_le (l : List CertD) (q a : Int) (k : Nat) : (votL (l.take k) q a).length ≤ k := by
  unfold votL; exact Nat.le_trans (List.length_filter_le _ _) (by simp; omega)
theorem hasL_le (l : List CertD) (a : Int) (k : Nat) : (hasL (l.take k) a).length ≤ k := by
  unfold hasL; exact Nat.le_trans (List.length_filter_le _ _) (by simp; omega)
def votesS (D : DagD) (r : Int) : Int := if 0 < anchS D r then ((votL D.certs (r + 1) (anchS D r)).length : Nat) else 0
set_option maxRecDepth 100000 in
set_option maxHeartbeats 1000000 in
theorem anchor_Count (A : Option Addr) (n c : Nat) (D : DagD) (r : Int) (w : World) (hl : CertsR w A n D.certs) (hP : Places D.certs) (hA : Auths D.certs) (hn : n ≤ 65536) (hcap : n ≤ c) (hcb : c ≤ 9223372036854775807) (h1 : 1 ≤ D.nodes) (h2 : D.nodes ≤ 16) (h3 : 2 ≤ r) (h4 : r ≤ 1099511627776) :
    Calls Try.prog 110 #[.agg #[.int .i64 D.nodes, .int .i64 D.low, .slice A n c], .int .i64 r] w fun e w' => e = .returned (.int .i64 (votesS D r)) ∧ Below w.heap.size w w' := by
  have HL := Lib.hid hl
  have HN := Lib.hid hl.1
  have HP := Lib.hid hP
  have HAU := Lib.hid hA
  clear hl hP hA
  obtain ⟨an, han⟩ : ∃ an, an = anchS D r := ⟨_, rfl⟩
  go_enter Try.func110, Try.ntmps110
  go_wp2_with fail
  refine (anchor_Of A n c D r _ (HL.out.up (by (repeat (first | (with_reducible exact Below.refl _ _) | (with_reducible assumption) | (with_reducible apply bel_alloc) | (with_reducible apply bel_drew) | (with_reducible apply bel_drewN) | (with_reducible refine bel_trans ?_ (by with_reducible assumption)) | (with_reducible refine bel_trans ?_ (HF.out _)) | (with_reducible refine bel_set ?_ (by simp) _) | (with_reducible refine bel_set ?_ (by simp; omega) _) | (with_reducible refine bel_set ?_ (by omega) _))))) HP.out (by omega) h1 h2 h3 h4).mono ?_
  rintro e w1 ⟨rfl, hb1⟩
  rw [← han]
  have HAN := Lib.hid han
  clear han
  have hz_w1 : w.heap.size + 1 ≤ w1.heap.size := (by have hq := (hb1).size; (try simp at hq); omega); have hc0_w1 := fun o => (bcell hb1).1 (w.heap.size) o (by first | (simp; done) | (simp; omega) | omega)
  go_wp2_with fail
  refine (dag_Of A n c D.certs _ _ (r + 1) _ (HL.out.up (by (repeat (first | (with_reducible exact Below.refl _ _) | (with_reducible assumption) | (with_reducible apply bel_alloc) | (with_reducible apply bel_drew) | (with_reducible apply bel_drewN) | (with_reducible refine bel_trans ?_ (by with_reducible assumption)) | (with_reducible refine bel_trans ?_ (HF.out _)) | (with_reducible refine bel_set ?_ (by simp) _) | (with_reducible refine bel_set ?_ (by simp; omega) _) | (with_reducible refine bel_set ?_ (by omega) _))))) HP.out HAU.out (by omega) hcap hcb ⟨by omega, by omega⟩).mono ?_
  rintro e w2 ⟨⟨B, m, d, rfl, hR⟩, hb2⟩
  have hbw2 : Below w.heap.size w w2 := by (repeat (first | (with_reducible exact Below.refl _ _) | (with_reducible assumption) | (with_reducible apply bel_alloc) | (with_reducible apply bel_drew) | (with_reducible apply bel_drewN) | (with_reducible refine bel_trans ?_ (by with_reducible assumption)) | (with_reducible refine bel_trans ?_ (HF.out _)) | (with_reducible refine bel_set ?_ (by simp) _) | (with_reducible refine bel_set ?_ (by simp; omega) _) | (with_reducible refine bel_set ?_ (by omega) _)))
  have HRR := Lib.hid hR
  have HM := Lib.hid hR.1
  have hmn : m ≤ n := by rw [← hR.1, ← HN.out]; exact List.length_filter_le _ _
  clear hR
  go_wp2_with fail
  by_cases ha : 0 < an
  · have hz : decide (0 < an) = true := by simpa using ha
    go_loopw [4, 16] (fun is ik wr => ∃ k : Nat, k ≤ m ∧ ik = .int .i64 k ∧ is = .int .i64 ((hasL ((roundL D.certs (r + 1)).take k) an).length : Nat) ∧ Below w2.heap.size w2 wr) (fun _ ik _ => m - (intOf ik).toNat)
    case atStart => exact ⟨0, Nat.zero_le _, rfl, by rw [List.take_zero]; rfl, Below.refl _ _⟩
    case round =>
      obtain ⟨k, hk, rfl, rfl, hbx⟩ := hrel
      (obtain ⟨wx, hwx⟩ : ∃ x, x = wr := ⟨_, rfl⟩); subst hwx
      by_cases hlt : k < m
      · obtain ⟨b, off, rfl, hb, hc⟩ := (HRR.out.up hbx).2.2 (by omega)
        obtain ⟨p, hat, hcr⟩ := hc k hlt
        obtain ⟨c0, c1, c2, c3, c4, c5⟩ := hat
        obtain ⟨⟨⟨bA, bn, bc⟩, ⟨pA, pn, pc⟩⟩, ⟨sA, sn, sc⟩⟩ := p
        dsimp only at c0 c1 c2 c3 c4 c5
        obtain ⟨C, hC⟩ : ∃ C, C = cth (roundL D.certs (r + 1)) k := ⟨_, rfl⟩
        rw [← hC] at c0 c1 c4 hcr
        have hpa : IntsR wx pA pn C.h.pa := hcr.1.2
        have HPA := Lib.hid hpa
        have hkl : k < (roundL D.certs (r + 1)).length := by rw [HM.out]; exact hlt
        obtain ⟨q, hq⟩ : ∃ q, q = (hasL ((roundL D.certs (r + 1)).take k) an).length := ⟨_, rfl⟩
        have hqk : q ≤ k := by rw [hq]; exact hasL_le _ _ _
        rw [← hq]
        have HQ := Lib.hid hq
        have HCC := Lib.hid hC
        clear hc hcr hpa hq hC
        cases hh : hasS C.h.pa an
        · have hv := hasL_no (a := an) hkl (by rw [← HCC.out]; exact hh)
          have HV := Lib.hid hv
          have HH := Lib.hid hh
          clear hh hv
          go_wp2_with (go_at_call 127; refine (slices_Contains pA pn pc C.h.pa _ _ (HPA.out.up (by (repeat (first | (with_reducible exact Below.refl _ _) | (with_reducible assumption) | (with_reducible apply bel_alloc) | (with_reducible apply bel_drew) | (with_reducible apply bel_drewN) | (with_reducible refine bel_trans ?_ (by with_reducible assumption)) | (with_reducible refine bel_trans ?_ (HF.out _)) | (with_reducible refine bel_set ?_ (by simp) _) | (with_reducible refine bel_set ?_ (by simp; omega) _) | (with_reducible refine bel_set ?_ (by omega) _)))))).mono ?_; rintro e w' ⟨rfl, rfl⟩; rw [HH.out])
          (first | (go_round; (case rel => exact ⟨k + 1, by omega, by go_num, by rw [HV.out, ← HQ.out], bel_alloc hbx⟩); (case measure => (simp [intOf] <;> omega))) | (go_roundw; (case rel => exact ⟨k + 1, by omega, by go_num, by rw [HV.out, ← HQ.out], bel_alloc hbx⟩); (case measure => (simp [intOf] <;> omega))) | (refine ⟨?_, by simp [intOf] <;> omega⟩; (repeat apply Exists.intro); refine ⟨?rel, ?fr⟩; (case fr => ((repeat' apply And.intro) <;> rfl)); (case rel => exact ⟨k + 1, by omega, by go_num, by rw [HV.out, ← HQ.out], bel_alloc hbx⟩)))
        · have hv := hasL_yes (a := an) hkl (by rw [← HCC.out]; exact hh)
          have HV := Lib.hid hv
          have HH := Lib.hid hh
          clear hh hv
          go_wp2_with (go_at_call 127; refine (slices_Contains pA pn pc C.h.pa _ _ (HPA.out.up (by (repeat (first | (with_reducible exact Below.refl _ _) | (with_reducible assumption) | (with_reducible apply bel_alloc) | (with_reducible apply bel_drew) | (with_reducible apply bel_drewN) | (with_reducible refine bel_trans ?_ (by with_reducible assumption)) | (with_reducible refine bel_trans ?_ (HF.out _)) | (with_reducible refine bel_set ?_ (by simp) _) | (with_reducible refine bel_set ?_ (by simp; omega) _) | (with_reducible refine bel_set ?_ (by omega) _)))))).mono ?_; rintro e w' ⟨rfl, rfl⟩; rw [HH.out])
          (first | (go_round; (case rel => exact ⟨k + 1, by omega, by go_num, by rw [HV.out, ← HQ.out]; go_num, bel_alloc hbx⟩); (case measure => (simp [intOf] <;> omega))) | (go_roundw; (case rel => exact ⟨k + 1, by omega, by go_num, by rw [HV.out, ← HQ.out]; go_num, bel_alloc hbx⟩); (case measure => (simp [intOf] <;> omega))) | (refine ⟨?_, by simp [intOf] <;> omega⟩; (repeat apply Exists.intro); refine ⟨?rel, ?fr⟩; (case fr => ((repeat' apply And.intro) <;> rfl)); (case rel => exact ⟨k + 1, by omega, by go_num, by rw [HV.out, ← HQ.out]; go_num, bel_alloc hbx⟩)))
      · have e : (roundL D.certs (r + 1)).take k = roundL D.certs (r + 1) := List.take_of_length_le (by rw [HM.out]; omega)
        rw [e]
        clear e
        go_wp2_with fail
        go_ret
        exact ⟨ret_int (by unfold votesS; rw [← HAN.out, if_pos ha, votL_eq]), bel_trans hbw2 hbx⟩
  · have hz : decide (0 < an) = false := by simpa using ha
    go_loopw [4, 16] (fun is ik wr => ∃ k : Nat, k ≤ m ∧ ik = .int .i64 k ∧ is = .int .i64 0 ∧ Below w2.heap.size w2 wr) (fun _ ik _ => m - (intOf ik).toNat)
    case atStart => exact ⟨0, Nat.zero_le _, rfl, rfl, Below.refl _ _⟩
    case round =>
      obtain ⟨k, hk, rfl, rfl, hbx⟩ := hrel
      (obtain ⟨wx, hwx⟩ : ∃ x, x = wr := ⟨_, rfl⟩); subst hwx
      by_cases hlt : k < m
      · obtain ⟨b, off, rfl, hb, hc⟩ := (HRR.out.up hbx).2.2 (by omega)
        obtain ⟨p, hat, hcr⟩ := hc k hlt
        obtain ⟨c0, c1, c2, c3, c4, c5⟩ := hat
        clear hc
        go_wp2_with fail
        (first | (go_round; (case rel => exact ⟨k + 1, by omega, by go_num, rfl, bel_alloc hbx⟩); (case measure => (simp [intOf] <;> omega))) | (go_roundw; (case rel => exact ⟨k + 1, by omega, by go_num, rfl, bel_alloc hbx⟩); (case measure => (simp [intOf] <;> omega))) | (refine ⟨?_, by simp [intOf] <;> omega⟩; (repeat apply Exists.intro); refine ⟨?rel, ?fr⟩; (case fr => ((repeat' apply And.intro) <;> rfl)); (case rel => exact ⟨k + 1, by omega, by go_num, rfl, bel_alloc hbx⟩)))
      · go_wp2_with fail
        go_ret
        exact ⟨ret_int (by unfold votesS; rw [← HAN.out, if_neg (by omega)]), bel_trans hbw2 hbx⟩
theorem votes_le (D : DagD) (r : Int) (h : D.certs.length ≤ 65536) : 0 ≤ votesS D r ∧ votesS D r ≤ 65536 := by
  unfold votesS
  split
  · have : (votL D.certs (r + 1) (anchS D r)).length ≤ D.certs.length := List.length_filter_le _ _
    omega
  · omega
def directS (D : DagD) (r : Int) : Bool := decide ((D.nodes - 1) / 3 < votesS D r)
set_option maxRecDepth 100000 in
set_option maxHeartbeats 1000000 in
theorem anchor_Settled (A : Option Addr) (n c : Nat) (D : DagD) (r : Int) (w : World) (hl : CertsR w A n D.certs) (hP : Places D.certs) (hA : Auths D.certs) (hn : n ≤ 65536) (hcap : n ≤ c) (hcb : c ≤ 9223372036854775807) (h1 : 1 ≤ D.nodes) (h2 : D.nodes ≤ 16) (h3 : 2 ≤ r) (h4 : r ≤ 1099511627776) :
    Calls Try.prog 77 #[.agg #[.int .i64 D.nodes, .int .i64 D.low, .slice A n c], .int .i64 r] w fun e w' => e = .returned (.bool (directS D r)) ∧ Below w.heap.size w w' := by
  have HL := Lib.hid hl
  have HP := Lib.hid hP
  have HAU := Lib.hid hA
  clear hl hP hA
  go_enter Try.func77, Try.ntmps77
  go_wp2_with fail
  refine wp_region_fam (by kernel_rfl) (by kernel_rfl) (fun ι F hne hF hcl => ?_)
  have hcF0 := fun n o => (bcell (hF n)).1 (w.heap.size) o (by first | (simp; done) | (simp; omega) | omega)
  have HF := Lib.hid hF; clear hF
  have HC := Lib.hid hcl; clear hcl
  repeat (any_goals (first
   | go_big_quiet_step (first | (go_at_call 110; exact Calls.fam HC.out (anchor_Count A n c D r _ (HL.out.up (by (repeat (first | (with_reducible exact Below.refl _ _) | (with_reducible assumption) | (with_reducible apply bel_alloc) | (with_reducible apply bel_drew) | (with_reducible apply bel_drewN) | (with_reducible refine bel_trans ?_ (by with_reducible assumption)) | (with_reducible refine bel_trans ?_ (HF.out _)) | (with_reducible refine bel_set ?_ (by simp) _) | (with_reducible refine bel_set ?_ (by simp; omega) _) | (with_reducible refine bel_set ?_ (by omega) _))))) HP.out HAU.out hn hcap hcb h1 h2 h3 h4)) | (go_at_call 111; exact Calls.fam_same (committee_F _ _ h1 (by omega))))
   | (refine wpQuiet_guard _ _ _ rfl rfl ?_; (fail_if_success (intro b' hb; have h2 := hb.symm; have : b' = true := h2.trans (by with_reducible rfl))); (fail_if_success (intro b' hb; have h2 := hb.symm; have : b' = false := h2.trans (by with_reducible rfl))); intro b' hb; simp only [hb]; cases b' <;> (try simp only [Bool.not_eq_true', Bool.not_eq_false', decide_eq_true_eq, decide_eq_false_iff_not, Int.not_lt, Int.not_le, Bool.and_eq_true, Bool.or_eq_true, Bool.or_eq_false_iff, beq_iff_eq, beq_eq_false_iff_ne, Int.natCast_pos] at hb))))
  all_goals (refine wpQuiet_nil ?_; intro nq)
  have hFw1 := HF.out nq
  clear HF HC hne
  generalize F nq = w1 at *
  go_wp2_with fail
  go_ret
  exact ⟨ret_bool (by unfold directS; rfl), by (repeat (first | (with_reducible exact Below.refl _ _) | (with_reducible assumption) | (with_reducible apply bel_alloc) | (with_reducible apply bel_drew) | (with_reducible apply bel_drewN) | (with_reducible refine bel_trans ?_ (by with_reducible assumption)) | (with_reducible refine bel_trans ?_ (HF.out _)) | (with_reducible refine bel_set ?_ (by simp) _) | (with_reducible refine bel_set ?_ (by simp; omega) _) | (with_reducible refine bel_set ?_ (by omega) _)))⟩
noncomputable def askS (D : DagD) (r : Int) : Bool := mayS D && evenS r
theorem DagOk.auths {D : DagD} (h : DagOk D) : Auths D.certs := fun k hk => by
  have := certS_bd (h.2.2.2.2 k hk).1
  omega
set_option maxRecDepth 100000 in
set_option maxHeartbeats 1000000 in
theorem anchor_ask (A : Option Addr) (n c : Nat) (D : DagD) (r : Int) (w : World) (hl : CertsR w A n D.certs) :
    Calls Try.prog 76 #[.agg #[.int .i64 D.nodes, .int .i64 D.low, .slice A n c], .int .i64 r] w fun e w' => e = .returned (.bool (askS D r)) ∧ Below w.heap.size w w' := by
  have HL := Lib.hid hl
  clear hl
  go_enter Try.func76, Try.ntmps76
  go_wp2_with (first
    | (go_at_call 70; refine (dag_May _ _ _ D _ (HL.out.up (by (repeat (first | (with_reducible exact Below.refl _ _) | (with_reducible assumption) | (with_reducible apply bel_alloc) | (with_reducible apply bel_drew) | (with_reducible apply bel_drewN) | (with_reducible refine bel_trans ?_ (by with_reducible assumption)) | (with_reducible refine bel_trans ?_ (HF.out _)) | (with_reducible refine bel_set ?_ (by simp) _) | (with_reducible refine bel_set ?_ (by simp; omega) _) | (with_reducible refine bel_set ?_ (by omega) _)))))).mono ?_; rintro e w1 ⟨rfl, hb1⟩; have hz_w1 : w.heap.size + 1 ≤ w1.heap.size := (by have hq := (hb1).size; (try simp at hq); omega); have hc0_w1 := fun o => (bcell hb1).1 (w.heap.size) o (by first | (simp; done) | (simp; omega) | omega))
    | (go_at_call 109; refine (committee_Anchors _ _).mono ?_; rintro e w' ⟨rfl, rfl⟩))
  all_goals
    go_ret
    refine ⟨ret_bool ?_, by (repeat (first | (with_reducible exact Below.refl _ _) | (with_reducible assumption) | (with_reducible apply bel_alloc) | (with_reducible apply bel_drew) | (with_reducible apply bel_drewN) | (with_reducible refine bel_trans ?_ (by with_reducible assumption)) | (with_reducible refine bel_trans ?_ (HF.out _)) | (with_reducible refine bel_set ?_ (by simp) _) | (with_reducible refine bel_set ?_ (by simp; omega) _) | (with_reducible refine bel_set ?_ (by omega) _)))⟩
    unfold askS
    go_light
    simp [*]
/-- What the program may ask of an even round. -/
theorem ask_facts {D : DagD} {r : Int} {n : Nat} (hN : D.certs.length = n) (h : askS D r = true) : Places D.certs ∧ Auths D.certs ∧ n ≤ 65536 ∧ isS D.nodes = true ∧ 1 ≤ D.nodes ∧ D.nodes ≤ 16 ∧ 2 ≤ r ∧ r ≤ 1099511627776 := by
  unfold askS at h
  rw [Bool.and_eq_true] at h
  have hok := mayS_iff.1 h.1
  have h1 := isS_iff.1 hok.1
  have h2 := evenS_iff.1 h.2
  exact ⟨hok.places, hok.auths, by rw [← hN]; exact hok.2.2.2.1, hok.1, h1.1, h1.2.1, h2.1, h2.2.1⟩
noncomputable def anB (D : DagD) (r : Int) : Int := if askS D r = true then anchS D r else 0
noncomputable def anE (D : DagD) (r : Int) : Int := if askS D r = true then (if anchS D r = 0 then 3 else 0) else 1
noncomputable def voB (D : DagD) (r : Int) : Int := if askS D r = true then votesS D r else 0
noncomputable def diB (D : DagD) (r : Int) : Bool := askS D r && directS D r
noncomputable def asE (D : DagD) (r : Int) : Int := if askS D r = true then 0 else 1
set_option maxRecDepth 100000 in
set_option maxHeartbeats 1000000 in
theorem anchor_Anchor (A : Option Addr) (n c : Nat) (D : DagD) (r : Int) (w : World) (hl : CertsR w A n D.certs) :
    Calls Try.prog 36 #[.agg #[.int .i64 D.nodes, .int .i64 D.low, .slice A n c], .int .i64 r] w fun e w' => e = .returned (.tuple #[.int .i64 (anB D r), .int .i64 (anE D r)]) ∧ Below w.heap.size w w' := by
  have HL := Lib.hid hl
  have HN := Lib.hid hl.1
  clear hl
  cases ha : askS D r
  · have e1 : anB D r = 0 ∧ anE D r = 1 := by simp [anB, anE, ha]
    have E1 := Lib.hid e1
    have HA := Lib.hid ha
    clear e1 ha
    go_enter Try.func36, Try.ntmps36
    go_wp2_with (go_at_call 76; refine (anchor_ask _ _ _ D r _ (HL.out.up (by (repeat (first | (with_reducible exact Below.refl _ _) | (with_reducible assumption) | (with_reducible apply bel_alloc) | (with_reducible apply bel_drew) | (with_reducible apply bel_drewN) | (with_reducible refine bel_trans ?_ (by with_reducible assumption)) | (with_reducible refine bel_trans ?_ (HF.out _)) | (with_reducible refine bel_set ?_ (by simp) _) | (with_reducible refine bel_set ?_ (by simp; omega) _) | (with_reducible refine bel_set ?_ (by omega) _)))))).mono ?_; rintro e w1 ⟨rfl, hb1⟩; rw [HA.out])
    go_ret2
    exact ⟨by rw [E1.out.1, E1.out.2]; rfl, by (repeat (first | (with_reducible exact Below.refl _ _) | (with_reducible assumption) | (with_reducible apply bel_alloc) | (with_reducible apply bel_drew) | (with_reducible apply bel_drewN) | (with_reducible refine bel_trans ?_ (by with_reducible assumption)) | (with_reducible refine bel_trans ?_ (HF.out _)) | (with_reducible refine bel_set ?_ (by simp) _) | (with_reducible refine bel_set ?_ (by simp; omega) _) | (with_reducible refine bel_set ?_ (by omega) _)))⟩
  · obtain ⟨f1, f2, f3, f4, f5, f6, f7, f8⟩ := ask_facts HN.out ha
    have F1 := Lib.hid f1
    have HA := Lib.hid ha
    by_cases hz : anchS D r = 0
    · have e1 : anB D r = 0 ∧ anE D r = 3 := by simp [anB, anE, ha, hz]
      have E1 := Lib.hid e1
      have HZ := Lib.hid hz
      clear e1 ha f1 f2 f4 hz
      go_enter Try.func36, Try.ntmps36
      go_wp2_with (first
        | (go_at_call 76; refine (anchor_ask _ _ _ D r _ (HL.out.up (by (repeat (first | (with_reducible exact Below.refl _ _) | (with_reducible assumption) | (with_reducible apply bel_alloc) | (with_reducible apply bel_drew) | (with_reducible apply bel_drewN) | (with_reducible refine bel_trans ?_ (by with_reducible assumption)) | (with_reducible refine bel_trans ?_ (HF.out _)) | (with_reducible refine bel_set ?_ (by simp) _) | (with_reducible refine bel_set ?_ (by simp; omega) _) | (with_reducible refine bel_set ?_ (by omega) _)))))).mono ?_; rintro e w1 ⟨rfl, hb1⟩; rw [HA.out]; have hz_w1 : w.heap.size + 1 ≤ w1.heap.size := (by have hq := (hb1).size; (try simp at hq); omega); have hc0_w1 := fun o => (bcell hb1).1 (w.heap.size) o (by first | (simp; done) | (simp; omega) | omega))
        | (go_at_call 78; refine (anchor_Of A n c D r _ (HL.out.up (by (repeat (first | (with_reducible exact Below.refl _ _) | (with_reducible assumption) | (with_reducible apply bel_alloc) | (with_reducible apply bel_drew) | (with_reducible apply bel_drewN) | (with_reducible refine bel_trans ?_ (by with_reducible assumption)) | (with_reducible refine bel_trans ?_ (HF.out _)) | (with_reducible refine bel_set ?_ (by simp) _) | (with_reducible refine bel_set ?_ (by simp; omega) _) | (with_reducible refine bel_set ?_ (by omega) _))))) F1.out (by omega) f5 f6 f7 f8).mono ?_; rintro e w2 ⟨rfl, hb2⟩; rw [HZ.out]))
      go_ret2
      exact ⟨by rw [E1.out.1, E1.out.2]; rfl, by (repeat (first | (with_reducible exact Below.refl _ _) | (with_reducible assumption) | (with_reducible apply bel_alloc) | (with_reducible apply bel_drew) | (with_reducible apply bel_drewN) | (with_reducible refine bel_trans ?_ (by with_reducible assumption)) | (with_reducible refine bel_trans ?_ (HF.out _)) | (with_reducible refine bel_set ?_ (by simp) _) | (with_reducible refine bel_set ?_ (by simp; omega) _) | (with_reducible refine bel_set ?_ (by omega) _)))⟩
    · have e1 : anB D r = anchS D r ∧ anE D r = 0 := by simp [anB, anE, ha, hz]
      have E1 := Lib.hid e1
      have hzb : (anchS D r == 0) = false := by simpa using hz
      clear e1 ha f1 f2 f4 hz
      go_enter Try.func36, Try.ntmps36
      go_wp2_with (first
        | (go_at_call 76; refine (anchor_ask _ _ _ D r _ (HL.out.up (by (repeat (first | (with_reducible exact Below.refl _ _) | (with_reducible assumption) | (with_reducible apply bel_alloc) | (with_reducible apply bel_drew) | (with_reducible apply bel_drewN) | (with_reducible refine bel_trans ?_ (by with_reducible assumption)) | (with_reducible refine bel_trans ?_ (HF.out _)) | (with_reducible refine bel_set ?_ (by simp) _) | (with_reducible refine bel_set ?_ (by simp; omega) _) | (with_reducible refine bel_set ?_ (by omega) _)))))).mono ?_; rintro e w1 ⟨rfl, hb1⟩; rw [HA.out]; have hz_w1 : w.heap.size + 1 ≤ w1.heap.size := (by have hq := (hb1).size; (try simp at hq); omega); have hc0_w1 := fun o => (bcell hb1).1 (w.heap.size) o (by first | (simp; done) | (simp; omega) | omega))
        | (go_at_call 78; refine (anchor_Of A n c D r _ (HL.out.up (by (repeat (first | (with_reducible exact Below.refl _ _) | (with_reducible assumption) | (with_reducible apply bel_alloc) | (with_reducible apply bel_drew) | (with_reducible apply bel_drewN) | (with_reducible refine bel_trans ?_ (by with_reducible assumption)) | (with_reducible refine bel_trans ?_ (HF.out _)) | (with_reducible refine bel_set ?_ (by simp) _) | (with_reducible refine bel_set ?_ (by simp; omega) _) | (with_reducible refine bel_set ?_ (by omega) _))))) F1.out (by omega) f5 f6 f7 f8).mono ?_; rintro e w2 ⟨rfl, hb2⟩))
      go_ret2
      exact ⟨by rw [E1.out.1, E1.out.2]; rfl, by (repeat (first | (with_reducible exact Below.refl _ _) | (with_reducible assumption) | (with_reducible apply bel_alloc) | (with_reducible apply bel_drew) | (with_reducible apply bel_drewN) | (with_reducible refine bel_trans ?_ (by with_reducible assumption)) | (with_reducible refine bel_trans ?_ (HF.out _)) | (with_reducible refine bel_set ?_ (by simp) _) | (with_reducible refine bel_set ?_ (by simp; omega) _) | (with_reducible refine bel_set ?_ (by omega) _)))⟩
set_option maxRecDepth 100000 in
set_option maxHeartbeats 1000000 in
theorem anchor_Direct (A : Option Addr) (n c : Nat) (D : DagD) (r : Int) (w : World) (hl : CertsR w A n D.certs) (hcap : n ≤ c) (hcb : c ≤ 9223372036854775807) :
    Calls Try.prog 34 #[.agg #[.int .i64 D.nodes, .int .i64 D.low, .slice A n c], .int .i64 r] w fun e w' => e = .returned (.tuple #[.bool (diB D r), .int .i64 (asE D r)]) ∧ Below w.heap.size w w' := by
  have HL := Lib.hid hl
  have HN := Lib.hid hl.1
  clear hl
  cases ha : askS D r
  · have e1 : diB D r = false ∧ asE D r = 1 := by simp [diB, asE, ha]
    have E1 := Lib.hid e1
    have HA := Lib.hid ha
    clear e1 ha
    go_enter Try.func34, Try.ntmps34
    go_wp2_with (go_at_call 76; refine (anchor_ask _ _ _ D r _ (HL.out.up (by (repeat (first | (with_reducible exact Below.refl _ _) | (with_reducible assumption) | (with_reducible apply bel_alloc) | (with_reducible apply bel_drew) | (with_reducible apply bel_drewN) | (with_reducible refine bel_trans ?_ (by with_reducible assumption)) | (with_reducible refine bel_trans ?_ (HF.out _)) | (with_reducible refine bel_set ?_ (by simp) _) | (with_reducible refine bel_set ?_ (by simp; omega) _) | (with_reducible refine bel_set ?_ (by omega) _)))))).mono ?_; rintro e w1 ⟨rfl, hb1⟩; rw [HA.out])
    go_ret2
    exact ⟨by rw [E1.out.1, E1.out.2]; rfl, by (repeat (first | (with_reducible exact Below.refl _ _) | (with_reducible assumption) | (with_reducible apply bel_alloc) | (with_reducible apply bel_drew) | (with_reducible apply bel_drewN) | (with_reducible refine bel_trans ?_ (by with_reducible assumption)) | (with_reducible refine bel_trans ?_ (HF.out _)) | (with_reducible refine bel_set ?_ (by simp) _) | (with_reducible refine bel_set ?_ (by simp; omega) _) | (with_reducible refine bel_set ?_ (by omega) _)))⟩
  · obtain ⟨f1, f2, f3, f4, f5, f6, f7, f8⟩ := ask_facts HN.out ha
    have F1 := Lib.hid f1
    have F2 := Lib.hid f2
    have HA := Lib.hid ha
    have e1 : diB D r = directS D r ∧ asE D r = 0 := by simp [diB, asE, ha]
    have E1 := Lib.hid e1
    clear e1 ha f1 f2 f4
    go_enter Try.func34, Try.ntmps34
    go_wp2_with (first
      | (go_at_call 76; refine (anchor_ask _ _ _ D r _ (HL.out.up (by (repeat (first | (with_reducible exact Below.refl _ _) | (with_reducible assumption) | (with_reducible apply bel_alloc) | (with_reducible apply bel_drew) | (with_reducible apply bel_drewN) | (with_reducible refine bel_trans ?_ (by with_reducible assumption)) | (with_reducible refine bel_trans ?_ (HF.out _)) | (with_reducible refine bel_set ?_ (by simp) _) | (with_reducible refine bel_set ?_ (by simp; omega) _) | (with_reducible refine bel_set ?_ (by omega) _)))))).mono ?_; rintro e w1 ⟨rfl, hb1⟩; rw [HA.out]; have hz_w1 : w.heap.size + 1 ≤ w1.heap.size := (by have hq := (hb1).size; (try simp at hq); omega); have hc0_w1 := fun o => (bcell hb1).1 (w.heap.size) o (by first | (simp; done) | (simp; omega) | omega))
      | (go_at_call 77; refine (anchor_Settled A n c D r _ (HL.out.up (by (repeat (first | (with_reducible exact Below.refl _ _) | (with_reducible assumption) | (with_reducible apply bel_alloc) | (with_reducible apply bel_drew) | (with_reducible apply bel_drewN) | (with_reducible refine bel_trans ?_ (by with_reducible assumption)) | (with_reducible refine bel_trans ?_ (HF.out _)) | (with_reducible refine bel_set ?_ (by simp) _) | (with_reducible refine bel_set ?_ (by simp; omega) _) | (with_reducible refine bel_set ?_ (by omega) _))))) F1.out F2.out f3 hcap hcb f5 f6 f7 f8).mono ?_; rintro e w2 ⟨rfl, hb2⟩))
    go_ret2
    exact ⟨by rw [E1.out.1, E1.out.2]; rfl, by (repeat (first | (with_reducible exact Below.refl _ _) | (with_reducible assumption) | (with_reducible apply bel_alloc) | (with_reducible apply bel_drew) | (with_reducible apply bel_drewN) | (with_reducible refine bel_trans ?_ (by with_reducible assumption)) | (with_reducible refine bel_trans ?_ (HF.out _)) | (with_reducible refine bel_set ?_ (by simp) _) | (with_reducible refine bel_set ?_ (by simp; omega) _) | (with_reducible refine bel_set ?_ (by omega) _)))⟩
end Go.Proofs.Ytfkbilbgndekkaa
