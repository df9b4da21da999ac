/- Anchors: leaders, even rounds, the certificate of a place, a round's anchor. -/
import Derived.Test.YtfkbilbgndekkaaFa
import Derived.Test.YtfkbilbgndekkaaCq
import Derived.Test.YtfkbilbgndekkaaL
import Derived.Deep.RegionHeld3
namespace Go.Proofs.Ytfkbilbgndekkaa
open Go.RowKit
set_option linter.unusedSimpArgs false
set_option linter.unusedVariables false

theorem keep3 {w1 X : World} {g : Nat} {a b c : Option Value} (h : g < w1.heap.size) (k0 : w1.cell? ⟨g, 0, none⟩ = a) (k1 : w1.cell? ⟨g, 1, none⟩ = b) (k2 : w1.cell? ⟨g, 2, none⟩ = c) (hb : Below w1.heap.size w1 X) : X.cell? ⟨g, 0, none⟩ = a ∧ X.cell? ⟨g, 1, none⟩ = b ∧ X.cell? ⟨g, 2, none⟩ = c :=
  ⟨(hb.cell (p := ⟨g, 0, none⟩) h).trans k0, (hb.cell (p := ⟨g, 1, none⟩) h).trans k1, (hb.cell (p := ⟨g, 2, none⟩) h).trans k2⟩
def leadS (n r : Int) : Int := (r / 2 - 1) % n + 1
def evenS (r : Int) : Bool := decide (2 ≤ r) && decide (r ≤ 1099511627776) && decide (r % 2 = 0)
theorem evenS_iff {r : Int} : evenS r = true ↔ (2 ≤ r ∧ r ≤ 1099511627776 ∧ r % 2 = 0) := by simp [evenS, and_assoc]
theorem leadS_bd {n r : Int} (h : 1 ≤ n) : 1 ≤ leadS n r ∧ leadS n r ≤ n := by
  unfold leadS
  have h1 := Int.emod_nonneg (r / 2 - 1) (show n ≠ 0 by omega)
  have h2 := Int.emod_lt_of_pos (r / 2 - 1) (show 0 < n by omega)
  omega
theorem committee_Leads (n r : Int) (w : World) (h1 : 1 ≤ n) (h2 : n ≤ 16) (h3 : 2 ≤ r) (h4 : r ≤ 1099511627776) : Calls Try.prog 113 #[.int .i64 n, .int .i64 r] w fun e w' => e = .returned (.int .i64 (leadS n r)) ∧ w = w' := by
  have hb := leadS_bd (n := n) (r := r) h1
  have h5 : 1 ≤ r / 2 := by omega
  have h6 : 0 ≤ r / 2 - 1 := by omega
  have h7 : n ≠ 0 := by omega
  have h8 := Int.emod_nonneg (r / 2 - 1) h7
  have h9 := Int.emod_lt_of_pos (r / 2 - 1) (show 0 < n by omega)
  go_enter Try.func113, Try.ntmps113
  go_wp2
  go_ret
  exact ⟨ret_int (by unfold leadS; first | rfl | (simp; done) | omega), rfl⟩
theorem committee_Anchors (r : Int) (w : World) : Calls Try.prog 109 #[.int .i64 r] w fun e w' => e = .returned (.bool (evenS r)) ∧ w = w' := by
  go_enter Try.func109, Try.ntmps109
  go_wp2
  all_goals (go_ret; refine ⟨ret_bool ?_, rfl⟩; rw [Bool.eq_iff_iff, evenS_iff]; simp; omega)
set_option maxRecDepth 100000 in
set_option maxHeartbeats 1000000 in
theorem ref14_At (A : Option Addr) (n c : Nat) (l : List CertD) (nodes low r a : Int) (w : World) (hl : CertsR w A n l) :
    Calls Try.prog 63 #[.agg #[.int .i64 nodes, .int .i64 low, .slice A n c], .int .i64 r, .int .i64 a] w fun e w' => e = .returned (.int .i64 (atS l r a)) ∧ Below w.heap.size w w' := by
  obtain ⟨h1, h2, h3⟩ := hl
  have H1 := Lib.hid h1; clear h1
  have H3 := Lib.hid h3; clear h3
  go_enter Try.func63, Try.ntmps63
  go_wp2 
  go_loop [7] (fun i => ∃ k : Nat, k ≤ n ∧ i = .int .i64 k ∧ Hid (atS l r a = atF r a k (l.drop k))) (fun i => n - (intOf i).toNat)
  case atStart => exact ⟨0, Nat.zero_le _, rfl, rfl⟩
  case round =>
    obtain ⟨k, hk, rfl, hr⟩ := hrel
    by_cases hlt : k < n
    · obtain ⟨b, off, rfl, hb, hc⟩ := H3.out (by omega)
      obtain ⟨p, hat, _⟩ := hc k hlt
      obtain ⟨c0, c1, c2, c3, c4, c5⟩ := hat
      clear hc
      have HS := Lib.hid (atF_step r a l k (by rw [H1.out]; exact hlt))
      by_cases hq1 : (cth l k).h.ro = r
      · have hb1 : ((cth l k).h.ro == r) = true := by simpa using hq1
        have HQ1 := Lib.hid hq1
        clear hq1
        by_cases hq2 : (cth l k).h.au = a
        · have hb2 : ((cth l k).h.au == a) = true := by simpa using hq2
          have HQ2 := Lib.hid hq2
          clear hq2
          go_wp2_with fail
          go_ret
          exact ⟨ret_int (by rw [hr.out, HS.out, if_pos ⟨HQ1.out, HQ2.out⟩]), by (repeat (first | (with_reducible exact Below.refl _ _) | (with_reducible assumption) | (with_reducible apply bel_alloc) | (with_reducible apply bel_drew) | (with_reducible apply bel_drewN) | (with_reducible refine bel_trans ?_ (by with_reducible assumption)) | (with_reducible refine bel_trans ?_ (HF.out _)) | (with_reducible refine bel_set ?_ (by simp) _) | (with_reducible refine bel_set ?_ (by simp; omega) _) | (with_reducible refine bel_set ?_ (by omega) _)))⟩
        · have hb2 : ((cth l k).h.au == a) = false := by simpa using hq2
          have HQ2 := Lib.hid hq2
          clear hq2
          go_wp2_with fail
          (first | (go_round; (case rel => exact ⟨k + 1, by omega, by go_num, Lib.hid (by have e := hr.out; rw [HS.out, if_neg (fun g => HQ2.out g.2)] at e; exact e)⟩); (case measure => (simp [intOf] <;> omega))) | (go_roundw; (case rel => exact ⟨k + 1, by omega, by go_num, Lib.hid (by have e := hr.out; rw [HS.out, if_neg (fun g => HQ2.out g.2)] at e; exact e)⟩); (case measure => (simp [intOf] <;> omega))) | (refine ⟨?_, by simp [intOf] <;> omega⟩; (repeat apply Exists.intro); refine ⟨?rel, ?fr⟩; (case fr => ((repeat' apply And.intro) <;> rfl)); (case rel => exact ⟨k + 1, by omega, by go_num, Lib.hid (by have e := hr.out; rw [HS.out, if_neg (fun g => HQ2.out g.2)] at e; exact e)⟩)))
      · have hb1 : ((cth l k).h.ro == r) = false := by simpa using hq1
        have HQ1 := Lib.hid hq1
        clear hq1
        go_wp2_with fail
        (first | (go_round; (case rel => exact ⟨k + 1, by omega, by go_num, Lib.hid (by have e := hr.out; rw [HS.out, if_neg (fun g => HQ1.out g.1)] at e; exact e)⟩); (case measure => (simp [intOf] <;> omega))) | (go_roundw; (case rel => exact ⟨k + 1, by omega, by go_num, Lib.hid (by have e := hr.out; rw [HS.out, if_neg (fun g => HQ1.out g.1)] at e; exact e)⟩); (case measure => (simp [intOf] <;> omega))) | (refine ⟨?_, by simp [intOf] <;> omega⟩; (repeat apply Exists.intro); refine ⟨?rel, ?fr⟩; (case fr => ((repeat' apply And.intro) <;> rfl)); (case rel => exact ⟨k + 1, by omega, by go_num, Lib.hid (by have e := hr.out; rw [HS.out, if_neg (fun g => HQ1.out g.1)] at e; exact e)⟩)))
    · go_wp2_with fail
      go_ret
      exact ⟨ret_int (by rw [hr.out, List.drop_of_length_le (by rw [H1.out]; omega)]; rfl), by (repeat (first | (with_reducible exact Below.refl _ _) | (with_reducible assumption) | (with_reducible apply bel_alloc) | (with_reducible apply bel_drew) | (with_reducible apply bel_drewN) | (with_reducible refine bel_trans ?_ (by with_reducible assumption)) | (with_reducible refine bel_trans ?_ (HF.out _)) | (with_reducible refine bel_set ?_ (by simp) _) | (with_reducible refine bel_set ?_ (by simp; omega) _) | (with_reducible refine bel_set ?_ (by omega) _)))⟩
theorem ref14_AtAt (A : Option Addr) (n c : Nat) (l : List CertD) (nodes low r a y : Int) (w : World) (hl : CertsR w A n l) (hy : atS l r a = y) :
    Calls Try.prog 63 #[.agg #[.int .i64 nodes, .int .i64 low, .slice A n c], .int .i64 r, .int .i64 a] w fun e w' => e = .returned (.int .i64 y) ∧ Below w.heap.size w w' := hy ▸ ref14_At A n c l nodes low r a w hl
set_option maxRecDepth 100000 in
set_option maxHeartbeats 1000000 in
theorem dag_There_none (A : Option Addr) (n c : Nat) (l : List CertD) (nodes low r a : Int) (w : World) (hl : CertsR w A n l) (hP : Places l) (hn : n ≤ 1000000000) (h3 : Sm r) (h4 : Sm a) (hat : atS l r a = -1) :
    Calls Try.prog 99 #[.agg #[.int .i64 nodes, .int .i64 low, .slice A n c], .complex .f64 (fl r) (fl a)] w fun e w' => e = .returned (.tuple #[.agg #[.int .i64 0, .int .i64 0, .slice none 0 0, .slice none 0 0, .int .i64 0, .slice none 0 0], .bool false]) ∧ Below w.heap.size w w' := by
  have HL := Lib.hid hl
  have HP := Lib.hid hP
  have HAT := Lib.hid hat
  have HN := Lib.hid hl.1
  clear hl hP hat
  go_enter Try.func99, Try.ntmps99
  go_wp2_with fail
  refine (dag_find A n c l r a _ (HL.out.up (by (repeat (first | (with_reducible exact Below.refl _ _) | (with_reducible assumption) | (with_reducible apply bel_alloc) | (with_reducible apply bel_drew) | (with_reducible apply bel_drewN) | (with_reducible refine bel_trans ?_ (by with_reducible assumption)) | (with_reducible refine bel_trans ?_ (HF.out _)) | (with_reducible refine bel_set ?_ (by simp) _) | (with_reducible refine bel_set ?_ (by simp; omega) _) | (with_reducible refine bel_set ?_ (by omega) _))))) HP.out hn h3 h4).mono ?_
  rintro e w1 ⟨lo, rfl, h1, h2, hb1⟩
  have hh : hereS l r a lo = false := by
    rcases at_here HP.out (by rw [HN.out]; exact h2) with ⟨_, g, _⟩ | ⟨g, _⟩
    · rw [HAT.out] at g; omega
    · exact g
  rw [hh]
  clear hh h2
  have hz_w1 : w.heap.size + 2 ≤ w1.heap.size := (by have hq := (hb1).size; (try simp at hq); omega); have hc0_w1 := fun o => (bcell hb1).1 (w.heap.size) o (by first | (simp; done) | (simp; omega) | omega); have hc1_w1 := fun o => (bcell hb1).1 (w.heap.size + 1) o (by first | (simp; done) | (simp; omega) | omega); have hf0_w1 := fun o => (bcell hb1).2 (w.heap.size) o (by first | (simp; done) | (simp; omega) | omega); have hf1_w1 := fun o => (bcell hb1).2 (w.heap.size + 1) o (by first | (simp; done) | (simp; omega) | omega)
  go_wp2_with fail
  exact bodyPost_ret (v := .tuple #[.agg #[.int .i64 0, .int .i64 0, .slice none 0 0, .slice none 0 0, .int .i64 0, .slice none 0 0], .bool false]) (by simp [results, Try.results99, go_sem, hc0_w1, hc1_w1]) rfl ⟨rfl, by (repeat (first | (with_reducible exact Below.refl _ _) | (with_reducible assumption) | (with_reducible apply bel_alloc) | (with_reducible apply bel_drew) | (with_reducible apply bel_drewN) | (with_reducible refine bel_trans ?_ (by with_reducible assumption)) | (with_reducible refine bel_trans ?_ (HF.out _)) | ((with_reducible refine bel_set3 ?_ ?_); rotate_left; omega)))⟩
theorem CertR.of_kept {w w' : World} {p : CertP} {C : CertD} (h : CertR w p C) (hs : w.heap.size ≤ w'.heap.size) (hk : ∀ A : Option Addr, (A = p.h.b.A ∧ 0 < p.h.b.n) ∨ (A = p.h.p.A ∧ 0 < p.h.p.n) ∨ (A = p.s.A ∧ 0 < p.s.n) → ∀ b off sp, A = some ⟨b, off, sp⟩ → w'.heap[b]? = w.heap[b]?) : CertR w' p C := by
  have key : ∀ {A : Option Addr} {n : Nat} {l : List Int}, IntsR w A n l → (0 < n → ∀ b off sp, A = some ⟨b, off, sp⟩ → w'.heap[b]? = w.heap[b]?) → IntsR w' A n l := fun {A n l} h hh => by
    by_cases hn : 0 < n
    · exact h.of_heap hs (hh hn)
    · exact ⟨h.1, h.2.1, fun h' => absurd h' hn⟩
  exact ⟨⟨key h.1.1 (fun hn => hk _ (.inl ⟨rfl, hn⟩)), key h.1.2 (fun hn => hk _ (.inr (.inl ⟨rfl, hn⟩)))⟩, key h.2 (fun hn => hk _ (.inr (.inr ⟨rfl, hn⟩)))⟩
set_option maxRecDepth 100000 in
set_option maxHeartbeats 1000000 in
theorem dag_There_some (A : Option Addr) (n c : Nat) (l : List CertD) (nodes low r a : Int) (i : Nat) (w : World) (hl : CertsR w A n l) (hP : Places l) (hn : n ≤ 1000000000) (h3 : Sm r) (h4 : Sm a) (hat : atS l r a = (i : Int)) :
    Calls Try.prog 99 #[.agg #[.int .i64 nodes, .int .i64 low, .slice A n c], .complex .f64 (fl r) (fl a)] w fun e w' => ∃ p : CertP, e = .returned (.tuple #[.agg #[.int .i64 (cth l i).h.au, .int .i64 (cth l i).h.ro, .slice p.h.b.A p.h.b.n p.h.b.c, .slice p.h.p.A p.h.p.n p.h.p.c, .int .i64 (cth l i).di, .slice p.s.A p.s.n p.s.c], .bool true]) ∧ CertR w p (cth l i) ∧ Below w.heap.size w w' := by
  have HL := Lib.hid hl
  have HP := Lib.hid hP
  have HAT := Lib.hid hat
  have HN := Lib.hid hl.1
  clear hl hP hat
  go_enter Try.func99, Try.ntmps99
  go_wp2_with fail
  refine (dag_find A n c l r a _ (HL.out.up (by (repeat (first | (with_reducible exact Below.refl _ _) | (with_reducible assumption) | (with_reducible apply bel_alloc) | (with_reducible apply bel_drew) | (with_reducible apply bel_drewN) | (with_reducible refine bel_trans ?_ (by with_reducible assumption)) | (with_reducible refine bel_trans ?_ (HF.out _)) | (with_reducible refine bel_set ?_ (by simp) _) | (with_reducible refine bel_set ?_ (by simp; omega) _) | (with_reducible refine bel_set ?_ (by omega) _))))) HP.out hn h3 h4).mono ?_
  rintro e w1 ⟨lo, rfl, h1, h2, hb1⟩
  have hh : hereS l r a lo = true ∧ lo = i ∧ i < n := by
    rcases at_here HP.out (by rw [HN.out]; exact h2) with ⟨g1, g, g2⟩ | ⟨_, g⟩
    · rw [HAT.out] at g; rw [HN.out] at g2; exact ⟨g1, by omega, by omega⟩
    · rw [HAT.out] at g; omega
  obtain ⟨hh, rfl, hin⟩ := hh
  rw [hh]
  clear hh h2
  obtain ⟨b, off, rfl, hb, hc⟩ := HL.out.2.2 (by omega)
  obtain ⟨p, hat, hcr⟩ := hc lo hin
  have hbw1 : Below w.heap.size w w1 := by (repeat (first | (with_reducible exact Below.refl _ _) | (with_reducible assumption) | (with_reducible apply bel_alloc) | (with_reducible apply bel_drew) | (with_reducible apply bel_drewN) | (with_reducible refine bel_trans ?_ (by with_reducible assumption)) | (with_reducible refine bel_trans ?_ (HF.out _)) | (with_reducible refine bel_set ?_ (by simp) _) | (with_reducible refine bel_set ?_ (by simp; omega) _) | (with_reducible refine bel_set ?_ (by omega) _)))
  obtain ⟨c0, c1, c2, c3, c4, c5⟩ := hat.up hbw1 hb
  have HCR := Lib.hid hcr
  obtain ⟨⟨⟨bA, bn, bc⟩, ⟨pA, pn, pc⟩⟩, ⟨sA, sn, sc⟩⟩ := p
  dsimp only at c0 c1 c2 c3 c4 c5
  clear hc hat hcr
  have hz_w1 : w.heap.size + 2 ≤ w1.heap.size := (by have hq := (hb1).size; (try simp at hq); omega); have hc0_w1 := fun o => (bcell hb1).1 (w.heap.size) o (by first | (simp; done) | (simp; omega) | omega); have hc1_w1 := fun o => (bcell hb1).1 (w.heap.size + 1) o (by first | (simp; done) | (simp; omega) | omega); have hf0_w1 := fun o => (bcell hb1).2 (w.heap.size) o (by first | (simp; done) | (simp; omega) | omega); have hf1_w1 := fun o => (bcell hb1).2 (w.heap.size + 1) o (by first | (simp; done) | (simp; omega) | omega)
  go_wp2_with fail
  exact bodyPost_ret (v := .tuple #[.agg #[.int .i64 (cth l lo).h.au, .int .i64 (cth l lo).h.ro, .slice bA bn bc, .slice pA pn pc, .int .i64 (cth l lo).di, .slice sA sn sc], .bool true]) (by simp [results, Try.results99, go_sem, hc0_w1, hc1_w1]) rfl ⟨⟨⟨⟨bA, bn, bc⟩, ⟨pA, pn, pc⟩⟩, ⟨sA, sn, sc⟩⟩, rfl, HCR.out, by (repeat (first | (with_reducible exact Below.refl _ _) | (with_reducible assumption) | (with_reducible apply bel_alloc) | (with_reducible apply bel_drew) | (with_reducible apply bel_drewN) | (with_reducible refine bel_trans ?_ (by with_reducible assumption)) | (with_reducible refine bel_trans ?_ (HF.out _)) | ((with_reducible refine bel_set3 ?_ ?_); rotate_left; omega)))⟩
/-- A round's anchor; 0: there is none. -/
def anchS (D : DagD) (r : Int) : Int := if atS D.certs r (leadS D.nodes r) < 0 then 0 else (cth D.certs (atS D.certs r (leadS D.nodes r)).toNat).di
theorem anch_none {D : DagD} {r : Int} (h : atS D.certs r (leadS D.nodes r) = -1) : anchS D r = 0 := by unfold anchS; rw [if_pos (by omega)]
theorem anch_some {D : DagD} {r : Int} {i : Nat} (h : atS D.certs r (leadS D.nodes r) = (i : Int)) : anchS D r = (cth D.certs i).di := by unfold anchS; rw [h, if_neg (by omega)]; rfl
end Go.Proofs.Ytfkbilbgndekkaa
