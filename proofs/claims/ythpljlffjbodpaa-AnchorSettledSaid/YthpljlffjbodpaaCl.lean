/- anchor.Chain; the plain law of rising chains. -/
import Derived.Test.YthpljlffjbodpaaCk
namespace Go.Proofs.Ythpljlffjbodpaa
open Go.RowKit
set_option linter.unusedSimpArgs false
set_option linter.unusedVariables false

def chOk (after r : Int) : Bool := decide (0 ≤ after) && (decide (after % 2 = 0) && decide (after < r))
theorem chOk_iff {after r : Int} : chOk after r = true ↔ 0 ≤ after ∧ after % 2 = 0 ∧ after < r := by simp [chOk]
noncomputable def chB (D : DagD) (after r : Int) : List Int := if askS D r = true ∧ chOk after r = true ∧ ¬ anchS D r = 0 then (chainL D after r).reverse else []
noncomputable def chE (D : DagD) (after r : Int) : Int := if askS D r = true ∧ chOk after r = true then (if anchS D r = 0 then 3 else 0) else 1
set_option maxRecDepth 100000 in
set_option maxHeartbeats 1000000 in
theorem anchor_Chain (A : Option Addr) (n c : Nat) (D : DagD) (after r : Int) (w : World) (hl : CertsR w A n D.certs) :
    Calls Try.prog 48 #[.agg #[.int .i64 D.nodes, .int .i64 D.low, .slice A n c], .int .i64 after, .int .i64 r] w fun e w' => ∃ v, e = .returned (.tuple #[v, .int .i64 (chE D after r)]) ∧ OwnI w' w.heap.size v (chB D after r) ∧ Below w.heap.size w w' ∧ (chB D after r).length ≤ 65536 := by
  have HL := Lib.hid hl
  have HN := Lib.hid hl.1
  clear hl
  cases ha : askS D r
  · have e1 : chB D after r = [] ∧ chE D after r = 1 := by simp [chB, chE, ha]
    have E1 := Lib.hid e1
    have HA := Lib.hid ha
    clear e1 ha
    go_enter Try.func48, Try.ntmps48
    go_wp2_with (go_at_call 65; refine (anchor_ask _ _ _ D r _ (HL.out.up (by (repeat (first | (with_reducible exact Below.refl _ _) | (with_reducible assumption) | (with_reducible apply bel_alloc) | (with_reducible apply bel_drew) | (with_reducible apply bel_drewN) | (with_reducible refine bel_trans ?_ (by with_reducible assumption)) | (with_reducible refine bel_trans ?_ (HF.out _)) | (with_reducible refine bel_set ?_ (by simp) _) | (with_reducible refine bel_set ?_ (by simp; omega) _) | (with_reducible refine bel_set ?_ (by omega) _)))))).mono ?_; rintro e w1 ⟨rfl, hb1⟩; rw [HA.out])
    go_ret2
    exact ⟨_, by rw [E1.out.2]; rfl, by rw [E1.out.1]; exact OwnI.nil _ _, by (repeat (first | (with_reducible exact Below.refl _ _) | (with_reducible assumption) | (with_reducible apply bel_alloc) | (with_reducible apply bel_drew) | (with_reducible apply bel_drewN) | (with_reducible refine bel_trans ?_ (by with_reducible assumption)) | (with_reducible refine bel_trans ?_ (HF.out _)) | (with_reducible refine bel_set ?_ (by simp) _) | (with_reducible refine bel_set ?_ (by simp; omega) _) | (with_reducible refine bel_set ?_ (by omega) _))), by rw [E1.out.1]; simp⟩
  · cases hc : chOk after r
    · have e1 : chB D after r = [] ∧ chE D after r = 1 := by simp [chB, chE, ha, hc]
      have E1 := Lib.hid e1
      have HA := Lib.hid ha
      have hcc : ¬ (0 ≤ after ∧ after % 2 = 0 ∧ after < r) := by rw [← chOk_iff, hc]; simp
      clear e1 ha hc
      have HFIN : ∀ w' : World, Below w.heap.size w w' → ∃ v, Ending.returned (.tuple #[.slice none 0 0, .int .i64 1]) = .returned (.tuple #[v, .int .i64 (chE D after r)]) ∧ OwnI w' w.heap.size v (chB D after r) ∧ Below w.heap.size w w' ∧ (chB D after r).length ≤ 65536 := fun w' hb => ⟨_, by rw [E1.out.2], by rw [E1.out.1]; exact OwnI.nil _ _, hb, by rw [E1.out.1]; simp⟩
      clear E1
      have HF := Lib.hid HFIN
      clear HFIN
      go_enter Try.func48, Try.ntmps48
      by_cases h1 : after < 0
      · go_wp2_with (go_at_call 65; refine (anchor_ask _ _ _ D r _ (HL.out.up (by (repeat (first | (with_reducible exact Below.refl _ _) | (with_reducible assumption) | (with_reducible apply bel_alloc) | (with_reducible apply bel_drew) | (with_reducible apply bel_drewN) | (with_reducible refine bel_trans ?_ (by with_reducible assumption)) | (with_reducible refine bel_trans ?_ (HF.out _)) | (with_reducible refine bel_set ?_ (by simp) _) | (with_reducible refine bel_set ?_ (by simp; omega) _) | (with_reducible refine bel_set ?_ (by omega) _)))))).mono ?_; rintro e w1 ⟨rfl, hb1⟩; rw [HA.out])
        go_ret2
        exact HF.out _ (by (repeat (first | (with_reducible exact Below.refl _ _) | (with_reducible assumption) | (with_reducible apply bel_alloc) | (with_reducible apply bel_drew) | (with_reducible apply bel_drewN) | (with_reducible refine bel_trans ?_ (by with_reducible assumption)) | (with_reducible refine bel_trans ?_ (HF.out _)) | (with_reducible refine bel_set ?_ (by simp) _) | (with_reducible refine bel_set ?_ (by simp; omega) _) | (with_reducible refine bel_set ?_ (by omega) _))))
      · by_cases h2 : after % 2 = 0
        · have h3 : ¬ after < r := fun g => hcc ⟨by omega, h2, g⟩
          have h5 : r ≤ after := by omega
          have h4 : after.tmod 2 = 0 := by rw [Int.tmod_eq_emod_of_nonneg (by omega)]; exact h2
          go_wp2_with (go_at_call 65; refine (anchor_ask _ _ _ D r _ (HL.out.up (by (repeat (first | (with_reducible exact Below.refl _ _) | (with_reducible assumption) | (with_reducible apply bel_alloc) | (with_reducible apply bel_drew) | (with_reducible apply bel_drewN) | (with_reducible refine bel_trans ?_ (by with_reducible assumption)) | (with_reducible refine bel_trans ?_ (HF.out _)) | (with_reducible refine bel_set ?_ (by simp) _) | (with_reducible refine bel_set ?_ (by simp; omega) _) | (with_reducible refine bel_set ?_ (by omega) _)))))).mono ?_; rintro e w1 ⟨rfl, hb1⟩; rw [HA.out])
          go_ret2
          exact HF.out _ (by (repeat (first | (with_reducible exact Below.refl _ _) | (with_reducible assumption) | (with_reducible apply bel_alloc) | (with_reducible apply bel_drew) | (with_reducible apply bel_drewN) | (with_reducible refine bel_trans ?_ (by with_reducible assumption)) | (with_reducible refine bel_trans ?_ (HF.out _)) | (with_reducible refine bel_set ?_ (by simp) _) | (with_reducible refine bel_set ?_ (by simp; omega) _) | (with_reducible refine bel_set ?_ (by omega) _))))
        · have h4 : ¬ after.tmod 2 = 0 := by rw [Int.tmod_eq_emod_of_nonneg (by omega)]; exact h2
          go_wp2_with (go_at_call 65; refine (anchor_ask _ _ _ D r _ (HL.out.up (by (repeat (first | (with_reducible exact Below.refl _ _) | (with_reducible assumption) | (with_reducible apply bel_alloc) | (with_reducible apply bel_drew) | (with_reducible apply bel_drewN) | (with_reducible refine bel_trans ?_ (by with_reducible assumption)) | (with_reducible refine bel_trans ?_ (HF.out _)) | (with_reducible refine bel_set ?_ (by simp) _) | (with_reducible refine bel_set ?_ (by simp; omega) _) | (with_reducible refine bel_set ?_ (by omega) _)))))).mono ?_; rintro e w1 ⟨rfl, hb1⟩; rw [HA.out])
          go_ret2
          exact HF.out _ (by (repeat (first | (with_reducible exact Below.refl _ _) | (with_reducible assumption) | (with_reducible apply bel_alloc) | (with_reducible apply bel_drew) | (with_reducible apply bel_drewN) | (with_reducible refine bel_trans ?_ (by with_reducible assumption)) | (with_reducible refine bel_trans ?_ (HF.out _)) | (with_reducible refine bel_set ?_ (by simp) _) | (with_reducible refine bel_set ?_ (by simp; omega) _) | (with_reducible refine bel_set ?_ (by omega) _))))
    · obtain ⟨f1, f2, f3, f4, f5, f6, f7, f8⟩ := ask_facts HN.out ha
      obtain ⟨g1, g2, g3⟩ := chOk_iff.1 hc
      have F1 := Lib.hid f1
      have HA := Lib.hid ha
      have h1 : ¬ after < 0 := by omega
      have h2 : after.tmod 2 = 0 := by rw [Int.tmod_eq_emod_of_nonneg (by omega)]; exact g2
      have h3 : ¬ r ≤ after := by omega
      by_cases hz : anchS D r = 0
      · have e1 : chB D after r = [] ∧ chE D after r = 3 := by simp [chB, chE, ha, hc, hz]
        have E1 := Lib.hid e1
        have HZ := Lib.hid hz
        clear e1 ha f1 f2 f4 hz hc
        go_enter Try.func48, Try.ntmps48
        go_wp2_with (first
          | (go_at_call 65; refine (anchor_ask _ _ _ D r _ (HL.out.up (by (repeat (first | (with_reducible exact Below.refl _ _) | (with_reducible assumption) | (with_reducible apply bel_alloc) | (with_reducible apply bel_drew) | (with_reducible apply bel_drewN) | (with_reducible refine bel_trans ?_ (by with_reducible assumption)) | (with_reducible refine bel_trans ?_ (HF.out _)) | (with_reducible refine bel_set ?_ (by simp) _) | (with_reducible refine bel_set ?_ (by simp; omega) _) | (with_reducible refine bel_set ?_ (by omega) _)))))).mono ?_; rintro e w1 ⟨rfl, hb1⟩; rw [HA.out]; have hz_w1 : w.heap.size + 1 ≤ w1.heap.size := (by have hq := (hb1).size; (try simp at hq); omega); have hc0_w1 := fun o => (bcell hb1).1 (w.heap.size) o (by first | (simp; done) | (simp; omega) | omega))
          | (go_at_call 70; refine (anchor_Of A n c D r _ (HL.out.up (by (repeat (first | (with_reducible exact Below.refl _ _) | (with_reducible assumption) | (with_reducible apply bel_alloc) | (with_reducible apply bel_drew) | (with_reducible apply bel_drewN) | (with_reducible refine bel_trans ?_ (by with_reducible assumption)) | (with_reducible refine bel_trans ?_ (HF.out _)) | (with_reducible refine bel_set ?_ (by simp) _) | (with_reducible refine bel_set ?_ (by simp; omega) _) | (with_reducible refine bel_set ?_ (by omega) _))))) F1.out (by omega) f5 f6 f7 f8).mono ?_; rintro e w2 ⟨rfl, hb2⟩; rw [HZ.out]))
        go_ret2
        exact ⟨_, by rw [E1.out.2]; rfl, by rw [E1.out.1]; exact OwnI.nil _ _, by (repeat (first | (with_reducible exact Below.refl _ _) | (with_reducible assumption) | (with_reducible apply bel_alloc) | (with_reducible apply bel_drew) | (with_reducible apply bel_drewN) | (with_reducible refine bel_trans ?_ (by with_reducible assumption)) | (with_reducible refine bel_trans ?_ (HF.out _)) | (with_reducible refine bel_set ?_ (by simp) _) | (with_reducible refine bel_set ?_ (by simp; omega) _) | (with_reducible refine bel_set ?_ (by omega) _))), by rw [E1.out.1]; simp⟩
      · have e1 : chB D after r = (chainL D after r).reverse ∧ chE D after r = 0 := by simp [chB, chE, ha, hc, hz]
        have E1 := Lib.hid e1
        have hzb : (anchS D r == 0) = false := by simpa using hz
        obtain ⟨b, off, rfl⟩ : ∃ b off, A = some ⟨b, off, none⟩ := by
          obtain ⟨j, hj, _⟩ := anch_at (mayS_iff.1 (by unfold askS at ha; rw [Bool.and_eq_true] at ha; exact ha.1)) hz
          obtain ⟨b, off, e, _⟩ := HL.out.2.2 (by rw [← HN.out]; omega)
          exact ⟨b, off, e⟩
        have HOK := Lib.hid (mayS_iff.1 (by unfold askS at ha; rw [Bool.and_eq_true] at ha; exact ha.1))
        have HEV := Lib.hid (show evenS r = true by unfold askS at ha; rw [Bool.and_eq_true] at ha; exact ha.2)
        have HZ := Lib.hid hz
        clear e1 ha f1 f2 f4 hz hc
        go_enter Try.func48, Try.ntmps48
        go_wp2_with (first
          | (go_at_call 65; refine (anchor_ask _ _ _ D r _ (HL.out.up (by (repeat (first | (with_reducible exact Below.refl _ _) | (with_reducible assumption) | (with_reducible apply bel_alloc) | (with_reducible apply bel_drew) | (with_reducible apply bel_drewN) | (with_reducible refine bel_trans ?_ (by with_reducible assumption)) | (with_reducible refine bel_trans ?_ (HF.out _)) | (with_reducible refine bel_set ?_ (by simp) _) | (with_reducible refine bel_set ?_ (by simp; omega) _) | (with_reducible refine bel_set ?_ (by omega) _)))))).mono ?_; rintro e w1 ⟨rfl, hb1⟩; rw [HA.out]; have hz_w1 : w.heap.size + 1 ≤ w1.heap.size := (by have hq := (hb1).size; (try simp at hq); omega); have hc0_w1 := fun o => (bcell hb1).1 (w.heap.size) o (by first | (simp; done) | (simp; omega) | omega))
          | (go_at_call 70; refine (anchor_Of _ n c D r _ (HL.out.up (by (repeat (first | (with_reducible exact Below.refl _ _) | (with_reducible assumption) | (with_reducible apply bel_alloc) | (with_reducible apply bel_drew) | (with_reducible apply bel_drewN) | (with_reducible refine bel_trans ?_ (by with_reducible assumption)) | (with_reducible refine bel_trans ?_ (HF.out _)) | (with_reducible refine bel_set ?_ (by simp) _) | (with_reducible refine bel_set ?_ (by simp; omega) _) | (with_reducible refine bel_set ?_ (by omega) _))))) F1.out (by omega) f5 f6 f7 f8).mono ?_; rintro e w2 ⟨rfl, hb2⟩; have hz_w2 : w.heap.size + 1 ≤ w2.heap.size := (by have hq := hb2.size; omega); have hc0_w2 := fun o => (bcell hb2).1 w.heap.size o (by omega))
          | (go_at_call 71; refine (anchor_Back b off n c D after r _ (HL.out.up (by (repeat (first | (with_reducible exact Below.refl _ _) | (with_reducible assumption) | (with_reducible apply bel_alloc) | (with_reducible apply bel_drew) | (with_reducible apply bel_drewN) | (with_reducible refine bel_trans ?_ (by with_reducible assumption)) | (with_reducible refine bel_trans ?_ (HF.out _)) | (with_reducible refine bel_set ?_ (by simp) _) | (with_reducible refine bel_set ?_ (by simp; omega) _) | (with_reducible refine bel_set ?_ (by omega) _))))) HOK.out g1 HEV.out HZ.out).mono ?_; rintro e w3 ⟨v, rfl, hown, hb3, hlen⟩))
        go_ret2
        exact ⟨_, by rw [E1.out.2]; rfl, by rw [E1.out.1]; exact hown.mono (by omega), by (repeat (first | (with_reducible exact Below.refl _ _) | (with_reducible assumption) | (with_reducible apply bel_alloc) | (with_reducible apply bel_drew) | (with_reducible apply bel_drewN) | (with_reducible refine bel_trans ?_ (by with_reducible assumption)) | (with_reducible refine bel_trans ?_ (HF.out _)) | (with_reducible refine bel_set ?_ (by simp) _) | (with_reducible refine bel_set ?_ (by simp; omega) _) | (with_reducible refine bel_set ?_ (by omega) _))), by rw [E1.out.1]; simpa using hlen⟩
/-- Even rounds that rise from last to r, and their anchors. -/
def RiseTo (D : DagD) (r : Int) : Int → List Int → Prop
  | last, [] => last = r
  | last, x :: l => ∃ q, x = anchS D q ∧ evenS q = true ∧ ¬ anchS D q = 0 ∧ last < q ∧ RiseTo D r q l
theorem back_rise {D : DagD} {after r : Int} (h0 : 0 ≤ after) : ∀ (m : Nat) (q : Int) (k : Nat) (rest : List Int), q ≤ m → q % 2 = 0 → after < q → q ≤ 1099511627776 → after % 2 = 0 →
    (∀ last, last < q → RiseTo D r last rest) → RiseTo D r after ((backL D after m q k).reverse ++ rest)
  | 0, q, k, rest, h1, _, h3, _, _, _ => by omega
  | m + 1, q, k, rest, h1, h2, h3, h4, h5, hR => by
    by_cases he : q - 2 ≤ after ∨ q - 2 ≤ D.low
    · rw [backL_end he]; exact hR after h3
    · by_cases hz : anchS D (q - 2) = 0
      · rw [backL_zero he hz]
        exact back_rise h0 m (q - 2) k rest (by omega) (by omega) (by omega) (by omega) h5 (fun last hl => hR last (by omega))
      · cases hr : reachesS D.certs D.low k (findS D.certs (anchS D (q - 2))).toNat
        · have e : backL D after (m + 1) q k = backL D after m (q - 2) k := by rw [backL, if_neg he, if_neg hz, if_neg (by rw [hr]; simp)]
          rw [e]
          exact back_rise h0 m (q - 2) k rest (by omega) (by omega) (by omega) (by omega) h5 (fun last hl => hR last (by omega))
        · have e : backL D after (m + 1) q k = anchS D (q - 2) :: backL D after m (q - 2) (findS D.certs (anchS D (q - 2))).toNat := by rw [backL, if_neg he, if_neg hz, if_pos hr]
          rw [e, List.reverse_cons, List.append_assoc]
          exact back_rise h0 m (q - 2) _ _ (by omega) (by omega) (by omega) (by omega) h5 (fun last hl => ⟨q - 2, rfl, evenS_iff.2 ⟨by omega, by omega, by omega⟩, hz, hl, hR (q - 2) (by omega)⟩)
theorem chain_rise {D : DagD} {after r : Int} (ha : askS D r = true) (hc : chOk after r = true) (hz : ¬ anchS D r = 0) : RiseTo D r after (chB D after r) := by
  obtain ⟨g1, g2, g3⟩ := chOk_iff.1 hc
  have hev : evenS r = true := by unfold askS at ha; rw [Bool.and_eq_true] at ha; exact ha.2
  obtain ⟨e1, e2, e3⟩ := evenS_iff.1 hev
  have e : chB D after r = (backL D after r.toNat r (findS D.certs (anchS D r)).toNat).reverse ++ [anchS D r] := by
    unfold chB; rw [if_pos ⟨ha, hc, hz⟩]; unfold chainL; rw [List.reverse_cons]
  rw [e]
  exact back_rise g1 _ _ _ _ (by omega) e3 g3 e2 g2 (fun last hl => ⟨r, rfl, hev, hz, hl, rfl⟩)
theorem chE_zero {D : DagD} {after r : Int} (h : chE D after r = 0) : askS D r = true ∧ chOk after r = true ∧ ¬ anchS D r = 0 := by
  unfold chE at h
  split at h
  · rename_i g
    split at h
    · cases h
    · rename_i gz; exact ⟨g.1, g.2, gz⟩
  · cases h
end Go.Proofs.Ythpljlffjbodpaa
