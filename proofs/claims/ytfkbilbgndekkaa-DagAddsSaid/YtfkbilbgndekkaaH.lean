/- path.Reaches, path.Reach. -/
import Derived.Test.YtfkbilbgndekkaaG
import Derived.Deep.RegionHeld3
namespace Go.Proofs.Ytfkbilbgndekkaa
open Go.RowKit
set_option linter.unusedSimpArgs false
set_option linter.unusedVariables false

def reachesS (certs : List CertD) (dlow : Int) (i j : Nat) : Bool := hasS (downS certs dlow i ((cth certs j).h.ro - 1)) (cth certs j).di
noncomputable def reachB (D : DagD) (a b : Int) : Bool := mayS D && decide (0 ≤ findS D.certs a) && decide (0 ≤ findS D.certs b) && reachesS D.certs D.low (findS D.certs a).toNat (findS D.certs b).toNat
noncomputable def reachE (D : DagD) (a b : Int) : Int := if mayS D = true then (if 0 ≤ findS D.certs a ∧ 0 ≤ findS D.certs b then 0 else 3) else 1
theorem downL_len (certs : List CertD) (dlow low : Int) : ∀ (m : Nat) (R : Int → Bool), (downL certs dlow low m R).length ≤ m
  | 0, _ => by simp [downL]
  | m + 1, R => by
    unfold downL
    split
    · simp
    · split
      · simp; exact downL_len certs dlow low m _
      · exact Nat.le_succ_of_le (downL_len certs dlow low m _)
theorem downS_len (certs : List CertD) (dlow low : Int) (i : Nat) : (downS certs dlow i low).length ≤ i + 1 := downL_len _ _ _ _ _

set_option maxRecDepth 100000 in
set_option maxHeartbeats 1000000 in
theorem path_Reaches (b off n c : Nat) (certs : List CertD) (nodes dlow : Int) (i j : Nat) (w : World) (hl : CertsR w (some ⟨b, off, none⟩) n certs) (hi : i < n) (hj : j < n) (hn : n ≤ 65536) (hlo1 : -9223372036854775808 ≤ dlow) (hlo2 : dlow ≤ 1099511627776)
    (hr1 : 1 ≤ (cth certs j).h.ro) (hr2 : (cth certs j).h.ro ≤ 1099511627776) :
    Calls Try.prog 107 #[.agg #[.int .i64 nodes, .int .i64 dlow, .slice (some ⟨b, off, none⟩) n c], .int .i64 i, .int .i64 j] w fun e w' => e = .returned (.bool (reachesS certs dlow i j)) ∧ Below w.heap.size w w' := by
  have HL := Lib.hid hl
  obtain ⟨h1, h2, h3⟩ := hl
  clear h1
  obtain ⟨b', off', e', hb, hc⟩ := h3 (by omega)
  injection e' with e'; injection e' with e1 e2 e3; subst e1; subst e2; clear e3 h3
  obtain ⟨p, hat, _⟩ := hc j hj
  have q1 := hat.2.1
  have q4 := hat.2.2.2.2.1
  clear hat hc
  have hin : ∀ X : World, Below w.heap.size w X → X.cell? ⟨b, off + j * 6 + 1, none⟩ = some (.int .i64 (cth certs j).h.ro) ∧ X.cell? ⟨b, off + j * 6 + 4, none⟩ = some (.int .i64 (cth certs j).di) := fun X hX => ⟨(hX.cell (p := ⟨b, off + j * 6 + 1, none⟩) hb).trans q1, (hX.cell (p := ⟨b, off + j * 6 + 4, none⟩) hb).trans q4⟩
  have HI := Lib.hid hin; clear hin
  go_enter Try.func107, Try.ntmps107
  go_wp2
  have hwr : IntKind.i64.wrap ((cth certs j).h.ro - 1) = (cth certs j).h.ro - 1 := IntWalk.i64_in _ (by omega)
  go_region_held3 (fun w' => w'.cell? ⟨w.heap.size, 0, none⟩ = some (.int .i64 nodes) ∧ w'.cell? ⟨w.heap.size, 1, none⟩ = some (.int .i64 dlow) ∧ w'.cell? ⟨w.heap.size, 2, none⟩ = some (.slice (some ⟨b, off, none⟩) n c) ∧ w'.cell? ⟨b, off + j * 6 + 1, none⟩ = some (.int .i64 (cth certs j).h.ro) ∧ w'.cell? ⟨b, off + j * 6 + 4, none⟩ = some (.int .i64 (cth certs j).di))
    (first | exact ⟨k0, k1, k2, k3, k4⟩ | exact ⟨by simp, by simp, by simp, (HI.out _ (by (repeat (first | (with_reducible exact Below.refl _ _) | (with_reducible assumption) | (with_reducible apply bel_alloc) | (with_reducible apply bel_drew) | (with_reducible apply bel_drewN) | (with_reducible refine bel_trans ?_ (by with_reducible assumption)) | (with_reducible refine bel_trans ?_ (HF.out _)) | (with_reducible refine bel_set ?_ (by simp) _) | (with_reducible refine bel_set ?_ (by simp; omega) _) | (with_reducible refine bel_set ?_ (by omega) _))))).1, (HI.out _ (by (repeat (first | (with_reducible exact Below.refl _ _) | (with_reducible assumption) | (with_reducible apply bel_alloc) | (with_reducible apply bel_drew) | (with_reducible apply bel_drewN) | (with_reducible refine bel_trans ?_ (by with_reducible assumption)) | (with_reducible refine bel_trans ?_ (HF.out _)) | (with_reducible refine bel_set ?_ (by simp) _) | (with_reducible refine bel_set ?_ (by simp; omega) _) | (with_reducible refine bel_set ?_ (by omega) _))))).2⟩)
    (first
      | (go_at_call 105; refine (path_Down b off n c certs nodes dlow _ i _ (HL.out.up (by (repeat (first | (with_reducible exact Below.refl _ _) | (with_reducible assumption) | (with_reducible apply bel_alloc) | (with_reducible apply bel_drew) | (with_reducible apply bel_drewN) | (with_reducible refine bel_trans ?_ (by with_reducible assumption)) | (with_reducible refine bel_trans ?_ (HF.out _)) | (with_reducible refine bel_set ?_ (by simp) _) | (with_reducible refine bel_set ?_ (by simp; omega) _) | (with_reducible refine bel_set ?_ (by omega) _))))) hi hn hlo1 hlo2).mono ?_; rintro e w1 ⟨v, rfl, hown1, hb1⟩; obtain ⟨A1, c1, rfl, hint1, hge1⟩ := hown1.ints (by have := downS_len certs dlow ((cth certs j).h.ro - 1) i; omega); have k0 := (hb1.cell (p := ⟨w.heap.size, 0, none⟩) (by simp)).trans (by simp : _ = some (.int .i64 nodes)); have k1 := (hb1.cell (p := ⟨w.heap.size, 1, none⟩) (by simp)).trans (by simp : _ = some (.int .i64 dlow)); have k2 := (hb1.cell (p := ⟨w.heap.size, 2, none⟩) (by simp)).trans (by simp : _ = some (.slice (some ⟨b, off, none⟩) n c)); have hbw1 : Below w.heap.size w w1 := (by (repeat (first | (with_reducible exact Below.refl _ _) | (with_reducible assumption) | (with_reducible apply bel_alloc) | (with_reducible apply bel_drew) | (with_reducible apply bel_drewN) | (with_reducible refine bel_trans ?_ (by with_reducible assumption)) | (with_reducible refine bel_trans ?_ (HF.out _)) | (with_reducible refine bel_set ?_ (by simp) _) | (with_reducible refine bel_set ?_ (by simp; omega) _) | (with_reducible refine bel_set ?_ (by omega) _)))); have k3 := (HI.out _ hbw1).1; have k4 := (HI.out _ hbw1).2)
      | (go_at_call 127; refine (slices_Contains _ _ _ _ _ _ hint1).mono ?_; rintro e w2 ⟨rfl, rfl⟩))
  go_wp2
  go_ret
  exact ⟨rfl, hbw1⟩
theorem path_Reaches' (b off n c : Nat) (certs : List CertD) (nodes dlow x y : Int) (w : World) (hl : CertsR w (some ⟨b, off, none⟩) n certs) (hx : 0 ≤ x) (hy : 0 ≤ y) (hi : x.toNat < n) (hj : y.toNat < n) (hn : n ≤ 65536) (hlo1 : -9223372036854775808 ≤ dlow) (hlo2 : dlow ≤ 1099511627776)
    (hr1 : 1 ≤ (cth certs y.toNat).h.ro) (hr2 : (cth certs y.toNat).h.ro ≤ 1099511627776) :
    Calls Try.prog 107 #[.agg #[.int .i64 nodes, .int .i64 dlow, .slice (some ⟨b, off, none⟩) n c], .int .i64 x, .int .i64 y] w fun e w' => e = .returned (.bool (reachesS certs dlow x.toNat y.toNat)) ∧ Below w.heap.size w w' := by
  have e1 : x = ((x.toNat : Nat) : Int) := by omega
  have e2 : y = ((y.toNat : Nat) : Int) := by omega
  have := path_Reaches b off n c certs nodes dlow x.toNat y.toNat w hl hi hj hn hlo1 hlo2 hr1 hr2
  rwa [← e1, ← e2] at this
theorem findF_cases (x : Int) : ∀ (l : List CertD) (k : Int), (findF x k l = -1 ∧ ∀ j, j < l.length → (cth l j).di ≠ x) ∨ ∃ i, i < l.length ∧ findF x k l = k + (i : Nat) ∧ (cth l i).di = x ∧ ∀ j, j < i → (cth l j).di ≠ x
  | [], k => .inl ⟨rfl, fun j h => absurd h (by simp)⟩
  | c :: l, k => by
    by_cases hc : c.di = x
    · exact .inr ⟨0, by simp, by simp [findF, hc], by simpa [cth] using hc, fun j h => absurd h (by omega)⟩
    · rcases findF_cases x l (k + 1) with ⟨h1, h2⟩ | ⟨i, h1, h2, h3, h4⟩
      · refine .inl ⟨by simp [findF, hc, h1], fun j hj => ?_⟩
        cases j with
        | zero => simpa [cth] using hc
        | succ j => exact h2 j (by simpa using hj)
      · refine .inr ⟨i + 1, by simpa using h1, by simp [findF, hc, h2]; omega, h3, fun j hj => ?_⟩
        cases j with
        | zero => simpa [cth] using hc
        | succ j => exact h4 j (by omega)
theorem findS_cases (l : List CertD) (x : Int) : (findS l x = -1 ∧ ∀ j, j < l.length → (cth l j).di ≠ x) ∨ ∃ i, i < l.length ∧ findS l x = (i : Nat) ∧ (cth l i).di = x ∧ ∀ j, j < i → (cth l j).di ≠ x := by
  have := findF_cases x l 0
  simpa [findS] using this
theorem findS_lt {l : List CertD} {x : Int} (h : 0 ≤ findS l x) : (findS l x).toNat < l.length := by
  rcases findS_cases l x with ⟨h1, _⟩ | ⟨i, h1, h2, _⟩ <;> omega
theorem mayS_iff {D : DagD} : mayS D = true ↔ DagOk D := dec_iff
theorem mayS_ro {D : DagD} (h : mayS D = true) {k : Nat} (hk : k < D.certs.length) : 1 ≤ (cth D.certs k).h.ro ∧ (cth D.certs k).h.ro ≤ 1099511627776 := by
  have := certS_bd ((mayS_iff.1 h).2.2.2.2 k hk).1; omega

set_option maxRecDepth 100000 in
set_option maxHeartbeats 1000000 in
theorem path_Reach (A : Option Addr) (n c : Nat) (D : DagD) (a b : Int) (w : World) (hl : CertsR w A n D.certs) :
    Calls Try.prog 73 #[.agg #[.int .i64 D.nodes, .int .i64 D.low, .slice A n c], .int .i64 a, .int .i64 b] w fun e w' => e = .returned (.tuple #[.bool (reachB D a b), .int .i64 (reachE D a b)]) ∧ Below w.heap.size w w' := by
  have HL := Lib.hid hl
  obtain ⟨hlen, _, hA⟩ := hl
  have HN := Lib.hid hlen; clear hlen
  have HA := Lib.hid hA; clear hA
  cases hm : mayS D
  · go_enter Try.func73, Try.ntmps73
    go_wp2_with (go_at_call 70; refine (dag_May _ _ _ D _ (HL.out.up (by (repeat (first | (with_reducible exact Below.refl _ _) | (with_reducible assumption) | (with_reducible apply bel_alloc) | (with_reducible apply bel_drew) | (with_reducible apply bel_drewN) | (with_reducible refine bel_trans ?_ (by with_reducible assumption)) | (with_reducible refine bel_trans ?_ (HF.out _)) | (with_reducible refine bel_set ?_ (by simp) _) | (with_reducible refine bel_set ?_ (by simp; omega) _) | (with_reducible refine bel_set ?_ (by omega) _)))))).mono ?_; rintro e w1 ⟨rfl, hb1⟩; have hz_w1 : w.heap.size + 1 ≤ w1.heap.size := (by have hq := (hb1).size; (try simp at hq); omega); have hc0_w1 := fun o => (bcell hb1).1 (w.heap.size) o (by first | (simp; done) | (simp; omega) | omega))
    go_ret2
    exact ⟨by simp [reachB, reachE, hm], by (repeat (first | (with_reducible exact Below.refl _ _) | (with_reducible assumption) | (with_reducible apply bel_alloc) | (with_reducible apply bel_drew) | (with_reducible apply bel_drewN) | (with_reducible refine bel_trans ?_ (by with_reducible assumption)) | (with_reducible refine bel_trans ?_ (HF.out _)) | (with_reducible refine bel_set ?_ (by simp) _) | (with_reducible refine bel_set ?_ (by simp; omega) _) | (with_reducible refine bel_set ?_ (by omega) _)))⟩
  · have hok := mayS_iff.1 hm
    have hn : n ≤ 65536 := by have := hok.2.2.2.1; rw [HN.out] at this; exact this
    have hlo1 : -9223372036854775808 ≤ D.low := by have := hok.2.1; omega
    have hlo2 : D.low ≤ 1099511627776 := hok.2.2.1
    have HM := Lib.hid hm
    clear hok
    have hff : ∀ x : Int, 0 ≤ findS D.certs x → (findS D.certs x).toNat < n := fun x h => by have := findS_lt h; rw [HN.out] at this; exact this
    have HF' := Lib.hid hff; clear hff
    go_enter Try.func73, Try.ntmps73
    go_wp2_with (go_at_call 70; refine (dag_May _ _ _ D _ (HL.out.up (by (repeat (first | (with_reducible exact Below.refl _ _) | (with_reducible assumption) | (with_reducible apply bel_alloc) | (with_reducible apply bel_drew) | (with_reducible apply bel_drewN) | (with_reducible refine bel_trans ?_ (by with_reducible assumption)) | (with_reducible refine bel_trans ?_ (HF.out _)) | (with_reducible refine bel_set ?_ (by simp) _) | (with_reducible refine bel_set ?_ (by simp; omega) _) | (with_reducible refine bel_set ?_ (by omega) _)))))).mono ?_; rintro e w1 ⟨rfl, hb1⟩; have hz_w1 : w.heap.size + 1 ≤ w1.heap.size := (by have hq := (hb1).size; (try simp at hq); omega); have hc0_w1 := fun o => (bcell hb1).1 (w.heap.size) o (by first | (simp; done) | (simp; omega) | omega))
    refine wp_region_fam (by kernel_rfl) (by kernel_rfl) (fun ι F hne hF hcl => ?_)
    have hcF0 := fun n o => (bcell (hF n)).1 (w.heap.size) o (by first | (simp; done) | (simp; omega) | omega)
    have HF := Lib.hid hF; clear hF
    have HC := Lib.hid hcl; clear hcl
    repeat (any_goals (first
     | go_big_quiet_step (first | (go_at_call 71; exact Calls.fam HC.out (dag_Get _ _ _ D.certs _ _ _ _ (HL.out.up (by (repeat (first | (with_reducible exact Below.refl _ _) | (with_reducible assumption) | (with_reducible apply bel_alloc) | (with_reducible apply bel_drew) | (with_reducible apply bel_drewN) | (with_reducible refine bel_trans ?_ (by with_reducible assumption)) | (with_reducible refine bel_trans ?_ (HF.out _)) | (with_reducible refine bel_set ?_ (by simp) _) | (with_reducible refine bel_set ?_ (by simp; omega) _) | (with_reducible refine bel_set ?_ (by omega) _))))))))
     | (refine wpQuiet_guard _ _ _ rfl rfl ?_; (fail_if_success (intro b' hb; have h2 := hb.symm; have : b' = true := h2.trans (by with_reducible rfl))); (fail_if_success (intro b' hb; have h2 := hb.symm; have : b' = false := h2.trans (by with_reducible rfl))); intro b' hb; simp only [hb]; cases b' <;> (try simp only [Bool.not_eq_true', Bool.not_eq_false', decide_eq_true_eq, decide_eq_false_iff_not, Int.not_lt, Int.not_le, Bool.and_eq_true, Bool.or_eq_true, Bool.or_eq_false_iff, beq_iff_eq, beq_eq_false_iff_ne, Int.natCast_pos] at hb))))
    all_goals (refine wpQuiet_nil ?_; intro nq; go_wp2_with (fail))
    all_goals first
      | (go_ret2; refine ⟨?_, by (repeat (first | (with_reducible exact Below.refl _ _) | (with_reducible assumption) | (with_reducible apply bel_alloc) | (with_reducible apply bel_drew) | (with_reducible apply bel_drewN) | (with_reducible refine bel_trans ?_ (by with_reducible assumption)) | (with_reducible refine bel_trans ?_ (HF.out _)) | (with_reducible refine bel_set ?_ (by simp) _) | (with_reducible refine bel_set ?_ (by simp; omega) _) | (with_reducible refine bel_set ?_ (by omega) _)))⟩; go_light; rcases (by omega : findS D.certs a < 0 ∨ findS D.certs b < 0) with h | h <;> simp [reachB, reachE, HM.out, Int.not_le.2 h])
      | (have ha : 0 ≤ findS D.certs a := by omega
         have hb : 0 ≤ findS D.certs b := by omega
         have hai := HF'.out _ ha
         have hbi := HF'.out _ hb
         obtain ⟨b0, off0, rfl, hb0, _⟩ := HA.out (by omega)
         have hro := mayS_ro HM.out (k := (findS D.certs b).toNat) (by rw [HN.out]; exact hbi)
         refine (path_Reaches' b0 off0 n c D.certs D.nodes D.low _ _ _ (HL.out.up (by (repeat (first | (with_reducible exact Below.refl _ _) | (with_reducible assumption) | (with_reducible apply bel_alloc) | (with_reducible apply bel_drew) | (with_reducible apply bel_drewN) | (with_reducible refine bel_trans ?_ (by with_reducible assumption)) | (with_reducible refine bel_trans ?_ (HF.out _)) | (with_reducible refine bel_set ?_ (by simp) _) | (with_reducible refine bel_set ?_ (by simp; omega) _) | (with_reducible refine bel_set ?_ (by omega) _))))) ha hb hai hbi hn hlo1 hlo2 hro.1 hro.2).mono ?_
         rintro e w2 ⟨rfl, hb2⟩
         go_wp2_with fail
         go_ret2
         exact ⟨by go_light; simp [reachB, reachE, HM.out, ha, hb], by (repeat (first | (with_reducible exact Below.refl _ _) | (with_reducible assumption) | (with_reducible apply bel_alloc) | (with_reducible apply bel_drew) | (with_reducible apply bel_drewN) | (with_reducible refine bel_trans ?_ (by with_reducible assumption)) | (with_reducible refine bel_trans ?_ (HF.out _)) | (with_reducible refine bel_set ?_ (by simp) _) | (with_reducible refine bel_set ?_ (by simp; omega) _) | (with_reducible refine bel_set ?_ (by omega) _)))⟩)
end Go.Proofs.Ytfkbilbgndekkaa
