/- order: Behind, Order; the reference's Order. -/
import Derived.Test.YthpljlffjbodpaaOa
import Derived.Deep.RegionHeld3
namespace Go.Proofs.Ythpljlffjbodpaa
open Go.RowKit
set_option linter.unusedSimpArgs false
set_option linter.unusedVariables false

def freshL (done l : List Int) : List Int := l.filter fun x => !hasS done x
theorem freshL_len (done l : List Int) : (freshL done l).length ≤ l.length := List.length_filter_le _ _
theorem freshL_yes {done l : List Int} {k : Nat} (h : k < l.length) (hh : hasS done (nth l k) = false) : freshL done (l.take (k + 1)) = freshL done (l.take k) ++ [nth l k] := by
  unfold freshL; rw [take_nth l k h, List.filter_append]; simp [hh]
theorem freshL_no {done l : List Int} {k : Nat} (h : k < l.length) (hh : hasS done (nth l k) = true) : freshL done (l.take (k + 1)) = freshL done (l.take k) := by
  unfold freshL; rw [take_nth l k h, List.filter_append]; simp [hh]
set_option maxRecDepth 100000 in
set_option maxHeartbeats 1000000 in
theorem order_Behind (b off n c : Nat) (certs : List CertD) (nodes dlow : Int) (i : Nat) (dA : Option Addr) (dn dc : Nat) (done : List Int) (w : World) (hl : CertsR w (some ⟨b, off, none⟩) n certs) (hd : IntsR w dA dn done) (hrd : Rises done) (hdn : dn ≤ 1000000000)
    (hi : i < n) (hn : n ≤ 65536) (hlo1 : -9223372036854775808 ≤ dlow) (hlo2 : dlow ≤ 1099511627776) (hr1 : 1 ≤ (cth certs i).h.ro) (hr2 : (cth certs i).h.ro ≤ 1099511627776) :
    Calls Try.prog 63 #[.agg #[.int .i64 nodes, .int .i64 dlow, .slice (some ⟨b, off, none⟩) n c], .int .i64 i, .slice dA dn dc] w fun e w' => ∃ v, e = .returned v ∧ OwnI w' w.heap.size v (freshL done (downS certs dlow i ((cth certs i).h.ro - 8)).reverse) ∧ Below w.heap.size w w' := by
  have HL := Lib.hid hl
  have HD := Lib.hid hd
  have HRD := Lib.hid hrd
  obtain ⟨b', off', e', hb, hc⟩ := hl.2.2 (by omega)
  injection e' with e'; injection e' with e1 e2 e3; subst e1; subst e2; clear e3
  obtain ⟨p, hat, _⟩ := hc i hi
  have q1 := hat.2.1
  have hin : ∀ X : World, Below w.heap.size w X → X.cell? ⟨b, off + i * 6 + 1, none⟩ = some (.int .i64 (cth certs i).h.ro) := fun X hX => (hX.cell (p := ⟨b, off + i * 6 + 1, none⟩) hb).trans q1
  have HIN := Lib.hid hin
  clear hl hd hrd hc hat q1 hin
  go_enter Try.func63, Try.ntmps63
  go_wp2_with fail
  have hwr : IntKind.i64.wrap ((cth certs i).h.ro - 8) = (cth certs i).h.ro - 8 := IntWalk.i64_in _ (by omega)
  go_region_held3 (fun w' => w'.cell? ⟨w.heap.size, 0, none⟩ = some (.int .i64 nodes) ∧ w'.cell? ⟨w.heap.size, 1, none⟩ = some (.int .i64 dlow) ∧ w'.cell? ⟨w.heap.size, 2, none⟩ = some (.slice (some ⟨b, off, none⟩) n c) ∧ w'.cell? ⟨b, off + i * 6 + 1, none⟩ = some (.int .i64 (cth certs i).h.ro))
    (first | exact ⟨k0, k1, k2, k3⟩ | exact ⟨by simp, by simp, by simp, HIN.out _ (by (repeat (first | (with_reducible exact Below.refl _ _) | (with_reducible assumption) | (with_reducible apply bel_alloc) | (with_reducible apply bel_drew) | (with_reducible apply bel_drewN) | (with_reducible refine bel_trans ?_ (by with_reducible assumption)) | (with_reducible refine bel_trans ?_ (HF.out _)) | (with_reducible refine bel_set ?_ (by simp) _) | (with_reducible refine bel_set ?_ (by simp; omega) _) | (with_reducible refine bel_set ?_ (by omega) _))))⟩)
    ((go_at_call 60; refine (path_Rise b off n c certs nodes dlow _ _ i rfl _ (HL.out.up (by (repeat (first | (with_reducible exact Below.refl _ _) | (with_reducible assumption) | (with_reducible apply bel_alloc) | (with_reducible apply bel_drew) | (with_reducible apply bel_drewN) | (with_reducible refine bel_trans ?_ (by with_reducible assumption)) | (with_reducible refine bel_trans ?_ (HF.out _)) | (with_reducible refine bel_set ?_ (by simp) _) | (with_reducible refine bel_set ?_ (by simp; omega) _) | (with_reducible refine bel_set ?_ (by omega) _))))) hi hn hlo1 hlo2).mono ?_; rintro e w1 ⟨v, rfl, hown1, hb1⟩; obtain ⟨A1, c1, rfl, hint1, hge1⟩ := hown1.ints (by rw [List.length_reverse]; have := downS_len certs dlow ((cth certs i).h.ro - 8) i; omega); have k0 := (hb1.cell (p := ⟨w.heap.size, 0, none⟩) (by simp)).trans (by simp : _ = some (.int .i64 nodes)); have k1 := (hb1.cell (p := ⟨w.heap.size, 1, none⟩) (by simp)).trans (by simp : _ = some (.int .i64 dlow)); have k2 := (hb1.cell (p := ⟨w.heap.size, 2, none⟩) (by simp)).trans (by simp : _ = some (.slice (some ⟨b, off, none⟩) n c)); have hbw1 : Below w.heap.size w w1 := (by (repeat (first | (with_reducible exact Below.refl _ _) | (with_reducible assumption) | (with_reducible apply bel_alloc) | (with_reducible apply bel_drew) | (with_reducible apply bel_drewN) | (with_reducible refine bel_trans ?_ (by with_reducible assumption)) | (with_reducible refine bel_trans ?_ (HF.out _)) | (with_reducible refine bel_set ?_ (by simp) _) | (with_reducible refine bel_set ?_ (by simp; omega) _) | (with_reducible refine bel_set ?_ (by omega) _)))); have k3 := HIN.out _ hbw1))
  clear hwr k0 k1 k2 k3 hown1 hb1
  rw [List.length_reverse] at hint1
  obtain ⟨m, hm1⟩ : ∃ m, m = (downS certs dlow i ((cth certs i).h.ro - 8)).length := ⟨_, rfl⟩
  have hlen : m ≤ 65536 := by rw [hm1]; have := downS_len certs dlow ((cth certs i).h.ro - 8) i; omega
  rw [← hm1] at hint1 ⊢
  obtain ⟨l, hl⟩ : ∃ l, l = (downS certs dlow i ((cth certs i).h.ro - 8)).reverse := ⟨_, rfl⟩
  have HLL := Lib.hid hl
  have hm : m = l.length := by rw [hl, List.length_reverse]; exact hm1
  rw [← hl] at hint1
  have HI1 := Lib.hid hint1
  have HM := Lib.hid hm
  clear hint1 hm hm1 hl hge1
  go_wp2_with fail
  go_loopw [6, 23] (fun v ik wr => ∃ k : Nat, k ≤ m ∧ ik = .int .i64 k ∧ OwnI wr w1.heap.size v (freshL done (l.take k)) ∧ Below w1.heap.size w1 wr) (fun _ ik _ => m - (intOf ik).toNat)
  case atStart => exact ⟨0, Nat.zero_le _, rfl, OwnI.nil _ _, by (repeat (first | (with_reducible exact Below.refl _ _) | (with_reducible assumption) | (with_reducible apply bel_alloc) | (with_reducible apply bel_drew) | (with_reducible apply bel_drewN) | (with_reducible refine bel_trans ?_ (by with_reducible assumption)) | (with_reducible refine bel_trans ?_ (HF.out _)) | (with_reducible refine bel_set ?_ (by simp) _) | (with_reducible refine bel_set ?_ (by simp; omega) _) | (with_reducible refine bel_set ?_ (by omega) _)))⟩
  case round =>
    obtain ⟨k, hk, rfl, hown, hbx⟩ := hrel
    (obtain ⟨wx, hwx⟩ : ∃ x, x = wr := ⟨_, rfl⟩); subst hwx
    by_cases hlt : k < m
    · obtain ⟨lb, loff, rfl, hlb, hlc⟩ := (HI1.out.up hbx).2.2 (by omega)
      have hck := hlc k hlt
      clear hlc
      go_wp2_with fail
      refine (slices_BinarySearch dA dn dc done (nth l k) _ (HD.out.up (bel_trans hbw1 (by (repeat (first | (with_reducible exact Below.refl _ _) | (with_reducible assumption) | (with_reducible apply bel_alloc) | (with_reducible apply bel_drew) | (with_reducible apply bel_drewN) | (with_reducible refine bel_trans ?_ (by with_reducible assumption)) | (with_reducible refine bel_trans ?_ (HF.out _)) | (with_reducible refine bel_set ?_ (by simp) _) | (with_reducible refine bel_set ?_ (by simp; omega) _) | (with_reducible refine bel_set ?_ (by omega) _)))))) HRD.out hdn).mono ?_
      rintro e w3 ⟨j, rfl, hb3⟩
      have hbx3 : Below w1.heap.size w1 w3 := bel_trans (by (repeat (first | (with_reducible exact Below.refl _ _) | (with_reducible assumption) | (with_reducible apply bel_alloc) | (with_reducible apply bel_drew) | (with_reducible apply bel_drewN) | (with_reducible refine bel_trans ?_ (by with_reducible assumption)) | (with_reducible refine bel_trans ?_ (HF.out _)) | (with_reducible refine bel_set ?_ (by simp) _) | (with_reducible refine bel_set ?_ (by simp; omega) _) | (with_reducible refine bel_set ?_ (by omega) _)))) hb3
      have hown3 := hown.up (w' := w3) (by (repeat (first | (with_reducible exact Below.refl _ _) | (with_reducible assumption) | (with_reducible apply bel_alloc) | (with_reducible apply bel_drew) | (with_reducible apply bel_drewN) | (with_reducible refine bel_trans ?_ (by with_reducible assumption)) | (with_reducible refine bel_trans ?_ (HF.out _)) | (with_reducible refine bel_set ?_ (by simp) _) | (with_reducible refine bel_set ?_ (by simp; omega) _) | (with_reducible refine bel_set ?_ (by omega) _))))
      have hfl : (freshL done (l.take k)).length ≤ k := Nat.le_trans (freshL_len _ _) (by simp; omega)
      have hsz := hbx3.size
      cases hh : hasS done (nth l k)
      · have hy := freshL_yes (done := done) (l := l) (k := k) (by rw [← HM.out]; exact hlt) hh
        have HY := Lib.hid hy
        clear hy hh
        go_wp2_with (at_builtin; refine wpList_app1 rfl (.tmp 35) (.tmp 37) rfl (w1.heap.size) u6 _ rfl (hown3.alloc _) _ (nth l k) rfl (cell0_alloc _ _ _) (by omega) (le_alloc hsz) ?_; intro v1 w4 hown1 hg1 hbel1 hat1)
        (first | (go_round; (case rel => exact ⟨k + 1, by omega, by go_num, by rw [HY.out]; exact hown1, Below.trans (bel_alloc hbx3) hbel1⟩); (case measure => (simp [intOf] <;> omega))) | (go_roundw; (case rel => exact ⟨k + 1, by omega, by go_num, by rw [HY.out]; exact hown1, Below.trans (bel_alloc hbx3) hbel1⟩); (case measure => (simp [intOf] <;> omega))) | (refine ⟨?_, by simp [intOf] <;> omega⟩; (repeat apply Exists.intro); refine ⟨?rel, ?fr⟩; (case fr => ((repeat' apply And.intro) <;> rfl)); (case rel => exact ⟨k + 1, by omega, by go_num, by rw [HY.out]; exact hown1, Below.trans (bel_alloc hbx3) hbel1⟩)))
      · have hy := freshL_no (done := done) (l := l) (k := k) (by rw [← HM.out]; exact hlt) hh
        have HY := Lib.hid hy
        clear hy hh
        go_wp2_with fail
        (first | (go_round; (case rel => exact ⟨k + 1, by omega, by go_num, by rw [HY.out]; exact hown3, hbx3⟩); (case measure => (simp [intOf] <;> omega))) | (go_roundw; (case rel => exact ⟨k + 1, by omega, by go_num, by rw [HY.out]; exact hown3, hbx3⟩); (case measure => (simp [intOf] <;> omega))) | (refine ⟨?_, by simp [intOf] <;> omega⟩; (repeat apply Exists.intro); refine ⟨?rel, ?fr⟩; (case fr => ((repeat' apply And.intro) <;> rfl)); (case rel => exact ⟨k + 1, by omega, by go_num, by rw [HY.out]; exact hown3, hbx3⟩)))
    · obtain rfl : k = m := by omega
      go_wp2_with fail
      go_ret
      have e : l.take k = l := List.take_of_length_le (by rw [HM.out]; exact Nat.le_refl _)
      rw [e] at hown
      exact ⟨_, rfl, by rw [← HLL.out]; exact hown.mono hbw1.size, bel_trans hbw1 hbx⟩

/-! ### Order -/
theorem belowL_cong {certs : List CertD} {a b : Int} {M : Nat → Bool} : ∀ (n : Nat), (∀ p, p < n → (a < (cth certs p).h.ro ↔ b < (cth certs p).h.ro)) → belowL certs a M n = belowL certs b M n
  | 0, _ => rfl
  | n + 1, h => by
    have ih := belowL_cong (certs := certs) (a := a) (b := b) (M := M) n (fun p hp => h p (by omega))
    cases hM : M n
    · rw [belowL_no _ _ _ _ hM, belowL_no _ _ _ _ hM, ih]
    · by_cases h1 : a < (cth certs n).h.ro
      · rw [belowL_yes _ _ _ _ hM h1, belowL_yes _ _ _ _ hM ((h n (by omega)).1 h1), ih]
      · rw [belowL_low _ _ _ _ h1, belowL_low _ _ _ _ (fun h2 => h1 ((h n (by omega)).2 h2)), ih]
/-- How deep an order goes. -/
def deep (certs : List CertD) (i : Nat) : Int := if 8 < (cth certs i).h.ro then (cth certs i).h.ro - 8 else 0
theorem behind_eq {D : DagD} (h : DagOk D) {i : Nat} (hi : i < D.certs.length) : (downS D.certs D.low i ((cth D.certs i).h.ro - 8)).reverse = belowS D.certs D.low (deep D.certs i) i := by
  rw [below_eq h _ hi]
  unfold belowS
  refine belowL_cong _ (fun p hp => ?_)
  have := (mayS_ro (mayS_iff.2 h) hp).1
  unfold deep
  omega
noncomputable def orderB (D : DagD) (a : Int) (done : List Int) : List Int :=
  if mayS D = true ∧ risS done = true ∧ 0 ≤ findS D.certs a ∧ D.low ≤ deep D.certs (findS D.certs a).toNat then freshL done (belowS D.certs D.low (deep D.certs (findS D.certs a).toNat) (findS D.certs a).toNat) else []
noncomputable def orderE (D : DagD) (a : Int) (done : List Int) : Int :=
  if mayS D = true ∧ risS done = true then (if findS D.certs a < 0 then 3 else if deep D.certs (findS D.certs a).toNat < D.low then 6 else 0) else 1
theorem order_bad {D : DagD} {done : List Int} (a : Int) (h : ¬ (mayS D = true ∧ risS done = true)) : orderB D a done = [] ∧ orderE D a done = 1 := by
  unfold orderB orderE; rw [if_neg (fun g => h ⟨g.1, g.2.1⟩), if_neg h]; exact ⟨rfl, rfl⟩
theorem order_none {D : DagD} {done : List Int} {a : Int} (h : mayS D = true) (h2 : risS done = true) (hn : findS D.certs a < 0) : orderB D a done = [] ∧ orderE D a done = 3 := by
  unfold orderB orderE; rw [if_neg (by omega), if_pos ⟨h, h2⟩, if_pos hn]; exact ⟨rfl, rfl⟩
theorem order_old {D : DagD} {done : List Int} {a : Int} (h : mayS D = true) (h2 : risS done = true) {i : Nat} (hn : findS D.certs a = (i : Int)) (ho : deep D.certs i < D.low) : orderB D a done = [] ∧ orderE D a done = 6 := by
  unfold orderB orderE; rw [hn, Int.toNat_natCast, if_neg (by omega), if_pos ⟨h, h2⟩, if_neg (by omega), if_pos ho]; exact ⟨rfl, rfl⟩
theorem order_ok {D : DagD} {done : List Int} {a : Int} (h : mayS D = true) (h2 : risS done = true) {i : Nat} (hn : findS D.certs a = (i : Int)) (ho : ¬ deep D.certs i < D.low) : orderB D a done = freshL done (belowS D.certs D.low (deep D.certs i) i) ∧ orderE D a done = 0 := by
  unfold orderB orderE; rw [hn, Int.toNat_natCast, if_pos ⟨h, h2, by omega, by omega⟩, if_pos ⟨h, h2⟩, if_neg (by omega), if_neg ho]; exact ⟨rfl, rfl⟩
theorem risS_iff {l : List Int} : risS l = true ↔ Rises l := dec_iff
theorem orderB_len (D : DagD) (a : Int) (done : List Int) : (orderB D a done).length ≤ 65536 := by
  unfold orderB
  split
  · rename_i h
    have h1 := belowS_len D.certs D.low (deep D.certs (findS D.certs a).toNat) (findS D.certs a).toNat
    have h2 := (mayS_iff.1 h.1).2.2.2.1
    exact Nat.le_trans (freshL_len _ _) (by omega)
  · simp
set_option maxRecDepth 100000 in
set_option maxHeartbeats 1000000 in
theorem order_Order (A : Option Addr) (n c : Nat) (D : DagD) (a : Int) (dA : Option Addr) (dn dc : Nat) (done : List Int) (w : World) (hl : CertsR w A n D.certs) (hd : IntsR w dA dn done) (hdn : dn ≤ 1000000000) :
    Calls Try.prog 33 #[.agg #[.int .i64 D.nodes, .int .i64 D.low, .slice A n c], .int .i64 a, .slice dA dn dc] w fun e w' => ∃ v, e = .returned (.tuple #[v, .int .i64 (orderE D a done)]) ∧ OwnI w' w.heap.size v (orderB D a done) ∧ Below w.heap.size w w' := by
  have HL := Lib.hid hl
  have HN := Lib.hid hl.1
  have HA := Lib.hid hl.2.2
  have HD := Lib.hid hd
  clear hl hd
  cases hm : mayS D
  · have hq := order_bad (D := D) (done := done) a (by rw [hm]; simp)
    have EQ := Lib.hid hq; clear hq
    go_enter Try.func33, Try.ntmps33
    go_wp2_with (go_at_call 56; refine (dag_May _ _ _ D _ (HL.out.up (by (repeat (first | (with_reducible exact Below.refl _ _) | (with_reducible assumption) | (with_reducible apply bel_alloc) | (with_reducible apply bel_drew) | (with_reducible apply bel_drewN) | (with_reducible refine bel_trans ?_ (by with_reducible assumption)) | (with_reducible refine bel_trans ?_ (HF.out _)) | (with_reducible refine bel_set ?_ (by simp) _) | (with_reducible refine bel_set ?_ (by simp; omega) _) | (with_reducible refine bel_set ?_ (by omega) _)))))).mono ?_; rintro e w1 ⟨rfl, hb1⟩; have hz_w1 : w.heap.size + 1 ≤ w1.heap.size := (by have hq := (hb1).size; (try simp at hq); omega); have hc0_w1 := fun o => (bcell hb1).1 (w.heap.size) o (by first | (simp; done) | (simp; omega) | omega))
    go_ret2
    exact ⟨.slice none 0 0, by rw [EQ.out.2]; rfl, by rw [EQ.out.1]; exact OwnI.nil _ _, by (repeat (first | (with_reducible exact Below.refl _ _) | (with_reducible assumption) | (with_reducible apply bel_alloc) | (with_reducible apply bel_drew) | (with_reducible apply bel_drewN) | (with_reducible refine bel_trans ?_ (by with_reducible assumption)) | (with_reducible refine bel_trans ?_ (HF.out _)) | (with_reducible refine bel_set ?_ (by simp) _) | (with_reducible refine bel_set ?_ (by simp; omega) _) | (with_reducible refine bel_set ?_ (by omega) _)))⟩
  · cases hr : risS done
    · have hq := order_bad (D := D) (done := done) a (by rw [hr]; simp)
      have EQ := Lib.hid hq; clear hq
      have HM := Lib.hid hm
      go_enter Try.func33, Try.ntmps33
      go_wp2_with (first
        | (go_at_call 56; refine (dag_May _ _ _ D _ (HL.out.up (by (repeat (first | (with_reducible exact Below.refl _ _) | (with_reducible assumption) | (with_reducible apply bel_alloc) | (with_reducible apply bel_drew) | (with_reducible apply bel_drewN) | (with_reducible refine bel_trans ?_ (by with_reducible assumption)) | (with_reducible refine bel_trans ?_ (HF.out _)) | (with_reducible refine bel_set ?_ (by simp) _) | (with_reducible refine bel_set ?_ (by simp; omega) _) | (with_reducible refine bel_set ?_ (by omega) _)))))).mono ?_; rintro e w1 ⟨rfl, hb1⟩; have hz_w1 : w.heap.size + 1 ≤ w1.heap.size := (by have hq := (hb1).size; (try simp at hq); omega); have hc0_w1 := fun o => (bcell hb1).1 (w.heap.size) o (by first | (simp; done) | (simp; omega) | omega))
        | (go_at_call 62; refine (order_rising _ _ _ done _ (HD.out.up (by (repeat (first | (with_reducible exact Below.refl _ _) | (with_reducible assumption) | (with_reducible apply bel_alloc) | (with_reducible apply bel_drew) | (with_reducible apply bel_drewN) | (with_reducible refine bel_trans ?_ (by with_reducible assumption)) | (with_reducible refine bel_trans ?_ (HF.out _)) | (with_reducible refine bel_set ?_ (by simp) _) | (with_reducible refine bel_set ?_ (by simp; omega) _) | (with_reducible refine bel_set ?_ (by omega) _)))))).mono ?_; rintro e w2 ⟨rfl, hb2⟩))
      go_ret2
      exact ⟨.slice none 0 0, by rw [EQ.out.2]; rfl, by rw [EQ.out.1]; exact OwnI.nil _ _, by (repeat (first | (with_reducible exact Below.refl _ _) | (with_reducible assumption) | (with_reducible apply bel_alloc) | (with_reducible apply bel_drew) | (with_reducible apply bel_drewN) | (with_reducible refine bel_trans ?_ (by with_reducible assumption)) | (with_reducible refine bel_trans ?_ (HF.out _)) | (with_reducible refine bel_set ?_ (by simp) _) | (with_reducible refine bel_set ?_ (by simp; omega) _) | (with_reducible refine bel_set ?_ (by omega) _)))⟩
    · have hok := mayS_iff.1 hm
      have hn : n ≤ 65536 := by have := hok.2.2.2.1; rw [HN.out] at this; exact this
      have hlo0 : 0 ≤ D.low := hok.2.1
      have hlo1 : -9223372036854775808 ≤ D.low := by omega
      have hlo2 : D.low ≤ 1099511627776 := hok.2.2.1
      have HOK := Lib.hid hok; clear hok
      have HM := Lib.hid hm
      have HRD := Lib.hid (risS_iff.1 hr)
      have HR := Lib.hid hr
      rcases findS_cases D.certs a with ⟨ea, _⟩ | ⟨i, hi, ea, _⟩
      · have hq := order_none HM.out HR.out (a := a) (by omega)
        have EA := Lib.hid ea; clear ea
        have EQ := Lib.hid hq; clear hq
        go_enter Try.func33, Try.ntmps33
        go_wp2_with (first
          | (go_at_call 56; refine (dag_May _ _ _ D _ (HL.out.up (by (repeat (first | (with_reducible exact Below.refl _ _) | (with_reducible assumption) | (with_reducible apply bel_alloc) | (with_reducible apply bel_drew) | (with_reducible apply bel_drewN) | (with_reducible refine bel_trans ?_ (by with_reducible assumption)) | (with_reducible refine bel_trans ?_ (HF.out _)) | (with_reducible refine bel_set ?_ (by simp) _) | (with_reducible refine bel_set ?_ (by simp; omega) _) | (with_reducible refine bel_set ?_ (by omega) _)))))).mono ?_; rintro e w1 ⟨rfl, hb1⟩; have hz_w1 : w.heap.size + 1 ≤ w1.heap.size := (by have hq := (hb1).size; (try simp at hq); omega); have hc0_w1 := fun o => (bcell hb1).1 (w.heap.size) o (by first | (simp; done) | (simp; omega) | omega))
          | (go_at_call 62; refine (order_rising _ _ _ done _ (HD.out.up (by (repeat (first | (with_reducible exact Below.refl _ _) | (with_reducible assumption) | (with_reducible apply bel_alloc) | (with_reducible apply bel_drew) | (with_reducible apply bel_drewN) | (with_reducible refine bel_trans ?_ (by with_reducible assumption)) | (with_reducible refine bel_trans ?_ (HF.out _)) | (with_reducible refine bel_set ?_ (by simp) _) | (with_reducible refine bel_set ?_ (by simp; omega) _) | (with_reducible refine bel_set ?_ (by omega) _)))))).mono ?_; rintro e w2 ⟨rfl, hb2⟩; have hz2 : w.heap.size + 1 ≤ w2.heap.size := (by have := hb2.size; omega); have hc2 := fun o => (bcell hb2).1 w.heap.size o (by omega))
          | (go_at_call 57; refine (dag_Get _ _ _ D.certs _ _ _ _ (HL.out.up (by (repeat (first | (with_reducible exact Below.refl _ _) | (with_reducible assumption) | (with_reducible apply bel_alloc) | (with_reducible apply bel_drew) | (with_reducible apply bel_drewN) | (with_reducible refine bel_trans ?_ (by with_reducible assumption)) | (with_reducible refine bel_trans ?_ (HF.out _)) | (with_reducible refine bel_set ?_ (by simp) _) | (with_reducible refine bel_set ?_ (by simp; omega) _) | (with_reducible refine bel_set ?_ (by omega) _)))))).mono ?_; rintro e w3 ⟨rfl, hb3⟩; rw [EA.out]))
        go_ret2
        exact ⟨.slice none 0 0, by rw [EQ.out.2]; rfl, by rw [EQ.out.1]; exact OwnI.nil _ _, by (repeat (first | (with_reducible exact Below.refl _ _) | (with_reducible assumption) | (with_reducible apply bel_alloc) | (with_reducible apply bel_drew) | (with_reducible apply bel_drewN) | (with_reducible refine bel_trans ?_ (by with_reducible assumption)) | (with_reducible refine bel_trans ?_ (HF.out _)) | (with_reducible refine bel_set ?_ (by simp) _) | (with_reducible refine bel_set ?_ (by simp; omega) _) | (with_reducible refine bel_set ?_ (by omega) _)))⟩
      · have hin : i < n := by rw [← HN.out]; exact hi
        have hro := mayS_ro HM.out hi
        have hr1 : 1 ≤ (cth D.certs i).h.ro := hro.1
        have hr2 : (cth D.certs i).h.ro ≤ 1099511627776 := hro.2
        obtain ⟨b, off, rfl, hb, hc⟩ := HA.out (by omega)
        obtain ⟨p, hat, _⟩ := hc i hin
        have q1 := hat.2.1
        have HQ1 := Lib.hid q1
        clear hat hc q1 hro
        have hwr : IntKind.i64.wrap ((cth D.certs i).h.ro - 8) = (cth D.certs i).h.ro - 8 := IntWalk.i64_in _ (by omega)
        have HWR := Lib.hid hwr; clear hwr
        have hi0 : decide ((i : Int) < 0) = false := by simp
        have hcase := Classical.em (deep D.certs i < D.low)
        go_enter Try.func33, Try.ntmps33
        go_wp2_with (first
          | (go_at_call 56; refine (dag_May _ _ _ D _ (HL.out.up (by (repeat (first | (with_reducible exact Below.refl _ _) | (with_reducible assumption) | (with_reducible apply bel_alloc) | (with_reducible apply bel_drew) | (with_reducible apply bel_drewN) | (with_reducible refine bel_trans ?_ (by with_reducible assumption)) | (with_reducible refine bel_trans ?_ (HF.out _)) | (with_reducible refine bel_set ?_ (by simp) _) | (with_reducible refine bel_set ?_ (by simp; omega) _) | (with_reducible refine bel_set ?_ (by omega) _)))))).mono ?_; rintro e w1 ⟨rfl, hb1⟩; have hz_w1 : w.heap.size + 1 ≤ w1.heap.size := (by have hq := (hb1).size; (try simp at hq); omega); have hc0_w1 := fun o => (bcell hb1).1 (w.heap.size) o (by first | (simp; done) | (simp; omega) | omega))
          | (go_at_call 62; refine (order_rising _ _ _ done _ (HD.out.up (by (repeat (first | (with_reducible exact Below.refl _ _) | (with_reducible assumption) | (with_reducible apply bel_alloc) | (with_reducible apply bel_drew) | (with_reducible apply bel_drewN) | (with_reducible refine bel_trans ?_ (by with_reducible assumption)) | (with_reducible refine bel_trans ?_ (HF.out _)) | (with_reducible refine bel_set ?_ (by simp) _) | (with_reducible refine bel_set ?_ (by simp; omega) _) | (with_reducible refine bel_set ?_ (by omega) _)))))).mono ?_; rintro e w2 ⟨rfl, hb2⟩; have hz2 : w.heap.size + 1 ≤ w2.heap.size := (by have := hb2.size; omega); have hc2 := fun o => (bcell hb2).1 w.heap.size o (by omega))
          | (go_at_call 57; refine (dag_Get _ _ _ D.certs _ _ _ _ (HL.out.up (by (repeat (first | (with_reducible exact Below.refl _ _) | (with_reducible assumption) | (with_reducible apply bel_alloc) | (with_reducible apply bel_drew) | (with_reducible apply bel_drewN) | (with_reducible refine bel_trans ?_ (by with_reducible assumption)) | (with_reducible refine bel_trans ?_ (HF.out _)) | (with_reducible refine bel_set ?_ (by simp) _) | (with_reducible refine bel_set ?_ (by simp; omega) _) | (with_reducible refine bel_set ?_ (by omega) _)))))).mono ?_; rintro e w3 ⟨rfl, hb3⟩; rw [ea]; have hz3 : w.heap.size + 1 ≤ w3.heap.size := (by have := hb3.size; omega); have hc3 := fun o => (bcell hb3).1 w.heap.size o (by omega); have hbw3 : Below w.heap.size w w3 := (by (repeat (first | (with_reducible exact Below.refl _ _) | (with_reducible assumption) | (with_reducible apply bel_alloc) | (with_reducible apply bel_drew) | (with_reducible apply bel_drewN) | (with_reducible refine bel_trans ?_ (by with_reducible assumption)) | (with_reducible refine bel_trans ?_ (HF.out _)) | (with_reducible refine bel_set ?_ (by simp) _) | (with_reducible refine bel_set ?_ (by simp; omega) _) | (with_reducible refine bel_set ?_ (by omega) _)))); have q3 := (hbw3.cell (p := ⟨b, off + i * 6 + 1, none⟩) hb).trans HQ1.out; have hbb3 : b < w3.heap.size := Nat.lt_of_lt_of_le hb hbw3.size))
        have hwr := HWR.out
        have hg3 : w.heap.size < w3.heap.size := by omega
        rcases hcase with hcs | hcs
        · have hq := order_old HM.out HR.out (a := a) ea hcs
          have EQ := Lib.hid hq; clear hq
          have hdb : decide ((if 8 < (cth D.certs i).h.ro then (cth D.certs i).h.ro - 8 else 0) < D.low) = true := decide_eq_true hcs
          have EA := Lib.hid ea
          clear hcs ea
          refine wp_region_fam (by kernel_rfl) (by kernel_rfl) (fun ι F hne hF hcl => ?_)
          have hcF0 := fun n o => (bcell (hF n)).1 (w.heap.size) o (by first | (simp; done) | (simp; omega) | omega)
          have hcF1 := fun n o => (bcell (hF n)).1 (b) o (by first | (simp; done) | (simp; omega) | omega)
          have HF := Lib.hid hF; clear hF
          have HC := Lib.hid hcl; clear hcl
          repeat (any_goals (first
           | go_big_quiet_step (first | (fail))
           | (refine wpQuiet_guard _ _ _ rfl rfl ?_; (fail_if_success (intro b' hb; have h2 := hb.symm; have : b' = true := h2.trans (by with_reducible rfl))); (fail_if_success (intro b' hb; have h2 := hb.symm; have : b' = false := h2.trans (by with_reducible rfl))); intro b' hb; simp only [hb]; cases b' <;> (try simp only [Bool.not_eq_true', Bool.not_eq_false', decide_eq_true_eq, decide_eq_false_iff_not, Int.not_lt, Int.not_le, Bool.and_eq_true, Bool.or_eq_true, Bool.or_eq_false_iff, beq_iff_eq, beq_eq_false_iff_ne, Int.natCast_pos] at hb))))
          all_goals (refine wpQuiet_nil ?_; intro nq)
          all_goals
            have hFw4 := HF.out nq
            clear HF HC hne
            generalize F nq = w4 at *
            go_wp2_with fail
            all_goals
              go_ret2
              exact ⟨.slice none 0 0, by rw [EQ.out.2]; rfl, by rw [EQ.out.1]; exact OwnI.nil _ _, bel_trans hbw3 hFw4⟩
        · have hcs' : ¬ deep D.certs i < D.low := by omega
          have hq := order_ok HM.out HR.out (a := a) ea hcs'
          have EQ := Lib.hid hq; clear hq
          have hdb : decide ((if 8 < (cth D.certs i).h.ro then (cth D.certs i).h.ro - 8 else 0) < D.low) = false := decide_eq_false hcs'
          have EA := Lib.hid ea
          clear hcs hcs' ea
          refine wp_region_fam (by kernel_rfl) (by kernel_rfl) (fun ι F hne hF hcl => ?_)
          have hcF0 := fun n o => (bcell (hF n)).1 (w.heap.size) o (by first | (simp; done) | (simp; omega) | omega)
          have hcF1 := fun n o => (bcell (hF n)).1 (b) o (by first | (simp; done) | (simp; omega) | omega)
          have HF := Lib.hid hF; clear hF
          have HC := Lib.hid hcl; clear hcl
          repeat (any_goals (first
           | go_big_quiet_step (first | (fail))
           | (refine wpQuiet_guard _ _ _ rfl rfl ?_; (fail_if_success (intro b' hb; have h2 := hb.symm; have : b' = true := h2.trans (by with_reducible rfl))); (fail_if_success (intro b' hb; have h2 := hb.symm; have : b' = false := h2.trans (by with_reducible rfl))); intro b' hb; simp only [hb]; cases b' <;> (try simp only [Bool.not_eq_true', Bool.not_eq_false', decide_eq_true_eq, decide_eq_false_iff_not, Int.not_lt, Int.not_le, Bool.and_eq_true, Bool.or_eq_true, Bool.or_eq_false_iff, beq_iff_eq, beq_eq_false_iff_ne, Int.natCast_pos] at hb))))
          all_goals (refine wpQuiet_nil ?_; intro nq)
          all_goals
            have hFw4 := HF.out nq
            clear HF HC hne
            generalize F nq = w4 at *
            have hc4 := fun o => (bcell hFw4).1 w.heap.size o hg3
            go_wp2_with fail
            all_goals
              refine (order_Behind b off n c D.certs _ _ i dA dn dc done _ (HL.out.up (bel_trans hbw3 hFw4)) (HD.out.up (bel_trans hbw3 hFw4)) HRD.out hdn hin hn hlo1 hlo2 hr1 hr2).mono ?_
              rintro e w5 ⟨v, rfl, hown, hb5⟩
              go_wp2_with fail
              go_ret2
              exact ⟨v, by rw [EQ.out.2]; rfl, by rw [EQ.out.1, ← behind_eq HOK.out hi]; exact hown.mono (Nat.le_trans hbw3.size hFw4.size), bel_trans (bel_trans hbw3 hFw4) hb5⟩
end Go.Proofs.Ythpljlffjbodpaa
