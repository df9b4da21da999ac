/- The law WorkerQuorum: the walk. -/
import Derived.Test.YtgfakefcmbpboaaSqWqb
import Derived.Test.YtgfakefcmbpboaaSqWgj
import Derived.Test.YtgfakefcmbpboaaSqWhe
import Derived.Test.YtgfakefcmbpboaaSqWma
import Derived.Test.YtgfakefcmbpboaaSqWcn
namespace Go.Proofs.Ytgfakefcmbpboaa
open Go.RowKit
set_option linter.unusedSimpArgs false
set_option linter.unusedVariables false

theorem blk_grownQ {w w' : World} {B g k n : Nat} {t t' : TypeId} {v : Value} {cs xs : List Value} (h : Blk w g t cs) (hv : w.ownsRow B t' k v n xs) (hne : t ≠ t') (hg : w.grownBy w' v.ownBlock) : Blk w' g t cs := h.of_heap (hg.block g h.lt (fun e => by
  obtain ⟨_, c2, e2⟩ := own_typeB hv g e.symm
  have hb' : w.heap[g]? = some (.cells cs.toArray t (0, 0)) := h
  rw [hb'] at e2
  injection e2 with e2
  injection e2 with _ e3 _
  exact hne e3))
set_option maxRecDepth 100000 in
set_option maxHeartbeats 1000000 in
theorem law0_WithinQ (x n : Int) (w : World) (h1 : 1 ≤ n) (h2 : n ≤ 1000000) : Calls Try.prog 5 #[.int .i64 x, .int .i64 n] w fun e w' => (∃ k : Nat, e = .returned (.int .i64 k) ∧ (k : Int) < n) ∧ w = w' := by
  have e1 : IntKind.u64.wrap x = x % 18446744073709551616 := by rw [IntKind.wrap_u64]
  have e2 : IntKind.u64.wrap n = n := by rw [IntKind.wrap_u64]; omega
  obtain ⟨y, hy⟩ : ∃ y, wiI x n = y := ⟨_, rfl⟩
  have e3 : ((x % 18446744073709551616).tmod n) = y := by rw [Int.tmod_eq_emod_of_nonneg (by omega)]; exact hy
  have hb : 0 ≤ y ∧ y < n := by rw [← hy]; exact ⟨Int.emod_nonneg _ (by omega), Int.emod_lt_of_pos _ (by omega)⟩
  have e4 : IntKind.i64.wrap y = y := IntWalk.i64_in _ (by omega)
  have e5 : (n == 0) = false := by simp; omega
  have e6 : ¬ n = 0 := by omega
  clear hy
  go_enter Try.func5, Try.ntmps5
  go_wp2
  go_ret
  exact ⟨⟨y.toNat, by rw [Int.toNat_of_nonneg hb.1]; simp [*], by omega⟩, rfl⟩
def nilMP : MsgP := ⟨⟨none, 0, 0⟩, ⟨⟨none, 0, 0⟩, ⟨none, 0, 0⟩⟩, ⟨⟨⟨none, 0, 0⟩, ⟨none, 0, 0⟩⟩, ⟨none, 0, 0⟩⟩, ⟨none, 0, 0⟩⟩
def tellK (k d : Int) : MsgD := ⟨2, k, 1, d, bat0, hea0, cer0, []⟩
theorem nilMP_R (w : World) (k d : Int) : MsgR w nilMP (tellK k d) := ⟨TxsR.nil _ _, HeaderR.nil _, CertR.nil _, IntsR.nil _ _⟩
theorem tell_msgB {k d n : Int} (hn : isS n = true) (h1 : 2 ≤ k) (h2 : k ≤ n) (hd : digS d = true) : msgB (tellK k d) n = true := by
  have hb := isS_bd hn
  refine dec_iff.2 ⟨⟨hn, by show 1 ≤ k; omega, h2, by show (1 : Int) ≤ 1; omega, by show (1 : Int) ≤ n; omega, by show k ≠ 1; omega⟩, ?_, ?_⟩
  · unfold okM; rw [if_neg (by simp [tellK]), if_pos (show (tellK k d).ki = 2 from rfl)]; exact hd
  · unfold onlyD; rw [if_neg (by simp [tellK]), if_pos (show (tellK k d).ki = 2 from rfl)]; rfl
theorem WorkO.grownLow {w w' : World} {B : Nat} {P : WorkP} {D : WorkD} {blk : Option Nat} (h : WorkO w B P D) (hg : w.grownBy w' blk) (hb : ∀ q, blk = some q → q < B) : WorkO w' B P D := by
  obtain ⟨h1, ⟨ps, a1, a2, a3⟩, h3, h4⟩ := h
  exact ⟨own_grownLow h1 hg hb, ⟨ps, own_grownLow a1 hg hb, a2, fun j hj => own_grownLow (a3 j hj) hg hb⟩, h3.grownLow hg hb, own_grownLow h4 hg hb⟩
theorem quo_at (n : Int) (w : World) (h : isS n = true) : Calls Try.prog 11 #[.int .i64 n] w fun e w' => e = .returned (.int .i64 (2 * ((n - 1) / 3) + 1)) ∧ w = w' := by
  have hb := isS_bd h
  have e : n / 3 = (n - 1) / 3 := by have := isS_iff.1 h; omega
  rw [← e]
  exact ref2_Quo n w (by omega) (by omega)
theorem newN_R (w : World) (n : Int) : WorkR w nilP (qAdd n 0) :=
  ⟨⟨rfl, by simp [flat, qAdd, qTxs, nilP], by show 0 ≤ _; omega, fun h => absurd h (by show ¬ 0 < 0; omega)⟩, ⟨rfl, by show 0 ≤ _; omega, fun h => absurd h (by show ¬ 0 < 0; omega)⟩, ⟨rfl, by show 0 ≤ _; omega, fun h => absurd h (by show ¬ 0 < 0; omega)⟩, ⟨rfl, by show 0 ≤ _; omega, fun h => absurd h (by show ¬ 0 < 0; omega)⟩, Nat.le_refl _, by show 0 ≤ _; omega, Nat.le_refl _⟩
set_option maxRecDepth 100000 in
set_option maxHeartbeats 1000000 in
theorem worker_New1 (n : Int) (w : World) (hn : isS n = true) : Calls Try.prog 6 #[.int .i64 1, .int .i64 n] w fun e w' => e = .returned (.tuple #[.agg #[.int .i64 1, .int .i64 n, .int .i64 1, .slice none 0 0, .int .i64 0, .int .i64 0, .slice none 0 0, .slice none 0 0, .slice none 0 0], .int .i64 0]) ∧ Below w.heap.size w w' := by
  have HMY := Lib.hid (wmay_iff.2 (qAdd_may hn (Nat.zero_le 24)))
  clear hn
  go_enter Try.func6, Try.ntmps6
  go_wp2_with fail
  refine (worker_May nilP (qAdd n 0) true _ (newN_R _ n) HMY.out).mono ?_
  rintro e w1 ⟨rfl, hb1⟩
  have hz_w1 : w.heap.size + 2 ≤ w1.heap.size := (by have hq := (hb1).size; (try simp at hq); omega); have hc0_w1 := fun o => (bcell hb1).1 (w.heap.size) o (by first | (simp; done) | (simp; omega) | omega); have hc1_w1 := fun o => (bcell hb1).1 (w.heap.size + 1) o (by first | (simp; done) | (simp; omega) | omega); have hf0_w1 := fun o => (bcell hb1).2 (w.heap.size) o (by first | (simp; done) | (simp; omega) | omega); have hf1_w1 := fun o => (bcell hb1).2 (w.heap.size + 1) o (by first | (simp; done) | (simp; omega) | omega)
  go_wp2_with fail
  exact bodyPost_ret (v := .tuple #[.agg #[.int .i64 1, .int .i64 n, .int .i64 1, .slice none 0 0, .int .i64 0, .int .i64 0, .slice none 0 0, .slice none 0 0, .slice none 0 0], .int .i64 0]) (by simp [results, Try.results6, go_sem, *]) rfl ⟨rfl, by (repeat (first | (with_reducible exact Below.refl _ _) | (with_reducible assumption) | (with_reducible apply bel_alloc) | (with_reducible apply bel_drew) | (with_reducible apply bel_drewN) | (with_reducible refine bel_trans ?_ (by with_reducible assumption)) | (with_reducible refine bel_trans ?_ (HF.out _)) | ((with_reducible refine bel_set3 ?_ ?_); rotate_left; omega)))⟩
theorem cntK_le (l : List Int) (k : Nat) : cntK l k ≤ k := by
  induction k with
  | zero => exact Nat.le_refl _
  | succ k ih => rw [cntK]; split <;> omega
theorem own_grownNe {w w' : World} {B k n : Nat} {t : TypeId} {v : Value} {xs : List Value} {blk : Option Nat} (h : w.ownsRow B t k v n xs) (hg : w.grownBy w' blk) (hne : ∀ q, v.ownBlock = some q → blk ≠ some q) : w'.ownsRow B t k v n xs :=
  own_of_heap h fun q hq => hg.block q (own_lt h q hq).2 (fun e => hne q hq e.symm)
theorem mkB_len (D : WorkD) : (mkB D).tx.length ≤ 1000000 := by
  unfold mkB
  split
  · exact nxB_len D
  · decide
theorem ints_three (w : World) : IntsR (w.alloc (.cells #[.int .i64 1, .int .i64 2, .int .i64 3] 3)) (some ⟨w.heap.size, 0, none⟩) 3 [1, 2, 3] :=
  ⟨rfl, by omega, fun _ => ⟨w.heap.size, 0, rfl, by simp, fun j hj => by
    rw [Nat.zero_add]
    exact (Blk.new w 3 [.int .i64 1, .int .i64 2, .int .i64 3]).box.2 j _ (by match j, hj with | 0, _ => rfl | 1, _ => rfl | 2, _ => rfl)⟩⟩
/-- The worker when the node k + 2 told a times that it keeps the batch. -/
def qA (n : Int) (m k a : Nat) : WorkD := ackedD (qSeal n m) ((m : Int) + 1) (rngI m) (if a = 0 then k + 1 else k + 2)
theorem qA_told (n : Int) (m k a : Nat) : toldD (qA n m k a) ((k : Int) + 2) ((m : Int) + 1) = qA n m k (a + 1) := by
  have hr : ((m : Int) + 1) ∉ rngI m := fun h => by have := (rngI_mem.1 h).2; omega
  have e : (k : Int) + 2 = ((k + 1 : Nat) : Int) + 1 := by omega
  unfold qA
  rw [if_neg (Nat.succ_ne_zero a), e]
  by_cases h : a = 0
  · rw [if_pos h]; exact told_next hr
  · rw [if_neg h]; exact told_again
theorem qA_may {n : Int} (hn : isS n = true) {m k : Nat} (hm : m < 3) (hk : (k : Int) + 2 ≤ n) (a : Nat) : WMay (qA n m k a) ∧ BigD (qA n m k a) := by
  unfold qA
  by_cases h : a = 0
  · rw [if_pos h]; exact ⟨qMid_may hn hm (qBase_may hn (by omega)) k (by omega), qMid_big hn hm (by omega)⟩
  · rw [if_neg h]; exact ⟨qMid_may hn hm (qBase_may hn (by omega)) (k + 1) (by omega), qMid_big hn hm (by omega)⟩
theorem qA_short {n : Int} {m k a : Nat} (hm : m < 3) : (qA n m k a).re.length + (qA n m k a).wa.length ≤ 800000000 := by
  have h1 : ∀ x : Nat, (reK n ((m : Int) + 1) x (rngI m)).length ≤ 4 := fun x => by unfold reK; split <;> simp [rngI_len] <;> omega
  have h2 : ∀ x : Nat, (waitK n ((m : Int) + 1) x).length ≤ 1 := fun x => by unfold waitK; split <;> simp
  have h3 := h1 (if a = 0 then k + 1 else k + 2)
  have h4 := h2 (if a = 0 then k + 1 else k + 2)
  show (reK n ((m : Int) + 1) (if a = 0 then k + 1 else k + 2) (rngI m)).length + (waitK n ((m : Int) + 1) (if a = 0 then k + 1 else k + 2)).length ≤ _
  omega
/-- A worker is told that a node keeps a batch. -/
theorem worker_Told (P : WorkP) (D D' : WorkD) (k d : Int) (w : World) (h : WorkR w P D) (hm : WMay D) (hs : BigD D) (hre : D.re.length + D.wa.length ≤ 800000000) (hid : D.id = 1) (h1 : 2 ≤ k) (h2 : k ≤ D.nodes) (hd : digS d = true) (hD : toldD D k d = D') :
    Calls Try.prog 13 #[P.val D, .agg #[.int .i64 2, .int .i64 k, .int .i64 1, .int .i64 d, .int .i64 0, .int .i64 0, .slice none 0 0, .int .i64 0, .int .i64 0, .slice none 0 0, .slice none 0 0, .int .i64 0, .int .i64 0, .slice none 0 0, .slice none 0 0, .int .i64 0, .slice none 0 0, .slice none 0 0]] w fun e w' => ∃ P' A c, e = .returned (.tuple #[P'.val D', .slice A 0 c, .int .i64 0]) ∧ WorkO w' w.heap.size P' D' ∧ Below w.heap.size w w' := by
  subst hD
  have hak : ∀ x ∈ D.wa, x.ak.length ≤ 50000 := fun x hx => by
    have hr := (hm.wa.1 x hx).2
    have h3 := hr.cnt (by have := (isS_bd hm.nodes).1; omega)
    have h4 : cntK x.ak D.nodes.toNat ≤ D.nodes.toNat := cntK_le _ _
    have := (isS_bd hm.nodes).2
    omega
  refine (worker_Take_ok P D nilMP (tellK k d) (toldD D k d) [] w h hs (nilMP_R w k d) takesK2 (wmay_iff.2 hm) (tell_msgB hm.nodes h1 h2 hd) hid.symm (fun P1 u hu hO => worker_Got2 P1 D nilMP (tellK k d) w.heap.size u hO hs hak hre ⟨by show 1 ≤ k; omega, h2⟩ hu.size (wmay_iff.2 hm) rfl)).mono ?_
  rintro e w' ⟨P', A, n, c, he, hO, hM, hb⟩
  obtain ⟨ps, hT⟩ := hM
  obtain ⟨A', c', e', _⟩ := hT.read
  injection e' with e1 e2 e3
  have e2' : n = 0 := e2
  subst e2'
  exact ⟨P', A, c, he, hO, hb⟩
theorem quo_arr (w : World) (k : Nat) (hk : (k : Int) < 4) : ∃ nv : Int, isS nv = true ∧ (w.alloc (.cells #[.int .i64 1, .int .i64 4, .int .i64 7, .int .i64 10] 3)).cell? ⟨w.heap.size, k, none⟩ = some (.int .i64 nv) := by
  have hb := (Blk.new w 3 [.int .i64 1, .int .i64 4, .int .i64 7, .int .i64 10]).box
  have h4 : k = 0 ∨ k = 1 ∨ k = 2 ∨ k = 3 := by omega
  rcases h4 with rfl | rfl | rfl | rfl
  · exact ⟨1, by decide, hb.2 0 _ rfl⟩
  · exact ⟨4, by decide, hb.2 1 _ rfl⟩
  · exact ⟨7, by decide, hb.2 2 _ rfl⟩
  · exact ⟨10, by decide, hb.2 3 _ rfl⟩
set_option maxRecDepth 100000 in
set_option maxHeartbeats 16000000 in
theorem law_WorkerQuorum (P : JScrP) (D : JScrD) (w : World) (h : JScrR w P D) :
    Calls Try.prog 3 #[P.val D] w fun e w' => e = .returned (.bool true) ∧ Below w.heap.size w w' := by
  show Calls Try.prog 3 #[.agg #[.int .i64 D.w.id, .int .i64 D.w.nodes, .int .i64 D.w.next, .slice P.w.op.A P.w.op.n P.w.op.c, .int .i64 D.w.age, .int .i64 D.w.clock, .slice P.w.wa.A P.w.wa.n P.w.wa.c, .slice P.w.he.A P.w.he.n P.w.he.c, .slice P.w.re.A P.w.re.n P.w.re.c, .slice P.l.A P.l.n P.l.c]] w _
  go_enter Try.func3, Try.ntmps3
  go_wp2_with fail
  refine (law0_WithinQ _ 4 _ (by omega) (by omega)).mono ?_
  rintro e w' ⟨⟨k4, rfl, hk4⟩, rfl⟩
  obtain ⟨nv, hns, hcell⟩ := quo_arr (w.alloc (.cells #[.int .i64 D.w.id, .int .i64 D.w.nodes, .int .i64 D.w.next, .slice P.w.op.A P.w.op.n P.w.op.c, .int .i64 D.w.age, .int .i64 D.w.clock, .slice P.w.wa.A P.w.wa.n P.w.wa.c, .slice P.w.he.A P.w.he.n P.w.he.c, .slice P.w.re.A P.w.re.n P.w.re.c, .slice P.l.A P.l.n P.l.c] 30)) k4 hk4
  have hk4n : k4 < 4 := by omega
  rw [show (w.alloc (.cells #[.int .i64 D.w.id, .int .i64 D.w.nodes, .int .i64 D.w.next, .slice P.w.op.A P.w.op.n P.w.op.c, .int .i64 D.w.age, .int .i64 D.w.clock, .slice P.w.wa.A P.w.wa.n P.w.wa.c, .slice P.w.he.A P.w.he.n P.w.he.c, .slice P.w.re.A P.w.re.n P.w.re.c, .slice P.l.A P.l.n P.l.c] 30)).heap.size = w.heap.size + 1 by simp] at hcell
  go_upto_region 2 with fail
  refine wp_world (fun W0 hW0 => ?_)
  have hbW0 : Below w.heap.size w W0 := by rw [hW0]; (repeat (first | (with_reducible exact Below.refl _ _) | (with_reducible assumption) | (with_reducible apply bel_alloc) | (with_reducible apply bel_drew) | (with_reducible apply bel_drewN) | (with_reducible refine bel_trans ?_ (by with_reducible assumption)) | (with_reducible refine bel_trans ?_ (HF.out _)) | (with_reducible refine bel_set ?_ (by simp) _) | (with_reducible refine bel_set ?_ (by simp; omega) _) | (with_reducible refine bel_set ?_ (by omega) _)))
  clear hW0 hcell
  have hnv1 := (isS_bd hns).1
  have hnv16 := (isS_bd hns).2
  have HNS := Lib.hid hns
  clear hns hk4 hk4n
  go_upto_region 6 with (first | (go_at_call 6; refine (worker_New1 nv _ HNS.out).mono ?_; rintro e w1 ⟨rfl, hb1⟩) | (go_at_call 7; refine (law13_num _ _).mono ?_; rintro e w' ⟨rfl, rfl⟩))
  refine wp_world (fun W1 hW1 => ?_)
  obtain ⟨N, hN⟩ : ∃ g, g = w1.heap.size := ⟨_, rfl⟩
  have HN1 : Hid (Blk W1 N 27 [.int .i64 1, .int .i64 nv, .int .i64 1, .slice none 0 0, .int .i64 0, .int .i64 0, .slice none 0 0, .slice none 0 0, .slice none 0 0]) := Lib.hid (by rw [hW1, hN]; exact Blk.new w1 27 [.int .i64 1, .int .i64 nv, .int .i64 1, .slice none 0 0, .int .i64 0, .int .i64 0, .slice none 0 0, .slice none 0 0, .slice none 0 0])
  have hbW1 : Below w.heap.size w W1 := by rw [hW1]; exact bel_alloc (bel_trans hbW0 hb1)
  have hNw : w.heap.size ≤ N := by rw [hN]; exact (bel_trans hbW0 hb1).size
  rw [← hN]
  clear hW1 hN hb1 hbW0
  go_wp2_with fail
  go_loopw [6, 7] (fun sv iv wr => ∃ (i : Nat) (P : WorkP) (sA : Option Addr) (sc B : Nat), i ≤ 24 ∧ iv = .int .i64 i ∧ sv = .slice sA i sc ∧ Hid (Blk wr N 27 [.int .i64 1, .int .i64 nv, .int .i64 1, .slice P.op.A P.op.n P.op.c, .int .i64 0, .int .i64 0, .slice P.wa.A P.wa.n P.wa.c, .slice P.he.A P.he.n P.he.c, .slice P.re.A P.re.n P.re.c]) ∧ Hid (WorkO wr B P (qAdd nv i)) ∧ Hid (OwnX wr w.heap.size (.slice sA i sc) (qTxs i)) ∧ Hid (∀ q, (Value.slice sA i sc).ownBlock = some q → q < B) ∧ w.heap.size ≤ B ∧ B ≤ wr.heap.size ∧ Below w.heap.size w wr) (fun _ iv _ => 24 - (intOf iv).toNat)
  case atStart => exact ⟨0, nilP, none, 0, w.heap.size, by omega, rfl, rfl, HN1, Lib.hid ⟨OwnX.nil _ _, OwnWs.nil _ _, OwnHs.nil _ _, OwnI.nil _ _⟩, Lib.hid (OwnX.nil _ _), Lib.hid (fun q h => by simp [Value.ownBlock] at h), Nat.le_refl _, hbW1.size, hbW1⟩
  case round =>
    clear HN1 hbW1
    obtain ⟨i, P, sA, sc, B, hi, rfl, rfl, HB, HO, HSX, HSB, hwB, hBk, hbw⟩ := hrel
    (obtain ⟨wk, hwk⟩ : ∃ x, x = wr := ⟨_, rfl⟩); subst hwk
    obtain ⟨⟨oA, on, oc⟩, ⟨tA, tn, tc⟩, ⟨eA, en, ec⟩, ⟨rA, rn, rc⟩⟩ := P
    by_cases hlt : i < 24
    · skip
      go_upto_region 10 with fail
      refine wp_world (fun W hW => ?_)
      obtain ⟨gt, hgt⟩ : ∃ g, g = wk.heap.size := ⟨_, rfl⟩
      have HT : Hid (Blk W gt 37 [.int .i64 1, .int .i64 ((i : Int) + 1), .string ⟨#[107]⟩, .string ⟨#[118]⟩]) := Lib.hid (by rw [hW, hgt]; exact Blk.new wk 37 [.int .i64 1, .int .i64 ((i : Int) + 1), .string ⟨#[107]⟩, .string ⟨#[118]⟩])
      have hbk : Below wk.heap.size wk W := by rw [hW]; exact bel_alloc (Below.refl _ _)
      rw [← hgt]
      have hgtk : wk.heap.size ≤ gt := by omega
      clear hW hgt
      have HBW := Lib.hid (HB.out.up hbk)
      have HOW := Lib.hid (HO.out.up hbk)
      have hSW := HSX.out.up hbk
      have hbwW := bel_trans hbw hbk
      have hsne : (Value.slice sA i sc).ownBlock ≠ some gt := fun e => by have := (own_lt HSX.out _ e).2; omega
      have htl := HT.out.lt
      have t_0 := (HT.out.box).2 0 _ rfl; have t_1 := (HT.out.box).2 1 _ rfl; have t_2 := (HT.out.box).2 2 _ rfl; have t_3 := (HT.out.box).2 3 _ rfl
      have HSW := Lib.hid hSW
      have HSNE := Lib.hid hsne
      have hszW := hbk.size
      have hwW := hbwW.size
      clear hSW hsne
      go_upto_region 11 with (at_builtin; refine wpList_appX rfl (.tmp 48) (.tmp 50) rfl rfl w.heap.size (.slice sA i sc) (qTxs i) rfl (OwnX.up HSW.out (bel_alloc (Below.refl _ _))) W.heap.size 0 1 1 [qTx i] rfl rfl (fun j u hu => (by rw [Nat.zero_add]; exact (BoxR.new W [.int .i64 1, .int .i64 ((i : Int) + 1), .string ⟨#[107]⟩, .string ⟨#[118]⟩] 37).2 j u (by simpa [flat, encX, qTx] using hu))) (by rw [qTxs_len]; omega) (by simp; omega) ?_; intro v5 w5 hown5 hg5 hb5 hat5)
      clear htl t_0 t_1 t_2 t_3
      have hba : Below W.heap.size W (W.alloc (.cells #[.int .i64 1, .int .i64 ((i : Int) + 1), .string ⟨#[107]⟩, .string ⟨#[118]⟩] 37)) := bel_alloc (Below.refl _ _)
      have hql : (qTxs i ++ [qTx i]).length = i + 1 := by rw [List.length_append, qTxs_len]; rfl
      obtain ⟨A5, c5, e5, -⟩ := OwnX.txs hown5 (by rw [hql]; omega)
      rw [hql] at e5
      subst e5
      clear hql
      have HB5 : Hid (Blk w5 N 27 [.int .i64 1, .int .i64 nv, .int .i64 1, .slice oA on oc, .int .i64 0, .int .i64 0, .slice tA tn tc, .slice eA en ec, .slice rA rn rc]) := Lib.hid (blk_grownQ (HBW.out.up hba) (show World.ownsRow _ _ 37 4 _ _ _ from OwnX.up HSW.out hba) (by decide) hg5)
      have HT5 : Hid (Blk w5 gt 37 [.int .i64 1, .int .i64 ((i : Int) + 1), .string ⟨#[107]⟩, .string ⟨#[118]⟩]) := Lib.hid ((HT.out.up hba).grown2 hg5 HSNE.out)
      have HO5 : Hid (WorkO w5 B ⟨⟨oA, on, oc⟩, ⟨tA, tn, tc⟩, ⟨eA, en, ec⟩, ⟨rA, rn, rc⟩⟩ (qAdd nv i)) := Lib.hid ((HOW.out.up hba).grownLow hg5 HSB.out)
      have HS5 : Hid (OwnX w5 w.heap.size (.slice A5 (i + 1) c5) (qTxs (i + 1))) := Lib.hid hown5
      have hbw5 : Below w.heap.size w w5 := (bel_trans hbwW hba).trans hb5
      clear hown5 hg5 hb5 hat5 hba HB HO HSX HSB HBW HOW HSW HSNE HT hbk hbwW hbw hszW hwW hBk
      have HBG := Lib.hid (qAdd_big HNS.out hi)
      have HMY := Lib.hid (wmay_iff.2 (qAdd_may HNS.out hi))
      have HTK := Lib.hid (qTx_ok hlt)
      have hql : (qAdd nv i).op.length < 64 := by show (qTxs i).length < 64; rw [qTxs_len]; omega
      have HQL := Lib.hid hql
      clear hql
      have hn5 := HB5.out.lt
      have hn6 := HT5.out.lt
      have a_0 := (HB5.out.box).2 0 _ rfl; have a_1 := (HB5.out.box).2 1 _ rfl; have a_2 := (HB5.out.box).2 2 _ rfl; have a_3 := (HB5.out.box).2 3 _ rfl; have a_4 := (HB5.out.box).2 4 _ rfl; have a_5 := (HB5.out.box).2 5 _ rfl; have a_6 := (HB5.out.box).2 6 _ rfl; have a_7 := (HB5.out.box).2 7 _ rfl; have a_8 := (HB5.out.box).2 8 _ rfl
      have t_0 := (HT5.out.box).2 0 _ rfl; have t_1 := (HT5.out.box).2 1 _ rfl; have t_2 := (HT5.out.box).2 2 _ rfl; have t_3 := (HT5.out.box).2 3 _ rfl
      go_upto_region 14 with (first | (go_at_call 8; refine (worker_Add_ok ⟨⟨oA, on, oc⟩, ⟨tA, tn, tc⟩, ⟨eA, en, ec⟩, ⟨rA, rn, rc⟩⟩ (qAdd nv i) (qTx i) _ (HO5.out.work HBG.out) HBG.out HMY.out HTK.out HQL.out).mono ?_; rintro e w6 ⟨⟨⟨oA6, on6, oc6⟩, ⟨tA6, tn6, tc6⟩, ⟨eA6, en6, ec6⟩, ⟨rA6, rn6, rc6⟩⟩, he6, hO6, hb6⟩; rw [qAdd_succ] at he6 hO6; have he7 : e = .returned (.tuple #[.agg #[.int .i64 1, .int .i64 nv, .int .i64 1, .slice oA6 on6 oc6, .int .i64 0, .int .i64 0, .slice tA6 tn6 tc6, .slice eA6 en6 ec6, .slice rA6 rn6 rc6], .int .i64 0]) := he6; clear he6; subst he7) | (go_at_call 7; refine (law13_num _ _).mono ?_; rintro e w' ⟨rfl, rfl⟩))
      clear a_0 a_1 a_2 a_3 a_4 a_5 a_6 a_7 a_8 t_0 t_1 t_2 t_3 hn5 hn6
      refine wp_world (fun W7 hW7 => ?_)
      obtain ⟨gx, hgx⟩ : ∃ g, g = w6.heap.size := ⟨_, rfl⟩
      have HX7 : Hid (Blk W7 gx 27 [.int .i64 1, .int .i64 nv, .int .i64 1, .slice oA6 on6 oc6, .int .i64 0, .int .i64 0, .slice tA6 tn6 tc6, .slice eA6 en6 ec6, .slice rA6 rn6 rc6]) := Lib.hid (by rw [hW7, hgx]; exact Blk.new w6 27 [.int .i64 1, .int .i64 nv, .int .i64 1, .slice oA6 on6 oc6, .int .i64 0, .int .i64 0, .slice tA6 tn6 tc6, .slice eA6 en6 ec6, .slice rA6 rn6 rc6])
      have hb67 : Below w6.heap.size w6 W7 := by rw [hW7]; exact bel_alloc (Below.refl _ _)
      rw [← hgx]
      clear hW7 hgx
      have hb57 := bel_trans hb6 hb67
      have HB7 := Lib.hid (HB5.out.up hb57)
      have HO7 := Lib.hid (hO6.up hb67)
      have HS7 := Lib.hid (OwnX.up HS5.out hb57)
      have hbw7 := bel_trans hbw5 hb57
      have hBq : ∀ q, (Value.slice A5 (i + 1) c5).ownBlock = some q → q < w5.heap.size := fun q e => (own_lt HS5.out q e).2
      have HBQ := Lib.hid hBq
      have hs57 := hb57.size
      have hs5 := hbw5.size
      clear hb6 hb67 hb57 hO6 HB5 HT5 HO5 HS5 hbw5 HBG HMY HTK HQL hBq
      have hS8 := set9 HB7.out rfl (.int .i64 1) (.int .i64 nv) (.int .i64 1) (.slice oA6 on6 oc6) (.int .i64 0) (.int .i64 0) (.slice tA6 tn6 tc6) (.slice eA6 en6 ec6) (.slice rA6 rn6 rc6)
      have ht8 := TKeep.sets9 HB7.out (.int .i64 1) (.int .i64 nv) (.int .i64 1) (.slice oA6 on6 oc6) (.int .i64 0) (.int .i64 0) (.slice tA6 tn6 tc6) (.slice eA6 en6 ec6) (.slice rA6 rn6 rc6)
      have hO8 := HO7.out.tk ht8 twWork
      have hb8 := bel_sets9 hbw7 hNw (.int .i64 1) (.int .i64 nv) (.int .i64 1) (.slice oA6 on6 oc6) (.int .i64 0) (.int .i64 0) (.slice tA6 tn6 tc6) (.slice eA6 en6 ec6) (.slice rA6 rn6 rc6)
      have hS9 : OwnX _ w.heap.size (.slice A5 (i + 1) c5) (qTxs (i + 1)) := own_tkw (show World.ownsRow _ _ 37 4 _ _ _ from HS7.out) ht8 twWork (by decide) (by decide)
      have hnf := HB7.out.frozen
      have hnl := HB7.out.lt
      have hxl := HX7.out.lt
      have a_0 := (HB7.out.box).2 0 _ rfl; have a_1 := (HB7.out.box).2 1 _ rfl; have a_2 := (HB7.out.box).2 2 _ rfl; have a_3 := (HB7.out.box).2 3 _ rfl; have a_4 := (HB7.out.box).2 4 _ rfl; have a_5 := (HB7.out.box).2 5 _ rfl; have a_6 := (HB7.out.box).2 6 _ rfl; have a_7 := (HB7.out.box).2 7 _ rfl; have a_8 := (HB7.out.box).2 8 _ rfl
      have x_0 := (HX7.out.box).2 0 _ rfl; have x_1 := (HX7.out.box).2 1 _ rfl; have x_2 := (HX7.out.box).2 2 _ rfl; have x_3 := (HX7.out.box).2 3 _ rfl; have x_4 := (HX7.out.box).2 4 _ rfl; have x_5 := (HX7.out.box).2 5 _ rfl; have x_6 := (HX7.out.box).2 6 _ rfl; have x_7 := (HX7.out.box).2 7 _ rfl; have x_8 := (HX7.out.box).2 8 _ rfl
      clear ht8
      have HS8 := Lib.hid hS8
      have HO8 := Lib.hid hO8
      have HS9 := Lib.hid hS9
      clear hS8 hO8 hS9
      have hs8 := hb8.size
      go_wp2_with fail
      clear a_0 a_1 a_2 a_3 a_4 a_5 a_6 a_7 a_8 x_0 x_1 x_2 x_3 x_4 x_5 x_6 x_7 x_8
      (first | (go_round; (case rel => exact ⟨i + 1, ⟨⟨oA6, on6, oc6⟩, ⟨tA6, tn6, tc6⟩, ⟨eA6, en6, ec6⟩, ⟨rA6, rn6, rc6⟩⟩, A5, c5, w5.heap.size, by omega, by go_num, rfl, HS8, HO8, HS9, HBQ, hs5, by simpa [World.setCell] using hs57, hb8⟩); (case measure => (simp [intOf] <;> omega))) | (go_roundw; (case rel => exact ⟨i + 1, ⟨⟨oA6, on6, oc6⟩, ⟨tA6, tn6, tc6⟩, ⟨eA6, en6, ec6⟩, ⟨rA6, rn6, rc6⟩⟩, A5, c5, w5.heap.size, by omega, by go_num, rfl, HS8, HO8, HS9, HBQ, hs5, by simpa [World.setCell] using hs57, hb8⟩); (case measure => (simp [intOf] <;> omega))) | (refine ⟨?_, by simp [intOf] <;> omega⟩; (repeat apply Exists.intro); refine ⟨?rel, ?fr⟩; (case fr => ((repeat' apply And.intro) <;> rfl)); (case rel => exact ⟨i + 1, ⟨⟨oA6, on6, oc6⟩, ⟨tA6, tn6, tc6⟩, ⟨eA6, en6, ec6⟩, ⟨rA6, rn6, rc6⟩⟩, A5, c5, w5.heap.size, by omega, by go_num, rfl, HS8, HO8, HS9, HBQ, hs5, by simpa [World.setCell] using hs57, hb8⟩)))
    · skip
      obtain rfl : i = 24 := by omega
      have HSL : Hid (∀ q, (Value.slice sA 24 sc).ownBlock = some q → q < wk.heap.size) := Lib.hid (fun q e => (own_lt HSX.out q e).2)
      obtain ⟨wl, hwl⟩ : ∃ x, x = wk := ⟨_, rfl⟩
      have HO1 := Lib.hid (HO.out.mono hwB)
      clear HO HSB hwB hBk B
      go_wp2_with fail
      go_loopw [11, 12] (fun gv dv wr => ∃ (m : Nat) (P : WorkP) (gA : Option Addr) (gn gc : Nat), m ≤ 3 ∧ dv = .int .i64 ((m : Int) + 1) ∧ gv = .slice gA gn gc ∧ Hid (gn = 8 * m) ∧ Hid (Blk wr N 27 [.int .i64 1, .int .i64 nv, .int .i64 ((m : Int) + 1), .slice P.op.A P.op.n P.op.c, .int .i64 0, .int .i64 0, .slice P.wa.A P.wa.n P.wa.c, .slice P.he.A P.he.n P.he.c, .slice P.re.A P.re.n P.re.c]) ∧ Hid (WorkO wr w.heap.size P (qBase nv m)) ∧ Hid (OwnX wr wl.heap.size (.slice gA gn gc) ((qTxs 24).take (8 * m))) ∧ Hid (OwnX wr w.heap.size (.slice sA 24 sc) (qTxs 24)) ∧ wl.heap.size ≤ wr.heap.size ∧ Below w.heap.size w wr) (fun _ dv _ => 4 - (intOf dv).toNat)
      case atStart => exact ⟨0, ⟨⟨oA, on, oc⟩, ⟨tA, tn, tc⟩, ⟨eA, en, ec⟩, ⟨rA, rn, rc⟩⟩, none, 0, 0, by omega, rfl, rfl, Lib.hid rfl, HB, HO1, Lib.hid (OwnX.nil _ _), HSX, by rw [hwl]; exact Nat.le_refl _, hbw⟩
      case round =>
        rw [← hwl] at HSL
        have hwl2 : w.heap.size ≤ wl.heap.size := by rw [hwl]; exact hbw.size
        clear hwl HB HO1 HSX hbw hlt
        obtain ⟨m, P, gA, gn, gc, hm, rfl, rfl, HGN, HB, HO, HGX, HSX, hlk, hbw⟩ := hrel
        (obtain ⟨wm, hwm⟩ : ∃ x, x = wr := ⟨_, rfl⟩); subst hwm
        obtain ⟨⟨oA2, on2, oc2⟩, ⟨tA2, tn2, tc2⟩, ⟨eA2, en2, ec2⟩, ⟨rA2, rn2, rc2⟩⟩ := P
        by_cases hm3 : m < 3
        · skip
          have HMK := Lib.hid (qMk HNS.out hm3)
          have HBG := Lib.hid (qBase_big HNS.out hm)
          have HBM := Lib.hid (wmay_iff.2 (qBase_may HNS.out hm))
          have hopl : (qBase nv m).op.length ≤ 800000000 := HBG.out.op
          have HOPL := Lib.hid hopl
          clear hopl
          have hle : (m : Int) + 1 ≤ 3 := by omega
          have hnl := HB.out.lt
          have a_0 := (HB.out.box).2 0 _ rfl; have a_1 := (HB.out.box).2 1 _ rfl; have a_2 := (HB.out.box).2 2 _ rfl; have a_3 := (HB.out.box).2 3 _ rfl; have a_4 := (HB.out.box).2 4 _ rfl; have a_5 := (HB.out.box).2 5 _ rfl; have a_6 := (HB.out.box).2 6 _ rfl; have a_7 := (HB.out.box).2 7 _ rfl; have a_8 := (HB.out.box).2 8 _ rfl
          have HBL := Lib.hid (qBatch_len hm3)
          go_upto_region 20 with (go_at_call 9; refine (worker_Make ⟨⟨oA2, on2, oc2⟩, ⟨tA2, tn2, tc2⟩, ⟨eA2, en2, ec2⟩, ⟨rA2, rn2, rc2⟩⟩ (qBase nv m) _ (HO.out.work HBG.out) HOPL.out).mono ?_; rintro e w3 ⟨v3, he3, hov, hb3⟩; rw [HMK.out.1, HMK.out.2] at he3; rw [HMK.out.1] at hov; obtain ⟨bA, bc, ev, -⟩ := OwnX.txs hov (by rw [HBL.out]; omega); rw [HBL.out] at ev; subst ev; have he4 : e = .returned (.tuple #[.agg #[.int .i64 1, .int .i64 ((m : Int) + 1), .slice bA 8 bc], .int .i64 0]) := he3; clear he3; subst he4)
          clear a_0 a_1 a_2 a_3 a_4 a_5 a_6 a_7 a_8 hnl
          refine wp_world (fun W4 hW4 => ?_)
          obtain ⟨gb, hgb⟩ : ∃ g, g = w3.heap.size := ⟨_, rfl⟩
          have HQ4 : Hid (Blk W4 gb 40 [.int .i64 1, .int .i64 ((m : Int) + 1), .slice bA 8 bc]) := Lib.hid (by rw [hW4, hgb]; exact Blk.new w3 40 [.int .i64 1, .int .i64 ((m : Int) + 1), .slice bA 8 bc])
          have hb34 : Below w3.heap.size w3 W4 := by rw [hW4]; exact bel_alloc (Below.refl _ _)
          rw [← hgb]
          clear hW4 hgb
          have hbm4 := bel_trans hb3 hb34
          have HB4 := Lib.hid (HB.out.up hbm4)
          have HO4 := Lib.hid (HO.out.up hbm4)
          have HG4 := Lib.hid (OwnX.up HGX.out hbm4)
          have HS4 := Lib.hid (OwnX.up HSX.out hbm4)
          have HT4 := Lib.hid (OwnX.up hov hb34)
          have hbw4 := bel_trans hbw hbm4
          have hlk4 : wl.heap.size ≤ W4.heap.size := Nat.le_trans hlk hbm4.size
          have hmk4 : wm.heap.size ≤ W4.heap.size := hbm4.size
          clear hb3 hb34 hbm4 hov HB HO HGX HSX hlk hbw
          have HNX := Lib.hid (qBase_next (n := nv) hm3)
          have hdg : digS ((m : Int) + 1) = true := by simp [digS]; omega
          have HDG := Lib.hid hdg
          have HSH : Hid ((qBase nv m).re.length + (qBase nv m).wa.length ≤ 700000000) := Lib.hid (by show (rngI m).length + 0 ≤ _; rw [rngI_len]; omega)
          clear hdg
          have hnl := HB4.out.lt
          have a_0 := (HB4.out.box).2 0 _ rfl; have a_1 := (HB4.out.box).2 1 _ rfl; have a_2 := (HB4.out.box).2 2 _ rfl; have a_3 := (HB4.out.box).2 3 _ rfl; have a_4 := (HB4.out.box).2 4 _ rfl; have a_5 := (HB4.out.box).2 5 _ rfl; have a_6 := (HB4.out.box).2 6 _ rfl; have a_7 := (HB4.out.box).2 7 _ rfl; have a_8 := (HB4.out.box).2 8 _ rfl
          go_upto_region 21 with (go_at_call 10; refine (worker_Sealed_ok ⟨⟨oA2, on2, oc2⟩, ⟨tA2, tn2, tc2⟩, ⟨eA2, en2, ec2⟩, ⟨rA2, rn2, rc2⟩⟩ (qBase nv m) ((m : Int) + 1) _ (HO4.out.work HBG.out) HBG.out HBM.out HNX.out HDG.out (qHe_has m) HSH.out).mono ?_; rintro e w5 ⟨⟨⟨oA5, on5, oc5⟩, ⟨tA5, tn5, tc5⟩, ⟨eA5, en5, ec5⟩, ⟨rA5, rn5, rc5⟩⟩, lA, ln, lc, he5, hO5, hM5, hb5⟩; rw [qSeal_eq] at he5 hO5; have he6 : e = .returned (.tuple #[.agg #[.int .i64 1, .int .i64 nv, .int .i64 ((m : Int) + 1 + 1), .slice oA5 on5 oc5, .int .i64 0, .int .i64 0, .slice tA5 tn5 tc5, .slice eA5 en5 ec5, .slice rA5 rn5 rc5], .slice lA ln lc, .int .i64 0]) := he5; clear he5; subst he6)
          clear a_0 a_1 a_2 a_3 a_4 a_5 a_6 a_7 a_8 hnl
          have hln : (ln : Int) = nv - 1 := by (obtain ⟨us, hT⟩ := hM5; obtain ⟨A', c', e', _⟩ := hT.read; injection e' with _ e2 _; have e3 := ask_len (n := nv.toNat) (by omega) ((m : Int) + 1) (nxD (qBase nv m)); have e4 : ln = (askL 1 ((m : Int) + 1) (nxD (qBase nv m)) [] nv.toNat).length := e2; omega)
          refine wp_world (fun W6 hW6 => ?_)
          obtain ⟨gx, hgx⟩ : ∃ g, g = w5.heap.size := ⟨_, rfl⟩
          have HX6 : Hid (Blk W6 gx 27 [.int .i64 1, .int .i64 nv, .int .i64 ((m : Int) + 1 + 1), .slice oA5 on5 oc5, .int .i64 0, .int .i64 0, .slice tA5 tn5 tc5, .slice eA5 en5 ec5, .slice rA5 rn5 rc5]) := Lib.hid (by rw [hW6, hgx]; exact Blk.new w5 27 [.int .i64 1, .int .i64 nv, .int .i64 ((m : Int) + 1 + 1), .slice oA5 on5 oc5, .int .i64 0, .int .i64 0, .slice tA5 tn5 tc5, .slice eA5 en5 ec5, .slice rA5 rn5 rc5])
          have hb56 : Below w5.heap.size w5 W6 := by rw [hW6]; exact bel_alloc (Below.refl _ _)
          rw [← hgx]
          clear hW6 hgx
          have hb46 := bel_trans hb5 hb56
          have HB6 := Lib.hid (HB4.out.up hb46)
          have HO6 := Lib.hid (hO5.up hb56)
          have HG6 := Lib.hid (OwnX.up HG4.out hb46)
          have HS6 := Lib.hid (OwnX.up HS4.out hb46)
          have HT6 := Lib.hid (OwnX.up HT4.out hb46)
          have HQ6 := Lib.hid (HQ4.out.up hb46)
          have hbw6 := bel_trans hbw4 hb46
          have hlk6 : wl.heap.size ≤ W6.heap.size := Nat.le_trans hlk4 hb46.size
          have hwk4 : w.heap.size ≤ W4.heap.size := hbw4.size
          have HGQ : Hid (∀ q, (Value.slice gA gn gc).ownBlock = some q → q < W4.heap.size) := Lib.hid (fun q e => (own_lt HG4.out q e).2)
          clear hM5 hb5 hb56 hb46 hO5 HB4 HO4 HG4 HS4 HT4 HQ4 hbw4 hlk4 HMK HBG HBM HOPL HNX HSH
          have hql := HQ6.out.lt
          have b_0 := (HQ6.out.box).2 0 _ rfl; have b_1 := (HQ6.out.box).2 1 _ rfl; have b_2 := (HQ6.out.box).2 2 _ rfl
          go_upto_region 23 with (go_at_call 7; refine (law13_num _ _).mono ?_; rintro e w' ⟨rfl, rfl⟩)
          obtain ⟨vb, eA, -, -⟩ := own_nz (show World.ownsRow _ _ 37 4 (.slice bA 8 bc) 8 _ from by have h9 := HT6.out; unfold OwnX at h9; rw [HBL.out] at h9; exact h9) (by omega)
          subst eA
          have HVB : Hid (∀ j u, (flat encX (qBatch m).tx)[j]? = some u → W6.cell? ⟨vb, 0 + j, none⟩ = some u) := Lib.hid (fun j u hu => by rw [Nat.zero_add]; have h9 := HT6.out; unfold OwnX at h9; rw [HBL.out] at h9; exact (own_get h9).1 j u hu)
          have HGL : Hid (((qTxs 24).take (8 * m)).length + 8 ≤ 900000000) := Lib.hid (by rw [List.length_take, qTxs_len]; omega)
          go_upto_region 24 with (at_builtin; refine wpList_appX rfl (.tmp 104) (.tmp 106) rfl rfl wl.heap.size (.slice gA gn gc) ((qTxs 24).take (8 * m)) rfl HG6.out vb 0 8 bc (qBatch m).tx rfl HBL.out HVB.out HGL.out hlk6 ?_; intro v7 w7 hown7 hg7 hb7 hat7)
          clear hql b_0 b_1 b_2
          rw [got_next] at hown7
          have hl7 : ((qTxs 24).take (8 * (m + 1))).length = 8 * (m + 1) := by rw [List.length_take, qTxs_len]; omega
          obtain ⟨gA7, gc7, e7, -⟩ := OwnX.txs hown7 (by rw [hl7]; omega)
          obtain ⟨gn7, hgn7⟩ : ∃ x, 8 * (m + 1) = x := ⟨_, rfl⟩
          rw [hl7, hgn7] at e7
          subst e7
          have HGN7 := Lib.hid hgn7.symm
          clear hl7 hgn7
          have HB7 : Hid (Blk w7 N 27 [.int .i64 1, .int .i64 nv, .int .i64 ((m : Int) + 1), .slice oA2 on2 oc2, .int .i64 0, .int .i64 0, .slice tA2 tn2 tc2, .slice eA2 en2 ec2, .slice rA2 rn2 rc2]) := Lib.hid (blk_grownQ HB6.out (show World.ownsRow _ _ 37 4 _ _ _ from HG6.out) (by decide) hg7)
          have HX7 : Hid (Blk w7 gx 27 [.int .i64 1, .int .i64 nv, .int .i64 ((m : Int) + 1 + 1), .slice oA5 on5 oc5, .int .i64 0, .int .i64 0, .slice tA5 tn5 tc5, .slice eA5 en5 ec5, .slice rA5 rn5 rc5]) := Lib.hid (blk_grownQ HX6.out (show World.ownsRow _ _ 37 4 _ _ _ from HG6.out) (by decide) hg7)
          have HO7 := Lib.hid (HO6.out.grownLow hg7 HGQ.out)
          have HS7 : Hid (OwnX w7 w.heap.size (.slice sA 24 sc) (qTxs 24)) := Lib.hid (own_grownNe (show World.ownsRow _ _ 37 4 _ _ _ from HS6.out) hg7 (fun q e1 e2 => by have h1 := HSL.out q e1; have h2 := (own_lt HG6.out q e2).1; omega))
          have HG7 := Lib.hid hown7
          have hbw7 : Below w.heap.size w w7 := hbw6.trans (hb7.mono hwl2)
          have hlk7 : wl.heap.size ≤ w7.heap.size := Nat.le_trans hlk6 hb7.size
          clear hown7 hg7 hb7 hat7 HB6 HX6 HO6 HS6 HG6 HT6 HQ6 HGQ HVB HGL HBL hbw6 hlk6 hln HGN
          have hS8 := set9 HB7.out rfl (.int .i64 1) (.int .i64 nv) (.int .i64 ((m : Int) + 1 + 1)) (.slice oA5 on5 oc5) (.int .i64 0) (.int .i64 0) (.slice tA5 tn5 tc5) (.slice eA5 en5 ec5) (.slice rA5 rn5 rc5)
          have ht8 := TKeep.sets9 HB7.out (.int .i64 1) (.int .i64 nv) (.int .i64 ((m : Int) + 1 + 1)) (.slice oA5 on5 oc5) (.int .i64 0) (.int .i64 0) (.slice tA5 tn5 tc5) (.slice eA5 en5 ec5) (.slice rA5 rn5 rc5)
          have hO8 := HO7.out.tk ht8 twWork
          have hb8 := bel_sets9 hbw7 hNw (.int .i64 1) (.int .i64 nv) (.int .i64 ((m : Int) + 1 + 1)) (.slice oA5 on5 oc5) (.int .i64 0) (.int .i64 0) (.slice tA5 tn5 tc5) (.slice eA5 en5 ec5) (.slice rA5 rn5 rc5)
          have hS9 : OwnX _ w.heap.size (.slice sA 24 sc) (qTxs 24) := own_tkw (show World.ownsRow _ _ 37 4 _ _ _ from HS7.out) ht8 twWork (by decide) (by decide)
          have hG9 : OwnX _ wl.heap.size (.slice gA7 gn7 gc7) ((qTxs 24).take (8 * (m + 1))) := own_tkw (show World.ownsRow _ _ 37 4 _ _ _ from HG7.out) ht8 twWork (by decide) (by decide)
          have hnf := HB7.out.frozen
          have hnl := HB7.out.lt
          have hxl := HX7.out.lt
          have a_0 := (HB7.out.box).2 0 _ rfl; have a_1 := (HB7.out.box).2 1 _ rfl; have a_2 := (HB7.out.box).2 2 _ rfl; have a_3 := (HB7.out.box).2 3 _ rfl; have a_4 := (HB7.out.box).2 4 _ rfl; have a_5 := (HB7.out.box).2 5 _ rfl; have a_6 := (HB7.out.box).2 6 _ rfl; have a_7 := (HB7.out.box).2 7 _ rfl; have a_8 := (HB7.out.box).2 8 _ rfl
          have x_0 := (HX7.out.box).2 0 _ rfl; have x_1 := (HX7.out.box).2 1 _ rfl; have x_2 := (HX7.out.box).2 2 _ rfl; have x_3 := (HX7.out.box).2 3 _ rfl; have x_4 := (HX7.out.box).2 4 _ rfl; have x_5 := (HX7.out.box).2 5 _ rfl; have x_6 := (HX7.out.box).2 6 _ rfl; have x_7 := (HX7.out.box).2 7 _ rfl; have x_8 := (HX7.out.box).2 8 _ rfl
          clear ht8
          have HS8 := Lib.hid hS8
          have HO8 := Lib.hid (WorkO.mono (B' := w.heap.size) hO8 hwk4)
          have HS9 := Lib.hid hS9
          have HG9 := Lib.hid hG9
          clear hS8 hO8 hS9 hG9
          have hs8 := hlk7
          go_wp2_with fail
          clear a_0 a_1 a_2 a_3 a_4 a_5 a_6 a_7 a_8 x_0 x_1 x_2 x_3 x_4 x_5 x_6 x_7 x_8
          go_loopw [18] (fun kv wr => ∃ (k : Nat) (P : WorkP), (k : Int) + 1 ≤ nv ∧ kv = .int .i64 ((k : Int) + 2) ∧ Hid (Blk wr N 27 [.int .i64 1, .int .i64 nv, .int .i64 ((m : Int) + 1 + 1), .slice P.op.A P.op.n P.op.c, .int .i64 0, .int .i64 0, .slice P.wa.A P.wa.n P.wa.c, .slice P.he.A P.he.n P.he.c, .slice P.re.A P.re.n P.re.c]) ∧ Hid (WorkO wr w.heap.size P (ackedD (qSeal nv m) ((m : Int) + 1) (rngI m) (k + 1))) ∧ Hid (OwnX wr wl.heap.size (.slice gA7 gn7 gc7) ((qTxs 24).take (8 * (m + 1)))) ∧ Hid (OwnX wr w.heap.size (.slice sA 24 sc) (qTxs 24)) ∧ wl.heap.size ≤ wr.heap.size ∧ Below w.heap.size w wr) (fun kv _ => 18 - (intOf kv).toNat)
          case atStart => exact ⟨0, ⟨⟨oA5, on5, oc5⟩, ⟨tA5, tn5, tc5⟩, ⟨eA5, en5, ec5⟩, ⟨rA5, rn5, rc5⟩⟩, by omega, rfl, HS8, HO8, HG9, HS9, by simpa [World.setCell] using hs8, hb8⟩
          case round =>
            clear HB7 HX7 HO7 HS7 HG7 HS8 HO8 HS9 HG9 hlk7 hb8 hs8
            obtain ⟨k, P, hk, rfl, HB, HO, HGX, HSX, hlk, hbw⟩ := hrel
            (obtain ⟨wk3, hwk3⟩ : ∃ x, x = wr := ⟨_, rfl⟩); subst hwk3
            obtain ⟨⟨oA3, on3, oc3⟩, ⟨tA3, tn3, tc3⟩, ⟨eA3, en3, ec3⟩, ⟨rA3, rn3, rc3⟩⟩ := P
            by_cases hk2 : (k : Int) + 2 ≤ nv
            · skip
              obtain ⟨q, hqd⟩ : ∃ q, 2 * ((nv - 1) / 3) + 1 = q := ⟨_, rfl⟩
              obtain ⟨z, hz⟩ : ∃ z, inS (reK nv ((m : Int) + 1) (k + 1) (rngI m)) ((m : Int) + 1) = z := ⟨_, rfl⟩
              obtain ⟨eb, heb⟩ : ∃ b, decide (q ≤ (k : Int) + 1) = b := ⟨_, rfl⟩
              have hmem := reK_mem (n := nv) (m := m) (k := k + 1)
              have hneg := inS_neg (x := (m : Int) + 1) (l := (reK nv ((m : Int) + 1) (k + 1) (rngI m)))
              rw [hz] at hneg
              rw [hqd] at hmem
              have hzb : decide (0 ≤ z) = eb := by (rw [← heb]; exact decide_eq_decide.2 ⟨fun h => (by (have g : ((m : Int) + 1) ∈ (reK nv ((m : Int) + 1) (k + 1) (rngI m)) := Classical.byContradiction fun h2 => (by have := hneg.2 h2; omega)); (have g2 := hmem.1 g); omega), fun h => Classical.byContradiction fun h2 => hneg.1 (by omega) (hmem.2 (by omega))⟩)
              have heb2 : decide (q ≤ (k : Int) + 2 - 1) = eb := by rw [← heb]; refine decide_eq_decide.2 ⟨fun h => by omega, fun h => by omega⟩
              have HQD := Lib.hid hqd
              have HZ := Lib.hid hz
              have HRI : Hid (IntsR wk3 rA3 rn3 (reK nv ((m : Int) + 1) (k + 1) (rngI m))) := Lib.hid (HO.out.work (qMid_big HNS.out hm3 hk)).re
              clear hqd hz hmem hneg
              have hk18 : (k : Int) + 2 ≤ 16 := by omega
              have hnl := HB.out.lt
              have a_0 := (HB.out.box).2 0 _ rfl; have a_1 := (HB.out.box).2 1 _ rfl; have a_2 := (HB.out.box).2 2 _ rfl; have a_3 := (HB.out.box).2 3 _ rfl; have a_4 := (HB.out.box).2 4 _ rfl; have a_5 := (HB.out.box).2 5 _ rfl; have a_6 := (HB.out.box).2 6 _ rfl; have a_7 := (HB.out.box).2 7 _ rfl; have a_8 := (HB.out.box).2 8 _ rfl
              go_upto_region 31 with (first | (go_at_call 11; refine (quo_at nv _ HNS.out).mono ?_; rintro e w' ⟨he, rfl⟩; rw [HQD.out] at he; subst he) | (go_at_call 12; refine (ref0_In rA3 rn3 rc3 (reK nv ((m : Int) + 1) (k + 1) (rngI m)) ((m : Int) + 1) _ HRI.out).mono ?_; rintro e w' ⟨he, rfl⟩; rw [HZ.out] at he; subst he))
              clear a_0 a_1 a_2 a_3 a_4 a_5 a_6 a_7 a_8 hnl heb heb2 hzb HQD HZ HRI
              go_wp2_with fail
              go_loopw [20] (fun av wr => ∃ (a : Nat) (P : WorkP), a ≤ 2 ∧ av = .int .i64 a ∧ Hid (Blk wr N 27 [.int .i64 1, .int .i64 nv, .int .i64 ((m : Int) + 1 + 1), .slice P.op.A P.op.n P.op.c, .int .i64 0, .int .i64 0, .slice P.wa.A P.wa.n P.wa.c, .slice P.he.A P.he.n P.he.c, .slice P.re.A P.re.n P.re.c]) ∧ Hid (WorkO wr w.heap.size P (qA nv m k a)) ∧ Hid (OwnX wr wl.heap.size (.slice gA7 gn7 gc7) ((qTxs 24).take (8 * (m + 1)))) ∧ Hid (OwnX wr w.heap.size (.slice sA 24 sc) (qTxs 24)) ∧ wl.heap.size ≤ wr.heap.size ∧ Below w.heap.size w wr) (fun av _ => 2 - (intOf av).toNat)
              case atStart => exact ⟨0, ⟨⟨oA3, on3, oc3⟩, ⟨tA3, tn3, tc3⟩, ⟨eA3, en3, ec3⟩, ⟨rA3, rn3, rc3⟩⟩, by omega, rfl, HB, HO, HGX, HSX, hlk, hbw⟩
              case round =>
                clear HB HO HGX HSX hlk hbw
                obtain ⟨a, P, ha, rfl, HB, HO, HGX, HSX, hlk, hbw⟩ := hrel
                (obtain ⟨wk4, hwk4⟩ : ∃ x, x = wr := ⟨_, rfl⟩); subst hwk4
                obtain ⟨⟨oA4, on4, oc4⟩, ⟨tA4, tn4, tc4⟩, ⟨eA4, en4, ec4⟩, ⟨rA4, rn4, rc4⟩⟩ := P
                by_cases ha2 : a < 2
                · skip
                  have HQM := Lib.hid (qA_may HNS.out hm3 hk2 a)
                  have HQT := Lib.hid (qA_told nv m k a)
                  have HQS := Lib.hid (qA_short (n := nv) (k := k) (a := a) hm3)
                  have hnl := HB.out.lt
                  have a_0 := (HB.out.box).2 0 _ rfl; have a_1 := (HB.out.box).2 1 _ rfl; have a_2 := (HB.out.box).2 2 _ rfl; have a_3 := (HB.out.box).2 3 _ rfl; have a_4 := (HB.out.box).2 4 _ rfl; have a_5 := (HB.out.box).2 5 _ rfl; have a_6 := (HB.out.box).2 6 _ rfl; have a_7 := (HB.out.box).2 7 _ rfl; have a_8 := (HB.out.box).2 8 _ rfl
                  go_upto_region 37 with (first | (go_at_call 13; refine (worker_Told ⟨⟨oA4, on4, oc4⟩, ⟨tA4, tn4, tc4⟩, ⟨eA4, en4, ec4⟩, ⟨rA4, rn4, rc4⟩⟩ (qA nv m k a) (qA nv m k (a + 1)) ((k : Int) + 2) ((m : Int) + 1) _ (HO.out.work HQM.out.2) HQM.out.1 HQM.out.2 HQS.out rfl (by omega) hk2 HDG.out HQT.out).mono ?_; rintro e w6 ⟨⟨⟨oA6, on6, oc6⟩, ⟨tA6, tn6, tc6⟩, ⟨eA6, en6, ec6⟩, ⟨rA6, rn6, rc6⟩⟩, uA, uc, he6, hO6, hb6⟩; have he7 : e = .returned (.tuple #[.agg #[.int .i64 1, .int .i64 nv, .int .i64 ((m : Int) + 1 + 1), .slice oA6 on6 oc6, .int .i64 0, .int .i64 0, .slice tA6 tn6 tc6, .slice eA6 en6 ec6, .slice rA6 rn6 rc6], .slice uA 0 uc, .int .i64 0]) := he6; clear he6; subst he7) | (go_at_call 7; refine (law13_num _ _).mono ?_; rintro e w' ⟨rfl, rfl⟩))
                  clear a_0 a_1 a_2 a_3 a_4 a_5 a_6 a_7 a_8 hnl
                  refine wp_world (fun W7 hW7 => ?_)
                  obtain ⟨gy, hgy⟩ : ∃ g, g = w6.heap.size := ⟨_, rfl⟩
                  have HX7 : Hid (Blk W7 gy 27 [.int .i64 1, .int .i64 nv, .int .i64 ((m : Int) + 1 + 1), .slice oA6 on6 oc6, .int .i64 0, .int .i64 0, .slice tA6 tn6 tc6, .slice eA6 en6 ec6, .slice rA6 rn6 rc6]) := Lib.hid (by rw [hW7, hgy]; exact Blk.new w6 27 [.int .i64 1, .int .i64 nv, .int .i64 ((m : Int) + 1 + 1), .slice oA6 on6 oc6, .int .i64 0, .int .i64 0, .slice tA6 tn6 tc6, .slice eA6 en6 ec6, .slice rA6 rn6 rc6])
                  have hb67 : Below w6.heap.size w6 W7 := by rw [hW7]; exact bel_alloc (Below.refl _ _)
                  rw [← hgy]
                  clear hW7 hgy
                  have hb57 := bel_trans hb6 hb67
                  have HB7 := Lib.hid (HB.out.up hb57)
                  have HO7 := Lib.hid (WorkO.mono (B' := w.heap.size) (hO6.up hb67) hbw.size)
                  have HS7 := Lib.hid (OwnX.up HSX.out hb57)
                  have HG7 := Lib.hid (OwnX.up HGX.out hb57)
                  have hbw7 := bel_trans hbw hb57
                  have hlk7 : wl.heap.size ≤ W7.heap.size := Nat.le_trans hlk hb57.size
                  clear hb6 hb67 hb57 hO6 HB HO HSX HGX hbw hlk HQM HQT HQS
                  have hS8 := set9 HB7.out rfl (.int .i64 1) (.int .i64 nv) (.int .i64 ((m : Int) + 1 + 1)) (.slice oA6 on6 oc6) (.int .i64 0) (.int .i64 0) (.slice tA6 tn6 tc6) (.slice eA6 en6 ec6) (.slice rA6 rn6 rc6)
                  have ht8 := TKeep.sets9 HB7.out (.int .i64 1) (.int .i64 nv) (.int .i64 ((m : Int) + 1 + 1)) (.slice oA6 on6 oc6) (.int .i64 0) (.int .i64 0) (.slice tA6 tn6 tc6) (.slice eA6 en6 ec6) (.slice rA6 rn6 rc6)
                  have hO8 := HO7.out.tk ht8 twWork
                  have hb8 := bel_sets9 hbw7 hNw (.int .i64 1) (.int .i64 nv) (.int .i64 ((m : Int) + 1 + 1)) (.slice oA6 on6 oc6) (.int .i64 0) (.int .i64 0) (.slice tA6 tn6 tc6) (.slice eA6 en6 ec6) (.slice rA6 rn6 rc6)
                  have hS9 : OwnX _ w.heap.size (.slice sA 24 sc) (qTxs 24) := own_tkw (show World.ownsRow _ _ 37 4 _ _ _ from HS7.out) ht8 twWork (by decide) (by decide)
                  have hG9 : OwnX _ wl.heap.size (.slice gA7 gn7 gc7) ((qTxs 24).take (8 * (m + 1))) := own_tkw (show World.ownsRow _ _ 37 4 _ _ _ from HG7.out) ht8 twWork (by decide) (by decide)
                  have hnf := HB7.out.frozen
                  have hnl := HB7.out.lt
                  have hxl := HX7.out.lt
                  have a_0 := (HB7.out.box).2 0 _ rfl; have a_1 := (HB7.out.box).2 1 _ rfl; have a_2 := (HB7.out.box).2 2 _ rfl; have a_3 := (HB7.out.box).2 3 _ rfl; have a_4 := (HB7.out.box).2 4 _ rfl; have a_5 := (HB7.out.box).2 5 _ rfl; have a_6 := (HB7.out.box).2 6 _ rfl; have a_7 := (HB7.out.box).2 7 _ rfl; have a_8 := (HB7.out.box).2 8 _ rfl
                  have x_0 := (HX7.out.box).2 0 _ rfl; have x_1 := (HX7.out.box).2 1 _ rfl; have x_2 := (HX7.out.box).2 2 _ rfl; have x_3 := (HX7.out.box).2 3 _ rfl; have x_4 := (HX7.out.box).2 4 _ rfl; have x_5 := (HX7.out.box).2 5 _ rfl; have x_6 := (HX7.out.box).2 6 _ rfl; have x_7 := (HX7.out.box).2 7 _ rfl; have x_8 := (HX7.out.box).2 8 _ rfl
                  clear ht8
                  have HS8 := Lib.hid hS8
                  have HO8 := Lib.hid hO8
                  have HS9 := Lib.hid hS9
                  have HG9 := Lib.hid hG9
                  clear hS8 hO8 hS9 hG9
                  go_wp2_with fail
                  clear a_0 a_1 a_2 a_3 a_4 a_5 a_6 a_7 a_8 x_0 x_1 x_2 x_3 x_4 x_5 x_6 x_7 x_8
                  (first | (go_round; (case rel => exact ⟨a + 1, ⟨⟨oA6, on6, oc6⟩, ⟨tA6, tn6, tc6⟩, ⟨eA6, en6, ec6⟩, ⟨rA6, rn6, rc6⟩⟩, by omega, by go_num, HS8, HO8, HG9, HS9, by simpa [World.setCell] using hlk7, hb8⟩); (case measure => (simp [intOf] <;> omega))) | (go_roundw; (case rel => exact ⟨a + 1, ⟨⟨oA6, on6, oc6⟩, ⟨tA6, tn6, tc6⟩, ⟨eA6, en6, ec6⟩, ⟨rA6, rn6, rc6⟩⟩, by omega, by go_num, HS8, HO8, HG9, HS9, by simpa [World.setCell] using hlk7, hb8⟩); (case measure => (simp [intOf] <;> omega))) | (refine ⟨?_, by simp [intOf] <;> omega⟩; (repeat apply Exists.intro); refine ⟨?rel, ?fr⟩; (case fr => ((repeat' apply And.intro) <;> rfl)); (case rel => exact ⟨a + 1, ⟨⟨oA6, on6, oc6⟩, ⟨tA6, tn6, tc6⟩, ⟨eA6, en6, ec6⟩, ⟨rA6, rn6, rc6⟩⟩, by omega, by go_num, HS8, HO8, HG9, HS9, by simpa [World.setCell] using hlk7, hb8⟩)))
                · skip
                  obtain rfl : a = 2 := by omega
                  go_wp2_with fail
                  (first | (go_round; (case rel => exact ⟨k + 1, ⟨⟨oA4, on4, oc4⟩, ⟨tA4, tn4, tc4⟩, ⟨eA4, en4, ec4⟩, ⟨rA4, rn4, rc4⟩⟩, by omega, by go_num, HB, HO, HGX, HSX, hlk, hbw⟩); (case measure => (simp [intOf] <;> omega))) | (go_roundw; (case rel => exact ⟨k + 1, ⟨⟨oA4, on4, oc4⟩, ⟨tA4, tn4, tc4⟩, ⟨eA4, en4, ec4⟩, ⟨rA4, rn4, rc4⟩⟩, by omega, by go_num, HB, HO, HGX, HSX, hlk, hbw⟩); (case measure => (simp [intOf] <;> omega))) | (refine ⟨?_, by simp [intOf] <;> omega⟩; (repeat apply Exists.intro); refine ⟨?rel, ?fr⟩; (case fr => ((repeat' apply And.intro) <;> rfl)); (case rel => exact ⟨k + 1, ⟨⟨oA4, on4, oc4⟩, ⟨tA4, tn4, tc4⟩, ⟨eA4, en4, ec4⟩, ⟨rA4, rn4, rc4⟩⟩, by omega, by go_num, HB, HO, HGX, HSX, hlk, hbw⟩)))
            · skip
              have hkn : 2 * ((nv - 1) / 3) + 1 ≤ ((k + 1 : Nat) : Int) := by have := quo_le HNS.out; omega
              have HO9 : Hid (WorkO wk3 w.heap.size ⟨⟨oA3, on3, oc3⟩, ⟨tA3, tn3, tc3⟩, ⟨eA3, en3, ec3⟩, ⟨rA3, rn3, rc3⟩⟩ (qBase nv (m + 1))) := Lib.hid (by have h9 := HO.out; rwa [qSeal_done hkn] at h9)
              have HB9 : Hid (Blk wk3 N 27 [.int .i64 1, .int .i64 nv, .int .i64 (((m + 1 : Nat) : Int) + 1), .slice oA3 on3 oc3, .int .i64 0, .int .i64 0, .slice tA3 tn3 tc3, .slice eA3 en3 ec3, .slice rA3 rn3 rc3]) := Lib.hid (by have h9 := HB.out; rw [show (m : Int) + 1 + 1 = ((m + 1 : Nat) : Int) + 1 by omega] at h9; exact h9)
              clear hkn HO HB
              have hm6 : (m : Int) + 1 ≤ 3 := by omega
              go_wp2_with fail
              (first | (go_round; (case rel => exact ⟨m + 1, ⟨⟨oA3, on3, oc3⟩, ⟨tA3, tn3, tc3⟩, ⟨eA3, en3, ec3⟩, ⟨rA3, rn3, rc3⟩⟩, gA7, gn7, gc7, by omega, by go_num, rfl, HGN7, HB9, HO9, HGX, HSX, hlk, hbw⟩); (case measure => (simp [intOf] <;> omega))) | (go_roundw; (case rel => exact ⟨m + 1, ⟨⟨oA3, on3, oc3⟩, ⟨tA3, tn3, tc3⟩, ⟨eA3, en3, ec3⟩, ⟨rA3, rn3, rc3⟩⟩, gA7, gn7, gc7, by omega, by go_num, rfl, HGN7, HB9, HO9, HGX, HSX, hlk, hbw⟩); (case measure => (simp [intOf] <;> omega))) | (refine ⟨?_, by simp [intOf] <;> omega⟩; (repeat apply Exists.intro); refine ⟨?rel, ?fr⟩; (case fr => ((repeat' apply And.intro) <;> rfl)); (case rel => exact ⟨m + 1, ⟨⟨oA3, on3, oc3⟩, ⟨tA3, tn3, tc3⟩, ⟨eA3, en3, ec3⟩, ⟨rA3, rn3, rc3⟩⟩, gA7, gn7, gc7, by omega, by go_num, rfl, HGN7, HB9, HO9, HGX, HSX, hlk, hbw⟩)))
        · skip
          obtain rfl : m = 3 := by omega
          obtain rfl : gn = 24 := HGN.out
          have HMK := Lib.hid (qMk3 HNS.out)
          have HBG := Lib.hid (qBase_big HNS.out (Nat.le_refl 3))
          have hopl : (qBase nv 3).op.length ≤ 800000000 := HBG.out.op
          have HOPL := Lib.hid hopl
          clear hopl
          obtain ⟨u1, hu1⟩ : ∃ x, (mkB (qBase nv 3)).au = x := ⟨_, rfl⟩
          obtain ⟨u2, hu2⟩ : ∃ x, (mkB (qBase nv 3)).n = x := ⟨_, rfl⟩
          have HU := Lib.hid (And.intro hu1 hu2)
          clear hu1 hu2
          have HBX : Hid ((mkB (qBase nv 3)).tx.length ≤ 1000000) := Lib.hid (mkB_len _)
          have HWR := Lib.hid (HO.out.work HBG.out)
          have hnl := HB.out.lt
          have a_0 := (HB.out.box).2 0 _ rfl; have a_1 := (HB.out.box).2 1 _ rfl; have a_2 := (HB.out.box).2 2 _ rfl; have a_3 := (HB.out.box).2 3 _ rfl; have a_4 := (HB.out.box).2 4 _ rfl; have a_5 := (HB.out.box).2 5 _ rfl; have a_6 := (HB.out.box).2 6 _ rfl; have a_7 := (HB.out.box).2 7 _ rfl; have a_8 := (HB.out.box).2 8 _ rfl
          go_upto_region 39 with (go_at_call 9; refine (worker_Make ⟨⟨oA2, on2, oc2⟩, ⟨tA2, tn2, tc2⟩, ⟨eA2, en2, ec2⟩, ⟨rA2, rn2, rc2⟩⟩ (qBase nv 3) _ HWR.out HOPL.out).mono ?_; rintro e w3 ⟨v3, he3, hov, hb3⟩; rw [HMK.out, HU.out.1, HU.out.2] at he3; obtain ⟨bA, bc, ev, -⟩ := OwnX.txs hov (by have := HBX.out; omega); obtain ⟨bn, hbn⟩ : ∃ x, (mkB (qBase nv 3)).tx.length = x := ⟨_, rfl⟩; rw [hbn] at ev; clear hbn; subst ev; subst he3)
          clear a_0 a_1 a_2 a_3 a_4 a_5 a_6 a_7 a_8 hnl
          refine wp_world (fun W4 hW4 => ?_)
          have hb34 : Below w3.heap.size w3 W4 := by rw [hW4]; exact bel_alloc (Below.refl _ _)
          clear hW4
          have hbm4 := bel_trans hb3 hb34
          have HB4 := Lib.hid (HB.out.up hbm4)
          have HR4 := Lib.hid (HWR.out.up hbm4)
          have HG4 := Lib.hid (OwnX.up HGX.out hbm4)
          have HS4 := Lib.hid (OwnX.up HSX.out hbm4)
          have hbw4 := bel_trans hbw hbm4
          clear hb3 hb34 hbm4 hov HB HO HGX HSX hlk hbw HWR HMK HBG HOPL HU HBX
          have hRn : rn2 = 3 := by have := HR4.out.re.1; exact this.symm
          have hEn : en2 = 3 := by have := HR4.out.he.1; exact this.symm
          have hTn : tn2 = 0 := by have := HR4.out.wa.1; exact this.symm
          subst hRn
          subst hEn
          subst hTn
          have hgt : (qTxs 24).take (8 * 3) = qTxs 24 := List.take_of_length_le (by rw [qTxs_len]; exact Nat.le_refl _)
          have HGT : Hid (TxsR W4 gA 24 (qTxs 24)) := Lib.hid (by obtain ⟨A', c', e', h9, _⟩ := OwnX.txs HG4.out (by rw [hgt, qTxs_len]; omega); rw [hgt, qTxs_len] at e' h9; injection e' with e1 _ _; rw [e1]; exact h9)
          have HST : Hid (TxsR W4 sA 24 (qTxs 24)) := Lib.hid (by obtain ⟨A', c', e', h9, _⟩ := OwnX.txs HS4.out (by rw [qTxs_len]; omega); rw [qTxs_len] at e' h9; injection e' with e1 _ _; rw [e1]; exact h9)
          have HRD : Hid (IntsR W4 rA2 3 [1, 2, 3]) := Lib.hid HR4.out.re
          clear hgt HG4 HS4 HR4
          have hnl := HB4.out.lt
          have a_0 := (HB4.out.box).2 0 _ rfl; have a_1 := (HB4.out.box).2 1 _ rfl; have a_2 := (HB4.out.box).2 2 _ rfl; have a_3 := (HB4.out.box).2 3 _ rfl; have a_4 := (HB4.out.box).2 4 _ rfl; have a_5 := (HB4.out.box).2 5 _ rfl; have a_6 := (HB4.out.box).2 6 _ rfl; have a_7 := (HB4.out.box).2 7 _ rfl; have a_8 := (HB4.out.box).2 8 _ rfl
          go_wp2_with (first | (go_at_call 7; refine (law13_num _ _).mono ?_; rintro e w' ⟨rfl, rfl⟩) | (go_at_call 14; refine (ref0_EqTxs gA 24 gc sA 24 sc (qTxs 24) _ HGT.out HST.out).mono ?_; rintro e w8 ⟨rfl, hb8⟩; have hB8 := HB4.out.up hb8; have hnl8 := hB8.lt; have b_0 := (hB8.box).2 0 _ rfl; have b_1 := (hB8.box).2 1 _ rfl; have b_2 := (hB8.box).2 2 _ rfl; have b_3 := (hB8.box).2 3 _ rfl; have b_4 := (hB8.box).2 4 _ rfl; have b_5 := (hB8.box).2 5 _ rfl; have b_6 := (hB8.box).2 6 _ rfl; have b_7 := (hB8.box).2 7 _ rfl; have b_8 := (hB8.box).2 8 _ rfl; have HRD8 := Lib.hid (HRD.out.up hb8); have hbw8 := bel_trans hbw4 hb8; clear hb8 hB8) | (go_at_call 15; refine (ref0_EqNumbers_same rA2 3 rc2 [1, 2, 3] (some ⟨w8.heap.size, 0, none⟩) 3 3 _ (HRD8.out.up (bel_alloc (Below.refl _ _))) (ints_three w8)).mono ?_; rintro e w9 ⟨rfl, hb9⟩; have hb89 := bel_trans (bel_alloc (Below.refl _ _)) hb9; have hb9w := bel_trans hbw8 hb89; have hc6 := (hb89.cell (p := ⟨N, 6, none⟩) hnl8).trans b_6; have hc7 := (hb89.cell (p := ⟨N, 7, none⟩) hnl8).trans b_7; have hnl9 := Nat.lt_of_lt_of_le hnl8 hb89.size; clear hb89 hb9) | (go_at_call 16; refine (law13_wakes _).mono ?_; rintro e w10 ⟨rfl, hb10⟩))
          go_ret
          exact ⟨rfl, bel_trans hb9w hb10⟩
end Go.Proofs.Ytgfakefcmbpboaa
