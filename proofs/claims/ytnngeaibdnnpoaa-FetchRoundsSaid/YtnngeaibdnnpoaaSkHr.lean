/- Fetch: fetch.New, fetch.Want. -/
import Derived.Test.YtnngeaibdnnpoaaSkHq
import Derived.Test.YtnngeaibdnnpoaaSkHn
namespace Go.Proofs.Ytnngeaibdnnpoaa
open Go.RowKit
set_option linter.unusedSimpArgs false
set_option linter.unusedVariables false

theorem Blk.rngQ {w : World} {g : Nat} {t : TypeId} {cs : List Value} (h : Blk w g t cs) : w.rangeAt g 0 cs := fun r u hu => by rw [Nat.zero_add]; exact h.box.2 r u hu
theorem nmQ {w : World} {B n : Nat} {v : Value} {l : List FRowD} (h : OwnQ w B v l) (hn : l.length = n) (hl : n ≤ 9223372036854775807) : ∃ A c, v = .slice A n c ∧ RowsR w A n l := by
  obtain ⟨A, c, e, h1, -, -⟩ := h.rows (by omega)
  rw [hn] at e h1
  exact ⟨A, c, e, h1⟩
theorem law21_num (x : Int) (w : World) : Calls Try.prog 11 #[.int .i64 x] w fun e w' => e = .returned (.int .i64 x) ∧ w = w' := by
  go_enter Try.func11, Try.ntmps11
  go_wp2
  go_ret
  exact ⟨rfl, rfl⟩
set_option maxRecDepth 100000 in
set_option maxHeartbeats 1000000 in
theorem fetch_Want1 (d : Int) (y : Bool) (w : World) (hy : digS d = y) : Calls Try.prog 28 #[.int .i64 d] w fun e w' => e = .returned (.bool (!y)) ∧ w = w' := by
  have HY := Lib.hid hy
  clear hy
  go_enter Try.func28, Try.ntmps28
  cases y
  all_goals
    go_wp2_with (go_at_call 29; refine (commD _ _ _ HY.out).mono ?_; rintro e w' ⟨rfl, rfl⟩)
    go_ret
    exact ⟨rfl, rfl⟩
set_option maxRecDepth 100000 in
set_option maxHeartbeats 1000000 in
theorem slices_Index_D (A : Option Addr) (n c : Nat) (l : List Int) (w : World) (hl : IntsR w A n l) :
    Calls Try.prog 59 #[.slice A n c, .func (.func 28) #[] #[]] w fun e w' => ∃ z : Int, e = .returned (.int .i64 z) ∧ (betS l 1 65536 = true → z < 0) ∧ (betS l 1 65536 = false → 0 ≤ z) ∧ Below w.heap.size w w' := by
  have HL := Lib.hid hl
  have HN := Lib.hid hl.1
  have hnn : n ≤ 9223372036854775807 := hl.2.1
  clear hl
  go_enter Try.func59, Try.ntmps59
  go_wp2
  go_loopw [8] (fun i wr => ∃ k : Nat, k ≤ n ∧ i = .int .i64 k ∧ Hid (∀ j, j < k → digS (nth l j) = true) ∧ Below w.heap.size w wr) (fun i _ => n - (intOf i).toNat)
  case atStart => exact ⟨0, Nat.zero_le _, rfl, Lib.hid (fun j hj => absurd hj (by omega)), Below.refl _ _⟩
  case round =>
    obtain ⟨k, hk, rfl, HR, hbw⟩ := hrel
    (obtain ⟨wk, hwk⟩ : ∃ x, x = wr := ⟨_, rfl⟩); subst hwk
    by_cases hlt : k < n
    · obtain ⟨b, off, rfl, hb, hc⟩ := (HL.out.up hbw).2.2 (by omega)
      have c0 := hc k hlt
      clear hc
      obtain ⟨y, hy⟩ : ∃ y, digS (nth l k) = y := ⟨_, rfl⟩
      have HQ := Lib.hid hy
      clear hy
      cases y
      · go_wp2_with (go_at_call 28; refine (fetch_Want1 (nth l k) false _ HQ.out).mono ?_; rintro e w' ⟨rfl, rfl⟩)
        go_ret
        exact ⟨k, rfl, fun h => (by
          have h1 := dec_iff.1 h k (by rw [HN.out]; exact hlt)
          have h2 := digS_iff.2 h1
          rw [HQ.out] at h2; cases h2), fun _ => by omega, hbw⟩
      · go_wp2_with (go_at_call 28; refine (fetch_Want1 (nth l k) true _ HQ.out).mono ?_; rintro e w' ⟨rfl, rfl⟩)
        (first | (go_round; (case rel => (refine ⟨k + 1, by omega, by go_num, Lib.hid (fun j hj => ?_), hbw⟩; rcases Nat.lt_or_ge j k with h5 | h5; exact HR.out j h5; (obtain rfl : j = k := by omega); exact HQ.out)); (case measure => (simp [intOf] <;> omega))) | (go_roundw; (case rel => (refine ⟨k + 1, by omega, by go_num, Lib.hid (fun j hj => ?_), hbw⟩; rcases Nat.lt_or_ge j k with h5 | h5; exact HR.out j h5; (obtain rfl : j = k := by omega); exact HQ.out)); (case measure => (simp [intOf] <;> omega))) | (refine ⟨?_, by simp [intOf] <;> omega⟩; (repeat apply Exists.intro); refine ⟨?rel, ?fr⟩; (case fr => ((repeat' apply And.intro) <;> rfl)); (case rel => (refine ⟨k + 1, by omega, by go_num, Lib.hid (fun j hj => ?_), hbw⟩; rcases Nat.lt_or_ge j k with h5 | h5; exact HR.out j h5; (obtain rfl : j = k := by omega); exact HQ.out))))
    · obtain rfl : n = k := by omega
      go_wp2
      go_ret
      exact ⟨-1, rfl, fun _ => by omega, fun h => (by
        have : betS l 1 65536 = true := dec_iff.2 (fun j hj => digS_iff.1 (HR.out j (by rw [HN.out] at hj; exact hj)))
        rw [h] at this; cases this), hbw⟩
set_option maxRecDepth 100000 in
set_option maxHeartbeats 1000000 in
theorem slices_Contains_D (A : Option Addr) (n c : Nat) (l : List Int) (y : Bool) (w : World) (hl : IntsR w A n l) (hy : betS l 1 65536 = y) :
    Calls Try.prog 27 #[.slice A n c, .func (.func 28) #[] #[]] w fun e w' => e = .returned (.bool (!y)) ∧ Below w.heap.size w w' := by
  have HL := Lib.hid hl
  have HY := Lib.hid hy
  clear hl hy
  go_enter Try.func27, Try.ntmps27
  go_wp2_with fail
  refine (slices_Index_D A n c l _ HL.out).mono ?_
  rintro e w1 ⟨z, rfl, h1, h2, hb1⟩
  cases y
  · have hz : decide (0 ≤ z) = true := by simpa using h2 HY.out
    clear h1 h2
    go_wp2_with fail
    go_ret
    exact ⟨rfl, hb1⟩
  · have hz : decide (0 ≤ z) = false := by simpa using h1 HY.out
    clear h1 h2
    go_wp2_with fail
    go_ret
    exact ⟨rfl, hb1⟩
theorem mayF_new (id nodes : Int) (h1 : isS nodes = true) (h2 : 1 ≤ id) (h3 : id ≤ nodes) : mayF ⟨id, nodes, []⟩ = true := mayF_iff.2 ⟨h1, h2, h3, by simp, fun j hj => absurd hj (by simp)⟩
set_option maxRecDepth 100000 in
set_option maxHeartbeats 1000000 in
theorem fetch_New (id nodes : Int) (w : World) (h1 : isS nodes = true) (h2 : 1 ≤ id) (h3 : id ≤ nodes) : Calls Try.prog 9 #[.int .i64 id, .int .i64 nodes] w fun e w' => e = .returned (.tuple #[.agg #[.int .i64 id, .int .i64 nodes, .slice none 0 0], .int .i64 0]) ∧ Below w.heap.size w w' := by
  go_enter Try.func9, Try.ntmps9
  go_wp2_with fail
  refine (fetch_May id nodes [] none 0 0 true _ (RowsR.nil _ _) (mayF_new id nodes h1 h2 h3)).mono ?_
  rintro e w1 ⟨rfl, hb1⟩
  have hz_w1 : w.heap.size + 2 ≤ w1.heap.size := (by have hq := (hb1).size; (try simp at hq); omega); have hc0_w1 := fun o => (bcell hb1).1 (w.heap.size) o (by first | (simp; done) | (simp; omega) | omega); have hc1_w1 := fun o => (bcell hb1).1 (w.heap.size + 1) o (by first | (simp; done) | (simp; omega) | omega); have hf0_w1 := fun o => (bcell hb1).2 (w.heap.size) o (by first | (simp; done) | (simp; omega) | omega); have hf1_w1 := fun o => (bcell hb1).2 (w.heap.size + 1) o (by first | (simp; done) | (simp; omega) | omega)
  go_wp2_with fail
  refine bodyPost_ret (v := .tuple #[.agg #[.int .i64 id, .int .i64 nodes, .slice none 0 0], .int .i64 0]) (by simp [results, Try.results9, go_sem, hc0_w1, hc1_w1]) rfl ⟨rfl, by (repeat (first | (with_reducible exact Below.refl _ _) | (with_reducible assumption) | (with_reducible apply bel_alloc) | (with_reducible apply bel_drew) | (with_reducible apply bel_drewN) | (with_reducible refine bel_trans ?_ (by with_reducible assumption)) | (with_reducible refine bel_trans ?_ (HF.out _)) | ((with_reducible refine bel_set3 ?_ ?_); rotate_left; omega)))⟩
set_option maxRecDepth 100000 in
set_option maxHeartbeats 2000000 in
theorem fetch_Want_bad (id nodes k : Int) (A : Option Addr) (n c : Nat) (rows : List FRowD) (lA : Option Addr) (ln lc : Nat) (L : List Int) (w : World) (hl : RowsR w A n rows) (hL : IntsR w lA ln L) (hb : ¬ (mayF ⟨id, nodes, rows⟩ = true ∧ kdS k = true ∧ betS L 1 65536 = true)) :
    Calls Try.prog 10 #[.agg #[.int .i64 id, .int .i64 nodes, .slice A n c], .int .i64 k, .slice lA ln lc] w fun e w' => e = .returned (.tuple #[.agg #[.int .i64 0, .int .i64 0, .slice none 0 0], .slice none 0 0, .int .i64 1]) ∧ Below w.heap.size w w' := by
  obtain ⟨ym, hm⟩ : ∃ y, mayF ⟨id, nodes, rows⟩ = y := ⟨_, rfl⟩
  obtain ⟨yk, hk⟩ : ∃ y, kdS k = y := ⟨_, rfl⟩
  obtain ⟨yd, hd⟩ : ∃ y, betS L 1 65536 = y := ⟨_, rfl⟩
  have HM := Lib.hid hm
  have HK := Lib.hid hk
  have HD := Lib.hid hd
  have HL := Lib.hid hl
  have HLL := Lib.hid hL
  have HBAD : Hid (¬ (ym = true ∧ yk = true ∧ yd = true)) := Lib.hid (by rw [← hm, ← hk, ← hd]; exact hb)
  clear hl hL hm hk hd hb
  go_enter Try.func10, Try.ntmps10
  go_upto_region 1 with fail
  refine wp_two (fun W0 hW0 => ?_)
  have hb0 : Below w.heap.size w W0 := by rw [hW0]; (repeat (first | (with_reducible exact Below.refl _ _) | (with_reducible assumption) | (with_reducible apply bel_alloc) | (with_reducible apply bel_drew) | (with_reducible apply bel_drewN) | (with_reducible refine bel_trans ?_ (by with_reducible assumption)) | (with_reducible refine bel_trans ?_ (HF.out _)) | (with_reducible refine bel_set ?_ (by simp) _) | (with_reducible refine bel_set ?_ (by simp; omega) _) | (with_reducible refine bel_set ?_ (by omega) _)))
  have hs0 : W0.heap.size = w.heap.size + 2 := by rw [hW0]; simp
  have HF0 : Hid (Blk W0 w.heap.size 24 [.int .i64 id, .int .i64 nodes, .slice A n c] ∧ Blk W0 (w.heap.size + 1) 24 [.int .i64 0, .int .i64 0, .slice none 0 0]) := Lib.hid (by
    rw [hW0]
    have h1 : Blk (w.alloc (.cells #[.int .i64 id, .int .i64 nodes, .slice A n c] 24)) w.heap.size 24 [.int .i64 id, .int .i64 nodes, .slice A n c] := Blk.new _ 24 [.int .i64 id, .int .i64 nodes, .slice A n c]
    have h2 := h1.up (bel_alloc (Below.refl _ _) : Below _ _ ((w.alloc (.cells #[.int .i64 id, .int .i64 nodes, .slice A n c] 24)).alloc (.cells #[.int .i64 0, .int .i64 0, .slice none 0 0] 24)))
    have h3 := Blk.new (w.alloc (.cells #[.int .i64 id, .int .i64 nodes, .slice A n c] 24)) 24 [.int .i64 0, .int .i64 0, .slice none 0 0]
    exact ⟨h2, by simpa using h3⟩)
  clear hW0
  have HF := Lib.hid HF0.out.1
  have HG := Lib.hid HF0.out.2
  clear HF0
  have xl := HF.out.lt
  have xf := HF.out.frozen
  have x_0 := (HF.out.box).2 0 _ rfl; have x_1 := (HF.out.box).2 1 _ rfl; have x_2 := (HF.out.box).2 2 _ rfl
  have gl := HG.out.lt
  have gf := HG.out.frozen
  have g_0 := (HG.out.box).2 0 _ rfl; have g_1 := (HG.out.box).2 1 _ rfl; have g_2 := (HG.out.box).2 2 _ rfl
  cases ym
  case false =>
    go_wp2_with (first | (go_at_call 25; refine (fetch_May id nodes rows A n c _ _ (HL.out.up hb0) HM.out).mono ?_; rintro e w1 ⟨rfl, hb1⟩; have hb01 := bel_trans hb0 hb1; clear xl xf x_0 x_1 x_2 gl gf g_0 g_1 g_2; have HF1 := Lib.hid (HF.out.up hb1); have HG1 := Lib.hid (HG.out.up hb1); have xl := HF1.out.lt; have xf := HF1.out.frozen; have x_0 := (HF1.out.box).2 0 _ rfl; have x_1 := (HF1.out.box).2 1 _ rfl; have x_2 := (HF1.out.box).2 2 _ rfl; have gl := HG1.out.lt; have gf := HG1.out.frozen; have g_0 := (HG1.out.box).2 0 _ rfl; have g_1 := (HG1.out.box).2 1 _ rfl; have g_2 := (HG1.out.box).2 2 _ rfl) | (go_at_call 26; refine (fetch_kind _ _ _ HK.out).mono ?_; rintro e w' ⟨rfl, rfl⟩) | (go_at_call 27; refine (slices_Contains_D lA ln lc L _ _ (HLL.out.up hb01) HD.out).mono ?_; rintro e w2 ⟨rfl, hb2⟩; have hb02 := bel_trans hb01 hb2; clear xl xf x_0 x_1 x_2 gl gf g_0 g_1 g_2; have HF2 := Lib.hid (HF1.out.up hb2); have HG2 := Lib.hid (HG1.out.up hb2); have xl := HF2.out.lt; have xf := HF2.out.frozen; have x_0 := (HF2.out.box).2 0 _ rfl; have x_1 := (HF2.out.box).2 1 _ rfl; have x_2 := (HF2.out.box).2 2 _ rfl; have gl := HG2.out.lt; have gf := HG2.out.frozen; have g_0 := (HG2.out.box).2 0 _ rfl; have g_1 := (HG2.out.box).2 1 _ rfl; have g_2 := (HG2.out.box).2 2 _ rfl))
    refine bodyPost_ret (v := .tuple #[.agg #[.int .i64 0, .int .i64 0, .slice none 0 0], .slice none 0 0, .int .i64 1]) (by simp [results, Try.results10, go_sem, g_0, g_1, g_2]) rfl ⟨rfl, ?_⟩
    (repeat (first | (with_reducible exact Below.refl _ _) | (with_reducible assumption) | (with_reducible apply bel_alloc) | (with_reducible apply bel_drew) | (with_reducible apply bel_drewN) | (with_reducible refine bel_trans ?_ (by with_reducible assumption)) | (with_reducible refine bel_trans ?_ (HF.out _)) | ((with_reducible refine bel_set3 ?_ ?_); rotate_left; omega)))
  case true =>
  cases yk
  case false =>
    go_wp2_with (first | (go_at_call 25; refine (fetch_May id nodes rows A n c _ _ (HL.out.up hb0) HM.out).mono ?_; rintro e w1 ⟨rfl, hb1⟩; have hb01 := bel_trans hb0 hb1; clear xl xf x_0 x_1 x_2 gl gf g_0 g_1 g_2; have HF1 := Lib.hid (HF.out.up hb1); have HG1 := Lib.hid (HG.out.up hb1); have xl := HF1.out.lt; have xf := HF1.out.frozen; have x_0 := (HF1.out.box).2 0 _ rfl; have x_1 := (HF1.out.box).2 1 _ rfl; have x_2 := (HF1.out.box).2 2 _ rfl; have gl := HG1.out.lt; have gf := HG1.out.frozen; have g_0 := (HG1.out.box).2 0 _ rfl; have g_1 := (HG1.out.box).2 1 _ rfl; have g_2 := (HG1.out.box).2 2 _ rfl) | (go_at_call 26; refine (fetch_kind _ _ _ HK.out).mono ?_; rintro e w' ⟨rfl, rfl⟩) | (go_at_call 27; refine (slices_Contains_D lA ln lc L _ _ (HLL.out.up hb01) HD.out).mono ?_; rintro e w2 ⟨rfl, hb2⟩; have hb02 := bel_trans hb01 hb2; clear xl xf x_0 x_1 x_2 gl gf g_0 g_1 g_2; have HF2 := Lib.hid (HF1.out.up hb2); have HG2 := Lib.hid (HG1.out.up hb2); have xl := HF2.out.lt; have xf := HF2.out.frozen; have x_0 := (HF2.out.box).2 0 _ rfl; have x_1 := (HF2.out.box).2 1 _ rfl; have x_2 := (HF2.out.box).2 2 _ rfl; have gl := HG2.out.lt; have gf := HG2.out.frozen; have g_0 := (HG2.out.box).2 0 _ rfl; have g_1 := (HG2.out.box).2 1 _ rfl; have g_2 := (HG2.out.box).2 2 _ rfl))
    refine bodyPost_ret (v := .tuple #[.agg #[.int .i64 0, .int .i64 0, .slice none 0 0], .slice none 0 0, .int .i64 1]) (by simp [results, Try.results10, go_sem, g_0, g_1, g_2]) rfl ⟨rfl, ?_⟩
    (repeat (first | (with_reducible exact Below.refl _ _) | (with_reducible assumption) | (with_reducible apply bel_alloc) | (with_reducible apply bel_drew) | (with_reducible apply bel_drewN) | (with_reducible refine bel_trans ?_ (by with_reducible assumption)) | (with_reducible refine bel_trans ?_ (HF.out _)) | ((with_reducible refine bel_set3 ?_ ?_); rotate_left; omega)))
  case true =>
  cases yd
  case false =>
    go_wp2_with (first | (go_at_call 25; refine (fetch_May id nodes rows A n c _ _ (HL.out.up hb0) HM.out).mono ?_; rintro e w1 ⟨rfl, hb1⟩; have hb01 := bel_trans hb0 hb1; clear xl xf x_0 x_1 x_2 gl gf g_0 g_1 g_2; have HF1 := Lib.hid (HF.out.up hb1); have HG1 := Lib.hid (HG.out.up hb1); have xl := HF1.out.lt; have xf := HF1.out.frozen; have x_0 := (HF1.out.box).2 0 _ rfl; have x_1 := (HF1.out.box).2 1 _ rfl; have x_2 := (HF1.out.box).2 2 _ rfl; have gl := HG1.out.lt; have gf := HG1.out.frozen; have g_0 := (HG1.out.box).2 0 _ rfl; have g_1 := (HG1.out.box).2 1 _ rfl; have g_2 := (HG1.out.box).2 2 _ rfl) | (go_at_call 26; refine (fetch_kind _ _ _ HK.out).mono ?_; rintro e w' ⟨rfl, rfl⟩) | (go_at_call 27; refine (slices_Contains_D lA ln lc L _ _ (HLL.out.up hb01) HD.out).mono ?_; rintro e w2 ⟨rfl, hb2⟩; have hb02 := bel_trans hb01 hb2; clear xl xf x_0 x_1 x_2 gl gf g_0 g_1 g_2; have HF2 := Lib.hid (HF1.out.up hb2); have HG2 := Lib.hid (HG1.out.up hb2); have xl := HF2.out.lt; have xf := HF2.out.frozen; have x_0 := (HF2.out.box).2 0 _ rfl; have x_1 := (HF2.out.box).2 1 _ rfl; have x_2 := (HF2.out.box).2 2 _ rfl; have gl := HG2.out.lt; have gf := HG2.out.frozen; have g_0 := (HG2.out.box).2 0 _ rfl; have g_1 := (HG2.out.box).2 1 _ rfl; have g_2 := (HG2.out.box).2 2 _ rfl))
    refine bodyPost_ret (v := .tuple #[.agg #[.int .i64 0, .int .i64 0, .slice none 0 0], .slice none 0 0, .int .i64 1]) (by simp [results, Try.results10, go_sem, g_0, g_1, g_2]) rfl ⟨rfl, ?_⟩
    (repeat (first | (with_reducible exact Below.refl _ _) | (with_reducible assumption) | (with_reducible apply bel_alloc) | (with_reducible apply bel_drew) | (with_reducible apply bel_drewN) | (with_reducible refine bel_trans ?_ (by with_reducible assumption)) | (with_reducible refine bel_trans ?_ (HF.out _)) | ((with_reducible refine bel_set3 ?_ ?_); rotate_left; omega)))
  case true => exact absurd ⟨rfl, rfl, rfl⟩ HBAD.out
set_option maxRecDepth 100000 in
set_option maxHeartbeats 4000000 in
theorem fetch_Want_ok (id nodes k : Int) (A : Option Addr) (n c : Nat) (rows : List FRowD) (lA : Option Addr) (ln lc : Nat) (L : List Int) (w : World) (hl : RowsR w A n rows) (hL : IntsR w lA ln L) (hM : mayF ⟨id, nodes, rows⟩ = true) (hK : kdS k = true) (hD : betS L 1 65536 = true) (hln : ln ≤ 17592186044416) :
    Calls Try.prog 10 #[.agg #[.int .i64 id, .int .i64 nodes, .slice A n c], .int .i64 k, .slice lA ln lc] w fun e w' => ∃ vr vl, e = .returned (.tuple #[.agg #[.int .i64 id, .int .i64 nodes, vr], vl, .int .i64 0]) ∧ OwnQ w' (w.heap.size + 2) vr (wantQ k rows L).1 ∧ OwnMs w' (w.heap.size + 2) vl (fL id nodes (wantQ k rows L).2) ∧ Below w.heap.size w w' := by
  have hm := mayF_iff.1 hM
  have h1 : 1 ≤ id := hm.2.1
  have h2 : id ≤ nodes := hm.2.2.1
  have h4 : nodes ≤ 16 := (isS_bd hm.1).2
  have hn : n ≤ 64 := by rw [← hl.1]; exact hm.2.2.2.1
  have hsort : SortQ rows := GoodQ.sort hm.2.2.2.2
  have htr : ∀ x ∈ rows, numB x.tr 0 = true := fun x hx => by
    obtain ⟨i, hi, rfl⟩ := List.getElem_of_mem hx
    have h9 := (rowS_iff.1 (hm.2.2.2.2 i hi).1).2.2.2
    rwa [qth_at _ _ hi] at h9
  have HWI : Hid (WantI k (wantQ k rows L)) := Lib.hid (WantI.want hsort hm.2.2.2.1 htr L)
  have HM := Lib.hid hM
  have HK := Lib.hid hK
  have HD := Lib.hid hD
  have HL := Lib.hid hl
  have HLL := Lib.hid hL
  have HSR := Lib.hid hsort
  have HTR := Lib.hid htr
  obtain ⟨⟨R, F⟩, hRF⟩ : ∃ S, wantQ k rows L = S := ⟨_, rfl⟩
  have HRF := Lib.hid hRF
  rw [hRF] at HWI ⊢
  obtain ⟨rn, hrn⟩ : ∃ m, R.length = m := ⟨_, rfl⟩
  obtain ⟨fn, hfn⟩ : ∃ m, F.length = m := ⟨_, rfl⟩
  have hrn64 : rn ≤ 64 := by rw [← hrn]; exact HWI.out.l1
  have hfn64 : fn ≤ 64 := by rw [← hfn]; exact Nat.le_trans HWI.out.l2 HWI.out.l1
  have HRN := Lib.hid hrn
  have HFN := Lib.hid hfn
  have HTF : Hid (∀ j, j < fn → 0 ≤ (qth F j).tr ∧ (qth F j).tr ≤ 1099511627776) := Lib.hid (fun j hj => by
    have hj' : j < F.length := by rw [hfn]; exact hj
    rw [qth_at _ _ hj']
    exact numB_iff.1 (HWI.out.tr _ (HWI.out.sub _ (List.getElem_mem hj'))))
  clear hl hL hM hK hD hm hsort htr hRF hrn hfn
  go_enter Try.func10, Try.ntmps10
  go_upto_region 1 with fail
  refine wp_two (fun W0 hW0 => ?_)
  have hb0 : Below w.heap.size w W0 := by rw [hW0]; (repeat (first | (with_reducible exact Below.refl _ _) | (with_reducible assumption) | (with_reducible apply bel_alloc) | (with_reducible apply bel_drew) | (with_reducible apply bel_drewN) | (with_reducible refine bel_trans ?_ (by with_reducible assumption)) | (with_reducible refine bel_trans ?_ (HF.out _)) | (with_reducible refine bel_set ?_ (by simp) _) | (with_reducible refine bel_set ?_ (by simp; omega) _) | (with_reducible refine bel_set ?_ (by omega) _)))
  have hs0 : W0.heap.size = w.heap.size + 2 := by rw [hW0]; simp
  have HF0 : Hid (Blk W0 w.heap.size 24 [.int .i64 id, .int .i64 nodes, .slice A n c] ∧ Blk W0 (w.heap.size + 1) 24 [.int .i64 0, .int .i64 0, .slice none 0 0]) := Lib.hid (by
    rw [hW0]
    have h1 : Blk (w.alloc (.cells #[.int .i64 id, .int .i64 nodes, .slice A n c] 24)) w.heap.size 24 [.int .i64 id, .int .i64 nodes, .slice A n c] := Blk.new _ 24 [.int .i64 id, .int .i64 nodes, .slice A n c]
    have h2 := h1.up (bel_alloc (Below.refl _ _) : Below _ _ ((w.alloc (.cells #[.int .i64 id, .int .i64 nodes, .slice A n c] 24)).alloc (.cells #[.int .i64 0, .int .i64 0, .slice none 0 0] 24)))
    have h3 := Blk.new (w.alloc (.cells #[.int .i64 id, .int .i64 nodes, .slice A n c] 24)) 24 [.int .i64 0, .int .i64 0, .slice none 0 0]
    exact ⟨h2, by simpa using h3⟩)
  clear hW0
  have HF := Lib.hid HF0.out.1
  have HG := Lib.hid HF0.out.2
  clear HF0
  have xl := HF.out.lt
  have xf := HF.out.frozen
  have x_0 := (HF.out.box).2 0 _ rfl; have x_1 := (HF.out.box).2 1 _ rfl; have x_2 := (HF.out.box).2 2 _ rfl
  have gl := HG.out.lt
  have gf := HG.out.frozen
  have g_0 := (HG.out.box).2 0 _ rfl; have g_1 := (HG.out.box).2 1 _ rfl; have g_2 := (HG.out.box).2 2 _ rfl
  go_upto_region 3 with (first | (go_at_call 25; refine (fetch_May id nodes rows A n c _ _ (HL.out.up hb0) HM.out).mono ?_; rintro e w1 ⟨rfl, hb1⟩; have hb01 := bel_trans hb0 hb1; clear xl xf x_0 x_1 x_2 gl gf g_0 g_1 g_2; have HF1 := Lib.hid (HF.out.up hb1); have HG1 := Lib.hid (HG.out.up hb1); have xl := HF1.out.lt; have xf := HF1.out.frozen; have x_0 := (HF1.out.box).2 0 _ rfl; have x_1 := (HF1.out.box).2 1 _ rfl; have x_2 := (HF1.out.box).2 2 _ rfl; have gl := HG1.out.lt; have gf := HG1.out.frozen; have g_0 := (HG1.out.box).2 0 _ rfl; have g_1 := (HG1.out.box).2 1 _ rfl; have g_2 := (HG1.out.box).2 2 _ rfl) | (go_at_call 26; refine (fetch_kind _ _ _ HK.out).mono ?_; rintro e w' ⟨rfl, rfl⟩) | (go_at_call 27; refine (slices_Contains_D lA ln lc L _ _ (HLL.out.up hb01) HD.out).mono ?_; rintro e w2 ⟨rfl, hb2⟩; have hb02 := bel_trans hb01 hb2; clear xl xf x_0 x_1 x_2 gl gf g_0 g_1 g_2; have HF2 := Lib.hid (HF1.out.up hb2); have HG2 := Lib.hid (HG1.out.up hb2); have xl := HF2.out.lt; have xf := HF2.out.frozen; have x_0 := (HF2.out.box).2 0 _ rfl; have x_1 := (HF2.out.box).2 1 _ rfl; have x_2 := (HF2.out.box).2 2 _ rfl; have gl := HG2.out.lt; have gf := HG2.out.frozen; have g_0 := (HG2.out.box).2 0 _ rfl; have g_1 := (HG2.out.box).2 1 _ rfl; have g_2 := (HG2.out.box).2 2 _ rfl))
  clear xl xf x_0 x_1 x_2 gl gf g_0 g_1 g_2
  skip
  have xl := HF2.out.lt
  have xf := HF2.out.frozen
  have x_0 := (HF2.out.box).2 0 _ rfl; have x_1 := (HF2.out.box).2 1 _ rfl; have x_2 := (HF2.out.box).2 2 _ rfl
  have gl := HG2.out.lt
  have gf := HG2.out.frozen
  have g_0 := (HG2.out.box).2 0 _ rfl; have g_1 := (HG2.out.box).2 1 _ rfl; have g_2 := (HG2.out.box).2 2 _ rfl
  go_upto_region 4 with (go_at_call 30; refine (fetch_Add id nodes k A n c rows lA ln lc L _ (HL.out.up hb02) (HLL.out.up hb02) HSR.out hn HTR.out hln).mono ?_; rintro e w3 ⟨vr, vf, rfl, hown3, hown3f, hb3⟩; rw [HRF.out] at hown3 hown3f; (obtain ⟨rA, rc, rfl, -⟩ := nmQ (l := R) hown3 HRN.out (by omega)); (obtain ⟨fA, fc, rfl, hfr⟩ := nmQ (l := F) hown3f HFN.out (by omega)); clear xl xf x_0 x_1 x_2 gl gf g_0 g_1 g_2; have HF3 := Lib.hid (HF2.out.up hb3); have HG3 := Lib.hid (HG2.out.up hb3); have xl := HF3.out.lt; have xf := HF3.out.frozen; have x_0 := (HF3.out.box).2 0 _ rfl; have x_1 := (HF3.out.box).2 1 _ rfl; have x_2 := (HF3.out.box).2 2 _ rfl; have gl := HG3.out.lt; have gf := HG3.out.frozen; have g_0 := (HG3.out.box).2 0 _ rfl; have g_1 := (HG3.out.box).2 1 _ rfl; have g_2 := (HG3.out.box).2 2 _ rfl)
  have hsz2 : w.heap.size + 2 ≤ w3.heap.size := by have h9 := hb02.size; have h8 := hb3.size; have h7 := (bel_trans hb0 (Below.refl _ _)).size; have h6 := HG2.out.lt; omega
  skip
  refine wp_two (fun W4 hW4 => ?_)
  have HF4 : Hid (Blk W4 w.heap.size 24 [.int .i64 id, .int .i64 nodes, .slice rA rn rc]) := Lib.hid (by rw [hW4]; exact ((HF3.out.set_ 0 _).set_ 1 _).set_ 2 _)
  have HG4 : Hid (Blk W4 (w.heap.size + 1) 24 [.int .i64 0, .int .i64 0, .slice none 0 0]) := Lib.hid (by rw [hW4]; exact ((HG3.out.far (p := ⟨w.heap.size, 0, none⟩) (by show w.heap.size + 1 ≠ w.heap.size; omega) _).far (p := ⟨w.heap.size, 1, none⟩) (by show w.heap.size + 1 ≠ w.heap.size; omega) _).far (p := ⟨w.heap.size, 2, none⟩) (by show w.heap.size + 1 ≠ w.heap.size; omega) _)
  have hs2 : w.heap.size + 2 ≤ w2.heap.size + 2 := by have h9 := hb02.size; omega
  have hwl : w.heap.size + 2 ≤ w2.heap.size := HG2.out.lt
  have HR4 : Hid (OwnQ W4 (w.heap.size + 2) (.slice rA rn rc) R) := Lib.hid (by rw [hW4]; exact (((hown3.set3 (by omega) _).set3 (by omega) _).set3 (by omega) _).mono hs2)
  have HFR : Hid (RowsR W4 fA fn F) := Lib.hid (by rw [hW4]; obtain ⟨A', c', e', h'⟩ := nmQ (l := F) (((hown3f.set3 (b := w.heap.size) (o := 0) (by omega) (.int .i64 id)).set3 (b := w.heap.size) (o := 1) (by omega) (.int .i64 nodes)).set3 (b := w.heap.size) (o := 2) (by omega) (.slice rA rn rc)) HFN.out (by omega); injection e' with e1 e2 e3; subst e1; exact h')
  have hb4 : Below w.heap.size w W4 := by rw [hW4]; exact bel_set3 (bel_set3 (bel_set3 (bel_trans hb02 hb3) (by omega)) (by omega)) (by omega)
  have hw4 : w.heap.size + 2 ≤ W4.heap.size := by rw [hW4]; simpa using hsz2
  clear hW4 xl xf x_0 x_1 x_2 gl gf g_0 g_1 g_2 hown3 hown3f hfr
  go_cut [7, 8] from 30 to 33 (fun s7 s8 wx => s8 = .int .i64 0 ∧ Hid (Blk wx (w.heap.size + 1) 24 [.int .i64 id, .int .i64 nodes, .slice rA rn rc]) ∧ Hid (OwnQ wx (w.heap.size + 2) (.slice rA rn rc) R) ∧ Hid (OwnMs wx (w.heap.size + 2) s7 (fL id nodes F)) ∧ Below w.heap.size w wx)
  case first =>
    obtain ⟨S, hSd⟩ : ∃ S : World → Prop, S = fun Q => Q.rangeAt w.heap.size 0 [.int .i64 id, .int .i64 nodes, .slice rA rn rc] := ⟨_, rfl⟩
    have hS1 : ∀ Q, S Q → Q.rangeAt w.heap.size 0 [.int .i64 id, .int .i64 nodes, .slice rA rn rc] := fun Q h => by rw [hSd] at h; exact h
    have hS : ∀ Q, Below W4.heap.size W4 Q → S Q := fun Q hQ => by rw [hSd]; exact Blk.rngQ (HF4.out.up hQ)
    have hS2 : ∀ Q, Blk Q w.heap.size 24 [.int .i64 id, .int .i64 nodes, .slice rA rn rc] → S Q := fun Q h => by rw [hSd]; exact Blk.rngQ h
    clear hSd
    refine wp_region_held_drew (S := S) (by kernel_rfl) (hS _ (bel_drew (Below.refl _ _))) (fun hHeld => ?_)
    have hbd : Below W4.heap.size W4 W4.drew := bel_drew (Below.refl _ _)
    generalize W4.drew = Z at *
    refine wpAnyH_takeD (i := 0) (d := (some 30)) (v := .agg ([.int .i64 id, .int .i64 nodes, .slice rA rn rc]).toArray) rfl rfl (by kernel_rfl) (by kernel_rfl) (by kernel_rfl) (fun _ _ _ h => h) (yieldsIf_load_mid (by rfl) 24 _ rfl w.heap.size 0 (by simp [Act.eval, Act.put]) ([.int .i64 id, .int .i64 nodes, .slice rA rn rc]) _ (hS1) Try.underlying24 (by rfl) (by kernel_rfl)) (by assumption) ?_
    simp only [Act.put, List.setIfInBounds_toArray, List.set_cons_zero, List.set_cons_succ]
    refine wpAnyH_takeD (i := 1) (d := (some 31)) (v := .agg ([.int .i64 id, .int .i64 nodes, .slice rA rn rc]).toArray) rfl rfl (by kernel_rfl) (by kernel_rfl) (by kernel_rfl) (fun _ _ _ h => h) (yieldsIf_load_mid (by rfl) 24 _ rfl w.heap.size 0 (by simp [Act.eval, Act.put]) ([.int .i64 id, .int .i64 nodes, .slice rA rn rc]) _ (hS1) Try.underlying24 (by rfl) (by kernel_rfl)) (by assumption) ?_
    simp only [Act.put, List.setIfInBounds_toArray, List.set_cons_zero, List.set_cons_succ]
    (refine wpAnyH_tk 2 (some 32) (v := ?_) rfl rfl ?_ ?_; rotate_left; (focus (intro wq hSw; clear hSw; go_simp; all_goals (with_reducible rfl))); simp only [Act.put, List.setIfInBounds_toArray, List.set_cons_zero, List.set_cons_succ])
    refine wpAnyH_ready (rs := [3]) (by kernel_rfl) (by simp) ?_
    refine AllReadyH.cons (o := _) rfl (fun K hK => ?_) AllReadyH.nil
    go_simp
    (go_at_call 31; refine (fetch_messages id nodes rA rn rc fA fn fc F _ (HFR.out.up hbd) hfn64 h1 h2 h4 HTF.out).mono ?_; rintro e w5 ⟨vl, rfl, hm5, hb5⟩)
    have hbb := bel_trans hbd hb5
    have hsd := hbd.size
    refine hK.out _ _ (hS _ hbb) (fun hHeld => ?_)
    clear hK K
    (try simp only [Act.put, List.setIfInBounds_toArray, List.set_cons_zero, List.set_cons_succ])
    refine wpAnyH_ready (rs := [4]) (by kernel_rfl) (by simp) ?_
    refine AllReadyH.cons (o := _) rfl (fun K hK => ?_) AllReadyH.nil
    have hG5 := HG4.out.up hbb
    have gl := hG5.lt
    have gf := hG5.frozen
    have g_0 := (hG5.box).2 0 _ rfl; have g_1 := (hG5.box).2 1 _ rfl; have g_2 := (hG5.box).2 2 _ rfl
    go_simp
    clear gl gf g_0 g_1 g_2
    refine hK.out _ _ (hS2 _ (((HF4.out.up hbb).far (p := ⟨w.heap.size + 1, 0, none⟩) (by show w.heap.size ≠ w.heap.size + 1; omega) _).far (p := ⟨w.heap.size + 1, 1, none⟩) (by show w.heap.size ≠ w.heap.size + 1; omega) _ |>.far (p := ⟨w.heap.size + 1, 2, none⟩) (by show w.heap.size ≠ w.heap.size + 1; omega) _)) (fun hHeld => ?_)
    clear hK K
    (try simp only [Act.put, List.setIfInBounds_toArray, List.set_cons_zero, List.set_cons_succ])
    (refine wpAnyH_tk 5 (some 7) (v := ?_) rfl rfl ?_ ?_; rotate_left; (focus (intro wq hSw; clear hSw; go_simp; all_goals (with_reducible rfl))); simp only [Act.put, List.setIfInBounds_toArray, List.set_cons_zero, List.set_cons_succ])
    (refine wpAnyH_tk 6 (some 8) (v := ?_) rfl rfl ?_ ?_; rotate_left; (focus (intro wq hSw; clear hSw; go_simp; all_goals (with_reducible rfl))); simp only [Act.put, List.setIfInBounds_toArray, List.set_cons_zero, List.set_cons_succ])
    refine wpAnyH_done (by kernel_rfl) ?_ _
    go_wp2_with fail
    go_meet
    exact ⟨rfl, Lib.hid (((hG5.set_ 0 _).set_ 1 _).set_ 2 _), Lib.hid (OwnQ.set3 (OwnQ.set3 (OwnQ.set3 (HR4.out.up hbb) (by omega) _) (by omega) _) (by omega) _), Lib.hid (OwnMs.low (OwnMs.low (OwnMs.low (hm5.mono (by omega)) (by omega)) (by omega)) (by omega)), bel_set3 (bel_set3 (bel_set3 (bel_trans hb4 hbb) (by omega)) (by omega)) (by omega)⟩
  case rest =>
  obtain ⟨rfl, HG9, HR9, HM9, hb9⟩ := hcut
  have gl := HG9.out.lt
  have gf := HG9.out.frozen
  have g_0 := (HG9.out.box).2 0 _ rfl; have g_1 := (HG9.out.box).2 1 _ rfl; have g_2 := (HG9.out.box).2 2 _ rfl
  go_wp2_with fail
  refine bodyPost_ret (v := .tuple #[.agg #[.int .i64 id, .int .i64 nodes, .slice rA rn rc], _, .int .i64 0]) (by simp [results, Try.results10, go_sem, g_0, g_1, g_2]) rfl ⟨_, _, rfl, HR9.out, HM9.out, hb9⟩
end Go.Proofs.Ytnngeaibdnnpoaa
