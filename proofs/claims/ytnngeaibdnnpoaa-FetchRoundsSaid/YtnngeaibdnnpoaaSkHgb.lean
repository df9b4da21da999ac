/- Fetch: fetch.Got, droverref21.Got. -/
import Derived.Test.YtnngeaibdnnpoaaSkHga
import Derived.Test.YtnngeaibdnnpoaaSkHy
namespace Go.Proofs.Ytnngeaibdnnpoaa
open Go.RowKit
set_option linter.unusedSimpArgs false
set_option linter.unusedVariables false

noncomputable def delQ (k d : Int) (l : List FRowD) : List FRowD := l.take (posQ k d l) ++ l.drop (posQ k d l + 1)
theorem here_lt {k d : Int} {l : List FRowD} (h : hereQ k d l = true) : posQ k d l < l.length := (dec_iff.1 h).1
theorem delQ_len {k d : Int} {l : List FRowD} (h : hereQ k d l = true) : (delQ k d l).length = l.length - 1 := by
  have := here_lt h
  simp [delQ]; omega
set_option maxRecDepth 100000 in
set_option maxHeartbeats 4000000 in
theorem fetch_Got_bad (id nodes k d : Int) (A : Option Addr) (n c : Nat) (rows : List FRowD) (w : World) (hl : RowsR w A n rows) (hM : mayF ⟨id, nodes, rows⟩ = false) :
    Calls Try.prog 19 #[.agg #[.int .i64 id, .int .i64 nodes, .slice A n c], .int .i64 k, .int .i64 d] w fun e w' => e = .returned (.tuple #[.agg #[.int .i64 0, .int .i64 0, .slice none 0 0], .int .i64 1]) ∧ Below w.heap.size w w' := by
  have HL := Lib.hid hl
  have HM := Lib.hid hM
  clear hl hM
  go_enter Try.func19, Try.ntmps19
  go_upto_region 1 with fail
  refine wp_two (fun W0 hW0 => ?_)
  have hb0 : Below w.heap.size w W0 := by rw [hW0]; (repeat (first | (with_reducible exact Below.refl _ _) | (with_reducible assumption) | (with_reducible apply bel_alloc) | (with_reducible apply bel_drew) | (with_reducible apply bel_drewN) | (with_reducible refine bel_trans ?_ (by with_reducible assumption)) | (with_reducible refine bel_trans ?_ (HF.out _)) | (with_reducible refine bel_set ?_ (by simp) _) | (with_reducible refine bel_set ?_ (by simp; omega) _) | (with_reducible refine bel_set ?_ (by omega) _)))
  have hs0 : W0.heap.size = w.heap.size + 2 := by rw [hW0]; simp
  have HF0 : Hid (Blk W0 w.heap.size 24 [.int .i64 id, .int .i64 nodes, .slice A n c] ∧ Blk W0 (w.heap.size + 1) 24 [.int .i64 0, .int .i64 0, .slice none 0 0]) := Lib.hid (by
    rw [hW0]
    have h1 : Blk (w.alloc (.cells #[.int .i64 id, .int .i64 nodes, .slice A n c] 24)) w.heap.size 24 [.int .i64 id, .int .i64 nodes, .slice A n c] := Blk.new _ 24 [.int .i64 id, .int .i64 nodes, .slice A n c]
    have h2 := h1.up (bel_alloc (Below.refl _ _) : Below _ _ ((w.alloc (.cells #[.int .i64 id, .int .i64 nodes, .slice A n c] 24)).alloc (.cells #[.int .i64 0, .int .i64 0, .slice none 0 0] 24)))
    have h3 := Blk.new (w.alloc (.cells #[.int .i64 id, .int .i64 nodes, .slice A n c] 24)) 24 [.int .i64 0, .int .i64 0, .slice none 0 0]
    exact ⟨h2, by simpa using h3⟩)
  clear hW0
  have HF := Lib.hid HF0.out.1
  have HG := Lib.hid HF0.out.2
  clear HF0
  have xl := HF.out.lt
  have xf := HF.out.frozen
  have x_0 := (HF.out.box).2 0 _ rfl; have x_1 := (HF.out.box).2 1 _ rfl; have x_2 := (HF.out.box).2 2 _ rfl
  have gl := HG.out.lt
  have gf := HG.out.frozen
  have g_0 := (HG.out.box).2 0 _ rfl; have g_1 := (HG.out.box).2 1 _ rfl; have g_2 := (HG.out.box).2 2 _ rfl
  go_wp2_with (go_at_call 25; refine (fetch_May id nodes rows A n c _ _ (HL.out.up hb0) HM.out).mono ?_; rintro e w1 ⟨rfl, hb1⟩; have hb01 := bel_trans hb0 hb1; clear xl xf x_0 x_1 x_2 gl gf g_0 g_1 g_2; have HF1 := Lib.hid (HF.out.up hb1); have HG1 := Lib.hid (HG.out.up hb1); have xl := HF1.out.lt; have xf := HF1.out.frozen; have x_0 := (HF1.out.box).2 0 _ rfl; have x_1 := (HF1.out.box).2 1 _ rfl; have x_2 := (HF1.out.box).2 2 _ rfl; have gl := HG1.out.lt; have gf := HG1.out.frozen; have g_0 := (HG1.out.box).2 0 _ rfl; have g_1 := (HG1.out.box).2 1 _ rfl; have g_2 := (HG1.out.box).2 2 _ rfl)
  refine bodyPost_ret (v := .tuple #[.agg #[.int .i64 0, .int .i64 0, .slice none 0 0], .int .i64 1]) (by simp [results, Try.results19, go_sem, g_0, g_1, g_2]) rfl ⟨rfl, ?_⟩
  (repeat (first | (with_reducible exact Below.refl _ _) | (with_reducible assumption) | (with_reducible apply bel_alloc) | (with_reducible apply bel_drew) | (with_reducible apply bel_drewN) | (with_reducible refine bel_trans ?_ (by with_reducible assumption)) | (with_reducible refine bel_trans ?_ (HF.out _)) | ((with_reducible refine bel_set3 ?_ ?_); rotate_left; omega)))
set_option maxRecDepth 100000 in
set_option maxHeartbeats 4000000 in
theorem fetch_Got_none (id nodes k d : Int) (A : Option Addr) (n c : Nat) (rows : List FRowD) (w : World) (hl : RowsR w A n rows) (hM : mayF ⟨id, nodes, rows⟩ = true) (hy : hereQ k d rows = false) :
    Calls Try.prog 19 #[.agg #[.int .i64 id, .int .i64 nodes, .slice A n c], .int .i64 k, .int .i64 d] w fun e w' => e = .returned (.tuple #[.agg #[.int .i64 0, .int .i64 0, .slice none 0 0], .int .i64 3]) ∧ Below w.heap.size w w' := by
  have hm := mayF_iff.1 hM
  have hn : n ≤ 64 := by rw [← hl.1]; exact hm.2.2.2.1
  have HSR : Hid (SortQ rows) := Lib.hid (GoodQ.sort hm.2.2.2.2)
  have HL := Lib.hid hl
  have HN := Lib.hid hl.1
  have HM := Lib.hid hM
  have HY := Lib.hid hy
  obtain ⟨p, hp⟩ : ∃ p, posQ k d rows = p := ⟨_, rfl⟩
  have HP := Lib.hid hp
  clear hl hM hm hy hp
  go_enter Try.func19, Try.ntmps19
  go_upto_region 1 with fail
  refine wp_two (fun W0 hW0 => ?_)
  have hb0 : Below w.heap.size w W0 := by rw [hW0]; (repeat (first | (with_reducible exact Below.refl _ _) | (with_reducible assumption) | (with_reducible apply bel_alloc) | (with_reducible apply bel_drew) | (with_reducible apply bel_drewN) | (with_reducible refine bel_trans ?_ (by with_reducible assumption)) | (with_reducible refine bel_trans ?_ (HF.out _)) | (with_reducible refine bel_set ?_ (by simp) _) | (with_reducible refine bel_set ?_ (by simp; omega) _) | (with_reducible refine bel_set ?_ (by omega) _)))
  have hs0 : W0.heap.size = w.heap.size + 2 := by rw [hW0]; simp
  have HF0 : Hid (Blk W0 w.heap.size 24 [.int .i64 id, .int .i64 nodes, .slice A n c] ∧ Blk W0 (w.heap.size + 1) 24 [.int .i64 0, .int .i64 0, .slice none 0 0]) := Lib.hid (by
    rw [hW0]
    have h1 : Blk (w.alloc (.cells #[.int .i64 id, .int .i64 nodes, .slice A n c] 24)) w.heap.size 24 [.int .i64 id, .int .i64 nodes, .slice A n c] := Blk.new _ 24 [.int .i64 id, .int .i64 nodes, .slice A n c]
    have h2 := h1.up (bel_alloc (Below.refl _ _) : Below _ _ ((w.alloc (.cells #[.int .i64 id, .int .i64 nodes, .slice A n c] 24)).alloc (.cells #[.int .i64 0, .int .i64 0, .slice none 0 0] 24)))
    have h3 := Blk.new (w.alloc (.cells #[.int .i64 id, .int .i64 nodes, .slice A n c] 24)) 24 [.int .i64 0, .int .i64 0, .slice none 0 0]
    exact ⟨h2, by simpa using h3⟩)
  clear hW0
  have HF := Lib.hid HF0.out.1
  have HG := Lib.hid HF0.out.2
  clear HF0
  have xl := HF.out.lt
  have xf := HF.out.frozen
  have x_0 := (HF.out.box).2 0 _ rfl; have x_1 := (HF.out.box).2 1 _ rfl; have x_2 := (HF.out.box).2 2 _ rfl
  have gl := HG.out.lt
  have gf := HG.out.frozen
  have g_0 := (HG.out.box).2 0 _ rfl; have g_1 := (HG.out.box).2 1 _ rfl; have g_2 := (HG.out.box).2 2 _ rfl
  go_upto_region 4 with (first | (go_at_call 25; refine (fetch_May id nodes rows A n c _ _ (HL.out.up hb0) HM.out).mono ?_; rintro e w1 ⟨rfl, hb1⟩; have hb01 := bel_trans hb0 hb1; clear xl xf x_0 x_1 x_2 gl gf g_0 g_1 g_2; have HF1 := Lib.hid (HF.out.up hb1); have HG1 := Lib.hid (HG.out.up hb1); have xl := HF1.out.lt; have xf := HF1.out.frozen; have x_0 := (HF1.out.box).2 0 _ rfl; have x_1 := (HF1.out.box).2 1 _ rfl; have x_2 := (HF1.out.box).2 2 _ rfl; have gl := HG1.out.lt; have gf := HG1.out.frozen; have g_0 := (HG1.out.box).2 0 _ rfl; have g_1 := (HG1.out.box).2 1 _ rfl; have g_2 := (HG1.out.box).2 2 _ rfl) | (go_at_call 41; refine (slices_BSF_Q A n c rows ⟨k, d, 0, 0⟩ p false _ (HL.out.up hb01) HSR.out (by omega) HP.out HY.out).mono ?_; rintro e w2 ⟨rfl, hb2⟩; have hb02 := bel_trans hb01 hb2; clear xl xf x_0 x_1 x_2 gl gf g_0 g_1 g_2; have HF2 := Lib.hid (HF1.out.up hb2); have HG2 := Lib.hid (HG1.out.up hb2); have xl := HF2.out.lt; have xf := HF2.out.frozen; have x_0 := (HF2.out.box).2 0 _ rfl; have x_1 := (HF2.out.box).2 1 _ rfl; have x_2 := (HF2.out.box).2 2 _ rfl; have gl := HG2.out.lt; have gf := HG2.out.frozen; have g_0 := (HG2.out.box).2 0 _ rfl; have g_1 := (HG2.out.box).2 1 _ rfl; have g_2 := (HG2.out.box).2 2 _ rfl))
  go_wp2_with fail
  refine bodyPost_ret (v := .tuple #[.agg #[.int .i64 0, .int .i64 0, .slice none 0 0], .int .i64 3]) (by simp [results, Try.results19, go_sem, g_0, g_1, g_2]) rfl ⟨rfl, ?_⟩
  (repeat (first | (with_reducible exact Below.refl _ _) | (with_reducible assumption) | (with_reducible apply bel_alloc) | (with_reducible apply bel_drew) | (with_reducible apply bel_drewN) | (with_reducible refine bel_trans ?_ (by with_reducible assumption)) | (with_reducible refine bel_trans ?_ (HF.out _)) | ((with_reducible refine bel_set3 ?_ ?_); rotate_left; omega)))
set_option maxRecDepth 100000 in
set_option maxHeartbeats 4000000 in
theorem fetch_Got_ok (id nodes k d : Int) (A : Option Addr) (n c : Nat) (rows : List FRowD) (w : World) (hl : RowsR w A n rows) (hM : mayF ⟨id, nodes, rows⟩ = true) (hy : hereQ k d rows = true) :
    Calls Try.prog 19 #[.agg #[.int .i64 id, .int .i64 nodes, .slice A n c], .int .i64 k, .int .i64 d] w fun e w' => ∃ vr, e = .returned (.tuple #[.agg #[.int .i64 id, .int .i64 nodes, vr], .int .i64 0]) ∧ OwnQ w' (w.heap.size + 2) vr (delQ k d rows) ∧ Below w.heap.size w w' := by
  have hm := mayF_iff.1 hM
  have hn : n ≤ 64 := by rw [← hl.1]; exact hm.2.2.2.1
  have HSR : Hid (SortQ rows) := Lib.hid (GoodQ.sort hm.2.2.2.2)
  have HL := Lib.hid hl
  have HN := Lib.hid hl.1
  have HM := Lib.hid hM
  have HY := Lib.hid hy
  obtain ⟨p, hp⟩ : ∃ p, posQ k d rows = p := ⟨_, rfl⟩
  have HP := Lib.hid hp
  have hpn : p < n := by rw [← hp, ← hl.1]; exact here_lt hy
  clear hl hM hm hy hp
  go_enter Try.func19, Try.ntmps19
  go_upto_region 1 with fail
  refine wp_two (fun W0 hW0 => ?_)
  have hb0 : Below w.heap.size w W0 := by rw [hW0]; (repeat (first | (with_reducible exact Below.refl _ _) | (with_reducible assumption) | (with_reducible apply bel_alloc) | (with_reducible apply bel_drew) | (with_reducible apply bel_drewN) | (with_reducible refine bel_trans ?_ (by with_reducible assumption)) | (with_reducible refine bel_trans ?_ (HF.out _)) | (with_reducible refine bel_set ?_ (by simp) _) | (with_reducible refine bel_set ?_ (by simp; omega) _) | (with_reducible refine bel_set ?_ (by omega) _)))
  have hs0 : W0.heap.size = w.heap.size + 2 := by rw [hW0]; simp
  have HF0 : Hid (Blk W0 w.heap.size 24 [.int .i64 id, .int .i64 nodes, .slice A n c] ∧ Blk W0 (w.heap.size + 1) 24 [.int .i64 0, .int .i64 0, .slice none 0 0]) := Lib.hid (by
    rw [hW0]
    have h1 : Blk (w.alloc (.cells #[.int .i64 id, .int .i64 nodes, .slice A n c] 24)) w.heap.size 24 [.int .i64 id, .int .i64 nodes, .slice A n c] := Blk.new _ 24 [.int .i64 id, .int .i64 nodes, .slice A n c]
    have h2 := h1.up (bel_alloc (Below.refl _ _) : Below _ _ ((w.alloc (.cells #[.int .i64 id, .int .i64 nodes, .slice A n c] 24)).alloc (.cells #[.int .i64 0, .int .i64 0, .slice none 0 0] 24)))
    have h3 := Blk.new (w.alloc (.cells #[.int .i64 id, .int .i64 nodes, .slice A n c] 24)) 24 [.int .i64 0, .int .i64 0, .slice none 0 0]
    exact ⟨h2, by simpa using h3⟩)
  clear hW0
  have HF := Lib.hid HF0.out.1
  have HG := Lib.hid HF0.out.2
  clear HF0
  have xl := HF.out.lt
  have xf := HF.out.frozen
  have x_0 := (HF.out.box).2 0 _ rfl; have x_1 := (HF.out.box).2 1 _ rfl; have x_2 := (HF.out.box).2 2 _ rfl
  have gl := HG.out.lt
  have gf := HG.out.frozen
  have g_0 := (HG.out.box).2 0 _ rfl; have g_1 := (HG.out.box).2 1 _ rfl; have g_2 := (HG.out.box).2 2 _ rfl
  go_upto_region 4 with (first | (go_at_call 25; refine (fetch_May id nodes rows A n c _ _ (HL.out.up hb0) HM.out).mono ?_; rintro e w1 ⟨rfl, hb1⟩; have hb01 := bel_trans hb0 hb1; clear xl xf x_0 x_1 x_2 gl gf g_0 g_1 g_2; have HF1 := Lib.hid (HF.out.up hb1); have HG1 := Lib.hid (HG.out.up hb1); have xl := HF1.out.lt; have xf := HF1.out.frozen; have x_0 := (HF1.out.box).2 0 _ rfl; have x_1 := (HF1.out.box).2 1 _ rfl; have x_2 := (HF1.out.box).2 2 _ rfl; have gl := HG1.out.lt; have gf := HG1.out.frozen; have g_0 := (HG1.out.box).2 0 _ rfl; have g_1 := (HG1.out.box).2 1 _ rfl; have g_2 := (HG1.out.box).2 2 _ rfl) | (go_at_call 41; refine (slices_BSF_Q A n c rows ⟨k, d, 0, 0⟩ p true _ (HL.out.up hb01) HSR.out (by omega) HP.out HY.out).mono ?_; rintro e w2 ⟨rfl, hb2⟩; have hb02 := bel_trans hb01 hb2; clear xl xf x_0 x_1 x_2 gl gf g_0 g_1 g_2; have HF2 := Lib.hid (HF1.out.up hb2); have HG2 := Lib.hid (HG1.out.up hb2); have xl := HF2.out.lt; have xf := HF2.out.frozen; have x_0 := (HF2.out.box).2 0 _ rfl; have x_1 := (HF2.out.box).2 1 _ rfl; have x_2 := (HF2.out.box).2 2 _ rfl; have gl := HG2.out.lt; have gf := HG2.out.frozen; have g_0 := (HG2.out.box).2 0 _ rfl; have g_1 := (HG2.out.box).2 1 _ rfl; have g_2 := (HG2.out.box).2 2 _ rfl))
  go_upto_region 7 with (first | (go_at_call 44; refine (clone_Rows A n c rows _ (HL.out.up hb02) (by omega)).mono ?_; rintro e w3 ⟨v3, rfl, hown3, hb3⟩; (obtain ⟨cA, cc, rfl, -⟩ := nmQ hown3 HN.out (by omega)); have HO3 : Hid (OwnQ w3 w2.heap.size (.slice cA n cc) rows) := Lib.hid hown3; clear hown3; have hb03 := bel_trans hb02 hb3; clear xl xf x_0 x_1 x_2 gl gf g_0 g_1 g_2; have HF3 := Lib.hid (HF2.out.up hb3); have HG3 := Lib.hid (HG2.out.up hb3); have xl := HF3.out.lt; have xf := HF3.out.frozen; have x_0 := (HF3.out.box).2 0 _ rfl; have x_1 := (HF3.out.box).2 1 _ rfl; have x_2 := (HF3.out.box).2 2 _ rfl; have gl := HG3.out.lt; have gf := HG3.out.frozen; have g_0 := (HG3.out.box).2 0 _ rfl; have g_1 := (HG3.out.box).2 1 _ rfl; have g_2 := (HG3.out.box).2 2 _ rfl) | (go_at_call 43; refine (slices_Delete_Q (.slice cA n cc) rows w2.heap.size n p _ (by have h9 := HO3.out; unfold OwnQ at h9; rw [HN.out] at h9; exact h9) HN.out hpn (by omega)).mono ?_; rintro e w4 ⟨v4, rfl, hown4, hg4, hat4⟩; (obtain ⟨dA, dc, rfl, -, -, -, -⟩ := own_row hown4 (by omega)); have hwl : w.heap.size + 2 ≤ w2.heap.size := HG2.out.lt; have HNE : Hid (∀ g, (Value.slice cA n cc).ownBlock = some g → w2.heap.size ≤ g) := Lib.hid (fun g e => (own_lt HO3.out g e).1); have HF4 := Lib.hid (Blk.apart (B := 0) HF3.out hg4 (fun e => by have := HNE.out _ e; omega)); have HG4 := Lib.hid (Blk.apart (B := 0) HG3.out hg4 (fun e => by have := HNE.out _ e; omega)); have hb04 : Below w.heap.size w w4 := hb03.trans (grown_below hg4 (fun g e => Nat.le_trans (by omega) (HNE.out g e)) (by have h9 := HG3.out.lt; omega)); have HO4 : Hid (OwnQ w4 (w.heap.size + 2) (.slice dA (n - 1) dc) (delQ k d rows)) := Lib.hid (by unfold OwnQ; rw [delQ_len HY.out, HN.out]; unfold delQ; rw [HP.out]; exact own_mono hown4 hwl); clear hown4 hg4 hat4; clear xl xf x_0 x_1 x_2 gl gf g_0 g_1 g_2; have xl := HF4.out.lt; have xf := HF4.out.frozen; have x_0 := (HF4.out.box).2 0 _ rfl; have x_1 := (HF4.out.box).2 1 _ rfl; have x_2 := (HF4.out.box).2 2 _ rfl; have gl := HG4.out.lt; have gf := HG4.out.frozen; have g_0 := (HG4.out.box).2 0 _ rfl; have g_1 := (HG4.out.box).2 1 _ rfl; have g_2 := (HG4.out.box).2 2 _ rfl))
  refine wp_two (fun W5 hW5 => ?_)
  have HF5 : Hid (Blk W5 w.heap.size 24 [.int .i64 id, .int .i64 nodes, .slice dA (n - 1) dc]) := Lib.hid (by rw [hW5]; exact HF4.out.set_ 2 _)
  have HG5 : Hid (Blk W5 (w.heap.size + 1) 24 [.int .i64 0, .int .i64 0, .slice none 0 0]) := Lib.hid (by rw [hW5]; exact HG4.out.far (p := ⟨w.heap.size, 2, none⟩) (by show w.heap.size + 1 ≠ w.heap.size; omega) _)
  have HO5 : Hid (OwnQ W5 (w.heap.size + 2) (.slice dA (n - 1) dc) (delQ k d rows)) := Lib.hid (by rw [hW5]; exact HO4.out.set3 (by omega) _)
  have hb05 : Below w.heap.size w W5 := by rw [hW5]; exact bel_set3 hb04 (by omega)
  clear hW5 HF4 HG4 HO4 hb04 xl xf x_0 x_1 x_2 gl gf g_0 g_1 g_2
  have xl := HF5.out.lt
  have xf := HF5.out.frozen
  have x_0 := (HF5.out.box).2 0 _ rfl; have x_1 := (HF5.out.box).2 1 _ rfl; have x_2 := (HF5.out.box).2 2 _ rfl
  have gl := HG5.out.lt
  have gf := HG5.out.frozen
  have g_0 := (HG5.out.box).2 0 _ rfl; have g_1 := (HG5.out.box).2 1 _ rfl; have g_2 := (HG5.out.box).2 2 _ rfl
  go_wp2_with fail
  refine bodyPost_ret (v := .tuple #[.agg #[.int .i64 id, .int .i64 nodes, .slice dA (n - 1) dc], .int .i64 0]) (by simp [results, Try.results19, go_sem, g_0, g_1, g_2]) rfl ⟨_, rfl, OwnQ.set3 (OwnQ.set3 (OwnQ.set3 HO5.out (by omega) _) (by omega) _) (by omega) _, bel_set3 (bel_set3 (bel_set3 hb05 (by omega)) (by omega)) (by omega)⟩
set_option maxRecDepth 100000 in
set_option maxHeartbeats 4000000 in
theorem ref21_Got_none (id nodes k d : Int) (A : Option Addr) (n c : Nat) (rows : List FRowD) (w : World) (hl : RowsR w A n rows) (hM : mayF ⟨id, nodes, rows⟩ = true) (hy : hereQ k d rows = false) :
    Calls Try.prog 48 #[.agg #[.int .i64 id, .int .i64 nodes, .slice A n c], .int .i64 k, .int .i64 d] w fun e w' => e = .returned (.tuple #[.agg #[.int .i64 0, .int .i64 0, .slice none 0 0], .int .i64 3]) ∧ Below w.heap.size w w' := by
  have hm := mayF_iff.1 hM
  have hn : n ≤ 64 := by rw [← hl.1]; exact hm.2.2.2.1
  have HSR : Hid (SortQ rows) := Lib.hid (GoodQ.sort hm.2.2.2.2)
  have HL := Lib.hid hl
  have HN := Lib.hid hl.1
  have HM := Lib.hid hM
  have HY := Lib.hid hy
  obtain ⟨p, hp⟩ : ∃ p, posQ k d rows = p := ⟨_, rfl⟩
  have HP := Lib.hid hp
  clear hl hM hm hy hp
  go_enter Try.func48, Try.ntmps48
  go_upto_region 1 with fail
  refine wp_two (fun W0 hW0 => ?_)
  have hb0 : Below w.heap.size w W0 := by rw [hW0]; (repeat (first | (with_reducible exact Below.refl _ _) | (with_reducible assumption) | (with_reducible apply bel_alloc) | (with_reducible apply bel_drew) | (with_reducible apply bel_drewN) | (with_reducible refine bel_trans ?_ (by with_reducible assumption)) | (with_reducible refine bel_trans ?_ (HF.out _)) | (with_reducible refine bel_set ?_ (by simp) _) | (with_reducible refine bel_set ?_ (by simp; omega) _) | (with_reducible refine bel_set ?_ (by omega) _)))
  have hs0 : W0.heap.size = w.heap.size + 2 := by rw [hW0]; simp
  have HF0 : Hid (Blk W0 w.heap.size 24 [.int .i64 id, .int .i64 nodes, .slice A n c] ∧ Blk W0 (w.heap.size + 1) 24 [.int .i64 0, .int .i64 0, .slice none 0 0]) := Lib.hid (by
    rw [hW0]
    have h1 : Blk (w.alloc (.cells #[.int .i64 id, .int .i64 nodes, .slice A n c] 24)) w.heap.size 24 [.int .i64 id, .int .i64 nodes, .slice A n c] := Blk.new _ 24 [.int .i64 id, .int .i64 nodes, .slice A n c]
    have h2 := h1.up (bel_alloc (Below.refl _ _) : Below _ _ ((w.alloc (.cells #[.int .i64 id, .int .i64 nodes, .slice A n c] 24)).alloc (.cells #[.int .i64 0, .int .i64 0, .slice none 0 0] 24)))
    have h3 := Blk.new (w.alloc (.cells #[.int .i64 id, .int .i64 nodes, .slice A n c] 24)) 24 [.int .i64 0, .int .i64 0, .slice none 0 0]
    exact ⟨h2, by simpa using h3⟩)
  clear hW0
  have HF := Lib.hid HF0.out.1
  have HG := Lib.hid HF0.out.2
  clear HF0
  have xl := HF.out.lt
  have xf := HF.out.frozen
  have x_0 := (HF.out.box).2 0 _ rfl; have x_1 := (HF.out.box).2 1 _ rfl; have x_2 := (HF.out.box).2 2 _ rfl
  have gl := HG.out.lt
  have gf := HG.out.frozen
  have g_0 := (HG.out.box).2 0 _ rfl; have g_1 := (HG.out.box).2 1 _ rfl; have g_2 := (HG.out.box).2 2 _ rfl
  go_upto_region 2 with (go_at_call 76; refine (ref21_find A n c rows k d p false _ (HL.out.up hb0) HP.out HY.out).mono ?_; rintro e w1 ⟨rfl, hb1⟩; have hb01 := bel_trans hb0 hb1; clear xl xf x_0 x_1 x_2 gl gf g_0 g_1 g_2; have HF1 := Lib.hid (HF.out.up hb1); have HG1 := Lib.hid (HG.out.up hb1); have xl := HF1.out.lt; have xf := HF1.out.frozen; have x_0 := (HF1.out.box).2 0 _ rfl; have x_1 := (HF1.out.box).2 1 _ rfl; have x_2 := (HF1.out.box).2 2 _ rfl; have gl := HG1.out.lt; have gf := HG1.out.frozen; have g_0 := (HG1.out.box).2 0 _ rfl; have g_1 := (HG1.out.box).2 1 _ rfl; have g_2 := (HG1.out.box).2 2 _ rfl)
  go_wp2_with fail
  refine bodyPost_ret (v := .tuple #[.agg #[.int .i64 0, .int .i64 0, .slice none 0 0], .int .i64 3]) (by simp [results, Try.results48, go_sem, g_0, g_1, g_2]) rfl ⟨rfl, ?_⟩
  (repeat (first | (with_reducible exact Below.refl _ _) | (with_reducible assumption) | (with_reducible apply bel_alloc) | (with_reducible apply bel_drew) | (with_reducible apply bel_drewN) | (with_reducible refine bel_trans ?_ (by with_reducible assumption)) | (with_reducible refine bel_trans ?_ (HF.out _)) | ((with_reducible refine bel_set3 ?_ ?_); rotate_left; omega)))
set_option maxRecDepth 100000 in
set_option maxHeartbeats 4000000 in
theorem ref21_Got_ok (id nodes k d : Int) (A : Option Addr) (n c : Nat) (rows : List FRowD) (w : World) (hl : RowsR w A n rows) (hM : mayF ⟨id, nodes, rows⟩ = true) (hy : hereQ k d rows = true) :
    Calls Try.prog 48 #[.agg #[.int .i64 id, .int .i64 nodes, .slice A n c], .int .i64 k, .int .i64 d] w fun e w' => ∃ vr, e = .returned (.tuple #[.agg #[.int .i64 id, .int .i64 nodes, vr], .int .i64 0]) ∧ OwnQ w' (w.heap.size + 2) vr (delQ k d rows) ∧ Below w.heap.size w w' := by
  have hm := mayF_iff.1 hM
  have hn : n ≤ 64 := by rw [← hl.1]; exact hm.2.2.2.1
  have HSR : Hid (SortQ rows) := Lib.hid (GoodQ.sort hm.2.2.2.2)
  have HL := Lib.hid hl
  have HN := Lib.hid hl.1
  have HM := Lib.hid hM
  have HY := Lib.hid hy
  obtain ⟨p, hp⟩ : ∃ p, posQ k d rows = p := ⟨_, rfl⟩
  have HP := Lib.hid hp
  have hpn : p < n := by rw [← hp, ← hl.1]; exact here_lt hy
  clear hl hM hm hy hp
  go_enter Try.func48, Try.ntmps48
  go_upto_region 1 with fail
  refine wp_two (fun W0 hW0 => ?_)
  have hb0 : Below w.heap.size w W0 := by rw [hW0]; (repeat (first | (with_reducible exact Below.refl _ _) | (with_reducible assumption) | (with_reducible apply bel_alloc) | (with_reducible apply bel_drew) | (with_reducible apply bel_drewN) | (with_reducible refine bel_trans ?_ (by with_reducible assumption)) | (with_reducible refine bel_trans ?_ (HF.out _)) | (with_reducible refine bel_set ?_ (by simp) _) | (with_reducible refine bel_set ?_ (by simp; omega) _) | (with_reducible refine bel_set ?_ (by omega) _)))
  have hs0 : W0.heap.size = w.heap.size + 2 := by rw [hW0]; simp
  have HF0 : Hid (Blk W0 w.heap.size 24 [.int .i64 id, .int .i64 nodes, .slice A n c] ∧ Blk W0 (w.heap.size + 1) 24 [.int .i64 0, .int .i64 0, .slice none 0 0]) := Lib.hid (by
    rw [hW0]
    have h1 : Blk (w.alloc (.cells #[.int .i64 id, .int .i64 nodes, .slice A n c] 24)) w.heap.size 24 [.int .i64 id, .int .i64 nodes, .slice A n c] := Blk.new _ 24 [.int .i64 id, .int .i64 nodes, .slice A n c]
    have h2 := h1.up (bel_alloc (Below.refl _ _) : Below _ _ ((w.alloc (.cells #[.int .i64 id, .int .i64 nodes, .slice A n c] 24)).alloc (.cells #[.int .i64 0, .int .i64 0, .slice none 0 0] 24)))
    have h3 := Blk.new (w.alloc (.cells #[.int .i64 id, .int .i64 nodes, .slice A n c] 24)) 24 [.int .i64 0, .int .i64 0, .slice none 0 0]
    exact ⟨h2, by simpa using h3⟩)
  clear hW0
  have HF := Lib.hid HF0.out.1
  have HG := Lib.hid HF0.out.2
  clear HF0
  have xl := HF.out.lt
  have xf := HF.out.frozen
  have x_0 := (HF.out.box).2 0 _ rfl; have x_1 := (HF.out.box).2 1 _ rfl; have x_2 := (HF.out.box).2 2 _ rfl
  have gl := HG.out.lt
  have gf := HG.out.frozen
  have g_0 := (HG.out.box).2 0 _ rfl; have g_1 := (HG.out.box).2 1 _ rfl; have g_2 := (HG.out.box).2 2 _ rfl
  go_upto_region 4 with (go_at_call 76; refine (ref21_find A n c rows k d p true _ (HL.out.up hb0) HP.out HY.out).mono ?_; rintro e w1 ⟨rfl, hb1⟩; have hb01 := bel_trans hb0 hb1; clear xl xf x_0 x_1 x_2 gl gf g_0 g_1 g_2; have HF1 := Lib.hid (HF.out.up hb1); have HG1 := Lib.hid (HG.out.up hb1); have xl := HF1.out.lt; have xf := HF1.out.frozen; have x_0 := (HF1.out.box).2 0 _ rfl; have x_1 := (HF1.out.box).2 1 _ rfl; have x_2 := (HF1.out.box).2 2 _ rfl; have gl := HG1.out.lt; have gf := HG1.out.frozen; have g_0 := (HG1.out.box).2 0 _ rfl; have g_1 := (HG1.out.box).2 1 _ rfl; have g_2 := (HG1.out.box).2 2 _ rfl)
  go_upto_region 5 with (go_at_call 21; refine (ref0_CopyFetch id nodes A n c rows _ (HL.out.up hb01) (by omega)).mono ?_; rintro e w2 ⟨v2, rfl, hown2, hb2⟩; (obtain ⟨iA, ic, rfl, -⟩ := nmQ hown2 HN.out (by omega)); have HO2 : Hid (OwnQ w2 w1.heap.size (.slice iA n ic) rows) := Lib.hid hown2; clear hown2; have hb02 := bel_trans hb01 hb2; clear xl xf x_0 x_1 x_2 gl gf g_0 g_1 g_2; have HF2 := Lib.hid (HF1.out.up hb2); have HG2 := Lib.hid (HG1.out.up hb2); have xl := HF2.out.lt; have xf := HF2.out.frozen; have x_0 := (HF2.out.box).2 0 _ rfl; have x_1 := (HF2.out.box).2 1 _ rfl; have x_2 := (HF2.out.box).2 2 _ rfl; have gl := HG2.out.lt; have gf := HG2.out.frozen; have g_0 := (HG2.out.box).2 0 _ rfl; have g_1 := (HG2.out.box).2 1 _ rfl; have g_2 := (HG2.out.box).2 2 _ rfl)
  refine wp_two (fun W3 hW3 => ?_)
  obtain ⟨gx, hgx⟩ : ∃ g, g = w2.heap.size := ⟨_, rfl⟩
  have h3W : Below w2.heap.size w2 W3 := by rw [hW3]; exact bel_alloc (Below.refl _ _)
  have HX3 : Hid (Blk W3 gx 24 [.int .i64 id, .int .i64 nodes, .slice iA n ic]) := Lib.hid (by rw [hW3, hgx]; exact Blk.new w2 24 [.int .i64 id, .int .i64 nodes, .slice iA n ic])
  have HG3 := Lib.hid (HG2.out.up h3W)
  have HO3 := Lib.hid (HO2.out.up h3W)
  have hb03 := bel_trans hb02 h3W
  have hgx2 : w.heap.size + 2 ≤ gx := by rw [hgx]; exact HG2.out.lt
  have hg13 : w1.heap.size ≤ gx := by rw [hgx]; exact hb2.size
  have HNE : Hid (∀ g, (Value.slice iA n ic).ownBlock = some g → g < gx) := Lib.hid (fun g e => by rw [hgx]; exact (own_lt HO2.out g e).2)
  rw [← hgx]
  clear hW3 hgx h3W HF2 HG2 HO2 hb02 xl xf x_0 x_1 x_2 gl gf g_0 g_1 g_2
  have HRI0 : Hid (RowsR W3 iA n rows) := Lib.hid (by obtain ⟨A', c', e', h'⟩ := nmQ HO3.out HN.out (by omega); injection e' with e1 e2 e3; subst e1; exact h')
  obtain ⟨gi, rfl⟩ : ∃ gi, iA = some ⟨gi, 0, none⟩ := by
    have h9 := HO3.out
    unfold OwnQ at h9
    rw [HN.out] at h9
    rcases own_shape h9 with ⟨_, h0⟩ | ⟨g, c9, e9, _, _⟩
    · omega
    · injection e9 with e91 e92 e93; exact ⟨g, e91⟩
  have hgx3 : gx < W3.heap.size := HX3.out.lt
  have hnc : n ≤ ic := by
    have h9 := HO3.out
    unfold OwnQ at h9
    rw [HN.out] at h9
    rcases own_shape h9 with ⟨_, h0⟩ | ⟨g, c9, e9, _, h8⟩
    · omega
    · injection e9 with e91 e92 e93; omega
  have HRI : Hid (RowsR W3 (some ⟨gi, 0, none⟩) n rows) := HRI0
  have HTL : Hid ((rows.take p).length = p) := Lib.hid (by rw [List.length_take, HN.out]; omega)
  clear HRI0
  have yl := HX3.out.lt
  have yf := HX3.out.frozen
  have y_0 := (HX3.out.box).2 0 _ rfl; have y_1 := (HX3.out.box).2 1 _ rfl; have y_2 := (HX3.out.box).2 2 _ rfl
  have hpc : p ≤ ic := by omega
  go_upto_region 6 with (go_at_call 45; refine (ref0_CopyRows (some ⟨gi, 0, none⟩) p ic (rows.take p) _ (HRI.out.take (by omega)) (by omega)).mono ?_; rintro e w4 ⟨v4, rfl, hown4, hb4⟩; obtain ⟨mA, mc, rfl, -⟩ := nmQ hown4 HTL.out (by omega))
  have HX4 := Lib.hid (HX3.out.up hb4)
  have HG4 := Lib.hid (HG3.out.up hb4)
  have HRI4 := Lib.hid (HRI.out.up hb4)
  have hb04 := bel_trans hb03 hb4
  have HM4 : Hid (OwnQ w4 W3.heap.size (.slice mA p mc) (rows.take p)) := Lib.hid hown4
  have hs34 := hb4.size
  clear HX3 HG3 HRI HO3 hb4 hown4 hb03 yl yf y_0 y_1 y_2
  have yl := HX4.out.lt
  have yf := HX4.out.frozen
  have y_0 := (HX4.out.box).2 0 _ rfl; have y_1 := (HX4.out.box).2 1 _ rfl; have y_2 := (HX4.out.box).2 2 _ rfl
  have hp1 : p + 1 ≤ ic := by omega
  have hp2 : p + 1 ≤ n := by omega
  have HDV : Hid (∀ off, (ic ≠ p + 1 → off = (p + 1) * 4) → ∀ j u, (flat encQ (rows.drop (p + 1)))[j]? = some u → w4.cell? ⟨gi, off + j, none⟩ = some u) := Lib.hid (fun off h j u hj => by
    by_cases hlt : p + 1 < n
    · have h9 := drop_Q HRI4.out hlt j u hj
      rw [h (by omega)]; simpa using h9
    · rw [List.drop_eq_nil_of_le (by rw [HN.out]; omega)] at hj; simp [flat] at hj)
  have HDL : Hid ((rows.drop (p + 1)).length = n - (p + 1)) := Lib.hid (by rw [List.length_drop, HN.out])
  have HLQ : Hid ((rows.take p ++ rows.drop (p + 1)).length = n - 1) := Lib.hid (by rw [List.length_append, HTL.out, HDL.out]; omega)
  by_cases hic : ic = p + 1
  · subst hic
    have hnp : n ≤ p + 1 := hnc
    have HDZ : Hid ((rows.drop (p + 1)).length = 0) := Lib.hid (by rw [HDL.out]; omega)
    go_upto_region 7 with (at_builtin; refine wpList_appQ rfl (.tmp 30) (.tmp 35) rfl rfl W3.heap.size _ (rows.take p) rfl HM4.out gi 0 0 _ (rows.drop (p + 1)) rfl HDZ.out (HDV.out _ (fun h => by first | rfl | omega)) (by rw [HTL.out]; omega) hs34 ?_; intro v5 w5 hown5 hg5 hb5 hat5; (obtain ⟨dA, dc, rfl, -⟩ := nmQ hown5 HLQ.out (by omega)); clear yl yf y_0 y_1 y_2; have HX5 : Hid (Blk w5 gx 24 [.int .i64 id, .int .i64 nodes, .slice (some ⟨gi, 0, none⟩) n (p + 1)]) := Lib.hid ((hb5.block gx hgx3).trans HX4.out); have yl := HX5.out.lt; have yf := HX5.out.frozen; have y_0 := (HX5.out.box).2 0 _ rfl; have y_1 := (HX5.out.box).2 1 _ rfl; have y_2 := (HX5.out.box).2 2 _ rfl)
    have HG5 : Hid (Blk w5 (w.heap.size + 1) 24 [.int .i64 0, .int .i64 0, .slice none 0 0]) := Lib.hid ((hb5.block (w.heap.size + 1) (by omega)).trans HG4.out)
    have HDQ : Hid (delQ k d rows = rows.take p ++ rows.drop (p + 1)) := Lib.hid (by unfold delQ; rw [HP.out])
    have hb05 : Below w.heap.size w w5 := hb04.trans (hb5.mono (by omega))
    have HO5 : Hid (OwnQ w5 W3.heap.size (.slice dA (n - 1) dc) (delQ k d rows)) := Lib.hid (by rw [HDQ.out]; exact hown5)
    clear hown5 hg5 hb5 hat5
    refine wp_two (fun W6 hW6 => ?_)
    have HX6 : Hid (Blk W6 gx 24 [.int .i64 id, .int .i64 nodes, .slice dA (n - 1) dc]) := Lib.hid (by rw [hW6]; exact HX5.out.set_ 2 _)
    have HG6 : Hid (Blk W6 (w.heap.size + 1) 24 [.int .i64 0, .int .i64 0, .slice none 0 0]) := Lib.hid (by rw [hW6]; exact HG5.out.far (p := ⟨gx, 2, none⟩) (by show w.heap.size + 1 ≠ gx; omega) _)
    have HO6 : Hid (OwnQ W6 (w.heap.size + 2) (.slice dA (n - 1) dc) (delQ k d rows)) := Lib.hid (by rw [hW6]; exact (HO5.out.set3 (by omega) _).mono (by omega))
    have hb06 : Below w.heap.size w W6 := by rw [hW6]; exact bel_set3 hb05 (by omega)
    clear hW6 HX5 HG5 HO5 hb05 yl yf y_0 y_1 y_2
    have yl := HX6.out.lt
    have yf := HX6.out.frozen
    have y_0 := (HX6.out.box).2 0 _ rfl; have y_1 := (HX6.out.box).2 1 _ rfl; have y_2 := (HX6.out.box).2 2 _ rfl
    have gl := HG6.out.lt
    have gf := HG6.out.frozen
    have g_0 := (HG6.out.box).2 0 _ rfl; have g_1 := (HG6.out.box).2 1 _ rfl; have g_2 := (HG6.out.box).2 2 _ rfl
    go_wp2_with fail
    refine bodyPost_ret (v := .tuple #[.agg #[.int .i64 id, .int .i64 nodes, .slice dA (n - 1) dc], .int .i64 0]) (by simp [results, Try.results48, go_sem, g_0, g_1, g_2]) rfl ⟨_, rfl, OwnQ.set3 (OwnQ.set3 (OwnQ.set3 HO6.out (by omega) _) (by omega) _) (by omega) _, bel_set3 (bel_set3 (bel_set3 hb06 (by omega)) (by omega)) (by omega)⟩
  · skip
    go_upto_region 7 with (at_builtin; refine wpList_appQ rfl (.tmp 30) (.tmp 35) rfl rfl W3.heap.size _ (rows.take p) rfl HM4.out gi ((p + 1) * 4) (n - (p + 1)) _ (rows.drop (p + 1)) rfl HDL.out (HDV.out _ (fun h => by first | rfl | omega)) (by rw [HTL.out]; omega) hs34 ?_; intro v5 w5 hown5 hg5 hb5 hat5; (obtain ⟨dA, dc, rfl, -⟩ := nmQ hown5 HLQ.out (by omega)); clear yl yf y_0 y_1 y_2; have HX5 : Hid (Blk w5 gx 24 [.int .i64 id, .int .i64 nodes, .slice (some ⟨gi, 0, none⟩) n ic]) := Lib.hid ((hb5.block gx hgx3).trans HX4.out); have yl := HX5.out.lt; have yf := HX5.out.frozen; have y_0 := (HX5.out.box).2 0 _ rfl; have y_1 := (HX5.out.box).2 1 _ rfl; have y_2 := (HX5.out.box).2 2 _ rfl)
    have HG5 : Hid (Blk w5 (w.heap.size + 1) 24 [.int .i64 0, .int .i64 0, .slice none 0 0]) := Lib.hid ((hb5.block (w.heap.size + 1) (by omega)).trans HG4.out)
    have HDQ : Hid (delQ k d rows = rows.take p ++ rows.drop (p + 1)) := Lib.hid (by unfold delQ; rw [HP.out])
    have hb05 : Below w.heap.size w w5 := hb04.trans (hb5.mono (by omega))
    have HO5 : Hid (OwnQ w5 W3.heap.size (.slice dA (n - 1) dc) (delQ k d rows)) := Lib.hid (by rw [HDQ.out]; exact hown5)
    clear hown5 hg5 hb5 hat5
    refine wp_two (fun W6 hW6 => ?_)
    have HX6 : Hid (Blk W6 gx 24 [.int .i64 id, .int .i64 nodes, .slice dA (n - 1) dc]) := Lib.hid (by rw [hW6]; exact HX5.out.set_ 2 _)
    have HG6 : Hid (Blk W6 (w.heap.size + 1) 24 [.int .i64 0, .int .i64 0, .slice none 0 0]) := Lib.hid (by rw [hW6]; exact HG5.out.far (p := ⟨gx, 2, none⟩) (by show w.heap.size + 1 ≠ gx; omega) _)
    have HO6 : Hid (OwnQ W6 (w.heap.size + 2) (.slice dA (n - 1) dc) (delQ k d rows)) := Lib.hid (by rw [hW6]; exact (HO5.out.set3 (by omega) _).mono (by omega))
    have hb06 : Below w.heap.size w W6 := by rw [hW6]; exact bel_set3 hb05 (by omega)
    clear hW6 HX5 HG5 HO5 hb05 yl yf y_0 y_1 y_2
    have yl := HX6.out.lt
    have yf := HX6.out.frozen
    have y_0 := (HX6.out.box).2 0 _ rfl; have y_1 := (HX6.out.box).2 1 _ rfl; have y_2 := (HX6.out.box).2 2 _ rfl
    have gl := HG6.out.lt
    have gf := HG6.out.frozen
    have g_0 := (HG6.out.box).2 0 _ rfl; have g_1 := (HG6.out.box).2 1 _ rfl; have g_2 := (HG6.out.box).2 2 _ rfl
    go_wp2_with fail
    refine bodyPost_ret (v := .tuple #[.agg #[.int .i64 id, .int .i64 nodes, .slice dA (n - 1) dc], .int .i64 0]) (by simp [results, Try.results48, go_sem, g_0, g_1, g_2]) rfl ⟨_, rfl, OwnQ.set3 (OwnQ.set3 (OwnQ.set3 HO6.out (by omega) _) (by omega) _) (by omega) _, bel_set3 (bel_set3 (bel_set3 hb06 (by omega)) (by omega)) (by omega)⟩
end Go.Proofs.Ytnngeaibdnnpoaa
