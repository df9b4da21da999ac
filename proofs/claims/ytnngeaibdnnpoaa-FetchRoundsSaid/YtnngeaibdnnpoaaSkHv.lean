/- Fetch: fetch.Tick. -/
import Derived.Test.YtnngeaibdnnpoaaSkHu
namespace Go.Proofs.Ytnngeaibdnnpoaa
open Go.RowKit
set_option linter.unusedSimpArgs false
set_option linter.unusedVariables false

set_option maxRecDepth 100000 in
set_option maxHeartbeats 1000000 in
theorem fetch_Tick_bad (id nodes : Int) (A : Option Addr) (n c : Nat) (rows : List FRowD) (w : World) (hl : RowsR w A n rows) (hM : mayF ⟨id, nodes, rows⟩ = false) :
    Calls Try.prog 18 #[.agg #[.int .i64 id, .int .i64 nodes, .slice A n c]] w fun e w' => e = .returned (.tuple #[.agg #[.int .i64 0, .int .i64 0, .slice none 0 0], .slice none 0 0, .int .i64 1]) ∧ Below w.heap.size w w' := by
  have HL := Lib.hid hl
  have HM := Lib.hid hM
  clear hl hM
  go_enter Try.func18, Try.ntmps18
  go_upto_region 1 with fail
  refine wp_two (fun W0 hW0 => ?_)
  have hb0 : Below w.heap.size w W0 := by rw [hW0]; (repeat (first | (with_reducible exact Below.refl _ _) | (with_reducible assumption) | (with_reducible apply bel_alloc) | (with_reducible apply bel_drew) | (with_reducible apply bel_drewN) | (with_reducible refine bel_trans ?_ (by with_reducible assumption)) | (with_reducible refine bel_trans ?_ (HF.out _)) | (with_reducible refine bel_set ?_ (by simp) _) | (with_reducible refine bel_set ?_ (by simp; omega) _) | (with_reducible refine bel_set ?_ (by omega) _)))
  have hs0 : W0.heap.size = w.heap.size + 2 := by rw [hW0]; simp
  have HF0 : Hid (Blk W0 w.heap.size 24 [.int .i64 id, .int .i64 nodes, .slice A n c] ∧ Blk W0 (w.heap.size + 1) 24 [.int .i64 0, .int .i64 0, .slice none 0 0]) := Lib.hid (by
    rw [hW0]
    have h1 : Blk (w.alloc (.cells #[.int .i64 id, .int .i64 nodes, .slice A n c] 24)) w.heap.size 24 [.int .i64 id, .int .i64 nodes, .slice A n c] := Blk.new _ 24 [.int .i64 id, .int .i64 nodes, .slice A n c]
    have h2 := h1.up (bel_alloc (Below.refl _ _) : Below _ _ ((w.alloc (.cells #[.int .i64 id, .int .i64 nodes, .slice A n c] 24)).alloc (.cells #[.int .i64 0, .int .i64 0, .slice none 0 0] 24)))
    have h3 := Blk.new (w.alloc (.cells #[.int .i64 id, .int .i64 nodes, .slice A n c] 24)) 24 [.int .i64 0, .int .i64 0, .slice none 0 0]
    exact ⟨h2, by simpa using h3⟩)
  clear hW0
  have HF := Lib.hid HF0.out.1
  have HG := Lib.hid HF0.out.2
  clear HF0
  have xl := HF.out.lt
  have xf := HF.out.frozen
  have x_0 := (HF.out.box).2 0 _ rfl; have x_1 := (HF.out.box).2 1 _ rfl; have x_2 := (HF.out.box).2 2 _ rfl
  have gl := HG.out.lt
  have gf := HG.out.frozen
  have g_0 := (HG.out.box).2 0 _ rfl; have g_1 := (HG.out.box).2 1 _ rfl; have g_2 := (HG.out.box).2 2 _ rfl
  go_wp2_with (go_at_call 25; refine (fetch_May id nodes rows A n c _ _ (HL.out.up hb0) HM.out).mono ?_; rintro e w1 ⟨rfl, hb1⟩; have hb01 := bel_trans hb0 hb1; clear xl xf x_0 x_1 x_2 gl gf g_0 g_1 g_2; have HF1 := Lib.hid (HF.out.up hb1); have HG1 := Lib.hid (HG.out.up hb1); have xl := HF1.out.lt; have xf := HF1.out.frozen; have x_0 := (HF1.out.box).2 0 _ rfl; have x_1 := (HF1.out.box).2 1 _ rfl; have x_2 := (HF1.out.box).2 2 _ rfl; have gl := HG1.out.lt; have gf := HG1.out.frozen; have g_0 := (HG1.out.box).2 0 _ rfl; have g_1 := (HG1.out.box).2 1 _ rfl; have g_2 := (HG1.out.box).2 2 _ rfl)
  refine bodyPost_ret (v := .tuple #[.agg #[.int .i64 0, .int .i64 0, .slice none 0 0], .slice none 0 0, .int .i64 1]) (by simp [results, Try.results18, go_sem, g_0, g_1, g_2]) rfl ⟨rfl, ?_⟩
  (repeat (first | (with_reducible exact Below.refl _ _) | (with_reducible assumption) | (with_reducible apply bel_alloc) | (with_reducible apply bel_drew) | (with_reducible apply bel_drewN) | (with_reducible refine bel_trans ?_ (by with_reducible assumption)) | (with_reducible refine bel_trans ?_ (HF.out _)) | ((with_reducible refine bel_set3 ?_ ?_); rotate_left; omega)))
set_option maxRecDepth 100000 in
set_option maxHeartbeats 4000000 in
theorem fetch_Tick_ok (id nodes : Int) (A : Option Addr) (n c : Nat) (rows : List FRowD) (w : World) (hl : RowsR w A n rows) (hM : mayF ⟨id, nodes, rows⟩ = true) :
    Calls Try.prog 18 #[.agg #[.int .i64 id, .int .i64 nodes, .slice A n c]] w fun e w' => ∃ vr vl, e = .returned (.tuple #[.agg #[.int .i64 id, .int .i64 nodes, vr], vl, .int .i64 0]) ∧ OwnQ w' (w.heap.size + 2) vr (tickQ rows) ∧ OwnMs w' (w.heap.size + 2) vl (fL id nodes (dueL rows)) ∧ Below w.heap.size w w' := by
  have hn64 : rows.length ≤ 64 := (mayF_iff.1 hM).2.2.2.1
  have HTL : Hid ((tickQ rows).length = rows.length) := Lib.hid (by simp [tickQ])
  have HL := Lib.hid hl
  have HM := Lib.hid hM
  obtain ⟨rn, hrn⟩ : ∃ m, rows.length = m := ⟨_, rfl⟩
  rw [hrn] at HTL hn64
  clear hl hM hrn
  go_enter Try.func18, Try.ntmps18
  go_upto_region 1 with fail
  refine wp_two (fun W0 hW0 => ?_)
  have hb0 : Below w.heap.size w W0 := by rw [hW0]; (repeat (first | (with_reducible exact Below.refl _ _) | (with_reducible assumption) | (with_reducible apply bel_alloc) | (with_reducible apply bel_drew) | (with_reducible apply bel_drewN) | (with_reducible refine bel_trans ?_ (by with_reducible assumption)) | (with_reducible refine bel_trans ?_ (HF.out _)) | (with_reducible refine bel_set ?_ (by simp) _) | (with_reducible refine bel_set ?_ (by simp; omega) _) | (with_reducible refine bel_set ?_ (by omega) _)))
  have hs0 : W0.heap.size = w.heap.size + 2 := by rw [hW0]; simp
  have HF0 : Hid (Blk W0 w.heap.size 24 [.int .i64 id, .int .i64 nodes, .slice A n c] ∧ Blk W0 (w.heap.size + 1) 24 [.int .i64 0, .int .i64 0, .slice none 0 0]) := Lib.hid (by
    rw [hW0]
    have h1 : Blk (w.alloc (.cells #[.int .i64 id, .int .i64 nodes, .slice A n c] 24)) w.heap.size 24 [.int .i64 id, .int .i64 nodes, .slice A n c] := Blk.new _ 24 [.int .i64 id, .int .i64 nodes, .slice A n c]
    have h2 := h1.up (bel_alloc (Below.refl _ _) : Below _ _ ((w.alloc (.cells #[.int .i64 id, .int .i64 nodes, .slice A n c] 24)).alloc (.cells #[.int .i64 0, .int .i64 0, .slice none 0 0] 24)))
    have h3 := Blk.new (w.alloc (.cells #[.int .i64 id, .int .i64 nodes, .slice A n c] 24)) 24 [.int .i64 0, .int .i64 0, .slice none 0 0]
    exact ⟨h2, by simpa using h3⟩)
  clear hW0
  have HF := Lib.hid HF0.out.1
  have HG := Lib.hid HF0.out.2
  clear HF0
  have xl := HF.out.lt
  have xf := HF.out.frozen
  have x_0 := (HF.out.box).2 0 _ rfl; have x_1 := (HF.out.box).2 1 _ rfl; have x_2 := (HF.out.box).2 2 _ rfl
  have gl := HG.out.lt
  have gf := HG.out.frozen
  have g_0 := (HG.out.box).2 0 _ rfl; have g_1 := (HG.out.box).2 1 _ rfl; have g_2 := (HG.out.box).2 2 _ rfl
  go_upto_region 4 with (first | (go_at_call 25; refine (fetch_May id nodes rows A n c _ _ (HL.out.up hb0) HM.out).mono ?_; rintro e w1 ⟨rfl, hb1⟩; have hb01 := bel_trans hb0 hb1; clear xl xf x_0 x_1 x_2 gl gf g_0 g_1 g_2; have HF1 := Lib.hid (HF.out.up hb1); have HG1 := Lib.hid (HG.out.up hb1); have xl := HF1.out.lt; have xf := HF1.out.frozen; have x_0 := (HF1.out.box).2 0 _ rfl; have x_1 := (HF1.out.box).2 1 _ rfl; have x_2 := (HF1.out.box).2 2 _ rfl; have gl := HG1.out.lt; have gf := HG1.out.frozen; have g_0 := (HG1.out.box).2 0 _ rfl; have g_1 := (HG1.out.box).2 1 _ rfl; have g_2 := (HG1.out.box).2 2 _ rfl) | (go_at_call 40; refine (fetch_Beat id nodes A n c rows _ (HL.out.up hb01) HM.out).mono ?_; rintro e w2 ⟨vr, vl, rfl, hown2, hm2, hb2⟩; (obtain ⟨rA, rc, rfl, -⟩ := nmQ hown2 HTL.out (by omega)); clear xl xf x_0 x_1 x_2 gl gf g_0 g_1 g_2; have HF2 := Lib.hid (HF1.out.up hb2); have HG2 := Lib.hid (HG1.out.up hb2); have xl := HF2.out.lt; have xf := HF2.out.frozen; have x_0 := (HF2.out.box).2 0 _ rfl; have x_1 := (HF2.out.box).2 1 _ rfl; have x_2 := (HF2.out.box).2 2 _ rfl; have gl := HG2.out.lt; have gf := HG2.out.frozen; have g_0 := (HG2.out.box).2 0 _ rfl; have g_1 := (HG2.out.box).2 1 _ rfl; have g_2 := (HG2.out.box).2 2 _ rfl))
  have hw2 : w.heap.size + 2 ≤ w1.heap.size := HG1.out.lt
  refine wp_two (fun W4 hW4 => ?_)
  have HF4 : Hid (Blk W4 w.heap.size 24 [.int .i64 id, .int .i64 nodes, .slice rA rn rc]) := Lib.hid (by rw [hW4]; exact ((HF2.out.set_ 0 _).set_ 1 _).set_ 2 _)
  have HG4 : Hid (Blk W4 (w.heap.size + 1) 24 [.int .i64 0, .int .i64 0, .slice none 0 0]) := Lib.hid (by rw [hW4]; exact ((HG2.out.far (p := ⟨w.heap.size, 0, none⟩) (by show w.heap.size + 1 ≠ w.heap.size; omega) _).far (p := ⟨w.heap.size, 1, none⟩) (by show w.heap.size + 1 ≠ w.heap.size; omega) _).far (p := ⟨w.heap.size, 2, none⟩) (by show w.heap.size + 1 ≠ w.heap.size; omega) _)
  have HR4 : Hid (OwnQ W4 (w.heap.size + 2) (.slice rA rn rc) (tickQ rows)) := Lib.hid (by rw [hW4]; exact (((hown2.set3 (by omega) _).set3 (by omega) _).set3 (by omega) _).mono (by omega))
  have HM4 : Hid (OwnMs W4 (w.heap.size + 2) _ (fL id nodes (dueL rows))) := Lib.hid (by rw [hW4]; exact OwnMs.low (OwnMs.low (OwnMs.low (hm2.mono (by omega)) (by omega)) (by omega)) (by omega))
  have hb4 : Below w.heap.size w W4 := by rw [hW4]; exact bel_set3 (bel_set3 (bel_set3 (bel_trans hb01 hb2) (by omega)) (by omega)) (by omega)
  clear hW4 xl xf x_0 x_1 x_2 gl gf g_0 g_1 g_2 hown2 hm2
  have xl := HF4.out.lt
  have xf := HF4.out.frozen
  have x_0 := (HF4.out.box).2 0 _ rfl; have x_1 := (HF4.out.box).2 1 _ rfl; have x_2 := (HF4.out.box).2 2 _ rfl
  have gl := HG4.out.lt
  have gf := HG4.out.frozen
  have g_0 := (HG4.out.box).2 0 _ rfl; have g_1 := (HG4.out.box).2 1 _ rfl; have g_2 := (HG4.out.box).2 2 _ rfl
  go_wp2_with fail
  refine bodyPost_ret (v := .tuple #[.agg #[.int .i64 id, .int .i64 nodes, .slice rA rn rc], _, .int .i64 0]) (by simp [results, Try.results18, go_sem, g_0, g_1, g_2] <;> rfl) rfl ⟨_, _, rfl, OwnQ.set3 (OwnQ.set3 (OwnQ.set3 HR4.out (by omega) _) (by omega) _) (by omega) _, OwnMs.low (OwnMs.low (OwnMs.low HM4.out (by omega)) (by omega)) (by omega), bel_set3 (bel_set3 (bel_set3 hb4 (by omega)) (by omega)) (by omega)⟩
end Go.Proofs.Ytnngeaibdnnpoaa
