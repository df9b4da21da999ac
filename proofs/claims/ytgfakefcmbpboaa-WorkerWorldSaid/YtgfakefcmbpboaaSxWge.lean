/- message.only: kinds 1, 3. -/
import Derived.Test.YtgfakefcmbpboaaSxWgc
namespace Go.Proofs.Ytgfakefcmbpboaa
open Go.RowKit
set_option linter.unusedSimpArgs false
set_option linter.unusedVariables false

set_option maxRecDepth 100000 in
set_option maxHeartbeats 8000000 in
theorem message_only1 (P : MsgP) (M : MsgD) (n : Int) (y : Bool) (w : World) (hk : M.ki = 1) (hd : TxsR w P.b.A P.b.n M.b.tx) (hy : dec (digS M.di = true ∧ bmT M.b = true ∧ M.b.au ≤ n) = y) :
    Calls Try.prog 56 #[M18 P M, .int .i64 n] w fun e w' => e = .returned (.tuple #[M18 ⟨P.b, ⟨⟨none, 0, 0⟩, ⟨none, 0, 0⟩⟩, ⟨⟨⟨none, 0, 0⟩, ⟨none, 0, 0⟩⟩, ⟨none, 0, 0⟩⟩, ⟨none, 0, 0⟩⟩ ⟨M.ki, M.fr, M.tt, M.di, M.b, hea0, cer0, []⟩, .bool y]) ∧ Below w.heap.size w w' := by
  obtain ⟨⟨bA, bn, bc⟩, ⟨⟨xA, xn, xc⟩, ⟨yA, yn, yc⟩⟩, ⟨⟨⟨cA, cn, cd⟩, ⟨dA, dn, dc⟩⟩, ⟨sA, sn, sc⟩⟩, ⟨eA, en, ec⟩⟩ := P
  obtain ⟨ki, fr, tt, di, b, hd, cc, ds⟩ := M
  dsimp only at hk hd hy
  subst hk
  obtain ⟨yd, hyd⟩ : ∃ z, digS di = z := ⟨_, rfl⟩
  obtain ⟨yb, hyb⟩ : ∃ z, bmT b = z := ⟨_, rfl⟩
  have HDI := Lib.hid hyd
  have HBI := Lib.hid hyb
  rw [hyd, hyb] at hy
  have HY : Hid (y = (yd && yb && decide (b.au ≤ n))) := Lib.hid (by rw [← hy]; rw [Bool.eq_iff_iff, dec_iff]; simp [and_assoc])
  have HD := Lib.hid hd
  clear hy hyd hyb hd
  show Calls Try.prog 56 #[.agg #[.int .i64 1, .int .i64 fr, .int .i64 tt, .int .i64 di, .int .i64 b.au, .int .i64 b.n, .slice bA bn bc, .int .i64 hd.au, .int .i64 hd.ro, .slice xA xn xc, .slice yA yn yc, .int .i64 cc.h.au, .int .i64 cc.h.ro, .slice cA cn cd, .slice dA dn dc, .int .i64 cc.di, .slice sA sn sc, .slice eA en ec], .int .i64 n] w fun e w' => e = .returned (.tuple #[.agg #[.int .i64 1, .int .i64 fr, .int .i64 tt, .int .i64 di, .int .i64 b.au, .int .i64 b.n, .slice bA bn bc, .int .i64 0, .int .i64 0, .slice none 0 0, .slice none 0 0, .int .i64 0, .int .i64 0, .slice none 0 0, .slice none 0 0, .int .i64 0, .slice none 0 0, .slice none 0 0], .bool y]) ∧ Below w.heap.size w w'
  go_enter Try.func56, Try.ntmps56
  go_upto_region 2 with fail
  refine wp_world (fun W hW => ?_)
  have HBM : Hid (Blk W w.heap.size 54 [.int .i64 1, .int .i64 fr, .int .i64 tt, .int .i64 di, .int .i64 b.au, .int .i64 b.n, .slice bA bn bc, .int .i64 hd.au, .int .i64 hd.ro, .slice xA xn xc, .slice yA yn yc, .int .i64 cc.h.au, .int .i64 cc.h.ro, .slice cA cn cd, .slice dA dn dc, .int .i64 cc.di, .slice sA sn sc, .slice eA en ec]) := Lib.hid (by rw [hW]; exact (Blk.new w 54 [.int .i64 1, .int .i64 fr, .int .i64 tt, .int .i64 di, .int .i64 b.au, .int .i64 b.n, .slice bA bn bc, .int .i64 hd.au, .int .i64 hd.ro, .slice xA xn xc, .slice yA yn yc, .int .i64 cc.h.au, .int .i64 cc.h.ro, .slice cA cn cd, .slice dA dn dc, .int .i64 cc.di, .slice sA sn sc, .slice eA en ec]).up (bel_alloc (Below.refl _ _)))
  have HBX : Hid (Blk W (w.heap.size + 1) 54 [.int .i64 1, .int .i64 fr, .int .i64 tt, .int .i64 0, .int .i64 0, .int .i64 0, .slice none 0 0, .int .i64 0, .int .i64 0, .slice none 0 0, .slice none 0 0, .int .i64 0, .int .i64 0, .slice none 0 0, .slice none 0 0, .int .i64 0, .slice none 0 0, .slice none 0 0]) := Lib.hid (by rw [hW]; exact Blk.new1 w 54 54 [.int .i64 1, .int .i64 fr, .int .i64 tt, .int .i64 di, .int .i64 b.au, .int .i64 b.n, .slice bA bn bc, .int .i64 hd.au, .int .i64 hd.ro, .slice xA xn xc, .slice yA yn yc, .int .i64 cc.h.au, .int .i64 cc.h.ro, .slice cA cn cd, .slice dA dn dc, .int .i64 cc.di, .slice sA sn sc, .slice eA en ec] [.int .i64 1, .int .i64 fr, .int .i64 tt, .int .i64 0, .int .i64 0, .int .i64 0, .slice none 0 0, .int .i64 0, .int .i64 0, .slice none 0 0, .slice none 0 0, .int .i64 0, .int .i64 0, .slice none 0 0, .slice none 0 0, .int .i64 0, .slice none 0 0, .slice none 0 0])
  have hb0 : Below w.heap.size w W := by rw [hW]; exact bel_alloc (bel_alloc (Below.refl _ _))
  clear hW
  have hsz : w.heap.size + 1 < W.heap.size := HBX.out.lt
  have m0 := HBM.out.box.2 0 _ rfl
  go_upto_region 5 with fail
  clear m0
  obtain ⟨S, hSd⟩ : ∃ S : World → Prop, S = fun Q => Q.rangeAt w.heap.size 3 [.int .i64 di, .int .i64 b.au, .int .i64 b.n, .slice bA bn bc] := ⟨_, rfl⟩
  have hS1 : ∀ Q, S Q → Q.cell? ⟨w.heap.size, 3, none⟩ = some (.int .i64 di) := fun Q h => by rw [hSd] at h; exact h 0 _ rfl
  have hS2 : ∀ Q, S Q → Q.rangeAt w.heap.size 4 [.int .i64 b.au, .int .i64 b.n, .slice bA bn bc] := fun Q h => by rw [hSd] at h; exact fun j v hv => by have := h (j + 1) v (by simpa using hv); rwa [show 3 + (j + 1) = 4 + j by omega] at this
  have hS4 : ∀ Q o u, S Q → S (Q.setCell ⟨w.heap.size + 1, o, none⟩ u) := fun Q o u h => by rw [hSd] at h ⊢; exact fun j v hv => (World.cell?_setCell_other _ _ _ _ (by intro e; simp only [Addr.mk.injEq] at e; omega)).trans (h j v hv)
  have hZ0 : S W.drew := by rw [hSd]; exact fun j v hv => by have := HBM.out.box.2 (3 + j) v (by match j, hv with | 0, hv => exact hv | 1, hv => exact hv | 2, hv => exact hv | 3, hv => exact hv); simpa using this
  clear hSd
  refine wp_region_held_drew (S := S) (by kernel_rfl) hZ0 (fun hHeld => ?_)
  have hbz : Below w.heap.size w W.drew := bel_drew hb0
  have HZX : Hid (Blk W.drew (w.heap.size + 1) 54 [.int .i64 1, .int .i64 fr, .int .i64 tt, .int .i64 0, .int .i64 0, .int .i64 0, .slice none 0 0, .int .i64 0, .int .i64 0, .slice none 0 0, .slice none 0 0, .int .i64 0, .int .i64 0, .slice none 0 0, .slice none 0 0, .int .i64 0, .slice none 0 0, .slice none 0 0]) := Lib.hid (HBX.out.up (bel_drew (Below.refl _ _)))
  have HZM : Hid (Blk W.drew w.heap.size 54 [.int .i64 1, .int .i64 fr, .int .i64 tt, .int .i64 di, .int .i64 b.au, .int .i64 b.n, .slice bA bn bc, .int .i64 hd.au, .int .i64 hd.ro, .slice xA xn xc, .slice yA yn yc, .int .i64 cc.h.au, .int .i64 cc.h.ro, .slice cA cn cd, .slice dA dn dc, .int .i64 cc.di, .slice sA sn sc, .slice eA en ec]) := Lib.hid (HBM.out.up (bel_drew (Below.refl _ _)))
  generalize W.drew = Z at *
  clear hsz hb0 HBM HBX
  (refine wpAnyH_tk 0 (some 18) (v := ?_) rfl rfl ?_ ?_; rotate_left; (focus (intro wq hSw; clear hSw; go_simp; all_goals (with_reducible rfl))); simp only [Act.put, lzT, lzZ, lzS])
  (refine wpAnyH_tk 1 (some 19) (v := ?_) rfl rfl ?_ ?_; rotate_left; (focus (intro wq hSw; have q1 := hS1 wq hSw; clear hSw; go_simp; all_goals (with_reducible rfl))); simp only [Act.put, lzT, lzZ, lzS])
  (refine wpAnyH_tk 2 (some 20) (v := ?_) rfl rfl ?_ ?_; rotate_left; (focus (intro wq hSw; clear hSw; go_simp; all_goals (with_reducible rfl))); simp only [Act.put, lzT, lzZ, lzS])
  refine wpAnyH_takeD (i := 3) (d := (some 21)) (v := .agg ([.int .i64 b.au, .int .i64 b.n, .slice bA bn bc]).toArray) rfl rfl (by kernel_rfl) (by kernel_rfl) (by kernel_rfl) (fun _ _ _ h => h) (yieldsIf_load_mid (by rfl) 40 _ rfl w.heap.size 4 (by simp [Act.eval, Act.put]) ([.int .i64 b.au, .int .i64 b.n, .slice bA bn bc]) _ (hS2) Try.underlying40 (by rfl) (by kernel_rfl)) (by assumption) ?_
  simp only [Act.put, lzT, lzZ, lzS]
  (refine wpAnyH_tk 4 (some 22) (v := ?_) rfl rfl ?_ ?_; rotate_left; (focus (intro wq hSw; clear hSw; go_simp; all_goals (with_reducible rfl))); simp only [Act.put, lzT, lzZ, lzS])
  refine wpAnyH_ready (rs := [5]) (by kernel_rfl) (by simp) ?_
  refine AllReadyH.cons (o := _) rfl (fun K hK => ?_) AllReadyH.nil
  have qf := HZX.out.frozen 3
  have q3 := HZX.out.box.2 3 _ rfl
  have ql := HZX.out.lt
  go_simp
  clear qf q3 ql
  have HX0 := Lib.hid (HZX.out.set_ 3 (.int .i64 di))
  have HM0 := Lib.hid (HZM.out.far (p := ⟨w.heap.size + 1, 3, none⟩) (by show w.heap.size ≠ w.heap.size + 1; omega) (.int .i64 di))
  have hb0 := hbz.setCell (p := ⟨w.heap.size + 1, 3, none⟩) (by show _ ≤ w.heap.size + 1; omega) (.int .i64 di)
  have hs0 := hS4 _ 3 (.int .i64 di) hHeld
  refine hK.out _ _ (hs0) (fun hHeld => ?_)
  clear hK K
  (try simp only [Act.put, lzT, lzZ, lzS])
  (refine wpAnyH_tk 6 (some 23) (v := ?_) rfl rfl ?_ ?_; rotate_left; (focus (intro wq hSw; clear hSw; go_simp; all_goals (with_reducible rfl))); simp only [Act.put, lzT, lzZ, lzS])
  refine wpAnyH_ready (rs := [7]) (by kernel_rfl) (by simp) ?_
  refine AllReadyH.cons (o := _) rfl (fun K hK => ?_) AllReadyH.nil
  have ql := HX0.out.lt
  have qf4 := HX0.out.frozen 4
  have q4 := HX0.out.box.2 4 _ rfl
  have qf5 := HX0.out.frozen 5
  have q5 := HX0.out.box.2 5 _ rfl
  have qf6 := HX0.out.frozen 6
  have q6 := HX0.out.box.2 6 _ rfl
  go_simp
  clear ql qf4 q4 qf5 q5 qf6 q6
  have HX1 := Lib.hid ((((HX0.out).set_ 4 (.int .i64 b.au)).set_ 5 (.int .i64 b.n)).set_ 6 (.slice bA bn bc))
  have HM1 := Lib.hid ((((HM0.out).far (p := ⟨w.heap.size + 1, 4, none⟩) (by show w.heap.size ≠ w.heap.size + 1; omega) (.int .i64 b.au)).far (p := ⟨w.heap.size + 1, 5, none⟩) (by show w.heap.size ≠ w.heap.size + 1; omega) (.int .i64 b.n)).far (p := ⟨w.heap.size + 1, 6, none⟩) (by show w.heap.size ≠ w.heap.size + 1; omega) (.slice bA bn bc))
  have hb1 := (((hb0).setCell (p := ⟨w.heap.size + 1, 4, none⟩) (by show _ ≤ w.heap.size + 1; omega) (.int .i64 b.au)).setCell (p := ⟨w.heap.size + 1, 5, none⟩) (by show _ ≤ w.heap.size + 1; omega) (.int .i64 b.n)).setCell (p := ⟨w.heap.size + 1, 6, none⟩) (by show _ ≤ w.heap.size + 1; omega) (.slice bA bn bc)
  have hs1 := hS4 _ 6 (.slice bA bn bc) (hS4 _ 5 (.int .i64 b.n) (hS4 _ 4 (.int .i64 b.au) (hs0)))
  refine hK.out _ _ (hs1) (fun hHeld => ?_)
  clear hK K
  (try simp only [Act.put, lzT, lzZ, lzS])
  refine wpAnyH_done (by kernel_rfl) ?_ _
  have HVX : Hid (Blk _ (w.heap.size + 1) 54 [.int .i64 1, .int .i64 fr, .int .i64 tt, .int .i64 di, .int .i64 b.au, .int .i64 b.n, .slice bA bn bc, .int .i64 0, .int .i64 0, .slice none 0 0, .slice none 0 0, .int .i64 0, .int .i64 0, .slice none 0 0, .slice none 0 0, .int .i64 0, .slice none 0 0, .slice none 0 0]) := HX1
  have HVM := HM1
  have hb2 := hb1
  refine wp_world (fun V hV => ?_)
  rw [← hV] at HVX HVM hb2
  clear hHeld hV HZX HZM hbz hZ0 HX1 HM1 hb1 hs1 HX0 HM0 hb0 hs0
  have m3 := HVM.out.box.2 3 _ rfl
  have m4 := HVM.out.box.2 4 _ rfl
  have m5 := HVM.out.box.2 5 _ rfl
  have m6 := HVM.out.box.2 6 _ rfl
  cases yd
  · obtain rfl : y = false := by rw [HY.out]; rfl
    clear HY
    go_upto_region 21 with (go_at_call 49; (with_reducible refine (comm_Digest di false _ HDI.out).mono ?_); rintro e w' ⟨rfl, rfl⟩)
    rename_i K hK
    exact only_tail (w.heap.size + 1) (.int .i64 1) (.int .i64 fr) (.int .i64 tt) (.int .i64 di) (.int .i64 b.au) (.int .i64 b.n) (.slice bA bn bc) (.int .i64 0) (.int .i64 0) (.slice none 0 0) (.slice none 0 0) (.int .i64 0) (.int .i64 0) (.slice none 0 0) (.slice none 0 0) (.int .i64 0) (.slice none 0 0) (.slice none 0 0) false w _ (by intro u hu; simp only [List.mem_cons, List.not_mem_nil, or_false] at hu; rcases hu with rfl | rfl | rfl | rfl | rfl | rfl | rfl | rfl | rfl | rfl | rfl | rfl | rfl | rfl | rfl | rfl | rfl | rfl <;> rfl) hK (by omega) (hb2) (HVX.out)
  · cases yb
    · obtain rfl : y = false := by rw [HY.out]; rfl
      clear HY
      go_upto_region 21 with (first | (go_at_call 49; (with_reducible refine (comm_Digest di true _ HDI.out).mono ?_); rintro e w' ⟨rfl, rfl⟩) | (go_at_call 66; (with_reducible refine (batch_May b bA bn bc false _ (HD.out.up hb2) HBI.out).mono ?_); rintro e w7 ⟨rfl, hb7⟩; have m4 := (hb7.cell (p := ⟨w.heap.size, 4, none⟩) (HVM.out.lt)).trans m4))
      rename_i K hK
      exact only_tail (w.heap.size + 1) (.int .i64 1) (.int .i64 fr) (.int .i64 tt) (.int .i64 di) (.int .i64 b.au) (.int .i64 b.n) (.slice bA bn bc) (.int .i64 0) (.int .i64 0) (.slice none 0 0) (.slice none 0 0) (.int .i64 0) (.int .i64 0) (.slice none 0 0) (.slice none 0 0) (.int .i64 0) (.slice none 0 0) (.slice none 0 0) false w _ (by intro u hu; simp only [List.mem_cons, List.not_mem_nil, or_false] at hu; rcases hu with rfl | rfl | rfl | rfl | rfl | rfl | rfl | rfl | rfl | rfl | rfl | rfl | rfl | rfl | rfl | rfl | rfl | rfl <;> rfl) hK (by omega) (bel_trans hb2 hb7) (HVX.out.up hb7)
    · by_cases hau : b.au ≤ n
      · obtain rfl : y = true := by rw [HY.out]; simp [hau]
        have da : decide (b.au ≤ n) = true := decide_eq_true hau
        clear HY
        go_upto_region 21 with (first | (go_at_call 49; (with_reducible refine (comm_Digest di true _ HDI.out).mono ?_); rintro e w' ⟨rfl, rfl⟩) | (go_at_call 66; (with_reducible refine (batch_May b bA bn bc true _ (HD.out.up hb2) HBI.out).mono ?_); rintro e w7 ⟨rfl, hb7⟩; have m4 := (hb7.cell (p := ⟨w.heap.size, 4, none⟩) (HVM.out.lt)).trans m4))
        rename_i K hK
        exact only_tail (w.heap.size + 1) (.int .i64 1) (.int .i64 fr) (.int .i64 tt) (.int .i64 di) (.int .i64 b.au) (.int .i64 b.n) (.slice bA bn bc) (.int .i64 0) (.int .i64 0) (.slice none 0 0) (.slice none 0 0) (.int .i64 0) (.int .i64 0) (.slice none 0 0) (.slice none 0 0) (.int .i64 0) (.slice none 0 0) (.slice none 0 0) true w _ (by intro u hu; simp only [List.mem_cons, List.not_mem_nil, or_false] at hu; rcases hu with rfl | rfl | rfl | rfl | rfl | rfl | rfl | rfl | rfl | rfl | rfl | rfl | rfl | rfl | rfl | rfl | rfl | rfl <;> rfl) hK (by omega) (bel_trans hb2 hb7) (HVX.out.up hb7)
      · obtain rfl : y = false := by rw [HY.out]; simp [hau]
        have da : decide (b.au ≤ n) = false := decide_eq_false hau
        clear HY
        go_upto_region 21 with (first | (go_at_call 49; (with_reducible refine (comm_Digest di true _ HDI.out).mono ?_); rintro e w' ⟨rfl, rfl⟩) | (go_at_call 66; (with_reducible refine (batch_May b bA bn bc true _ (HD.out.up hb2) HBI.out).mono ?_); rintro e w7 ⟨rfl, hb7⟩; have m4 := (hb7.cell (p := ⟨w.heap.size, 4, none⟩) (HVM.out.lt)).trans m4))
        rename_i K hK
        exact only_tail (w.heap.size + 1) (.int .i64 1) (.int .i64 fr) (.int .i64 tt) (.int .i64 di) (.int .i64 b.au) (.int .i64 b.n) (.slice bA bn bc) (.int .i64 0) (.int .i64 0) (.slice none 0 0) (.slice none 0 0) (.int .i64 0) (.int .i64 0) (.slice none 0 0) (.slice none 0 0) (.int .i64 0) (.slice none 0 0) (.slice none 0 0) false w _ (by intro u hu; simp only [List.mem_cons, List.not_mem_nil, or_false] at hu; rcases hu with rfl | rfl | rfl | rfl | rfl | rfl | rfl | rfl | rfl | rfl | rfl | rfl | rfl | rfl | rfl | rfl | rfl | rfl <;> rfl) hK (by omega) (bel_trans hb2 hb7) (HVX.out.up hb7)

end Go.Proofs.Ytgfakefcmbpboaa
