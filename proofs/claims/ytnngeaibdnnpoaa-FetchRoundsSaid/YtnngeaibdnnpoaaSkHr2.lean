/- Fetch: wakes. -/
import Derived.Test.YtnngeaibdnnpoaaSkHr
namespace Go.Proofs.Ytnngeaibdnnpoaa
open Go.RowKit
set_option linter.unusedSimpArgs false
set_option linter.unusedVariables false

theorem want_7 : wantQ 8 [] [7] = ([⟨8, 7, 0, 0⟩], [⟨8, 7, 0, 0⟩]) := by
  have h : hereQ 8 7 [] = false := (dec_false (fun g => absurd g.1 (by simp))).symm
  show stepQ 8 ([], []) 7 = _
  unfold stepQ
  rw [if_neg (by rw [h]; simp)]
  rfl
theorem fL_7 : fL 1 4 [⟨8, 7, 0, 0⟩] = [fMk 8 1 2 [7]] := by rfl
theorem bet_7 : betS [7] 1 65536 = true := dec_iff.2 (fun j hj => by
  have : j = 0 := by simpa using hj
  subst this; exact ⟨by decide, by decide⟩)
theorem ints_one7 (w : World) (b : Nat) (hb : b = w.heap.size) : IntsR (w.alloc (.cells #[.int .i64 7] 3)) (some ⟨b, 0, none⟩) 1 [7] := ⟨rfl, by omega, fun _ => ⟨b, 0, rfl, by rw [hb]; simp, fun j hj => by
  obtain rfl : j = 0 := by omega
  subst hb
  exact cell0_alloc _ _ _⟩⟩
set_option maxRecDepth 100000 in
set_option maxHeartbeats 4000000 in
theorem law21_wakes (w : World) : Calls Try.prog 14 #[] w fun e w' => e = .returned (.bool true) ∧ Below w.heap.size w w' := by
  have hM := Lib.hid (mayF_new 1 4 (by decide) (by decide) (by decide))
  have hK : Hid (kdS 8 = true) := Lib.hid (by decide)
  have hS : Hid (isS 4 = true) := Lib.hid (by decide)
  have hD := Lib.hid bet_7
  go_enter Try.func14, Try.ntmps14
  go_wp2_with fail
  refine (fetch_New 1 4 _ hS.out (by omega) (by omega)).mono ?_
  rintro e w1 ⟨rfl, hb1⟩
  go_wp2_with fail
  refine (fetch_Want_ok 1 4 8 none 0 0 [] _ 1 1 [7] _ (by exact RowsR.nil _ _) (by exact ints_one7 _ _ (by simp)) hM.out hK.out hD.out (by omega)).mono ?_
  rintro e w2 ⟨vr, vl, rfl, hown, hm, hb2⟩
  rw [want_7] at hown hm
  rw [fL_7] at hm
  obtain ⟨rA, rc, rfl, hr⟩ := nmQ (l := [⟨8, 7, 0, 0⟩]) (n := 1) hown rfl (by omega)
  obtain ⟨mA, mc, rfl, hmr, -, -⟩ := hm.msgs ⟨by simp, fun x h => by simp at h; subst h; exact fBig (by simp)⟩
  obtain ⟨g, o, rfl, hg, hc⟩ := hmr.2.2 (by simp)
  obtain ⟨P, hP, hin⟩ := hc 0 (by simp)
  have c2 := hP 2 _ rfl
  have c17 := hP 17 _ rfl
  have hds : IntsR w2 P.ds.A P.ds.n [7] := hin.ds
  have HDS := Lib.hid hds
  clear hc hP hin hds hm hmr hown hr
  have hbw : Below w.heap.size w w2 := by (repeat (first | (with_reducible exact Below.refl _ _) | (with_reducible assumption) | (with_reducible apply bel_alloc) | (with_reducible apply bel_drew) | (with_reducible apply bel_drewN) | (with_reducible refine bel_trans ?_ (by with_reducible assumption)) | (with_reducible refine bel_trans ?_ (HF.out _)) | ((with_reducible refine bel_set3 ?_ ?_); rotate_left; omega)))
  go_wp2_with (first | (go_at_call 11; refine (law21_num _ _).mono ?_; rintro e w' ⟨rfl, rfl⟩) | (go_at_call 12; refine (ref0_EqNumbers_same _ _ _ [7] _ _ _ _ (HDS.out.up (by (repeat (first | (with_reducible exact Below.refl _ _) | (with_reducible assumption) | (with_reducible apply bel_alloc) | (with_reducible apply bel_drew) | (with_reducible apply bel_drewN) | (with_reducible refine bel_trans ?_ (by with_reducible assumption)) | (with_reducible refine bel_trans ?_ (HF.out _)) | ((with_reducible refine bel_set3 ?_ ?_); rotate_left; omega))))) (by exact ints_one7 _ _ (by simp))).mono ?_; rintro e w3 ⟨rfl, hb3⟩))
  go_ret
  exact ⟨rfl, by (repeat (first | (with_reducible exact Below.refl _ _) | (with_reducible assumption) | (with_reducible apply bel_alloc) | (with_reducible apply bel_drew) | (with_reducible apply bel_drewN) | (with_reducible refine bel_trans ?_ (by with_reducible assumption)) | (with_reducible refine bel_trans ?_ (HF.out _)) | ((with_reducible refine bel_set3 ?_ ?_); rotate_left; omega)))⟩
end Go.Proofs.Ytnngeaibdnnpoaa
