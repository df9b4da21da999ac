/- droverlaw22: wakes; the law TableGets. -/
import Derived.Test.YtgljmljmljccgaaNq
import Derived.Test.YtgljmljmljccgaaNs
import Derived.Test.YtgljmljmljccgaaNv
namespace Go.Proofs.Ytgljmljmljccgaa
open Go.RowKit
set_option linter.unusedSimpArgs false
set_option linter.unusedVariables false

theorem PairsR.nil0 (w : World) : PairsR w none 0 [] := ⟨rfl, by simp [flat], by omega, fun h => absurd h (by omega)⟩
theorem AcctsR.nil0 (w : World) : AcctsR w none 0 [] := ⟨rfl, by simp [flat], by omega, fun h => absurd h (by omega)⟩
set_option maxRecDepth 100000 in
set_option maxHeartbeats 2000000 in
theorem law22_wakes (w : World) : Calls Try.prog 19 #[] w fun e w' => e = .returned (.bool true) ∧ Below w.heap.size w w' := by
  go_enter Try.func19, Try.ntmps19
  go_wp2_with fail
  refine (table_Apply_ok none 0 0 [] none 0 0 [] wkX w (PairsR.nil0 _) (AcctsR.nil0 _) MayT.nil).mono ?_
  rintro e w1 ⟨vp, va, rfl, hp, ha, _, hb1⟩
  obtain ⟨A1, c1, rfl, hpr, _⟩ := hp.pairs (by have := wk_len22.1; omega)
  obtain ⟨A2, c2, rfl, har, _⟩ := ha.accts (by have := wk_len22.2; omega)
  have HPR := Lib.hid hpr
  have HAR := Lib.hid har
  obtain ⟨n1, hn1⟩ : ∃ n1, (doP [] [] wkX).length = n1 := ⟨_, rfl⟩
  obtain ⟨n2, hn2⟩ : ∃ n2, (doA [] [] wkX).length = n2 := ⟨_, rfl⟩
  rw [hn1] at HPR ⊢
  rw [hn2] at HAR ⊢
  rw [wk_ok22]
  clear hp ha hpr har hn1 hn2
  go_wp2_with fail
  refine (table_Get A1 n1 c1 (doP [] [] wkX) A2 n2 c2 (doA [] [] wkX) wkX.k wkX.v 0 _ (HPR.out.up (by (repeat (first | (with_reducible exact Below.refl _ _) | (with_reducible assumption) | (with_reducible apply bel_alloc) | (with_reducible apply bel_drew) | (with_reducible apply bel_drewN) | (with_reducible refine bel_trans ?_ (by with_reducible assumption)) | (with_reducible refine bel_trans ?_ (HF.out _)) | ((with_reducible refine bel_set3 ?_ ?_); rotate_left; omega))))) (HAR.out.up (by (repeat (first | (with_reducible exact Below.refl _ _) | (with_reducible assumption) | (with_reducible apply bel_alloc) | (with_reducible apply bel_drew) | (with_reducible apply bel_drewN) | (with_reducible refine bel_trans ?_ (by with_reducible assumption)) | (with_reducible refine bel_trans ?_ (HF.out _)) | ((with_reducible refine bel_set3 ?_ ?_); rotate_left; omega))))) wk_get22.1 wk_get22.2).mono ?_
  rintro e w2 ⟨rfl, hb2⟩
  go_wp2_with (go_at_call 18; refine (law22_num _ _).mono ?_; rintro e w' ⟨rfl, rfl⟩)
  go_ret
  exact ⟨ret_bool (by show (wkX.v.toList == [118]) = true; rw [ByteArray.toList_eq]; rfl), by (repeat (first | (with_reducible exact Below.refl _ _) | (with_reducible assumption) | (with_reducible apply bel_alloc) | (with_reducible apply bel_drew) | (with_reducible apply bel_drewN) | (with_reducible refine bel_trans ?_ (by with_reducible assumption)) | (with_reducible refine bel_trans ?_ (HF.out _)) | ((with_reducible refine bel_set3 ?_ ?_); rotate_left; omega)))⟩
end Go.Proofs.Ytgljmljmljccgaa
