/- The law WorkerAdds. -/
import Derived.Test.YtgfakefcmbpboaaGreatWsh
import Derived.Test.YtgfakefcmbpboaaGreatWsi
import Derived.Test.YtgfakefcmbpboaaGreatWsj
namespace Go.Proofs.YtgfakefcmbpboaaGreat
open Go.RowKit
set_option linter.unusedSimpArgs false
set_option linter.unusedVariables false

theorem light_big {w : World} {P : JScrP} {D : JScrD} (h : JScrR w P D) (hL : LightJ P D) : BigD D.w :=
  ⟨by rw [h.wk.op.1]; have := hL.op; omega, ⟨by rw [h.wk.wa.1]; have := hL.wa; omega, fun x hx => by have := hL.ak x hx; omega⟩, ⟨by rw [h.wk.he.1]; have := hL.he; omega, fun x hx => by have := hL.hx x hx; omega⟩, by rw [h.wk.re.1]; have := hL.re; omega⟩
theorem light_sm {w : World} {P : JScrP} {D : JScrD} (h : JScrR w P D) (hL : LightJ P D) : D.w.wa.length ≤ 1000000 ∧ D.w.he.length ≤ 1000000 ∧ D.w.re.length ≤ 1000000 ∧ (∀ x ∈ D.w.wa, x.ak.length ≤ 1000000) ∧ (∀ x ∈ D.w.he, x.b.tx.length ≤ 1000000) :=
  ⟨by rw [h.wk.wa.1]; have := hL.wa; omega, by rw [h.wk.he.1]; have := hL.he; omega, by rw [h.wk.re.1]; have := hL.re; omega, fun x hx => by have := hL.ak x hx; omega, fun x hx => by have := hL.hx x hx; omega⟩
theorem step_do0 (P : WorkP) (D : WorkD) (MP : MsgP) (SP : SlP) (a : JobD) (w : World) (h : WorkR w P D) (hs : BigD D) (hdo : wiI a.doo 11 = 0) (hsm : D.wa.length ≤ 1000000 ∧ D.he.length ≤ 1000000 ∧ D.re.length ≤ 1000000 ∧ (∀ x ∈ D.wa, x.ak.length ≤ 1000000) ∧ (∀ x ∈ D.he, x.b.tx.length ≤ 1000000)) :
    Calls Tryz.prog 21 #[P.val D, J26 MP SP a] w fun e w' => (∃ P' D', e = .returned (.tuple #[WorkP.val P' D', .bool true])) ∧ Below w.heap.size w w' := by
  by_cases hE : addE D a.t = 0
  · have h1 : mayW D = true ∧ txS a.t = true := by
      unfold addE at hE
      split at hE
      · assumption
      · cases hE
    have h2 : D.op.length < 64 := by
      unfold addE at hE
      rw [if_pos h1] at hE
      split at hE
      · assumption
      · cases hE
    exact (step_do0_good P D MP SP a w h hs hdo h1.1 h1.2 h2 hsm).mono fun e w' ⟨P', D', h3, h4, h5⟩ => ⟨⟨P', D', h3⟩, h5⟩
  · exact (step_do0_bad P D MP SP a w h hs hdo hE).mono fun e w' ⟨P', D', h3, h4, h5⟩ => ⟨⟨P', D', h3⟩, h5⟩
set_option maxRecDepth 100000 in
set_option maxHeartbeats 2000000 in
theorem law_WorkerAdds (P : JScrP) (D : JScrD) (w : World) (h : JScrR w P D) :
    Calls Tryz.prog 3 #[P.val D] w fun e w' => e = .returned (.bool true) ∧ Below w.heap.size w w' := by
  have H := Lib.hid h
  clear h
  show Calls Tryz.prog 3 #[.agg #[.int .i64 D.w.id, .int .i64 D.w.nodes, .int .i64 D.w.next, .slice P.w.op.A P.w.op.n P.w.op.c, .int .i64 D.w.age, .int .i64 D.w.clock, .slice P.w.wa.A P.w.wa.n P.w.wa.c, .slice P.w.he.A P.w.he.n P.w.he.c, .slice P.w.re.A P.w.re.n P.w.re.c, .slice P.l.A P.l.n P.l.c]] w _
  go_enter Tryz.func3, Tryz.ntmps3
  go_wp2_with fail
  have hbX : Below w.heap.size w (w.alloc (.cells #[.int .i64 D.w.id, .int .i64 D.w.nodes, .int .i64 D.w.next, .slice P.w.op.A P.w.op.n P.w.op.c, .int .i64 D.w.age, .int .i64 D.w.clock, .slice P.w.wa.A P.w.wa.n P.w.wa.c, .slice P.w.he.A P.w.he.n P.w.he.c, .slice P.w.re.A P.w.re.n P.w.re.c, .slice P.l.A P.l.n P.l.c] 30)) := by (repeat (first | (with_reducible exact Below.refl _ _) | (with_reducible assumption) | (with_reducible apply bel_alloc) | (with_reducible apply bel_drew) | (with_reducible apply bel_drewN) | (with_reducible refine bel_trans ?_ (by with_reducible assumption)) | (with_reducible refine bel_trans ?_ (HF.out _)) | (with_reducible refine bel_set ?_ (by simp) _) | (with_reducible refine bel_set ?_ (by simp; omega) _) | (with_reducible refine bel_set ?_ (by omega) _)))
  refine (law13_only P D 0 _ (H.out.up hbX) (fun MP SP a X hX hL ham hM hI => step_do0 P.w D.w MP SP { a with doo := 0 } X ((H.out.wk.up hbX).up hX) (light_big H.out hL) (show wiI 0 11 = 0 by decide) (light_sm H.out hL))).mono ?_
  rintro e w1 ⟨rfl, hb1⟩
  go_wp2_with fail
  go_ret
  exact ⟨rfl, bel_trans hbX hb1⟩
end Go.Proofs.YtgfakefcmbpboaaGreat
