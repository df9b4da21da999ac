/- The law WorkerMakes. -/
import Derived.Test.YtgfakefcmbpboaaGreatWsl
import Derived.Test.YtgfakefcmbpboaaGreatWsj
namespace Go.Proofs.YtgfakefcmbpboaaGreat
open Go.RowKit
set_option linter.unusedSimpArgs false
set_option linter.unusedVariables false

theorem light_big2 {w : World} {P : JScrP} {D : JScrD} (h : JScrR w P D) (hL : LightJ P D) : BigD D.w :=
  ⟨by rw [h.wk.op.1]; have := hL.op; omega, ⟨by rw [h.wk.wa.1]; have := hL.wa; omega, fun x hx => by have := hL.ak x hx; omega⟩, ⟨by rw [h.wk.he.1]; have := hL.he; omega, fun x hx => by have := hL.hx x hx; omega⟩, by rw [h.wk.re.1]; have := hL.re; omega⟩
theorem light_on {w : World} {P : JScrP} {D : JScrD} (h : JScrR w P D) (hL : LightJ P D) : D.w.op.length ≤ 800000000 := by rw [h.wk.op.1]; have := hL.op; omega
set_option maxRecDepth 100000 in
set_option maxHeartbeats 2000000 in
theorem law_WorkerMakes (P : JScrP) (D : JScrD) (w : World) (h : JScrR w P D) :
    Calls Tryz.prog 4 #[P.val D] w fun e w' => e = .returned (.bool true) ∧ Below w.heap.size w w' := by
  have H := Lib.hid h
  clear h
  show Calls Tryz.prog 4 #[.agg #[.int .i64 D.w.id, .int .i64 D.w.nodes, .int .i64 D.w.next, .slice P.w.op.A P.w.op.n P.w.op.c, .int .i64 D.w.age, .int .i64 D.w.clock, .slice P.w.wa.A P.w.wa.n P.w.wa.c, .slice P.w.he.A P.w.he.n P.w.he.c, .slice P.w.re.A P.w.re.n P.w.re.c, .slice P.l.A P.l.n P.l.c]] w _
  go_enter Tryz.func4, Tryz.ntmps4
  go_wp2_with fail
  have hbX : Below w.heap.size w (w.alloc (.cells #[.int .i64 D.w.id, .int .i64 D.w.nodes, .int .i64 D.w.next, .slice P.w.op.A P.w.op.n P.w.op.c, .int .i64 D.w.age, .int .i64 D.w.clock, .slice P.w.wa.A P.w.wa.n P.w.wa.c, .slice P.w.he.A P.w.he.n P.w.he.c, .slice P.w.re.A P.w.re.n P.w.re.c, .slice P.l.A P.l.n P.l.c] 30)) := by (repeat (first | (with_reducible exact Below.refl _ _) | (with_reducible assumption) | (with_reducible apply bel_alloc) | (with_reducible apply bel_drew) | (with_reducible apply bel_drewN) | (with_reducible refine bel_trans ?_ (by with_reducible assumption)) | (with_reducible refine bel_trans ?_ (HF.out _)) | (with_reducible refine bel_set ?_ (by simp) _) | (with_reducible refine bel_set ?_ (by simp; omega) _) | (with_reducible refine bel_set ?_ (by omega) _)))
  refine (law13_only P D 2 _ (H.out.up hbX) (fun MP SP a X hX hL ham hM hI => step_do2 P.w D.w MP SP { a with doo := 2 } X ((H.out.wk.up hbX).up hX) (light_big2 H.out hL) (show wiI 2 11 = 2 by decide) (light_on H.out hL))).mono ?_
  rintro e w1 ⟨rfl, hb1⟩
  go_wp2_with fail
  go_ret
  exact ⟨rfl, bel_trans hbX hb1⟩
end Go.Proofs.YtgfakefcmbpboaaGreat
