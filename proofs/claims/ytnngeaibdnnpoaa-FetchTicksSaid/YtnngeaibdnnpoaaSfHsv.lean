/- Fetch: the law FetchTicks. -/
import Derived.Test.YtnngeaibdnnpoaaSfHsu
namespace Go.Proofs.Ytnngeaibdnnpoaa
open Go.RowKit
set_option linter.unusedSimpArgs false
set_option linter.unusedVariables false

set_option maxRecDepth 100000 in
set_option maxHeartbeats 4000000 in
theorem law_FetchTicks (P : FScrP) (D : FScrD) (w : World) (h : FScrR w P D) :
    Calls Try.prog 6 #[P.val D] w fun e w' => e = .returned (.bool true) ∧ Below w.heap.size w w' := by
  have H := Lib.hid h
  clear h
  have hstep : ∀ (C : Option Addr) (m d : Nat) (a : FActD) (X : World), Below w.heap.size w X → LightF D → a.l.length ≤ 2000 → IntsR X C m a.l →
      Calls Try.prog 24 #[.agg #[.int .i64 D.f.id, .int .i64 D.f.nodes, .slice P.r.A P.r.n P.r.c], .agg #[.int .i64 4, .int .i64 a.k, .int .i64 a.g, .slice C m d]] X fun e w' => (∃ x0 x1 : Int, ∃ s : SlP, e = .returned (.tuple #[.agg #[.int .i64 x0, .int .i64 x1, .slice s.A s.n s.c], .bool true])) ∧ Below X.heap.size X w' := by
    intro C m d a X hX hL _ _
    have hr := H.out.r.up hX
    cases hM : mayF ⟨D.f.id, D.f.nodes, D.f.rows⟩ with
    | true => exact step4_ok _ _ _ _ _ _ _ _ C m d X hr hM
    | false => exact step4_bad _ _ _ _ _ _ _ _ C m d X hr (by have := hL.1; rw [← hr.1]; omega) hM
  show Calls Try.prog 6 #[.agg #[.int .i64 D.f.id, .int .i64 D.f.nodes, .slice P.r.A P.r.n P.r.c, .slice P.l.A P.l.n P.l.c]] w fun e w' => e = .returned (.bool true) ∧ Below w.heap.size w w'
  go_enter Try.func6, Try.ntmps6
  go_wp2_with fail
  have hbX : Below w.heap.size w (w.alloc (.cells #[.int .i64 D.f.id, .int .i64 D.f.nodes, .slice P.r.A P.r.n P.r.c, .slice P.l.A P.l.n P.l.c] 27)) := by (repeat (first | (with_reducible exact Below.refl _ _) | (with_reducible assumption) | (with_reducible apply bel_alloc) | (with_reducible apply bel_drew) | (with_reducible apply bel_drewN) | (with_reducible refine bel_trans ?_ (by with_reducible assumption)) | (with_reducible refine bel_trans ?_ (HF.out _)) | (with_reducible refine bel_set ?_ (by simp) _) | (with_reducible refine bel_set ?_ (by simp; omega) _) | (with_reducible refine bel_set ?_ (by omega) _)))
  refine (law21_only P D 4 _ (H.out.up hbX) (fun C m d a X hX hL ha hc => hstep C m d a X (bel_trans hbX hX) hL ha hc)).mono ?_
  rintro e w1 ⟨rfl, hb1⟩
  go_wp2_with fail
  go_ret
  exact ⟨rfl, bel_trans hbX hb1⟩
end Go.Proofs.Ytnngeaibdnnpoaa
