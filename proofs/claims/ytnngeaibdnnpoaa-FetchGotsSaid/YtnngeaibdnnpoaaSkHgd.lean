/- Fetch: the law FetchGots. -/
import Derived.Test.YtnngeaibdnnpoaaSkHsa
namespace Go.Proofs.Ytnngeaibdnnpoaa
open Go.RowKit
set_option linter.unusedSimpArgs false
set_option linter.unusedVariables false

set_option maxRecDepth 100000 in
set_option maxHeartbeats 4000000 in
theorem law_FetchGots (P : FScrP) (D : FScrD) (w : World) (h : FScrR w P D) :
    Calls Try.prog 5 #[P.val D] w fun e w' => e = .returned (.bool true) ∧ Below w.heap.size w w' := by
  have H := Lib.hid h
  clear h
  have hstep : ∀ (C : Option Addr) (m d : Nat) (a : FActD) (X : World), Below w.heap.size w X → LightF D → a.l.length ≤ 2000 → IntsR X C m a.l →
      Calls Try.prog 24 #[.agg #[.int .i64 D.f.id, .int .i64 D.f.nodes, .slice P.r.A P.r.n P.r.c], .agg #[.int .i64 3, .int .i64 a.k, .int .i64 a.g, .slice C m d]] X fun e w' => (∃ x0 x1 : Int, ∃ s : SlP, e = .returned (.tuple #[.agg #[.int .i64 x0, .int .i64 x1, .slice s.A s.n s.c], .bool true])) ∧ Below X.heap.size X w' := by
    intro C m d a X hX hL hal hC
    have hr := H.out.r.up hX
    have hout : ∀ {e : Ending} {w' : World}, StepR w' e ∧ Below X.heap.size X w' → (∃ x0 x1 : Int, ∃ s : SlP, e = .returned (.tuple #[.agg #[.int .i64 x0, .int .i64 x1, .slice s.A s.n s.c], .bool true])) ∧ Below X.heap.size X w' := fun ⟨⟨x0, x1, s, _, e, _⟩, hb⟩ => ⟨⟨x0, x1, s, e⟩, hb⟩
    have hn : P.r.n ≤ 1000000 := by have h9 := hL.1; rw [← hr.1]; omega
    have hd : wiI 3 6 = 3 := by decide
    cases hM : mayF ⟨D.f.id, D.f.nodes, D.f.rows⟩ with
    | false => exact (stepG_bad _ _ _ _ _ _ 3 _ _ C m d X hr hM hd hn).mono fun _ _ h => hout h
    | true =>
      cases hy : hereQ a.k a.g D.f.rows with
      | false => exact (stepG_none _ _ _ _ _ _ 3 _ _ C m d X hr hM hd hy).mono fun _ _ h => hout h
      | true => exact (stepG_ok _ _ _ _ _ _ 3 _ _ C m d X hr hM hd hy).mono fun _ _ h => hout h
  show Calls Try.prog 5 #[.agg #[.int .i64 D.f.id, .int .i64 D.f.nodes, .slice P.r.A P.r.n P.r.c, .slice P.l.A P.l.n P.l.c]] w fun e w' => e = .returned (.bool true) ∧ Below w.heap.size w w'
  go_enter Try.func5, Try.ntmps5
  go_wp2_with fail
  have hbX : Below w.heap.size w (w.alloc (.cells #[.int .i64 D.f.id, .int .i64 D.f.nodes, .slice P.r.A P.r.n P.r.c, .slice P.l.A P.l.n P.l.c] 27)) := by (repeat (first | (with_reducible exact Below.refl _ _) | (with_reducible assumption) | (with_reducible apply bel_alloc) | (with_reducible apply bel_drew) | (with_reducible apply bel_drewN) | (with_reducible refine bel_trans ?_ (by with_reducible assumption)) | (with_reducible refine bel_trans ?_ (HF.out _)) | (with_reducible refine bel_set ?_ (by simp) _) | (with_reducible refine bel_set ?_ (by simp; omega) _) | (with_reducible refine bel_set ?_ (by omega) _)))
  refine (law21_only P D 3 _ (H.out.up hbX) (fun C m d a X hX hL ha hc => hstep C m d a X (bel_trans hbX hX) hL ha hc)).mono ?_
  rintro e w1 ⟨rfl, hb1⟩
  go_wp2_with fail
  go_ret
  exact ⟨rfl, bel_trans hbX hb1⟩
end Go.Proofs.Ytnngeaibdnnpoaa
