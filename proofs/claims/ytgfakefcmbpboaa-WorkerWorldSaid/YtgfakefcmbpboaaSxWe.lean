/- Waits, held batches, workers: copies, sameness, at the reference. -/
import Derived.Test.YtgfakefcmbpboaaSxWb
namespace Go.Proofs.Ytgfakefcmbpboaa
open Go.RowKit
set_option linter.unusedSimpArgs false
set_option linter.unusedVariables false

theorem info_Held : (Try.prog.info? 70).map (fun i => (i.zero, i.size, i.bytes)) = some (some (.agg #[.int .i64 0, .int .i64 0, .int .i64 0, .slice none 0 0]), 4, 48) := by kernel_rfl
theorem run_app_Held (w : World) (B : Nat) (v : Value) (n : Nat) (xs : List Value) (hown : w.ownsRow B 70 4 v n xs) (vb off m c : Nat) (e : List Value) (hm : e.length = m * 4) (hv : ∀ j u, e[j]? = some u → w.cell? ⟨vb, off + j, none⟩ = some u) (h1e : ∀ u ∈ e, u.oneCell' = true) (hn : n + m ≤ 1000000000) (hB : B ≤ w.heap.size) :
    ∃ v' w', (Builtin.append_ #[24, 24] 24 #[v, .slice (some ⟨vb, off, none⟩) m c]).run Try.prog w = .ok v' w' ∧ w'.ownsRow B 70 4 v' (n + m) (xs ++ e) ∧ w.grownBy w' v.ownBlock ∧ Below B w w' ∧ (v'.ownBlock = v.ownBlock ∨ v'.ownBlock = some w.heap.size) := by
  obtain ⟨i0, hi, hz, hz1, hz2⟩ := info_parts info_Held
  obtain ⟨v', w', hrun, h2, h3, _, h5⟩ := run_append_own_at (P := Try.prog) w B 24 24 70 i0 _ 4 48 Try.underlying24 hi hz hz1 hz2 rfl (by omega) v n xs hown ⟨vb, off, none⟩ m c e hm
    (by intro j u hu; rw [Addr.add_lit]; exact hv j u hu) h1e (by simp only [maxLen]; omega) (by omega) hB
  exact ⟨v', w', hrun, h2, h3, ⟨h3.os, h3.tape, h3.output, h3.size, fun k hk => h3.block k (by omega) (fun e => by have := (own_lt hown k e.symm).1; omega)⟩, h5⟩
theorem info_Wait : (Try.prog.info? 84).map (fun i => (i.zero, i.size, i.bytes)) = some (some (.agg #[.int .i64 0, .slice none 0 0]), 2, 32) := by kernel_rfl
theorem run_app_Wait (w : World) (B : Nat) (v : Value) (n : Nat) (xs : List Value) (hown : w.ownsRow B 84 2 v n xs) (vb off m c : Nat) (e : List Value) (hm : e.length = m * 2) (hv : ∀ j u, e[j]? = some u → w.cell? ⟨vb, off + j, none⟩ = some u) (h1e : ∀ u ∈ e, u.oneCell' = true) (hn : n + m ≤ 1000000000) (hB : B ≤ w.heap.size) :
    ∃ v' w', (Builtin.append_ #[23, 23] 23 #[v, .slice (some ⟨vb, off, none⟩) m c]).run Try.prog w = .ok v' w' ∧ w'.ownsRow B 84 2 v' (n + m) (xs ++ e) ∧ w.grownBy w' v.ownBlock ∧ Below B w w' ∧ (v'.ownBlock = v.ownBlock ∨ v'.ownBlock = some w.heap.size) := by
  obtain ⟨i0, hi, hz, hz1, hz2⟩ := info_parts info_Wait
  obtain ⟨v', w', hrun, h2, h3, _, h5⟩ := run_append_own_at (P := Try.prog) w B 23 23 84 i0 _ 2 32 Try.underlying23 hi hz hz1 hz2 rfl (by omega) v n xs hown ⟨vb, off, none⟩ m c e hm
    (by intro j u hu; rw [Addr.add_lit]; exact hv j u hu) h1e (by simp only [maxLen]; omega) (by omega) hB
  exact ⟨v', w', hrun, h2, h3, ⟨h3.os, h3.tape, h3.output, h3.size, fun k hk => h3.block k (by omega) (fun e => by have := (own_lt hown k e.symm).1; omega)⟩, h5⟩
theorem OwnI.low {w : World} {B : Nat} {v : Value} {l : List Int} (h : OwnI w B v l) {b o : Nat} (hp : b < B) (u : Value) : OwnI (w.setCell ⟨b, o, none⟩ u) B v l := own_set3 h hp u
end Go.Proofs.Ytgfakefcmbpboaa
