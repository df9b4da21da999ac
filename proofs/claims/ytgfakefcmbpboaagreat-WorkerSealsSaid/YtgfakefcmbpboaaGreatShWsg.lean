/- droverlaw13.step where a transaction is added. -/
import Derived.Test.YtgfakefcmbpboaaGreatShWsf
namespace Go.Proofs.YtgfakefcmbpboaaGreat
open Go.RowKit
set_option linter.unusedSimpArgs false
set_option linter.unusedVariables false

def zeroWD : WorkD := ⟨0, 0, 0, [], 0, 0, [], [], []⟩
theorem zeroW_R (w : World) : WorkR w nilP zeroWD :=
  ⟨⟨rfl, by simp [flat, zeroWD, nilP], by show 0 ≤ _; omega, fun h => absurd h (by show ¬ 0 < 0; omega)⟩, ⟨rfl, by show 0 ≤ _; omega, fun h => absurd h (by show ¬ 0 < 0; omega)⟩, ⟨rfl, by show 0 ≤ _; omega, fun h => absurd h (by show ¬ 0 < 0; omega)⟩, ⟨rfl, by show 0 ≤ _; omega, fun h => absurd h (by show ¬ 0 < 0; omega)⟩, Nat.le_refl _, by show 0 ≤ _; omega, Nat.le_refl _⟩
theorem zeroW_O (w : World) (B : Nat) : WorkO w B nilP zeroWD := ⟨OwnX.nil _ _, OwnWs.nil _ _, OwnHs.nil _ _, OwnI.nil _ _⟩
theorem zeroW_big : BigD zeroWD := ⟨by decide, ⟨by decide, fun x h => by simp [zeroWD] at h⟩, ⟨by decide, fun x h => by simp [zeroWD] at h⟩, by decide⟩
theorem tk_belB {T : TypeId} {a b c : World} (h : TKeep T a b) (k : Below a.heap.size b c) : TKeep T a c := fun q cur t ht hq => (k.block q (Array.getElem?_eq_some_iff.1 hq).1).trans (h q cur t ht hq)
set_option maxRecDepth 100000 in
theorem law0_Messages0 (w : World) : Calls Tryz.prog 53 #[.slice none 0 0] w fun e w' => e = .returned (.tuple #[]) ∧ Below w.heap.size w w' := by
  go_enter Tryz.func53, Tryz.ntmps53
  go_wp2_with fail
  go_loop [2] (fun i => i = .int .i64 0) (fun _ => 0)
  case atStart => rfl
  case round =>
    obtain rfl := hrel
    go_wp2_with (at_builtin; refine wpList_appM rfl (.tmp 38) (.tmp 40) rfl rfl w.heap.size _ [] [] rfl (OwnT.nil _ _) w.heap.size ⟨0, 0, 0, 0, ⟨0, 0, []⟩, ⟨0, 0, [], []⟩, ⟨⟨0, 0, [], []⟩, 0, []⟩, []⟩ ⟨⟨none, 0, 0⟩, ⟨⟨none, 0, 0⟩, ⟨none, 0, 0⟩⟩, ⟨⟨⟨none, 0, 0⟩, ⟨none, 0, 0⟩⟩, ⟨none, 0, 0⟩⟩, ⟨none, 0, 0⟩⟩ rfl (BoxR.new w (msgCells ⟨⟨none, 0, 0⟩, ⟨⟨none, 0, 0⟩, ⟨none, 0, 0⟩⟩, ⟨⟨⟨none, 0, 0⟩, ⟨none, 0, 0⟩⟩, ⟨none, 0, 0⟩⟩, ⟨none, 0, 0⟩⟩ ⟨0, 0, 0, 0, ⟨0, 0, []⟩, ⟨0, 0, [], []⟩, ⟨⟨0, 0, [], []⟩, 0, []⟩, []⟩) 49) ⟨OwnX.nil _ _, OwnI.nil _ _, OwnI.nil _ _, OwnI.nil _ _, OwnI.nil _ _, OwnI.nil _ _, OwnI.nil _ _⟩ (by simp) (le_alloc (Nat.le_refl _)) ?_; intro v1 w1 hown1 hg1 hbel1)
    go_end0
    exact ⟨rfl, Below.trans ((Below.refl _ _).alloc (Nat.le_refl _) _) hbel1⟩
theorem OwnHs.tkR {w w' : World} {B : Nat} {v : Value} {l : List HeldD} (h : OwnHs w B v l) (hk : TKeep 70 w w') : OwnHs w' B v l := by
  obtain ⟨ps, h1, h2, h3⟩ := h
  exact ⟨ps, own_tk h1 hk (by decide), h2, fun j hj => own_tk (h3 j hj) hk (by decide)⟩
theorem blk_grownT {w w' : World} {B g k n : Nat} {t t' : TypeId} {v : Value} {cs xs : List Value} (h : Blk w g t cs) (hv : w.ownsRow B t' k v n xs) (hne : t ≠ t') (hg : w.grownBy w' v.ownBlock) : Blk w' g t cs := h.of_heap (hg.block g h.lt (fun e => by
  obtain ⟨_, c2, e2⟩ := own_typeB hv g e.symm
  have hb' : w.heap[g]? = some (.cells cs.toArray t (0, 0)) := h
  rw [hb'] at e2
  injection e2 with e2
  injection e2 with _ e3 _
  exact hne e3))
end Go.Proofs.YtgfakefcmbpboaaGreat
