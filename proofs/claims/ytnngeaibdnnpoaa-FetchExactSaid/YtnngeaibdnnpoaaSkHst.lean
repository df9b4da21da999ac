/- Fetch: step at a tick. -/
import Derived.Test.YtnngeaibdnnpoaaSkHz
namespace Go.Proofs.Ytnngeaibdnnpoaa
open Go.RowKit
set_option linter.unusedSimpArgs false
set_option linter.unusedVariables false

theorem RowM.keep {S : TypeId → Prop} {w w' : World} {B : Nat} {s : SlP} (h : RowM w B s) (hk : KeepS S w w') (hS : ¬ S 44) : RowM w' B s := by
  rcases h with h | ⟨g, cur, e, hb, hg, h1, h2, h3, h4⟩
  · exact .inl h
  · obtain ⟨c', k1, k2, k3⟩ := hk g cur _ hg
    exact .inr ⟨g, c', e, hb, k1, h1, h2, by omega, fun j hj => (h4 j hj).keep hk hg hS⟩
theorem RowT.mono {w : World} {B B' k : Nat} {t : TypeId} {s : SlP} (h : RowT w B t k s) (hB : B' ≤ B) : RowT w B' t k s := by
  rcases h with h | ⟨g, cur, h0, h1, h2⟩
  · exact .inl h
  · exact .inr ⟨g, cur, h0, by omega, h2⟩
theorem fMk_mil {k id tt : Int} {ds : List Int} (h : ds.length ≤ 1000000) : MilM (fMk k id tt ds) := ⟨by simp [fMk], by simp [fMk], by simp [fMk], by simp [fMk], by simp [fMk], by simp [fMk], h⟩
theorem fN_mil (id nodes : Int) (l : List FRowD) : ∀ s, ∀ x ∈ fN id nodes l s, MilM x
  | 0, x, h => by simp [fN] at h
  | s + 1, x, h => by
    rw [fN, List.mem_append] at h
    rcases h with h | h
    · exact fN_mil id nodes l s x h
    · simp only [fS, chM, List.mem_map, List.mem_range] at h
      obtain ⟨i, _, rfl⟩ := h
      exact fMk_mil (by simp; omega)
theorem fL_mil (id nodes : Int) (l : List FRowD) : ∀ x ∈ fL id nodes l, MilM x := by
  unfold fL
  split
  · exact fun x h => by simp at h
  · exact fN_mil id nodes l _
theorem fL_len (id nodes : Int) (l : List FRowD) (hl : l.length ≤ 64) (hn : nodes ≤ 16) : (fL id nodes l).length ≤ 1000000 := by
  unfold fL
  split
  · simp
  · have := fN_len id nodes l hl (2 * nodes.toNat); omega
theorem Blk.put3 {w : World} {g : Nat} {t : TypeId} {a b c : Value} (h : Blk w g t [a, b, c]) (x y z : Value) : Blk (((w.setCell ⟨g, 0, none⟩ x).setCell ⟨g, 1, none⟩ y).setCell ⟨g, 2, none⟩ z) g t [x, y, z] := ((h.set_ 0 x).set_ 1 y).set_ 2 z
theorem Blk.far3 {w : World} {g b : Nat} {t : TypeId} {cs : List Value} (h : Blk w g t cs) (hne : g ≠ b) (x y z : Value) : Blk (((w.setCell ⟨b, 0, none⟩ x).setCell ⟨b, 1, none⟩ y).setCell ⟨b, 2, none⟩ z) g t cs := ((h.far (p := ⟨b, 0, none⟩) hne x).far (p := ⟨b, 1, none⟩) hne y).far (p := ⟨b, 2, none⟩) hne z
end Go.Proofs.Ytnngeaibdnnpoaa
