/- Arguments opened: rows of flat elements, votes, floats, askings of droverlaw19. -/
import Derived.Test.YtgljmljmljccgaaYc
import Derived.ProofKit
import Derived.OpenShut
import Derived.ChangeSlices
import Derived.ChangeOld
import Derived.Below
import Derived.Deep.Slices
namespace Go.Proofs.Ytgljmljmljccgaa
open Go.RowKit Go.ChangeShapes Go.WideShapes Go.ChangeAt
set_option linter.unusedSimpArgs false
set_option linter.unusedVariables false

theorem list2 {α : Type} {l : List α} (h : l.length = 2) : ∃ a0 a1, l = [a0, a1] := by
  match l, h with
  | [a0, a1], _ => exact ⟨a0, a1, rfl⟩
theorem list3 {α : Type} {l : List α} (h : l.length = 3) : ∃ a0 a1 a2, l = [a0, a1, a2] := by
  match l, h with
  | [a0, a1, a2], _ => exact ⟨a0, a1, a2, rfl⟩
theorem list4 {α : Type} {l : List α} (h : l.length = 4) : ∃ a0 a1 a2 a3, l = [a0, a1, a2, a3] := by
  match l, h with
  | [a0, a1, a2, a3], _ => exact ⟨a0, a1, a2, a3, rfl⟩
theorem list5 {α : Type} {l : List α} (h : l.length = 5) : ∃ a0 a1 a2 a3 a4, l = [a0, a1, a2, a3, a4] := by
  match l, h with
  | [a0, a1, a2, a3, a4], _ => exact ⟨a0, a1, a2, a3, a4, rfl⟩
section
variable {H : Type} {enc : TypeId × Value → H} {w : World} {base : Nat} {spare : Nat → Bool} {held : Bool}
theorem open_IntsR {fuel : Nat} {cs : List Value} {x : DataW H × List MemPlace} (h : DataW.trod enc Try.prog w base spare held fuel 66 cs = some x) : ∃ A n c l, cs = [.slice A n c] ∧ IntsR w A n l := by
  rcases open_ints Try.underlying66 Try.underlying3 (by kernel_rfl) h with ⟨hcs, _⟩ | ⟨a, n, c, zs, hcs, _, hl, hm, hz, _, hcell, hwz⟩
  · exact ⟨none, 0, 0, [], hcs, ⟨rfl, by omega, fun h => absurd h (by omega)⟩⟩
  · have hlen : n ≤ zs.length := by rw [hz]; split <;> omega
    refine ⟨some a, n, c, zs.take n, hcs, by simp; omega, by have : c ≤ 9223372036854775807 := hm; omega, fun hn => ?_⟩
    obtain ⟨b, off, spot⟩ := a
    have hc0 := hcell 0 (by omega)
    have hspot : spot = none := by simpa [Addr.add] using World.cell?_spot hc0
    subst hspot
    refine ⟨b, off, rfl, by simpa [Addr.add] using World.block_lt_of_cell? w _ hc0, fun j hj => ?_⟩
    have := hcell j (by omega)
    by_cases h0 : j = 0
    · subst h0
      simpa [Addr.add, nth, hj, show 0 < zs.length by omega] using this
    · simpa [Addr.add, nth, h0, hj, show j < zs.length by omega] using this
theorem open_Int {fuel : Nat} {cs : List Value} {x : DataW H × List MemPlace} (h : DataW.trod enc Try.prog w base spare held fuel 3 cs = some x) : ∃ z, cs = [.int .i64 z] := by
  obtain ⟨z, hz, _⟩ := DataW.trod_int Try.underlying3 h
  exact ⟨z, hz⟩
theorem trod_float {P : Program} {k : FloatKind} {t : TypeId} {fuel : Nat} {cs : List Value} {x : DataW H × List MemPlace} (ht : P.underlying t = some (.float k)) (h : DataW.trod enc P w base spare held fuel t cs = some x) : ∃ n, cs = [.float k n] := by
  cases fuel with
  | zero => simp [DataW.trod] at h
  | succ n =>
    unfold DataW.trod at h
    rw [ht] at h
    split at h <;> simp_all
set_option maxRecDepth 20000 in
/-- A slice of flat elements, opened. -/
theorem open_flat {α : Type} [Inhabited α] {e : α → List Value} {k : Nat} {t te : TypeId} (hk : ∀ x, (e x).length = k) (hk0 : 0 < k) (ht : Try.prog.underlying t = some (.slice te)) (hc : Try.prog.cellsOf te = k)
    (hopen : ∀ (fuel : Nat) (cs : List Value) (x : DataW H × List MemPlace), DataW.trod enc Try.prog w base spare held fuel te cs = some x → ∃ v, cs = e v)
    {fuel : Nat} {cs : List Value} {x : DataW H × List MemPlace} (h : DataW.trod enc Try.prog w base spare held fuel t cs = some x) : ∃ A n c l, cs = [.slice A n c] ∧ l.length = n ∧ RowV w A n k (flat e l) ∧ n ≤ c ∧ c ≤ 9223372036854775807 := by
  rcases Deep.open_slice ht h with ⟨hcs, _⟩ | ⟨a, len, cap, m, n, D, Pl, hcs, _, hl, hm, hmm, _, hx⟩
  · exact ⟨none, 0, 0, [], hcs, rfl, ⟨by simp [flat], by omega, fun h => absurd h (by omega)⟩, by omega, by omega⟩
  · have hlen : len ≤ m := by rw [hmm]; split <;> omega
    have hcell : ∀ i, i < len → ∃ v : α, ∀ j u, (e v)[j]? = some u → w.cell? (a.add (i * k + j)) = some u := by
      intro i hi
      obtain ⟨cs', h1, h2⟩ := hx i (by omega)
      rw [hc] at h1
      obtain ⟨v, rfl⟩ := hopen _ _ _ h2
      refine ⟨v, fun j u hj => ?_⟩
      obtain ⟨_, _, hat⟩ := World.cells?_some h1
      have hjk : j < k := by
        have := (List.getElem?_eq_some_iff.1 hj).1
        rw [hk] at this; exact this
      have := hat j hjk
      rw [Deep.add_add] at this
      rw [this]; exact hj
    obtain ⟨f, hf⟩ := Deep.choose_lt (α := α) hcell
    have hg : ∀ i, i < len → ((List.range len).map f).getD i default = f i := fun i hi => by simp [hi]
    refine ⟨some a, len, cap, (List.range len).map f, hcs, by simp, ⟨by rw [flat_len hk]; simp, by have : cap ≤ 9223372036854775807 := hm; omega, fun hn => ?_⟩, hl, hm⟩
    obtain ⟨b, off, spot⟩ := a
    have h0 := hf 0 hn
    obtain ⟨u0, hu0⟩ : ∃ u, (e (f 0))[0]? = some u := by
      have : 0 < (e (f 0)).length := by rw [hk]; exact hk0
      exact ⟨_, List.getElem?_eq_getElem this⟩
    have hc0 := h0 0 u0 hu0
    have hspot : spot = none := by simpa [Addr.add] using World.cell?_spot hc0
    subst hspot
    refine ⟨b, off, rfl, by simpa [Addr.add] using World.block_lt_of_cell? w _ hc0, fun j u hj => ?_⟩
    have hjl : j < len * k := by
      have := (List.getElem?_eq_some_iff.1 hj).1
      rw [flat_len hk] at this; simpa using this
    have hq : j / k < len := by rw [Nat.div_lt_iff_lt_mul hk0]; exact hjl
    have hr : j % k < k := Nat.mod_lt _ hk0
    have hjj : j = j / k * k + j % k := by rw [Nat.mul_comm]; exact (Nat.div_add_mod j k).symm
    have h1 := flat_at hk ((List.range len).map f) (j / k) (j % k) (by simpa using hq) hr
    rw [← hjj, hg _ hq, hj] at h1
    have h2 := hf (j / k) hq (j % k) u h1.symm
    rw [← hjj] at h2
    rw [← h2]
    congr 1
    by_cases hz : j = 0
    · subst hz; rfl
    · simp [Addr.add, hz]
theorem cells_int : Try.prog.cellsOf 3 = 1 := by kernel_rfl
theorem cells_ints : Try.prog.cellsOf 66 = 1 := by kernel_rfl
def encF (p : Nat × Nat) : List Value := [.float .f64 p.1, .float .f64 p.2]
theorem encF_len (p : Nat × Nat) : (encF p).length = 2 := rfl
def FloatsR (w : World) (A : Option Addr) (n : Nat) (l : List (Nat × Nat)) : Prop := l.length = n ∧ RowV w A n 2 (flat encF l)
theorem FloatsR.up {w w' : World} {A n l} (h : FloatsR w A n l) (hb : Below w.heap.size w w') : FloatsR w' A n l := ⟨h.1, h.2.up hb⟩
def fth (l : List (Nat × Nat)) (i : Nat) : Nat × Nat := l.getD i default
theorem FloatsR.at {w : World} {A n l} (h : FloatsR w A n l) (hn : 0 < n) : ∃ b off, A = some ⟨b, off, none⟩ ∧ b < w.heap.size ∧ ∀ j, j < n → w.cell? ⟨b, off + j * 2, none⟩ = some (.float .f64 (fth l j).1) ∧ w.cell? ⟨b, off + j * 2 + 1, none⟩ = some (.float .f64 (fth l j).2) := by
  obtain ⟨b, off, e, hb, hc⟩ := h.2.2.2 hn
  refine ⟨b, off, e, hb, fun j hj => ?_⟩
  have hat : ∀ r u, r < 2 → (encF (fth l j))[r]? = some u → w.cell? ⟨b, off + j * 2 + r, none⟩ = some u := fun r u hr hu => by
    rw [Nat.add_assoc]
    exact hc _ u (by rw [flat_at encF_len l j r (by rw [h.1]; exact hj) hr]; exact hu)
  exact ⟨hat 0 _ (by omega) rfl, hat 1 _ (by omega) rfl⟩
end
end Go.Proofs.Ytgljmljmljccgaa
