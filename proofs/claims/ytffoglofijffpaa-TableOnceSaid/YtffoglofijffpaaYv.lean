/- Arguments opened: rows of flat elements, votes, floats, askings of droverlaw19. -/
import Derived.Test.YtffoglofijffpaaYc
import Derived.ProofKit
import Derived.OpenShut
import Derived.ChangeSlices
import Derived.ChangeOld
import Derived.Below
import Derived.Deep.Slices
namespace Go.Proofs.Ytffoglofijffpaa
open Go.RowKit Go.ChangeShapes Go.WideShapes Go.ChangeAt
set_option linter.unusedSimpArgs false
set_option linter.unusedVariables false

theorem list2 {α : Type} {l : List α} (h : l.length = 2) : ∃ a0 a1, l = [a0, a1] := by
  match l, h with
  | [a0, a1], _ => exact ⟨a0, a1, rfl⟩
theorem list3 {α : Type} {l : List α} (h : l.length = 3) : ∃ a0 a1 a2, l = [a0, a1, a2] := by
  match l, h with
  | [a0, a1, a2], _ => exact ⟨a0, a1, a2, rfl⟩
theorem list4 {α : Type} {l : List α} (h : l.length = 4) : ∃ a0 a1 a2 a3, l = [a0, a1, a2, a3] := by
  match l, h with
  | [a0, a1, a2, a3], _ => exact ⟨a0, a1, a2, a3, rfl⟩
theorem list5 {α : Type} {l : List α} (h : l.length = 5) : ∃ a0 a1 a2 a3 a4, l = [a0, a1, a2, a3, a4] := by
  match l, h with
  | [a0, a1, a2, a3, a4], _ => exact ⟨a0, a1, a2, a3, a4, rfl⟩
section
variable {H : Type} {enc : TypeId × Value → H} {w : World} {base : Nat} {spare : Nat → Bool} {held : Bool}
theorem open_IntsR {fuel : Nat} {cs : List Value} {x : DataW H × List MemPlace} (h : DataW.trod enc Try.prog w base spare held fuel 53 cs = some x) : ∃ A n c l, cs = [.slice A n c] ∧ IntsR w A n l := by
  rcases open_ints Try.underlying53 Try.underlying3 (by kernel_rfl) h with ⟨hcs, _⟩ | ⟨a, n, c, zs, hcs, _, hl, hm, hz, _, hcell, hwz⟩
  · exact ⟨none, 0, 0, [], hcs, ⟨rfl, by omega, fun h => absurd h (by omega)⟩⟩
  · have hlen : n ≤ zs.length := by rw [hz]; split <;> omega
    refine ⟨some a, n, c, zs.take n, hcs, by simp; omega, by have : c ≤ 9223372036854775807 := hm; omega, fun hn => ?_⟩
    obtain ⟨b, off, spot⟩ := a
    have hc0 := hcell 0 (by omega)
    have hspot : spot = none := by simpa [Addr.add] using World.cell?_spot hc0
    subst hspot
    refine ⟨b, off, rfl, by simpa [Addr.add] using World.block_lt_of_cell? w _ hc0, fun j hj => ?_⟩
    have := hcell j (by omega)
    by_cases h0 : j = 0
    · subst h0
      simpa [Addr.add, nth, hj, show 0 < zs.length by omega] using this
    · simpa [Addr.add, nth, h0, hj, show j < zs.length by omega] using this
theorem open_Int {fuel : Nat} {cs : List Value} {x : DataW H × List MemPlace} (h : DataW.trod enc Try.prog w base spare held fuel 3 cs = some x) : ∃ z, cs = [.int .i64 z] := by
  obtain ⟨z, hz, _⟩ := DataW.trod_int Try.underlying3 h
  exact ⟨z, hz⟩
theorem trod_float {P : Program} {k : FloatKind} {t : TypeId} {fuel : Nat} {cs : List Value} {x : DataW H × List MemPlace} (ht : P.underlying t = some (.float k)) (h : DataW.trod enc P w base spare held fuel t cs = some x) : ∃ n, cs = [.float k n] := by
  cases fuel with
  | zero => simp [DataW.trod] at h
  | succ n =>
    unfold DataW.trod at h
    rw [ht] at h
    split at h <;> simp_all
set_option maxRecDepth 20000 in
/-- A slice of flat elements, opened. -/
theorem open_flat {α : Type} [Inhabited α] {e : α → List Value} {k : Nat} {t te : TypeId} (hk : ∀ x, (e x).length = k) (hk0 : 0 < k) (ht : Try.prog.underlying t = some (.slice te)) (hc : Try.prog.cellsOf te = k)
    (hopen : ∀ (fuel : Nat) (cs : List Value) (x : DataW H × List MemPlace), DataW.trod enc Try.prog w base spare held fuel te cs = some x → ∃ v, cs = e v)
    {fuel : Nat} {cs : List Value} {x : DataW H × List MemPlace} (h : DataW.trod enc Try.prog w base spare held fuel t cs = some x) : ∃ A n c l, cs = [.slice A n c] ∧ l.length = n ∧ RowV w A n k (flat e l) ∧ n ≤ c ∧ c ≤ 9223372036854775807 := by
  rcases Deep.open_slice ht h with ⟨hcs, _⟩ | ⟨a, len, cap, m, n, D, Pl, hcs, _, hl, hm, hmm, _, hx⟩
  · exact ⟨none, 0, 0, [], hcs, rfl, ⟨by simp [flat], by omega, fun h => absurd h (by omega)⟩, by omega, by omega⟩
  · have hlen : len ≤ m := by rw [hmm]; split <;> omega
    have hcell : ∀ i, i < len → ∃ v : α, ∀ j u, (e v)[j]? = some u → w.cell? (a.add (i * k + j)) = some u := by
      intro i hi
      obtain ⟨cs', h1, h2⟩ := hx i (by omega)
      rw [hc] at h1
      obtain ⟨v, rfl⟩ := hopen _ _ _ h2
      refine ⟨v, fun j u hj => ?_⟩
      obtain ⟨_, _, hat⟩ := World.cells?_some h1
      have hjk : j < k := by
        have := (List.getElem?_eq_some_iff.1 hj).1
        rw [hk] at this; exact this
      have := hat j hjk
      rw [Deep.add_add] at this
      rw [this]; exact hj
    obtain ⟨f, hf⟩ := Deep.choose_lt (α := α) hcell
    have hg : ∀ i, i < len → ((List.range len).map f).getD i default = f i := fun i hi => by simp [hi]
    refine ⟨some a, len, cap, (List.range len).map f, hcs, by simp, ⟨by rw [flat_len hk]; simp, by have : cap ≤ 9223372036854775807 := hm; omega, fun hn => ?_⟩, hl, hm⟩
    obtain ⟨b, off, spot⟩ := a
    have h0 := hf 0 hn
    obtain ⟨u0, hu0⟩ : ∃ u, (e (f 0))[0]? = some u := by
      have : 0 < (e (f 0)).length := by rw [hk]; exact hk0
      exact ⟨_, List.getElem?_eq_getElem this⟩
    have hc0 := h0 0 u0 hu0
    have hspot : spot = none := by simpa [Addr.add] using World.cell?_spot hc0
    subst hspot
    refine ⟨b, off, rfl, by simpa [Addr.add] using World.block_lt_of_cell? w _ hc0, fun j u hj => ?_⟩
    have hjl : j < len * k := by
      have := (List.getElem?_eq_some_iff.1 hj).1
      rw [flat_len hk] at this; simpa using this
    have hq : j / k < len := by rw [Nat.div_lt_iff_lt_mul hk0]; exact hjl
    have hr : j % k < k := Nat.mod_lt _ hk0
    have hjj : j = j / k * k + j % k := by rw [Nat.mul_comm]; exact (Nat.div_add_mod j k).symm
    have h1 := flat_at hk ((List.range len).map f) (j / k) (j % k) (by simpa using hq) hr
    rw [← hjj, hg _ hq, hj] at h1
    have h2 := hf (j / k) hq (j % k) u h1.symm
    rw [← hjj] at h2
    rw [← h2]
    congr 1
    by_cases hz : j = 0
    · subst hz; rfl
    · simp [Addr.add, hz]
theorem cells_int : Try.prog.cellsOf 3 = 1 := by kernel_rfl
theorem cells_ints : Try.prog.cellsOf 53 = 1 := by kernel_rfl
theorem cells_vote : Try.prog.cellsOf 67 = 3 := by kernel_rfl
theorem cells_votes : Try.prog.cellsOf 51 = 1 := by kernel_rfl
theorem cells_float : Try.prog.cellsOf 58 = 1 := by kernel_rfl
theorem cells_two : Try.prog.cellsOf 59 = 2 := by kernel_rfl
theorem cells_twos : Try.prog.cellsOf 52 = 1 := by kernel_rfl
theorem cells_ask19 : Try.prog.cellsOf 55 = 4 := by kernel_rfl
set_option maxRecDepth 20000 in
theorem open_Vote {fuel : Nat} {cs : List Value} {x : DataW H × List MemPlace} (h : DataW.trod enc Try.prog w base spare held fuel 67 cs = some x) : ∃ v, cs = encV v := by
  obtain ⟨xs, n, _, _, hl, hlen, hf⟩ := DataW.trod_struct Try.underlying67 h
  rw [cells_vote] at hl
  obtain ⟨v0, v1, v2, rfl⟩ := list3 hl
  obtain ⟨y0, y1, y2, rfl⟩ := list3 hlen
  have f0 : DataW.trod enc Try.prog w base spare held n 3 [v0] = some y0 := by simpa [cells_int] using hf 0 _ rfl
  have f1 : DataW.trod enc Try.prog w base spare held n 3 [v1] = some y1 := by simpa [cells_int] using hf 1 _ rfl
  have f2 : DataW.trod enc Try.prog w base spare held n 3 [v2] = some y2 := by simpa [cells_int] using hf 2 _ rfl
  obtain ⟨z0, e0⟩ := open_Int f0
  obtain ⟨z1, e1⟩ := open_Int f1
  obtain ⟨z2, e2⟩ := open_Int f2
  injection e0 with e0; injection e1 with e1; injection e2 with e2
  subst e0; subst e1; subst e2
  exact ⟨⟨z0, z1, z2⟩, rfl⟩
set_option maxRecDepth 20000 in
theorem open_Votes {fuel : Nat} {cs : List Value} {x : DataW H × List MemPlace} (h : DataW.trod enc Try.prog w base spare held fuel 51 cs = some x) : ∃ A n c l, cs = [.slice A n c] ∧ VotesR w A n l ∧ n ≤ c ∧ c ≤ 9223372036854775807 := by
  obtain ⟨A, n, c, l, e, h1, h2, h3, h4⟩ := open_flat (e := encV) encV_len (by omega) Try.underlying51 cells_vote (fun _ _ _ h => open_Vote h) h
  exact ⟨A, n, c, l, e, ⟨h1, h2⟩, h3, h4⟩
def encF (p : Nat × Nat) : List Value := [.float .f64 p.1, .float .f64 p.2]
theorem encF_len (p : Nat × Nat) : (encF p).length = 2 := rfl
set_option maxRecDepth 20000 in
theorem open_Two {fuel : Nat} {cs : List Value} {x : DataW H × List MemPlace} (h : DataW.trod enc Try.prog w base spare held fuel 59 cs = some x) : ∃ v, cs = encF v := by
  obtain ⟨xs, n, _, _, hl, hlen, hf⟩ := DataW.trod_array Try.underlying59 h
  rw [cells_two] at hl
  obtain ⟨v0, v1, rfl⟩ := list2 hl
  obtain ⟨y0, y1, rfl⟩ := list2 hlen
  have f0 : DataW.trod enc Try.prog w base spare held n 58 [v0] = some y0 := by simpa [cells_float] using hf 0 (by omega)
  have f1 : DataW.trod enc Try.prog w base spare held n 58 [v1] = some y1 := by simpa [cells_float] using hf 1 (by omega)
  obtain ⟨z0, e0⟩ := trod_float Try.underlying58 f0
  obtain ⟨z1, e1⟩ := trod_float Try.underlying58 f1
  injection e0 with e0; injection e1 with e1
  subst e0; subst e1
  exact ⟨(z0, z1), rfl⟩
def FloatsR (w : World) (A : Option Addr) (n : Nat) (l : List (Nat × Nat)) : Prop := l.length = n ∧ RowV w A n 2 (flat encF l)
theorem FloatsR.up {w w' : World} {A n l} (h : FloatsR w A n l) (hb : Below w.heap.size w w') : FloatsR w' A n l := ⟨h.1, h.2.up hb⟩
def fth (l : List (Nat × Nat)) (i : Nat) : Nat × Nat := l.getD i default
theorem FloatsR.at {w : World} {A n l} (h : FloatsR w A n l) (hn : 0 < n) : ∃ b off, A = some ⟨b, off, none⟩ ∧ b < w.heap.size ∧ ∀ j, j < n → w.cell? ⟨b, off + j * 2, none⟩ = some (.float .f64 (fth l j).1) ∧ w.cell? ⟨b, off + j * 2 + 1, none⟩ = some (.float .f64 (fth l j).2) := by
  obtain ⟨b, off, e, hb, hc⟩ := h.2.2.2 hn
  refine ⟨b, off, e, hb, fun j hj => ?_⟩
  have hat : ∀ r u, r < 2 → (encF (fth l j))[r]? = some u → w.cell? ⟨b, off + j * 2 + r, none⟩ = some u := fun r u hr hu => by
    rw [Nat.add_assoc]
    exact hc _ u (by rw [flat_at encF_len l j r (by rw [h.1]; exact hj) hr]; exact hu)
  exact ⟨hat 0 _ (by omega) rfl, hat 1 _ (by omega) rfl⟩
set_option maxRecDepth 20000 in
theorem open_Floats {fuel : Nat} {cs : List Value} {x : DataW H × List MemPlace} (h : DataW.trod enc Try.prog w base spare held fuel 52 cs = some x) : ∃ A n c l, cs = [.slice A n c] ∧ FloatsR w A n l := by
  obtain ⟨A, n, c, l, e, h1, h2, h3, h4⟩ := open_flat (e := encF) encF_len (by omega) Try.underlying52 cells_two (fun _ _ _ h => open_Two h) h
  exact ⟨A, n, c, l, e, ⟨h1, h2⟩⟩
set_option maxRecDepth 20000 in
theorem open_Ask19 {r : Reach} {b0 : Nat} {v : Value} {d : DataW H} {p : List MemPlace} (hv : Value.okWide Try.prog w r b0 55 v) (h : DataW.Trod enc Try.prog w base spare held 55 v d p) :
    ∃ (A : Option Addr) (n c : Nat) (l : List VoteD) (mA : Option Addr) (mn mc : Nat) (ml : List VoteD) (pA : Option Addr) (pn pc : Nat) (pl : List (Nat × Nat)) (lA : Option Addr) (lm lc : Nat) (Lo : List Int), v = .agg #[.slice A n c, .slice mA mn mc, .slice pA pn pc, .slice lA lm lc] ∧ VotesR w A n l ∧ VotesR w mA mn ml ∧ FloatsR w pA pn pl ∧ IntsR w lA lm Lo := by
  obtain ⟨cs, rfl, hsz⟩ := okWide_struct Try.underlying55 hv
  obtain ⟨l⟩ := cs
  rw [cells_ask19] at hsz
  obtain ⟨v0, v1, v2, v3, rfl⟩ := list4 hsz
  obtain ⟨fuel, hfu⟩ := h
  obtain ⟨xs, n, _, _, hl, hlen, hf⟩ := DataW.trod_struct Try.underlying55 hfu
  obtain ⟨y0, y1, y2, y3, rfl⟩ := list4 hlen
  have f0 : DataW.trod enc Try.prog w base spare held n 51 [v0] = some y0 := by simpa [cells_votes, Value.cells] using hf 0 _ rfl
  have f1 : DataW.trod enc Try.prog w base spare held n 51 [v1] = some y1 := by simpa [cells_votes, Value.cells] using hf 1 _ rfl
  have f2 : DataW.trod enc Try.prog w base spare held n 52 [v2] = some y2 := by simpa [cells_twos, Value.cells] using hf 2 _ rfl
  have f3 : DataW.trod enc Try.prog w base spare held n 53 [v3] = some y3 := by simpa [cells_ints, Value.cells] using hf 3 _ rfl
  obtain ⟨A0, n0, c0, l0, e0, r0, _, _⟩ := open_Votes f0
  obtain ⟨A1, n1, c1, l1, e1, r1, _, _⟩ := open_Votes f1
  obtain ⟨A2, n2, c2, l2, e2, r2⟩ := open_Floats f2
  obtain ⟨A3, n3, c3, l3, e3, r3⟩ := open_IntsR f3
  simp only [List.cons.injEq, and_true] at e0 e1 e2 e3
  subst e0; subst e1; subst e2; subst e3
  exact ⟨A0, n0, c0, l0, A1, n1, c1, l1, A2, n2, c2, l2, A3, n3, c3, l3, rfl, r0, r1, r2, r3⟩
end
end Go.Proofs.Ytffoglofijffpaa
