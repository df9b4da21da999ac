/- Arguments opened: the asking of layer 17. -/
import Derived.Test.YthpljlffjbodpaaVs
namespace Go.Proofs.Ythpljlffjbodpaa
open Go.RowKit Go.ChangeShapes Go.WideShapes Go.ChangeAt
set_option linter.unusedSimpArgs false
set_option linter.unusedVariables false

section
variable {H : Type} {enc : TypeId × Value → H} {w : World} {base : Nat} {spare : Nat → Bool} {held : Bool}
theorem cells_ask17 : Try.prog.cellsOf 52 = 5 := by kernel_rfl
set_option maxRecDepth 20000 in
theorem open_AskS17 {r : Reach} {b0 : Nat} {v : Value} {d : DataW H} {p : List MemPlace} (hv : Value.okWide Try.prog w r b0 52 v) (h : DataW.Trod enc Try.prog w base spare held 52 v d p) (hw : Wok 52 d) :
    ∃ (A : Option Addr) (n c : Nat) (D : DagD) (iA : Option Addr) (im ic : Nat) (Is : List Int) (lA : Option Addr) (lm lc : Nat) (Lo : List Int), v = .agg #[.int .i64 D.nodes, .int .i64 D.low, .slice A n c, .slice iA im ic, .slice lA lm lc] ∧ CertsR w A n D.certs ∧ IntsR w iA im Is ∧ IntsR w lA lm Lo ∧ Small D.certs ∧ Is.length ≤ 17592186044416 ∧ Lo.length ≤ 17592186044416 := by
  obtain ⟨cs, rfl, hsz⟩ := okWide_struct Try.underlying52 hv
  obtain ⟨l⟩ := cs
  rw [cells_ask17] at hsz
  obtain ⟨v0, v1, v2, v3, v4, rfl⟩ := list5 hsz
  obtain ⟨fuel, hfu⟩ := h
  obtain ⟨xs, n, _, hx, hl, hlen, hf⟩ := DataW.trod_struct Try.underlying52 hfu
  have hd := congrArg Prod.fst hx
  dsimp only at hd
  rw [hd] at hw
  obtain ⟨y0, y1, y2, rfl⟩ := list3 hlen
  have f0 : DataW.trod enc Try.prog w base spare held n 24 [v0, v1, v2] = some y0 := by simpa [cells_dag, Value.cells] using hf 0 _ rfl
  have f1 : DataW.trod enc Try.prog w base spare held n 25 [v3] = some y1 := by simpa [cells_ints, Value.cells] using hf 1 _ rfl
  have f2 : DataW.trod enc Try.prog w base spare held n 25 [v4] = some y2 := by simpa [cells_ints, Value.cells] using hf 2 _ rfl
  obtain ⟨A0, n0, c0, D, e0, r0, s0⟩ := open_DagS f0 (hw.field Try.underlying52 (i := 0) rfl rfl)
  obtain ⟨A1, n1, c1, l1, e1, r1, s1⟩ := open_IntsS f1 (hw.field Try.underlying52 (i := 1) rfl rfl)
  obtain ⟨A2, n2, c2, l2, e2, r2, s2⟩ := open_IntsS f2 (hw.field Try.underlying52 (i := 2) rfl rfl)
  simp only [List.cons.injEq, and_true] at e0 e1 e2
  obtain ⟨rfl, rfl, rfl⟩ := e0
  subst e1; subst e2
  exact ⟨A0, n0, c0, D, A1, n1, c1, l1, A2, n2, c2, l2, rfl, r0, r1, r2, s0, s1, s2⟩
end
end Go.Proofs.Ythpljlffjbodpaa
