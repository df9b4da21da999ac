/- Arguments opened: numbers, headers, certificates, DAGs, askings. -/
import Derived.Test.YtfkbilbgndekkaaR
import Derived.ProofKit
import Derived.OpenShut
import Derived.ChangeSlices
import Derived.ChangeOld
import Derived.Below
import Derived.Deep.Slices
namespace Go.Proofs.Ytfkbilbgndekkaa
open Go.RowKit Go.ChangeShapes Go.WideShapes Go.ChangeAt
set_option linter.unusedSimpArgs false
set_option linter.unusedVariables false

theorem list3 {α : Type} {l : List α} (h : l.length = 3) : ∃ a0 a1 a2, l = [a0, a1, a2] := by
  match l, h with
  | [a0, a1, a2], _ => exact ⟨a0, a1, a2, rfl⟩
theorem list4 {α : Type} {l : List α} (h : l.length = 4) : ∃ a0 a1 a2 a3, l = [a0, a1, a2, a3] := by
  match l, h with
  | [a0, a1, a2, a3], _ => exact ⟨a0, a1, a2, a3, rfl⟩
theorem list5 {α : Type} {l : List α} (h : l.length = 5) : ∃ a0 a1 a2 a3 a4, l = [a0, a1, a2, a3, a4] := by
  match l, h with
  | [a0, a1, a2, a3, a4], _ => exact ⟨a0, a1, a2, a3, a4, rfl⟩
theorem list6 {α : Type} {l : List α} (h : l.length = 6) : ∃ a0 a1 a2 a3 a4 a5, l = [a0, a1, a2, a3, a4, a5] := by
  match l, h with
  | [a0, a1, a2, a3, a4, a5], _ => exact ⟨a0, a1, a2, a3, a4, a5, rfl⟩
section
variable {H : Type} {enc : TypeId × Value → H} {w : World} {base : Nat} {spare : Nat → Bool} {held : Bool}
theorem open_IntsR {fuel : Nat} {cs : List Value} {x : DataW H × List MemPlace} (h : DataW.trod enc Try.prog w base spare held fuel 25 cs = some x) : ∃ A n c l, cs = [.slice A n c] ∧ IntsR w A n l := by
  rcases open_ints Try.underlying25 Try.underlying3 (by kernel_rfl) h with ⟨hcs, _⟩ | ⟨a, n, c, zs, hcs, _, hl, hm, hz, _, hcell, hwz⟩
  · exact ⟨none, 0, 0, [], hcs, IntsR.nil _ _⟩
  · have hlen : n ≤ zs.length := by rw [hz]; split <;> omega
    refine ⟨some a, n, c, zs.take n, hcs, by simp; omega, by have : c ≤ 9223372036854775807 := hm; omega, fun hn => ?_⟩
    obtain ⟨b, off, spot⟩ := a
    have hc0 := hcell 0 (by omega)
    have hspot : spot = none := by simpa [Addr.add] using World.cell?_spot hc0
    subst hspot
    refine ⟨b, off, rfl, by simpa [Addr.add] using World.block_lt_of_cell? w _ hc0, fun j hj => ?_⟩
    have := hcell j (by omega)
    by_cases h0 : j = 0
    · subst h0
      simpa [Addr.add, nth, hj, show 0 < zs.length by omega] using this
    · simpa [Addr.add, nth, h0, hj, show j < zs.length by omega] using this
theorem open_Int {fuel : Nat} {cs : List Value} {x : DataW H × List MemPlace} (h : DataW.trod enc Try.prog w base spare held fuel 3 cs = some x) : ∃ z, cs = [.int .i64 z] := by
  obtain ⟨z, hz, _⟩ := DataW.trod_int Try.underlying3 h
  exact ⟨z, hz⟩
theorem cells_int : Try.prog.cellsOf 3 = 1 := by kernel_rfl
theorem cells_ints : Try.prog.cellsOf 25 = 1 := by kernel_rfl
theorem cells_certs : Try.prog.cellsOf 22 = 1 := by kernel_rfl
theorem cells_header : Try.prog.cellsOf 46 = 4 := by kernel_rfl
theorem cells_cert : Try.prog.cellsOf 48 = 6 := by kernel_rfl
theorem cells_dag : Try.prog.cellsOf 24 = 3 := by kernel_rfl
theorem cells_ask : Try.prog.cellsOf 27 = 5 := by kernel_rfl
set_option maxRecDepth 20000 in
theorem open_HeaderR {fuel : Nat} {cs : List Value} {x : DataW H × List MemPlace} (h : DataW.trod enc Try.prog w base spare held fuel 46 cs = some x) :
    ∃ (p : HeaderP) (D : HeaderD), cs = [.int .i64 D.au, .int .i64 D.ro, .slice p.b.A p.b.n p.b.c, .slice p.p.A p.p.n p.p.c] ∧ HeaderR w p D := by
  obtain ⟨xs, n, _, _, hl, hlen, hf⟩ := DataW.trod_struct Try.underlying46 h
  rw [cells_header] at hl
  obtain ⟨v0, v1, v2, v3, rfl⟩ := list4 hl
  obtain ⟨y0, y1, y2, y3, rfl⟩ := list4 hlen
  have f0 : DataW.trod enc Try.prog w base spare held n 3 [v0] = some y0 := by simpa [cells_int] using hf 0 _ rfl
  have f1 : DataW.trod enc Try.prog w base spare held n 3 [v1] = some y1 := by simpa [cells_int] using hf 1 _ rfl
  have f2 : DataW.trod enc Try.prog w base spare held n 25 [v2] = some y2 := by simpa [cells_ints] using hf 2 _ rfl
  have f3 : DataW.trod enc Try.prog w base spare held n 25 [v3] = some y3 := by simpa [cells_ints] using hf 3 _ rfl
  obtain ⟨z0, e0⟩ := open_Int f0
  obtain ⟨z1, e1⟩ := open_Int f1
  obtain ⟨A2, n2, c2, l2, e2, r2⟩ := open_IntsR f2
  obtain ⟨A3, n3, c3, l3, e3, r3⟩ := open_IntsR f3
  injection e0 with e0; injection e1 with e1; injection e2 with e2; injection e3 with e3
  subst e0; subst e1; subst e2; subst e3
  exact ⟨⟨⟨A2, n2, c2⟩, ⟨A3, n3, c3⟩⟩, ⟨z0, z1, l2, l3⟩, rfl, r2, r3⟩
set_option maxRecDepth 20000 in
theorem open_CertR {fuel : Nat} {cs : List Value} {x : DataW H × List MemPlace} (h : DataW.trod enc Try.prog w base spare held fuel 48 cs = some x) :
    ∃ (p : CertP) (D : CertD), cs = [.int .i64 D.h.au, .int .i64 D.h.ro, .slice p.h.b.A p.h.b.n p.h.b.c, .slice p.h.p.A p.h.p.n p.h.p.c, .int .i64 D.di, .slice p.s.A p.s.n p.s.c] ∧ CertR w p D := by
  obtain ⟨xs, n, _, _, hl, hlen, hf⟩ := DataW.trod_struct Try.underlying48 h
  rw [cells_cert] at hl
  obtain ⟨v0, v1, v2, v3, v4, v5, rfl⟩ := list6 hl
  obtain ⟨y0, y1, y2, rfl⟩ := list3 hlen
  have f0 : DataW.trod enc Try.prog w base spare held n 46 [v0, v1, v2, v3] = some y0 := by simpa [cells_header] using hf 0 _ rfl
  have f1 : DataW.trod enc Try.prog w base spare held n 3 [v4] = some y1 := by simpa [cells_int] using hf 1 _ rfl
  have f2 : DataW.trod enc Try.prog w base spare held n 25 [v5] = some y2 := by simpa [cells_ints] using hf 2 _ rfl
  obtain ⟨p0, d0, e0, r0⟩ := open_HeaderR f0
  obtain ⟨z1, e1⟩ := open_Int f1
  obtain ⟨A2, n2, c2, l2, e2, r2⟩ := open_IntsR f2
  injection e1 with e1; injection e2 with e2
  subst e1; subst e2
  simp only [List.cons.injEq, and_true] at e0
  obtain ⟨rfl, rfl, rfl, rfl⟩ := e0
  exact ⟨⟨p0, ⟨A2, n2, c2⟩⟩, ⟨d0, z1, l2⟩, rfl, r0, r2⟩
theorem open_CertsR {fuel : Nat} {cs : List Value} {x : DataW H × List MemPlace} (h : DataW.trod enc Try.prog w base spare held fuel 22 cs = some x) : ∃ A n c l, cs = [.slice A n c] ∧ CertsR w A n l := by
  rcases Deep.open_slice Try.underlying22 h with ⟨hcs, _⟩ | ⟨a, len, cap, m, n, D, Pl, hcs, _, hl, hm, hmm, _, hx⟩
  · exact ⟨none, 0, 0, [], hcs, rfl, by omega, fun h => absurd h (by omega)⟩
  · have hlen : len ≤ m := by rw [hmm]; split <;> omega
    have hcell : ∀ i, i < len → ∃ C : CertD, ∃ p, CertR w p C ∧ ∀ j (v : Value), [Value.int .i64 C.h.au, .int .i64 C.h.ro, .slice p.h.b.A p.h.b.n p.h.b.c, .slice p.h.p.A p.h.p.n p.h.p.c, .int .i64 C.di, .slice p.s.A p.s.n p.s.c][j]? = some v → w.cell? (a.add (i * 6 + j)) = some v := by
      intro i hi
      obtain ⟨cs', h1, h2⟩ := hx i (by omega)
      rw [cells_cert] at h1
      obtain ⟨p, C, rfl, hC⟩ := open_CertR h2
      refine ⟨C, p, hC, fun j v hj => ?_⟩
      obtain ⟨_, _, hat⟩ := World.cells?_some h1
      have hj6 : j < 6 := by
        have := (List.getElem?_eq_some_iff.1 hj).1
        simpa using this
      have := hat j hj6
      rw [Deep.add_add] at this
      rw [this]; exact hj
    obtain ⟨f, hf⟩ := Deep.choose_lt (α := CertD) hcell
    have hg : ∀ i, i < len → cth ((List.range len).map f) i = f i := fun i hi => by simp [cth, hi]
    refine ⟨some a, len, cap, (List.range len).map f, hcs, by simp, by have : cap ≤ 9223372036854775807 := hm; omega, fun hn => ?_⟩
    obtain ⟨b, off, spot⟩ := a
    obtain ⟨p0, _, h0⟩ := hf 0 hn
    have hc0 := h0 0 _ rfl
    have hspot : spot = none := by simpa [Addr.add] using World.cell?_spot hc0
    subst hspot
    refine ⟨b, off, rfl, by simpa [Addr.add] using World.block_lt_of_cell? w _ hc0, fun j hj => ?_⟩
    obtain ⟨p, hC, hcl⟩ := hf j hj
    have ha : ∀ k, Addr.add ⟨b, off, none⟩ k = ⟨b, off + k, none⟩ := fun k => by
      by_cases hk : k = 0
      · subst hk; rfl
      · simp [Addr.add, hk]
    refine ⟨p, ?_, by rw [hg j hj]; exact hC⟩
    rw [hg j hj]
    have q0 := hcl 0 _ rfl
    have q1 := hcl 1 _ rfl
    have q2 := hcl 2 _ rfl
    have q3 := hcl 3 _ rfl
    have q4 := hcl 4 _ rfl
    have q5 := hcl 5 _ rfl
    rw [ha] at q0 q1 q2 q3 q4 q5
    exact ⟨q0, q1, q2, q3, q4, q5⟩
set_option maxRecDepth 20000 in
theorem open_DagR {fuel : Nat} {cs : List Value} {x : DataW H × List MemPlace} (h : DataW.trod enc Try.prog w base spare held fuel 24 cs = some x) :
    ∃ (A : Option Addr) (n c : Nat) (D : DagD), cs = [.int .i64 D.nodes, .int .i64 D.low, .slice A n c] ∧ CertsR w A n D.certs := by
  obtain ⟨xs, n, _, _, hl, hlen, hf⟩ := DataW.trod_struct Try.underlying24 h
  rw [cells_dag] at hl
  obtain ⟨v0, v1, v2, rfl⟩ := list3 hl
  obtain ⟨y0, y1, y2, rfl⟩ := list3 hlen
  have f0 : DataW.trod enc Try.prog w base spare held n 3 [v0] = some y0 := by simpa [cells_int] using hf 0 _ rfl
  have f1 : DataW.trod enc Try.prog w base spare held n 3 [v1] = some y1 := by simpa [cells_int] using hf 1 _ rfl
  have f2 : DataW.trod enc Try.prog w base spare held n 22 [v2] = some y2 := by simpa [cells_certs] using hf 2 _ rfl
  obtain ⟨z0, e0⟩ := open_Int f0
  obtain ⟨z1, e1⟩ := open_Int f1
  obtain ⟨A2, n2, c2, l2, e2, r2⟩ := open_CertsR f2
  injection e0 with e0; injection e1 with e1; injection e2 with e2
  subst e0; subst e1; subst e2
  exact ⟨A2, n2, c2, ⟨z0, z1, l2⟩, rfl, r2⟩
set_option maxRecDepth 20000 in
theorem open_AskR {r : Reach} {b0 : Nat} {v : Value} {d : DataW H} {p : List MemPlace} (hv : Value.okWide Try.prog w r b0 27 v) (h : DataW.Trod enc Try.prog w base spare held 27 v d p) :
    ∃ (A : Option Addr) (n c : Nat) (D : DagD) (iA : Option Addr) (im ic : Nat) (Is : List Int) (lA : Option Addr) (lm lc : Nat) (Lo : List Int), v = .agg #[.int .i64 D.nodes, .int .i64 D.low, .slice A n c, .slice iA im ic, .slice lA lm lc] ∧ CertsR w A n D.certs ∧ IntsR w iA im Is ∧ IntsR w lA lm Lo := by
  obtain ⟨cs, rfl, hsz⟩ := okWide_struct Try.underlying27 hv
  obtain ⟨l⟩ := cs
  rw [cells_ask] at hsz
  obtain ⟨v0, v1, v2, v3, v4, rfl⟩ := list5 hsz
  obtain ⟨fuel, hfu⟩ := h
  obtain ⟨xs, n, _, _, hl, hlen, hf⟩ := DataW.trod_struct Try.underlying27 hfu
  obtain ⟨y0, y1, y2, rfl⟩ := list3 hlen
  have f0 : DataW.trod enc Try.prog w base spare held n 24 [v0, v1, v2] = some y0 := by simpa [cells_dag, Value.cells] using hf 0 _ rfl
  have f1 : DataW.trod enc Try.prog w base spare held n 25 [v3] = some y1 := by simpa [cells_ints, Value.cells] using hf 1 _ rfl
  have f2 : DataW.trod enc Try.prog w base spare held n 25 [v4] = some y2 := by simpa [cells_ints, Value.cells] using hf 2 _ rfl
  obtain ⟨A0, n0, c0, D, e0, r0⟩ := open_DagR f0
  obtain ⟨A1, n1, c1, l1, e1, r1⟩ := open_IntsR f1
  obtain ⟨A2, n2, c2, l2, e2, r2⟩ := open_IntsR f2
  simp only [List.cons.injEq, and_true] at e0 e1 e2
  obtain ⟨rfl, rfl, rfl⟩ := e0
  subst e1; subst e2
  exact ⟨A0, n0, c0, D, A1, n1, c1, l1, A2, n2, c2, l2, rfl, r0, r1, r2⟩
end
end Go.Proofs.Ytfkbilbgndekkaa
