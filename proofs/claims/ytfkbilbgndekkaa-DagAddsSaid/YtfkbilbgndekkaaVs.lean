/- Arguments opened, with the bound that the form itself sets: numbers, headers, certificates, DAGs, askings. -/
import Derived.Test.YtfkbilbgndekkaaV
import Derived.Test.YtfkbilbgndekkaaCq
import Derived.SizedLaws
namespace Go.Proofs.Ytfkbilbgndekkaa
open Go.RowKit Go.ChangeShapes Go.WideShapes Go.ChangeAt
set_option linter.unusedSimpArgs false
set_option linter.unusedVariables false

section
variable {H : Type} {enc : TypeId × Value → H} {w : World} {base : Nat} {spare : Nat → Bool} {held : Bool}
def Wok (t : TypeId) (d : DataW H) : Prop := ∀ b ∈ d.weights Try.prog t, b ≤ reachBytes
theorem Wok.field {t : TypeId} {fs : Array Field} {parts : List (DataW H)} (ht : Try.prog.underlying t = some (.struct fs)) (h : Wok t (.agg parts)) {i : Nat} {f : TypeId} {d : DataW H} (hf : (fs.toList.map (·.type))[i]? = some f) (hd : parts[i]? = some d) : Wok f d :=
  fun b hb => h b (by simp only [DataW.weights, ht]; exact DataW.weights_mem_each hf hd b hb)
theorem weightsAll_mem {e : TypeId} {d : DataW H} {b : Nat} (hb : b ∈ d.weights Try.prog e) : ∀ {l : List (DataW H)}, d ∈ l → b ∈ DataW.weightsAll Try.prog e l
  | [], h => by cases h
  | x :: l, h => by
    rw [DataW.weightsAll, List.mem_append]
    rcases List.mem_cons.1 h with rfl | h
    · exact .inl hb
    · exact .inr (weightsAll_mem hb h)
theorem Wok.elem {t e : TypeId} {elems sp : List (DataW H)} (ht : Try.prog.underlying t = some (.slice e)) (h : Wok t (.slice elems sp)) {d : DataW H} (hd : d ∈ elems) : Wok e d :=
  fun b hb => h b (by simp only [DataW.weights, ht]; exact List.mem_cons_of_mem _ (List.mem_append_left _ (weightsAll_mem hb hd)))
theorem Wok.len {t e : TypeId} {elems sp : List (DataW H)} (ht : Try.prog.underlying t = some (.slice e)) (h : Wok t (.slice elems sp)) : (elems.length + sp.length) * Try.prog.bytesOf e ≤ reachBytes :=
  h _ (by simp only [DataW.weights, ht]; exact List.mem_cons_self)
theorem bytes_int : Try.prog.bytesOf 3 = 8 := by kernel_rfl
theorem bytes_cert : Try.prog.bytesOf 48 = 96 := by kernel_rfl
theorem open_IntsS {fuel : Nat} {cs : List Value} {x : DataW H × List MemPlace} (h : DataW.trod enc Try.prog w base spare held fuel 25 cs = some x) (hw : Wok 25 x.1) : ∃ A n c l, cs = [.slice A n c] ∧ IntsR w A n l ∧ l.length ≤ 17592186044416 := by
  rcases open_ints Try.underlying25 Try.underlying3 (by kernel_rfl) h with ⟨hcs, _⟩ | ⟨a, n, c, zs, hcs, _, hl, hm, hz, hx, hcell, hwz⟩
  · exact ⟨none, 0, 0, [], hcs, IntsR.nil _ _, by simp⟩
  · have hlen : n ≤ zs.length := by rw [hz]; split <;> omega
    have hq : zs.length ≤ 17592186044416 := by
      rw [hx] at hw
      have := hw.len Try.underlying25
      rw [bytes_int] at this
      simp only [lits, List.length_map, List.length_take, List.length_drop, reachBytes] at this
      omega
    refine ⟨some a, n, c, zs.take n, hcs, ⟨by simp; omega, by have : c ≤ 9223372036854775807 := hm; omega, fun hn => ?_⟩, by simp; omega⟩
    obtain ⟨b, off, spot⟩ := a
    have hc0 := hcell 0 (by omega)
    have hspot : spot = none := by simpa [Addr.add] using World.cell?_spot hc0
    subst hspot
    refine ⟨b, off, rfl, by simpa [Addr.add] using World.block_lt_of_cell? w _ hc0, fun j hj => ?_⟩
    have := hcell j (by omega)
    by_cases h0 : j = 0
    · subst h0
      simpa [Addr.add, nth, hj, show 0 < zs.length by omega] using this
    · simpa [Addr.add, nth, h0, hj, show j < zs.length by omega] using this
set_option maxRecDepth 20000 in
theorem open_HeaderS {fuel : Nat} {cs : List Value} {x : DataW H × List MemPlace} (h : DataW.trod enc Try.prog w base spare held fuel 46 cs = some x) (hw : Wok 46 x.1) :
    ∃ (p : HeaderP) (D : HeaderD), cs = [.int .i64 D.au, .int .i64 D.ro, .slice p.b.A p.b.n p.b.c, .slice p.p.A p.p.n p.p.c] ∧ HeaderR w p D ∧ D.ba.length ≤ 17592186044416 ∧ D.pa.length ≤ 17592186044416 := by
  obtain ⟨xs, n, _, hx, hl, hlen, hf⟩ := DataW.trod_struct Try.underlying46 h
  rw [hx] at hw
  rw [cells_header] at hl
  obtain ⟨v0, v1, v2, v3, rfl⟩ := list4 hl
  obtain ⟨y0, y1, y2, y3, rfl⟩ := list4 hlen
  have f0 : DataW.trod enc Try.prog w base spare held n 3 [v0] = some y0 := by simpa [cells_int] using hf 0 _ rfl
  have f1 : DataW.trod enc Try.prog w base spare held n 3 [v1] = some y1 := by simpa [cells_int] using hf 1 _ rfl
  have f2 : DataW.trod enc Try.prog w base spare held n 25 [v2] = some y2 := by simpa [cells_ints] using hf 2 _ rfl
  have f3 : DataW.trod enc Try.prog w base spare held n 25 [v3] = some y3 := by simpa [cells_ints] using hf 3 _ rfl
  obtain ⟨z0, e0⟩ := open_Int f0
  obtain ⟨z1, e1⟩ := open_Int f1
  obtain ⟨A2, n2, c2, l2, e2, r2, s2⟩ := open_IntsS f2 (hw.field Try.underlying46 (i := 2) rfl rfl)
  obtain ⟨A3, n3, c3, l3, e3, r3, s3⟩ := open_IntsS f3 (hw.field Try.underlying46 (i := 3) rfl rfl)
  injection e0 with e0; injection e1 with e1; injection e2 with e2; injection e3 with e3
  subst e0; subst e1; subst e2; subst e3
  exact ⟨⟨⟨A2, n2, c2⟩, ⟨A3, n3, c3⟩⟩, ⟨z0, z1, l2, l3⟩, rfl, ⟨r2, r3⟩, s2, s3⟩
set_option maxRecDepth 20000 in
theorem open_CertS {fuel : Nat} {cs : List Value} {x : DataW H × List MemPlace} (h : DataW.trod enc Try.prog w base spare held fuel 48 cs = some x) (hw : Wok 48 x.1) :
    ∃ (p : CertP) (D : CertD), cs = [.int .i64 D.h.au, .int .i64 D.h.ro, .slice p.h.b.A p.h.b.n p.h.b.c, .slice p.h.p.A p.h.p.n p.h.p.c, .int .i64 D.di, .slice p.s.A p.s.n p.s.c] ∧ CertR w p D ∧ SmallC D := by
  obtain ⟨xs, n, _, hx, hl, hlen, hf⟩ := DataW.trod_struct Try.underlying48 h
  rw [hx] at hw
  rw [cells_cert] at hl
  obtain ⟨v0, v1, v2, v3, v4, v5, rfl⟩ := list6 hl
  obtain ⟨y0, y1, y2, rfl⟩ := list3 hlen
  have f0 : DataW.trod enc Try.prog w base spare held n 46 [v0, v1, v2, v3] = some y0 := by simpa [cells_header] using hf 0 _ rfl
  have f1 : DataW.trod enc Try.prog w base spare held n 3 [v4] = some y1 := by simpa [cells_int] using hf 1 _ rfl
  have f2 : DataW.trod enc Try.prog w base spare held n 25 [v5] = some y2 := by simpa [cells_ints] using hf 2 _ rfl
  obtain ⟨p0, d0, e0, r0, s01, s02⟩ := open_HeaderS f0 (hw.field Try.underlying48 (i := 0) rfl rfl)
  obtain ⟨z1, e1⟩ := open_Int f1
  obtain ⟨A2, n2, c2, l2, e2, r2, s2⟩ := open_IntsS f2 (hw.field Try.underlying48 (i := 2) rfl rfl)
  injection e1 with e1; injection e2 with e2
  subst e1; subst e2
  simp only [List.cons.injEq, and_true] at e0
  obtain ⟨rfl, rfl, rfl, rfl⟩ := e0
  exact ⟨⟨p0, ⟨A2, n2, c2⟩⟩, ⟨d0, z1, l2⟩, rfl, ⟨r0, r2⟩, s01, s02, s2⟩
theorem open_CertsS {fuel : Nat} {cs : List Value} {x : DataW H × List MemPlace} (h : DataW.trod enc Try.prog w base spare held fuel 22 cs = some x) (hw : Wok 22 x.1) : ∃ A n c l, cs = [.slice A n c] ∧ CertsR w A n l ∧ Small l := by
  rcases Deep.open_slice Try.underlying22 h with ⟨hcs, _⟩ | ⟨a, len, cap, m, n, D, Pl, hcs, _, hl, hm, hmm, hxx, hx⟩
  · exact ⟨none, 0, 0, [], hcs, ⟨rfl, by omega, fun h => absurd h (by omega)⟩, by simp, fun k hk => absurd hk (by simp)⟩
  · have hlen : len ≤ m := by rw [hmm]; split <;> omega
    rw [hxx] at hw
    have hq : len ≤ 17592186044416 := by
      have := hw.len Try.underlying22
      rw [bytes_cert] at this
      simp only [List.length_map, List.length_range, reachBytes] at this
      omega
    have hcell : ∀ i, i < len → ∃ C : CertD, ∃ p, (CertR w p C ∧ SmallC C) ∧ ∀ j (v : Value), [Value.int .i64 C.h.au, .int .i64 C.h.ro, .slice p.h.b.A p.h.b.n p.h.b.c, .slice p.h.p.A p.h.p.n p.h.p.c, .int .i64 C.di, .slice p.s.A p.s.n p.s.c][j]? = some v → w.cell? (a.add (i * 6 + j)) = some v := by
      intro i hi
      obtain ⟨cs', h1, h2⟩ := hx i (by omega)
      rw [cells_cert] at h1
      obtain ⟨p, C, rfl, hC⟩ := open_CertS h2 (hw.elem Try.underlying22 (List.mem_map.2 ⟨i, List.mem_range.2 hi, rfl⟩))
      refine ⟨C, p, hC, fun j v hj => ?_⟩
      obtain ⟨_, _, hat⟩ := World.cells?_some h1
      have hj6 : j < 6 := by
        have := (List.getElem?_eq_some_iff.1 hj).1
        simpa using this
      have := hat j hj6
      rw [Deep.add_add] at this
      rw [this]; exact hj
    obtain ⟨f, hf⟩ := Deep.choose_lt (α := CertD) hcell
    have hg : ∀ i, i < len → cth ((List.range len).map f) i = f i := fun i hi => by simp [cth, hi]
    refine ⟨some a, len, cap, (List.range len).map f, hcs, ⟨by simp, by have : cap ≤ 9223372036854775807 := hm; omega, fun hn => ?_⟩, by simp; omega, fun k hk => by
      have hk' : k < len := by simpa using hk
      rw [hg k hk']; obtain ⟨p, hC, _⟩ := hf k hk'; exact hC.2⟩
    obtain ⟨b, off, spot⟩ := a
    obtain ⟨p0, _, h0⟩ := hf 0 hn
    have hc0 := h0 0 _ rfl
    have hspot : spot = none := by simpa [Addr.add] using World.cell?_spot hc0
    subst hspot
    refine ⟨b, off, rfl, by simpa [Addr.add] using World.block_lt_of_cell? w _ hc0, fun j hj => ?_⟩
    obtain ⟨p, hC, hcl⟩ := hf j hj
    have ha : ∀ k, Addr.add ⟨b, off, none⟩ k = ⟨b, off + k, none⟩ := fun k => by
      by_cases hk : k = 0
      · subst hk; rfl
      · simp [Addr.add, hk]
    refine ⟨p, ?_, by rw [hg j hj]; exact hC.1⟩
    rw [hg j hj]
    have q0 := hcl 0 _ rfl
    have q1 := hcl 1 _ rfl
    have q2 := hcl 2 _ rfl
    have q3 := hcl 3 _ rfl
    have q4 := hcl 4 _ rfl
    have q5 := hcl 5 _ rfl
    rw [ha] at q0 q1 q2 q3 q4 q5
    exact ⟨q0, q1, q2, q3, q4, q5⟩
set_option maxRecDepth 20000 in
theorem open_DagS {fuel : Nat} {cs : List Value} {x : DataW H × List MemPlace} (h : DataW.trod enc Try.prog w base spare held fuel 24 cs = some x) (hw : Wok 24 x.1) :
    ∃ (A : Option Addr) (n c : Nat) (D : DagD), cs = [.int .i64 D.nodes, .int .i64 D.low, .slice A n c] ∧ CertsR w A n D.certs ∧ Small D.certs := by
  obtain ⟨xs, n, _, hx, hl, hlen, hf⟩ := DataW.trod_struct Try.underlying24 h
  rw [hx] at hw
  rw [cells_dag] at hl
  obtain ⟨v0, v1, v2, rfl⟩ := list3 hl
  obtain ⟨y0, y1, y2, rfl⟩ := list3 hlen
  have f0 : DataW.trod enc Try.prog w base spare held n 3 [v0] = some y0 := by simpa [cells_int] using hf 0 _ rfl
  have f1 : DataW.trod enc Try.prog w base spare held n 3 [v1] = some y1 := by simpa [cells_int] using hf 1 _ rfl
  have f2 : DataW.trod enc Try.prog w base spare held n 22 [v2] = some y2 := by simpa [cells_certs] using hf 2 _ rfl
  obtain ⟨z0, e0⟩ := open_Int f0
  obtain ⟨z1, e1⟩ := open_Int f1
  obtain ⟨A2, n2, c2, l2, e2, r2, s2⟩ := open_CertsS f2 (hw.field Try.underlying24 (i := 2) rfl rfl)
  injection e0 with e0; injection e1 with e1; injection e2 with e2
  subst e0; subst e1; subst e2
  exact ⟨A2, n2, c2, ⟨z0, z1, l2⟩, rfl, r2, s2⟩
set_option maxRecDepth 20000 in
theorem open_AskS {r : Reach} {b0 : Nat} {v : Value} {d : DataW H} {p : List MemPlace} (hv : Value.okWide Try.prog w r b0 27 v) (h : DataW.Trod enc Try.prog w base spare held 27 v d p) (hw : Wok 27 d) :
    ∃ (A : Option Addr) (n c : Nat) (D : DagD) (iA : Option Addr) (im ic : Nat) (Is : List Int) (lA : Option Addr) (lm lc : Nat) (Lo : List Int), v = .agg #[.int .i64 D.nodes, .int .i64 D.low, .slice A n c, .slice iA im ic, .slice lA lm lc] ∧ CertsR w A n D.certs ∧ IntsR w iA im Is ∧ IntsR w lA lm Lo ∧ Small D.certs ∧ Is.length ≤ 17592186044416 ∧ Lo.length ≤ 17592186044416 := by
  obtain ⟨cs, rfl, hsz⟩ := okWide_struct Try.underlying27 hv
  obtain ⟨l⟩ := cs
  rw [cells_ask] at hsz
  obtain ⟨v0, v1, v2, v3, v4, rfl⟩ := list5 hsz
  obtain ⟨fuel, hfu⟩ := h
  obtain ⟨xs, n, _, hx, hl, hlen, hf⟩ := DataW.trod_struct Try.underlying27 hfu
  have hd := congrArg Prod.fst hx
  dsimp only at hd
  rw [hd] at hw
  obtain ⟨y0, y1, y2, rfl⟩ := list3 hlen
  have f0 : DataW.trod enc Try.prog w base spare held n 24 [v0, v1, v2] = some y0 := by simpa [cells_dag, Value.cells] using hf 0 _ rfl
  have f1 : DataW.trod enc Try.prog w base spare held n 25 [v3] = some y1 := by simpa [cells_ints, Value.cells] using hf 1 _ rfl
  have f2 : DataW.trod enc Try.prog w base spare held n 25 [v4] = some y2 := by simpa [cells_ints, Value.cells] using hf 2 _ rfl
  obtain ⟨A0, n0, c0, D, e0, r0, s0⟩ := open_DagS f0 (hw.field Try.underlying27 (i := 0) rfl rfl)
  obtain ⟨A1, n1, c1, l1, e1, r1, s1⟩ := open_IntsS f1 (hw.field Try.underlying27 (i := 1) rfl rfl)
  obtain ⟨A2, n2, c2, l2, e2, r2, s2⟩ := open_IntsS f2 (hw.field Try.underlying27 (i := 2) rfl rfl)
  simp only [List.cons.injEq, and_true] at e0 e1 e2
  obtain ⟨rfl, rfl, rfl⟩ := e0
  subst e1; subst e2
  exact ⟨A0, n0, c0, D, A1, n1, c1, l1, A2, n2, c2, l2, rfl, r0, r1, r2, s0, s1, s2⟩
end
end Go.Proofs.Ytfkbilbgndekkaa
