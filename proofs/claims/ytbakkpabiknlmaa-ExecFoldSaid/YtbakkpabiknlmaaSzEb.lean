/- Held batches, what was executed, acts, scripts: how they lie; opened, with the bound that the form sets. -/
import Derived.Test.YtbakkpabiknlmaaSzEa
namespace Go.Proofs.Ytbakkpabiknlmaa
open Go.RowKit Go.ChangeShapes Go.WideShapes Go.ChangeAt
set_option linter.unusedSimpArgs false
set_option linter.unusedVariables false

structure HeldD where
  di : Int
  b : BatchD
deriving Inhabited
def hth (l : List HeldD) (i : Nat) : HeldD := l.getD i default
def HeldAt (w : World) (b off : Nat) (B : Option Addr) (m d : Nat) (h : HeldD) : Prop :=
  w.cell? ⟨b, off, none⟩ = some (.int .i64 h.di) ∧ w.cell? ⟨b, off + 1, none⟩ = some (.int .i64 h.b.au) ∧ w.cell? ⟨b, off + 2, none⟩ = some (.int .i64 h.b.n) ∧ w.cell? ⟨b, off + 3, none⟩ = some (.slice B m d)
def HeldsR (w : World) (A : Option Addr) (n : Nat) (l : List HeldD) : Prop :=
  l.length = n ∧ n ≤ 9223372036854775807 ∧ (0 < n → ∃ b off, A = some ⟨b, off, none⟩ ∧ b < w.heap.size ∧ ∀ j, j < n → ∃ (B : Option Addr) (m d : Nat), HeldAt w b (off + j * 4) B m d (hth l j) ∧ TxsR w B m (hth l j).b.tx)
theorem HeldsR.up {w w' : World} {A n l} (h : HeldsR w A n l) (hb : Below w.heap.size w w') : HeldsR w' A n l := by
  obtain ⟨h1, h2, h3⟩ := h
  refine ⟨h1, h2, fun hn => ?_⟩
  obtain ⟨b, off, e, hlt, hc⟩ := h3 hn
  refine ⟨b, off, e, Nat.lt_of_lt_of_le hlt hb.size, fun j hj => ?_⟩
  obtain ⟨B, m, d, ⟨g0, g1, g2, g3⟩, g4⟩ := hc j hj
  have g := (bcell hb).1
  exact ⟨B, m, d, ⟨(g _ _ hlt).trans g0, (g _ _ hlt).trans g1, (g _ _ hlt).trans g2, (g _ _ hlt).trans g3⟩, g4.up hb⟩
structure ActD where
  d : Int
  l : List Int
  h : List HeldD
deriving Inhabited
def acth (l : List ActD) (i : Nat) : ActD := l.getD i default
def ActsR (w : World) (A : Option Addr) (n : Nat) (l : List ActD) : Prop :=
  l.length = n ∧ n ≤ 9223372036854775807 ∧ (0 < n → ∃ b off, A = some ⟨b, off, none⟩ ∧ b < w.heap.size ∧ ∀ j, j < n → ∃ (B : Option Addr) (m d : Nat) (C : Option Addr) (k e : Nat), w.cell? ⟨b, off + j * 3, none⟩ = some (.int .i64 (acth l j).d) ∧ w.cell? ⟨b, off + j * 3 + 1, none⟩ = some (.slice B m d) ∧ w.cell? ⟨b, off + j * 3 + 2, none⟩ = some (.slice C k e) ∧ IntsR w B m (acth l j).l ∧ HeldsR w C k (acth l j).h)
theorem ActsR.up {w w' : World} {A n l} (h : ActsR w A n l) (hb : Below w.heap.size w w') : ActsR w' A n l := by
  obtain ⟨h1, h2, h3⟩ := h
  refine ⟨h1, h2, fun hn => ?_⟩
  obtain ⟨b, off, e, hlt, hc⟩ := h3 hn
  refine ⟨b, off, e, Nat.lt_of_lt_of_le hlt hb.size, fun j hj => ?_⟩
  obtain ⟨B, m, d, C, k, e, g0, g1, g2, g3, g4⟩ := hc j hj
  have g := (bcell hb).1
  exact ⟨B, m, d, C, k, e, (g _ _ hlt).trans g0, (g _ _ hlt).trans g1, (g _ _ hlt).trans g2, g3.up hb, g4.up hb⟩
def SmH (h : HeldD) : Prop := SmB h.b
structure SmA (a : ActD) : Prop where
  l : a.l.length ≤ 17592186044416
  h : a.h.length ≤ 17592186044416
  hh : ∀ x ∈ a.h, SmH x
structure ExecD where
  p : List PairD
  q : List AcctD
  s : List Int
  c : Int
structure ScrP where
  p : SlP
  q : SlP
  s : SlP
  l : SlP
structure ScrD where
  e : ExecD
  l : List ActD
def ScrP.val (P : ScrP) (D : ScrD) : Value := .agg #[.slice P.p.A P.p.n P.p.c, .slice P.q.A P.q.n P.q.c, .slice P.s.A P.s.n P.s.c, .int .i64 D.e.c, .slice P.l.A P.l.n P.l.c]
structure ScrR (w : World) (P : ScrP) (D : ScrD) : Prop where
  p : PairsR w P.p.A P.p.n D.e.p
  q : AcctsR w P.q.A P.q.n D.e.q
  s : IntsR w P.s.A P.s.n D.e.s
  l : ActsR w P.l.A P.l.n D.l
  sp : P.p.n ≤ 17592186044416
  sq : P.q.n ≤ 17592186044416
  ss : P.s.n ≤ 17592186044416
  sc : P.s.n ≤ P.s.c
  sl : P.l.n ≤ 17592186044416
  gp : ∀ v ∈ D.e.p, SmP v
  gl : ∀ v ∈ D.l, SmA v
theorem ScrR.up {w w' : World} {P : ScrP} {D : ScrD} (h : ScrR w P D) (hb : Below w.heap.size w w') : ScrR w' P D :=
  { h with p := h.p.up hb, q := h.q.up hb, s := h.s.up hb, l := h.l.up hb }

section
variable {H : Type} {enc : TypeId × Value → H} {w : World} {base : Nat} {spare : Nat → Bool} {held : Bool}
theorem cells_held : Try.prog.cellsOf 44 = 4 := by kernel_rfl
theorem cells_helds : Try.prog.cellsOf 34 = 1 := by kernel_rfl
theorem cells_act : Try.prog.cellsOf 38 = 3 := by kernel_rfl
theorem cells_acts : Try.prog.cellsOf 29 = 1 := by kernel_rfl
theorem cells_exec : Try.prog.cellsOf 28 = 4 := by kernel_rfl
theorem cells_script : Try.prog.cellsOf 31 = 5 := by kernel_rfl
theorem bytes_int : Try.prog.bytesOf 3 = 8 := by kernel_rfl
theorem bytes_held : Try.prog.bytesOf 44 = 48 := by kernel_rfl
theorem bytes_act : Try.prog.bytesOf 38 = 56 := by kernel_rfl
/-- A slice of elements that hold slices, opened. R: how an element is read. -/
theorem open_deepS {α : Type} [Inhabited α] {k kb : Nat} {G : α → Prop} {R : List Value → α → Prop} {t te : TypeId} (hk0 : 0 < k) (hkb : 0 < kb) (ht : Try.prog.underlying t = some (.slice te)) (hc : Try.prog.cellsOf te = k) (hb0 : Try.prog.bytesOf te = kb)
    (hopen : ∀ (fuel : Nat) (cs : List Value) (x : DataW H × List MemPlace), DataW.trod enc Try.prog w base spare held fuel te cs = some x → Wok te x.1 → cs.length = k → ∃ v, R cs v ∧ G v)
    {fuel : Nat} {cs : List Value} {x : DataW H × List MemPlace} (h : DataW.trod enc Try.prog w base spare held fuel t cs = some x) (hw : Wok t x.1) :
    ∃ (A : Option Addr) (n c : Nat) (l : List α), cs = [.slice A n c] ∧ l.length = n ∧ n ≤ 9223372036854775807 ∧ n * kb ≤ 140737488355328 ∧ (∀ v ∈ l, G v) ∧ (0 < n → ∃ b off, A = some ⟨b, off, none⟩ ∧ b < w.heap.size ∧ ∀ j, j < n → ∃ cs' : List Value, cs'.length = k ∧ R cs' (l.getD j default) ∧ ∀ r v, cs'[r]? = some v → w.cell? ⟨b, off + j * k + r, none⟩ = some v) := by
  rcases Deep.open_slice ht h with ⟨hcs, _⟩ | ⟨a, len, cap, m, n, D, Pl, hcs, _, hl, hm, hmm, hxx, hx⟩
  · exact ⟨none, 0, 0, [], hcs, rfl, by omega, by omega, (fun v hv => by cases hv), fun h => absurd h (by omega)⟩
  · have hlen : len ≤ m := by rw [hmm]; split <;> omega
    rw [hxx] at hw
    have hq : len * kb ≤ 140737488355328 := by
      have := hw.len ht
      rw [hb0] at this
      simp only [List.length_map, List.length_range, reachBytes] at this
      have h2 : len * kb ≤ (len + (m - len)) * kb := Nat.mul_le_mul_right _ (by omega)
      omega
    have hcell : ∀ i, i < len → ∃ v : α, G v ∧ ∃ cs' : List Value, cs'.length = k ∧ R cs' v ∧ ∀ j u, cs'[j]? = some u → w.cell? (a.add (i * k + j)) = some u := by
      intro i hi
      obtain ⟨cs', h1, h2⟩ := hx i (by omega)
      rw [hc] at h1
      obtain ⟨_, hlen', hat⟩ := World.cells?_some h1
      obtain ⟨v, hR, hG⟩ := hopen _ _ _ h2 (hw.elem ht (List.mem_map.2 ⟨i, List.mem_range.2 hi, rfl⟩)) hlen'
      refine ⟨v, hG, cs', hlen', hR, fun j u hj => ?_⟩
      have hjk : j < k := by
        have := (List.getElem?_eq_some_iff.1 hj).1
        omega
      have := hat j hjk
      rw [Deep.add_add] at this
      rw [this]; exact hj
    obtain ⟨f, hf⟩ := Deep.choose_lt (α := α) hcell
    have hg : ∀ i, i < len → ((List.range len).map f).getD i default = f i := fun i hi => by simp [hi]
    refine ⟨some a, len, cap, (List.range len).map f, hcs, by simp, by have : cap ≤ 9223372036854775807 := hm; omega, hq, fun v hv => ?_, fun hn => ?_⟩
    · rw [List.mem_map] at hv
      obtain ⟨i, hi, rfl⟩ := hv
      exact (hf i (List.mem_range.1 hi)).1
    · obtain ⟨b, off, spot⟩ := a
      obtain ⟨_, cs0, hl0, _, h0⟩ := hf 0 hn
      have hc0 := h0 0 _ (List.getElem?_eq_getElem (by omega))
      have hspot : spot = none := by simpa [Addr.add] using World.cell?_spot hc0
      subst hspot
      refine ⟨b, off, rfl, by simpa [Addr.add] using World.block_lt_of_cell? w _ hc0, fun j hj => ?_⟩
      obtain ⟨_, cs1, hl1, hr, h1⟩ := hf j hj
      rw [hg j hj]
      refine ⟨cs1, hl1, hr, fun r v hv => ?_⟩
      have := h1 r v hv
      by_cases hz : j * k + r = 0
      · have hj0 : j * k = 0 := by omega
        have hr0 : r = 0 := by omega
        rw [hj0, hr0] at this ⊢
        simpa [Addr.add] using this
      · have e : (⟨b, off, none⟩ : Addr).add (j * k + r) = ⟨b, off + j * k + r, none⟩ := by simp only [Addr.add, hz, if_false, Nat.add_assoc]
        rw [← e]; exact this
set_option maxRecDepth 100000 in
theorem open_IntsS {fuel : Nat} {cs : List Value} {x : DataW H × List MemPlace} (h : DataW.trod enc Try.prog w base spare held fuel 26 cs = some x) (hw : Wok 26 x.1) : ∃ A n c l, cs = [.slice A n c] ∧ IntsR w A n l ∧ n ≤ 17592186044416 ∧ n ≤ c := by
  obtain ⟨A, n, c, l, e, h1, h2, h3, h4, h5, h6⟩ := open_flatS (e := fun z : Int => [Value.int .i64 z]) (G := fun _ => True) (k := 1) (kb := 8) (fun _ => rfl) (by omega) Try.underlying26 cells_int bytes_int (fun _ _ _ h _ => by obtain ⟨z, e⟩ := open_Int h; exact ⟨z, e, trivial⟩) h hw
  refine ⟨A, n, c, l, e, ⟨h1, h2.2.1, fun hn => ?_⟩, by omega, h3⟩
  obtain ⟨b, off, e2, hb, hc⟩ := h2.2.2 hn
  refine ⟨b, off, e2, hb, fun j hj => hc j _ ?_⟩
  rw [ints_flat]
  simp [nth, h1, hj]
set_option maxRecDepth 100000 in
theorem open_HeldsS {fuel : Nat} {cs : List Value} {x : DataW H × List MemPlace} (h : DataW.trod enc Try.prog w base spare held fuel 34 cs = some x) (hw : Wok 34 x.1) : ∃ A n c l, cs = [.slice A n c] ∧ HeldsR w A n l ∧ n ≤ 17592186044416 ∧ ∀ v ∈ l, SmH v := by
  obtain ⟨A, n, c, l, e, h1, h2, h3, h4, h5⟩ := open_deepS (α := HeldD) (k := 4) (kb := 48) (G := SmH) (R := fun cs v => ∃ (B : Option Addr) (m d : Nat), cs = [.int .i64 v.di, .int .i64 v.b.au, .int .i64 v.b.n, .slice B m d] ∧ TxsR w B m v.b.tx) (by omega) (by omega) Try.underlying34 cells_held bytes_held (fun fuel cs x h hw hl => by
    obtain ⟨v0, v1, v2, v3, rfl⟩ := list4 hl
    obtain ⟨xs, n, _, hx, hl', hlen, hf⟩ := DataW.trod_struct Try.underlying44 h
    rw [hx] at hw
    obtain ⟨y0, y1, rfl⟩ := list2 hlen
    have f0 : DataW.trod enc Try.prog w base spare held n 3 [v0] = some y0 := by simpa [cells_int] using hf 0 _ rfl
    have f1 : DataW.trod enc Try.prog w base spare held n 42 [v1, v2, v3] = some y1 := by simpa [cells_int, cells_batch] using hf 1 _ rfl
    obtain ⟨z0, e0⟩ := open_Int f0
    obtain ⟨b, A, m, c, e1, h1, h2⟩ := open_BatchS f1 (hw.field Try.underlying44 (i := 1) (f := 42) rfl rfl)
    injection e0 with e0
    simp only [List.cons.injEq, and_true] at e1
    obtain ⟨rfl, rfl, rfl⟩ := e1
    subst e0
    exact ⟨⟨z0, b⟩, ⟨A, m, c, rfl, h1⟩, h2⟩) h hw
  refine ⟨A, n, c, l, e, ⟨h1, h2, fun hn => ?_⟩, by omega, h4⟩
  obtain ⟨b, off, e2, hb, hc⟩ := h5 hn
  refine ⟨b, off, e2, hb, fun j hj => ?_⟩
  obtain ⟨cs', _, ⟨B, m, d, rfl, ht⟩, hat⟩ := hc j hj
  exact ⟨B, m, d, ⟨hat 0 _ rfl, hat 1 _ rfl, hat 2 _ rfl, hat 3 _ rfl⟩, ht⟩
set_option maxRecDepth 100000 in
theorem open_ActsS {fuel : Nat} {cs : List Value} {x : DataW H × List MemPlace} (h : DataW.trod enc Try.prog w base spare held fuel 29 cs = some x) (hw : Wok 29 x.1) : ∃ A n c l, cs = [.slice A n c] ∧ ActsR w A n l ∧ n ≤ 17592186044416 ∧ ∀ v ∈ l, SmA v := by
  obtain ⟨A, n, c, l, e, h1, h2, h3, h4, h5⟩ := open_deepS (α := ActD) (k := 3) (kb := 56) (G := SmA) (R := fun cs v => ∃ (B : Option Addr) (m d : Nat) (C : Option Addr) (k e : Nat), cs = [.int .i64 v.d, .slice B m d, .slice C k e] ∧ IntsR w B m v.l ∧ HeldsR w C k v.h) (by omega) (by omega) Try.underlying29 cells_act bytes_act (fun fuel cs x h hw hl => by
    obtain ⟨v0, v1, v2, rfl⟩ := list3 hl
    obtain ⟨xs, n, _, hx, hl', hlen, hf⟩ := DataW.trod_struct Try.underlying38 h
    rw [hx] at hw
    obtain ⟨y0, y1, y2, rfl⟩ := list3 hlen
    have f0 : DataW.trod enc Try.prog w base spare held n 3 [v0] = some y0 := by simpa [cells_int] using hf 0 _ rfl
    have f1 : DataW.trod enc Try.prog w base spare held n 26 [v1] = some y1 := by simpa [cells_int, cells_ints] using hf 1 _ rfl
    have f2 : DataW.trod enc Try.prog w base spare held n 34 [v2] = some y2 := by simpa [cells_int, cells_ints, cells_helds] using hf 2 _ rfl
    obtain ⟨z0, e0⟩ := open_Int f0
    obtain ⟨B, m, d, l1, e1, r1, s1, -⟩ := open_IntsS f1 (hw.field Try.underlying38 (i := 1) (f := 26) rfl rfl)
    obtain ⟨C, k, e', l2, e2, r2, s2, t2⟩ := open_HeldsS f2 (hw.field Try.underlying38 (i := 2) (f := 34) rfl rfl)
    injection e0 with e0; injection e1 with e1; injection e2 with e2
    subst e0; subst e1; subst e2
    exact ⟨⟨z0, l1, l2⟩, ⟨B, m, d, C, k, e', rfl, r1, r2⟩, ⟨by show l1.length ≤ _; rw [r1.1]; exact s1, by show l2.length ≤ _; rw [r2.1]; exact s2, t2⟩⟩) h hw
  refine ⟨A, n, c, l, e, ⟨h1, h2, fun hn => ?_⟩, by omega, h4⟩
  obtain ⟨b, off, e2, hb, hc⟩ := h5 hn
  refine ⟨b, off, e2, hb, fun j hj => ?_⟩
  obtain ⟨cs', _, ⟨B, m, d, C, k, e, rfl, r1, r2⟩, hat⟩ := hc j hj
  exact ⟨B, m, d, C, k, e, hat 0 _ rfl, hat 1 _ rfl, hat 2 _ rfl, r1, r2⟩
set_option maxRecDepth 100000 in
theorem open_Scr {r : Reach} {b0 : Nat} {v : Value} {d : DataW H} {p : List MemPlace} (hv : Value.okWide Try.prog w r b0 31 v) (h : DataW.Trod enc Try.prog w base spare held 31 v d p) (hw : Wok 31 d) :
    ∃ (P : ScrP) (D : ScrD), v = P.val D ∧ ScrR w P D := by
  obtain ⟨cs, rfl, hsz⟩ := okWide_struct Try.underlying31 hv
  obtain ⟨l⟩ := cs
  rw [cells_script] at hsz
  obtain ⟨v0, v1, v2, v3, v4, rfl⟩ := list5 hsz
  obtain ⟨fuel, hfu⟩ := h
  obtain ⟨xs, n, _, hx, hl, hlen, hf⟩ := DataW.trod_struct Try.underlying31 hfu
  have hx2 := congrArg Prod.fst hx
  dsimp only at hx2
  rw [hx2] at hw
  obtain ⟨y0, y1, rfl⟩ := list2 hlen
  have f0 : DataW.trod enc Try.prog w base spare held n 28 [v0, v1, v2, v3] = some y0 := by simpa [cells_exec, Value.cells] using hf 0 _ rfl
  have f1 : DataW.trod enc Try.prog w base spare held n 29 [v4] = some y1 := by simpa [cells_exec, cells_acts, Value.cells] using hf 1 _ rfl
  have w0 := hw.field Try.underlying31 (i := 0) (f := 28) rfl rfl
  have w1 := hw.field Try.underlying31 (i := 1) (f := 29) rfl rfl
  obtain ⟨xe, ne, _, hxe, hle, hlene, hfe⟩ := DataW.trod_struct Try.underlying28 f0
  obtain ⟨e0, e1, e2, rfl⟩ := list3 hlene
  rw [hxe] at w0
  dsimp only at w0
  have g0 : DataW.trod enc Try.prog w base spare held ne 25 [v0, v1] = some e0 := by simpa [cells_table] using hfe 0 _ rfl
  have g1 : DataW.trod enc Try.prog w base spare held ne 26 [v2] = some e1 := by simpa [cells_table, cells_ints] using hfe 1 _ rfl
  have g2 : DataW.trod enc Try.prog w base spare held ne 3 [v3] = some e2 := by simpa [cells_table, cells_ints, cells_int] using hfe 2 _ rfl
  have u0 := w0.field Try.underlying28 (i := 0) (f := 25) rfl rfl
  have u1 := w0.field Try.underlying28 (i := 1) (f := 26) rfl rfl
  obtain ⟨xs0, n0, _, hx0, hl0, hlen0, hf0⟩ := DataW.trod_struct Try.underlying25 g0
  obtain ⟨z0, z1, rfl⟩ := list2 hlen0
  rw [hx0] at u0
  dsimp only at u0
  have k0 : DataW.trod enc Try.prog w base spare held n0 22 [v0] = some z0 := by simpa [cells_pairs] using hf0 0 _ rfl
  have k1 : DataW.trod enc Try.prog w base spare held n0 23 [v1] = some z1 := by simpa [cells_pairs, cells_accts] using hf0 1 _ rfl
  obtain ⟨A0, n0, c0, l0, e0, a1, a2, a3, a4, a5, a6⟩ := open_flatS (e := encP) (G := SmP) encP_len (by omega) Try.underlying22 cells_pair bytes_pair (fun _ _ _ h hw => open_PairS h hw) k0 (u0.field Try.underlying25 (i := 0) rfl rfl)
  obtain ⟨A1, n1, c1, l1, e1, b1, b2, b3, b4, b5, b6⟩ := open_flatS (e := encA) (G := fun _ => True) encA_len (by omega) Try.underlying23 cells_acct bytes_acct (fun _ _ _ h hw => open_AcctS h hw) k1 (u0.field Try.underlying25 (i := 1) rfl rfl)
  obtain ⟨A2, n2, c2, l2, e2, r2, s2, sc2⟩ := open_IntsS g1 u1
  obtain ⟨z, ez⟩ := open_Int g2
  obtain ⟨A3, n3, c3, l3, e3, r3, s3, t3⟩ := open_ActsS f1 w1
  simp only [List.cons.injEq, and_true] at e0 e1 e2 e3 ez
  subst e0; subst e1; subst e2; subst e3; subst ez
  exact ⟨⟨⟨A0, n0, c0⟩, ⟨A1, n1, c1⟩, ⟨A2, n2, c2⟩, ⟨A3, n3, c3⟩⟩, ⟨⟨l0, l1, l2, z⟩, l3⟩, rfl,
    { p := ⟨a1, a2⟩, q := ⟨b1, b2⟩, s := r2, l := r3, sp := by show n0 ≤ _; omega, sq := by show n1 ≤ _; omega, ss := s2, sc := sc2, sl := s3, gp := a6, gl := t3 }⟩
end
end Go.Proofs.Ytbakkpabiknlmaa
