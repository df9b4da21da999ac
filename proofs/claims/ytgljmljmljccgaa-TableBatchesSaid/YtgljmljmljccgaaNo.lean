/- Arguments opened, with the bound that the form itself sets: flat rows of any element, askings of droverlaw22. -/
import Derived.Test.YtgljmljmljccgaaNm
import Derived.Test.YtgljmljmljccgaaYv
import Derived.ChangeArms
import Derived.SizedLaws
namespace Go.Proofs.Ytgljmljmljccgaa
open Go.RowKit Go.ChangeShapes Go.WideShapes Go.ChangeAt
set_option linter.unusedSimpArgs false
set_option linter.unusedVariables false

section
variable {H : Type} {enc : TypeId × Value → H} {w : World} {base : Nat} {spare : Nat → Bool} {held : Bool}
def Wok (t : TypeId) (d : DataW H) : Prop := ∀ b ∈ d.weights Try.prog t, b ≤ reachBytes
theorem Wok.field {t : TypeId} {fs : Array Field} {parts : List (DataW H)} (ht : Try.prog.underlying t = some (.struct fs)) (h : Wok t (.agg parts)) {i : Nat} {f : TypeId} {d : DataW H} (hf : (fs.toList.map (·.type))[i]? = some f) (hd : parts[i]? = some d) : Wok f d :=
  fun b hb => h b (by simp only [DataW.weights, ht]; exact DataW.weights_mem_each hf hd b hb)
theorem weightsAll_mem {e : TypeId} {d : DataW H} {b : Nat} (hb : b ∈ d.weights Try.prog e) : ∀ {l : List (DataW H)}, d ∈ l → b ∈ DataW.weightsAll Try.prog e l
  | [], h => by cases h
  | x :: l, h => by
    rw [DataW.weightsAll, List.mem_append]
    rcases List.mem_cons.1 h with rfl | h
    · exact .inl hb
    · exact .inr (weightsAll_mem hb h)
theorem Wok.elem {t e : TypeId} {elems sp : List (DataW H)} (ht : Try.prog.underlying t = some (.slice e)) (h : Wok t (.slice elems sp)) {d : DataW H} (hd : d ∈ elems) : Wok e d :=
  fun b hb => h b (by simp only [DataW.weights, ht]; exact List.mem_cons_of_mem _ (List.mem_append_left _ (weightsAll_mem hb hd)))
theorem Wok.len {t e : TypeId} {elems sp : List (DataW H)} (ht : Try.prog.underlying t = some (.slice e)) (h : Wok t (.slice elems sp)) : (elems.length + sp.length) * Try.prog.bytesOf e ≤ reachBytes :=
  h _ (by simp only [DataW.weights, ht]; exact List.mem_cons_self)
theorem Wok.str {t : TypeId} {l : List UInt8} (h : Wok (H := H) t (.lit (.string l))) : l.length ≤ reachBytes := h _ (by simp [DataW.weights])
/-- A string, opened: how long it may be. -/
theorem open_StrS {t : TypeId} (ht : Try.prog.underlying t = some .string) {fuel : Nat} {cs : List Value} {x : DataW H × List MemPlace} (h : DataW.trod enc Try.prog w base spare held fuel t cs = some x) (hw : Wok t x.1) : ∃ s : ByteArray, cs = [.string s] ∧ s.size ≤ 140737488355328 := by
  obtain ⟨s, e, ex, _⟩ := DataW.trod_string ht h
  refine ⟨s, e, ?_⟩
  rw [ex] at hw
  have := hw.str
  simp [reachBytes] at this
  have e2 : s.size = s.data.size := rfl
  rw [e2]; omega
set_option maxRecDepth 20000 in
/-- A slice of flat elements, opened: how long it may be. -/
theorem open_flatS {α : Type} [Inhabited α] {e : α → List Value} {k kb : Nat} {G : α → Prop} {t te : TypeId} (hk : ∀ x, (e x).length = k) (hk0 : 0 < k) (ht : Try.prog.underlying t = some (.slice te)) (hc : Try.prog.cellsOf te = k) (hb0 : Try.prog.bytesOf te = kb)
    (hopen : ∀ (fuel : Nat) (cs : List Value) (x : DataW H × List MemPlace), DataW.trod enc Try.prog w base spare held fuel te cs = some x → Wok te x.1 → ∃ v, cs = e v ∧ G v)
    {fuel : Nat} {cs : List Value} {x : DataW H × List MemPlace} (h : DataW.trod enc Try.prog w base spare held fuel t cs = some x) (hw : Wok t x.1) : ∃ A n c l, cs = [.slice A n c] ∧ l.length = n ∧ RowV w A n k (flat e l) ∧ n ≤ c ∧ c ≤ 9223372036854775807 ∧ n * kb ≤ 140737488355328 ∧ ∀ v ∈ l, G v := by
  rcases Deep.open_slice ht h with ⟨hcs, _⟩ | ⟨a, len, cap, m, n, D, Pl, hcs, _, hl, hm, hmm, hxx, hx⟩
  · exact ⟨none, 0, 0, [], hcs, rfl, ⟨by simp [flat], by omega, fun h => absurd h (by omega)⟩, by omega, by omega, by omega, fun v hv => by cases hv⟩
  · have hlen : len ≤ m := by rw [hmm]; split <;> omega
    rw [hxx] at hw
    have hq : len * kb ≤ 140737488355328 := by
      have := hw.len ht
      rw [hb0] at this
      simp only [List.length_map, List.length_range, reachBytes] at this
      have h2 : len * kb ≤ (len + (m - len)) * kb := Nat.mul_le_mul_right _ (by omega)
      omega
    have hcell : ∀ i, i < len → ∃ v : α, G v ∧ ∀ j u, (e v)[j]? = some u → w.cell? (a.add (i * k + j)) = some u := by
      intro i hi
      obtain ⟨cs', h1, h2⟩ := hx i (by omega)
      rw [hc] at h1
      obtain ⟨v, rfl, hg⟩ := hopen _ _ _ h2 (hw.elem ht (List.mem_map.2 ⟨i, List.mem_range.2 hi, rfl⟩))
      refine ⟨v, hg, fun j u hj => ?_⟩
      obtain ⟨_, _, hat⟩ := World.cells?_some h1
      have hjk : j < k := by
        have := (List.getElem?_eq_some_iff.1 hj).1
        rw [hk] at this; exact this
      have := hat j hjk
      rw [Deep.add_add] at this
      rw [this]; exact hj
    obtain ⟨f, hf⟩ := Deep.choose_lt (α := α) hcell
    have hg : ∀ i, i < len → ((List.range len).map f).getD i default = f i := fun i hi => by simp [hi]
    refine ⟨some a, len, cap, (List.range len).map f, hcs, by simp, ⟨by rw [flat_len hk]; simp, by have : cap ≤ 9223372036854775807 := hm; omega, fun hn => ?_⟩, hl, hm, hq, fun v hv => ?_⟩
    · obtain ⟨b, off, spot⟩ := a
      have h0 := (hf 0 hn).2
      obtain ⟨u0, hu0⟩ : ∃ u, (e (f 0))[0]? = some u := by
        have : 0 < (e (f 0)).length := by rw [hk]; exact hk0
        exact ⟨_, List.getElem?_eq_getElem this⟩
      have hc0 := h0 0 u0 hu0
      have hspot : spot = none := by simpa [Addr.add] using World.cell?_spot hc0
      subst hspot
      refine ⟨b, off, rfl, by simpa [Addr.add] using World.block_lt_of_cell? w _ hc0, fun j u hj => ?_⟩
      have hjl : j < len * k := by
        have := (List.getElem?_eq_some_iff.1 hj).1
        rw [flat_len hk] at this; simpa using this
      have hq : j / k < len := by rw [Nat.div_lt_iff_lt_mul hk0]; exact hjl
      have hr : j % k < k := Nat.mod_lt _ hk0
      have hjj : j = j / k * k + j % k := by rw [Nat.mul_comm]; exact (Nat.div_add_mod j k).symm
      have h1 := flat_at hk ((List.range len).map f) (j / k) (j % k) (by simpa using hq) hr
      rw [← hjj, hg _ hq, hj] at h1
      have h2 := (hf (j / k) hq).2 (j % k) u h1.symm
      rw [← hjj] at h2
      rw [← h2]
      congr 1
      by_cases hz : j = 0
      · subst hz; rfl
      · simp [Addr.add, hz]
    · rw [List.mem_map] at hv
      obtain ⟨i, hi, rfl⟩ := hv
      exact (hf i (List.mem_range.1 hi)).1
theorem cells_str : Try.prog.cellsOf 9 = 1 := by kernel_rfl
theorem cells_strs : Try.prog.cellsOf 28 = 1 := by kernel_rfl
theorem cells_pair : Try.prog.cellsOf 102 = 2 := by kernel_rfl
theorem cells_pairs : Try.prog.cellsOf 22 = 1 := by kernel_rfl
theorem cells_acct : Try.prog.cellsOf 50 = 2 := by kernel_rfl
theorem cells_accts : Try.prog.cellsOf 23 = 1 := by kernel_rfl
theorem cells_table : Try.prog.cellsOf 25 = 2 := by kernel_rfl
theorem cells_tx : Try.prog.cellsOf 44 = 4 := by kernel_rfl
theorem cells_txs : Try.prog.cellsOf 26 = 1 := by kernel_rfl
theorem cells_batch : Try.prog.cellsOf 59 = 3 := by kernel_rfl
theorem cells_batches : Try.prog.cellsOf 27 = 1 := by kernel_rfl
theorem cells_ask22 : Try.prog.cellsOf 30 = 5 := by kernel_rfl
theorem bytes_str : Try.prog.bytesOf 9 = 16 := by kernel_rfl
theorem bytes_pair : Try.prog.bytesOf 102 = 32 := by kernel_rfl
theorem bytes_acct : Try.prog.bytesOf 50 = 16 := by kernel_rfl
theorem bytes_tx : Try.prog.bytesOf 44 = 48 := by kernel_rfl
theorem bytes_batch : Try.prog.bytesOf 59 = 40 := by kernel_rfl
set_option maxRecDepth 20000 in
theorem open_PairS {fuel : Nat} {cs : List Value} {x : DataW H × List MemPlace} (h : DataW.trod enc Try.prog w base spare held fuel 102 cs = some x) (hw : Wok 102 x.1) : ∃ v, cs = encP v ∧ SmP v := by
  obtain ⟨xs, n, _, hx, hl, hlen, hf⟩ := DataW.trod_struct Try.underlying102 h
  rw [hx] at hw
  rw [cells_pair] at hl
  obtain ⟨v0, v1, rfl⟩ := list2 hl
  obtain ⟨y0, y1, rfl⟩ := list2 hlen
  have f0 : DataW.trod enc Try.prog w base spare held n 9 [v0] = some y0 := by simpa [cells_str] using hf 0 _ rfl
  have f1 : DataW.trod enc Try.prog w base spare held n 9 [v1] = some y1 := by simpa [cells_str] using hf 1 _ rfl
  obtain ⟨z0, e0, s0⟩ := open_StrS Try.underlying9 f0 (hw.field Try.underlying102 (i := 0) rfl rfl)
  obtain ⟨z1, e1, s1⟩ := open_StrS Try.underlying9 f1 (hw.field Try.underlying102 (i := 1) rfl rfl)
  injection e0 with e0; injection e1 with e1
  subst e0; subst e1
  exact ⟨⟨z0, z1⟩, rfl, s0, s1⟩
set_option maxRecDepth 20000 in
theorem open_AcctS {fuel : Nat} {cs : List Value} {x : DataW H × List MemPlace} (h : DataW.trod enc Try.prog w base spare held fuel 50 cs = some x) (hw : Wok 50 x.1) : ∃ v, cs = encA v ∧ True := by
  obtain ⟨xs, n, _, hx, hl, hlen, hf⟩ := DataW.trod_struct Try.underlying50 h
  rw [cells_acct] at hl
  obtain ⟨v0, v1, rfl⟩ := list2 hl
  obtain ⟨y0, y1, rfl⟩ := list2 hlen
  have f0 : DataW.trod enc Try.prog w base spare held n 3 [v0] = some y0 := by simpa [cells_int] using hf 0 _ rfl
  have f1 : DataW.trod enc Try.prog w base spare held n 3 [v1] = some y1 := by simpa [cells_int] using hf 1 _ rfl
  obtain ⟨z0, e0⟩ := open_Int f0
  obtain ⟨z1, e1⟩ := open_Int f1
  injection e0 with e0; injection e1 with e1
  subst e0; subst e1
  exact ⟨⟨z0, z1⟩, rfl, trivial⟩
set_option maxRecDepth 20000 in
theorem open_TxS {fuel : Nat} {cs : List Value} {x : DataW H × List MemPlace} (h : DataW.trod enc Try.prog w base spare held fuel 44 cs = some x) (hw : Wok 44 x.1) : ∃ v, cs = encX v ∧ SmX v := by
  obtain ⟨xs, n, _, hx, hl, hlen, hf⟩ := DataW.trod_struct Try.underlying44 h
  rw [hx] at hw
  rw [cells_tx] at hl
  obtain ⟨v0, v1, v2, v3, rfl⟩ := list4 hl
  obtain ⟨y0, y1, y2, y3, rfl⟩ := list4 hlen
  have f0 : DataW.trod enc Try.prog w base spare held n 3 [v0] = some y0 := by simpa [cells_int] using hf 0 _ rfl
  have f1 : DataW.trod enc Try.prog w base spare held n 3 [v1] = some y1 := by simpa [cells_int] using hf 1 _ rfl
  have f2 : DataW.trod enc Try.prog w base spare held n 9 [v2] = some y2 := by simpa [cells_str] using hf 2 _ rfl
  have f3 : DataW.trod enc Try.prog w base spare held n 9 [v3] = some y3 := by simpa [cells_str] using hf 3 _ rfl
  obtain ⟨z0, e0⟩ := open_Int f0
  obtain ⟨z1, e1⟩ := open_Int f1
  obtain ⟨z2, e2, s2⟩ := open_StrS Try.underlying9 f2 (hw.field Try.underlying44 (i := 2) rfl rfl)
  obtain ⟨z3, e3, s3⟩ := open_StrS Try.underlying9 f3 (hw.field Try.underlying44 (i := 3) rfl rfl)
  injection e0 with e0; injection e1 with e1; injection e2 with e2; injection e3 with e3
  subst e0; subst e1; subst e2; subst e3
  exact ⟨⟨z0, z1, z2, z3⟩, rfl, s2, s3⟩
theorem open_StringS {fuel : Nat} {cs : List Value} {x : DataW H × List MemPlace} (h : DataW.trod enc Try.prog w base spare held fuel 9 cs = some x) (hw : Wok 9 x.1) : ∃ v, cs = encS v ∧ v.size ≤ 140737488355328 := by
  obtain ⟨s, e, h2⟩ := open_StrS Try.underlying9 h hw
  exact ⟨s, e, h2⟩
set_option maxRecDepth 20000 in
theorem open_BatchS {fuel : Nat} {cs : List Value} {x : DataW H × List MemPlace} (h : DataW.trod enc Try.prog w base spare held fuel 59 cs = some x) (hw : Wok 59 x.1) : ∃ (b : BatchD) (A : Option Addr) (n c : Nat), cs = [.int .i64 b.au, .int .i64 b.n, .slice A n c] ∧ TxsR w A n b.tx ∧ SmB b := by
  obtain ⟨xs, n, _, hx, hl, hlen, hf⟩ := DataW.trod_struct Try.underlying59 h
  rw [hx] at hw
  rw [cells_batch] at hl
  obtain ⟨v0, v1, v2, rfl⟩ := list3 hl
  obtain ⟨y0, y1, y2, rfl⟩ := list3 hlen
  have f0 : DataW.trod enc Try.prog w base spare held n 3 [v0] = some y0 := by simpa [cells_int] using hf 0 _ rfl
  have f1 : DataW.trod enc Try.prog w base spare held n 3 [v1] = some y1 := by simpa [cells_int] using hf 1 _ rfl
  have f2 : DataW.trod enc Try.prog w base spare held n 26 [v2] = some y2 := by simpa [cells_txs] using hf 2 _ rfl
  obtain ⟨z0, e0⟩ := open_Int f0
  obtain ⟨z1, e1⟩ := open_Int f1
  obtain ⟨A, m, c, l, e2, h1, h2, h3, h4, h5, h6⟩ := open_flatS (e := encX) (G := SmX) encX_len (by omega) Try.underlying26 cells_tx bytes_tx (fun _ _ _ h hw => open_TxS h hw) f2 (hw.field Try.underlying59 (i := 2) rfl rfl)
  injection e0 with e0; injection e1 with e1; injection e2 with e2
  subst e0; subst e1; subst e2
  exact ⟨⟨z0, z1, l⟩, A, m, c, rfl, ⟨h1, h2⟩, by rw [h1]; omega, h6⟩
set_option maxRecDepth 20000 in
theorem open_BatchesS {fuel : Nat} {cs : List Value} {x : DataW H × List MemPlace} (h : DataW.trod enc Try.prog w base spare held fuel 27 cs = some x) (hw : Wok 27 x.1) : ∃ A n c l, cs = [.slice A n c] ∧ BatchesR w A n l ∧ n ≤ 17592186044416 ∧ ∀ b ∈ l, SmB b := by
  rcases Deep.open_slice Try.underlying27 h with ⟨hcs, _⟩ | ⟨a, len, cap, m, n, D, Pl, hcs, _, hl, hm, hmm, hxx, hx⟩
  · exact ⟨none, 0, 0, [], hcs, ⟨rfl, by omega, fun h => absurd h (by omega)⟩, by omega, fun b hb => by cases hb⟩
  · have hlen : len ≤ m := by rw [hmm]; split <;> omega
    rw [hxx] at hw
    have hq : len ≤ 17592186044416 := by
      have := hw.len Try.underlying27
      rw [bytes_batch] at this
      simp only [List.length_map, List.length_range, reachBytes] at this
      omega
    have hcell : ∀ i, i < len → ∃ b : BatchD, SmB b ∧ ∃ (A : Option Addr) (n c : Nat), TxsR w A n b.tx ∧ ∀ j (v : Value), [Value.int .i64 b.au, .int .i64 b.n, .slice A n c][j]? = some v → w.cell? (a.add (i * 3 + j)) = some v := by
      intro i hi
      obtain ⟨cs', h1, h2⟩ := hx i (by omega)
      rw [cells_batch] at h1
      obtain ⟨b, A, n, c, rfl, hC, hs⟩ := open_BatchS h2 (hw.elem Try.underlying27 (List.mem_map.2 ⟨i, List.mem_range.2 hi, rfl⟩))
      refine ⟨b, hs, A, n, c, hC, fun j v hj => ?_⟩
      obtain ⟨_, _, hat⟩ := World.cells?_some h1
      have hj3 : j < 3 := by
        have := (List.getElem?_eq_some_iff.1 hj).1
        simpa using this
      have := hat j hj3
      rw [Deep.add_add] at this
      rw [this]; exact hj
    obtain ⟨f, hf⟩ := Deep.choose_lt (α := BatchD) hcell
    have hg : ∀ i, i < len → bth ((List.range len).map f) i = f i := fun i hi => by simp [bth, hi]
    refine ⟨some a, len, cap, (List.range len).map f, hcs, ⟨by simp, by have : cap ≤ 9223372036854775807 := hm; omega, fun hn => ?_⟩, hq, fun b hb => by
      rw [List.mem_map] at hb
      obtain ⟨i, hi, rfl⟩ := hb
      exact (hf i (List.mem_range.1 hi)).1⟩
    obtain ⟨b, off, spot⟩ := a
    obtain ⟨_, A0, n0, c0, _, h0⟩ := hf 0 hn
    have hc0 := h0 0 _ rfl
    have hspot : spot = none := by simpa [Addr.add] using World.cell?_spot hc0
    subst hspot
    refine ⟨b, off, rfl, by simpa [Addr.add] using World.block_lt_of_cell? w _ hc0, fun j hj => ?_⟩
    obtain ⟨hs, A1, n1, c1, hr, h1⟩ := hf j hj
    rw [hg j hj]
    have hat : ∀ r (v : Value), [Value.int .i64 (f j).au, .int .i64 (f j).n, .slice A1 n1 c1][r]? = some v → w.cell? ⟨b, off + j * 3 + r, none⟩ = some v := fun r v hv => by
      have := h1 r v hv
      by_cases hz : j * 3 + r = 0
      · obtain ⟨rfl, rfl⟩ : j = 0 ∧ r = 0 := by omega
        simpa [Addr.add] using this
      · rw [← this]
        congr 1
        simp only [Addr.add, hz, if_false, Nat.add_assoc]
    exact ⟨A1, n1, c1, hat 0 _ rfl, hat 1 _ rfl, hat 2 _ rfl, hr⟩
set_option maxRecDepth 20000 in
theorem open_Ask22 {r : Reach} {b0 : Nat} {v : Value} {d : DataW H} {p : List MemPlace} (hv : Value.okWide Try.prog w r b0 30 v) (h : DataW.Trod enc Try.prog w base spare held 30 v d p) (hw : Wok 30 d) :
    ∃ (P : AskP) (D : AskD), v = P.val ∧ AskR w P D := by
  obtain ⟨cs, rfl, hsz⟩ := okWide_struct Try.underlying30 hv
  obtain ⟨l⟩ := cs
  rw [cells_ask22] at hsz
  obtain ⟨v0, v1, v2, v3, v4, rfl⟩ := list5 hsz
  obtain ⟨fuel, hfu⟩ := h
  obtain ⟨xs, n, _, hx, hl, hlen, hf⟩ := DataW.trod_struct Try.underlying30 hfu
  have hx2 := congrArg Prod.fst hx
  dsimp only at hx2
  rw [hx2] at hw
  obtain ⟨y0, y1, y2, y3, rfl⟩ := list4 hlen
  have f0 : DataW.trod enc Try.prog w base spare held n 25 [v0, v1] = some y0 := by simpa [cells_table, Value.cells] using hf 0 _ rfl
  have f1 : DataW.trod enc Try.prog w base spare held n 26 [v2] = some y1 := by simpa [cells_table, cells_txs, Value.cells] using hf 1 _ rfl
  have f2 : DataW.trod enc Try.prog w base spare held n 27 [v3] = some y2 := by simpa [cells_table, cells_txs, cells_batches, Value.cells] using hf 2 _ rfl
  have f3 : DataW.trod enc Try.prog w base spare held n 28 [v4] = some y3 := by simpa [cells_table, cells_txs, cells_batches, cells_strs, Value.cells] using hf 3 _ rfl
  have w0 := hw.field Try.underlying30 (i := 0) (f := 25) rfl rfl
  have w1 := hw.field Try.underlying30 (i := 1) (f := 26) rfl rfl
  have w2 := hw.field Try.underlying30 (i := 2) (f := 27) rfl rfl
  have w3 := hw.field Try.underlying30 (i := 3) (f := 28) rfl rfl
  obtain ⟨xs0, n0, _, hx0, hl0, hlen0, hf0⟩ := DataW.trod_struct Try.underlying25 f0
  obtain ⟨z0, z1, rfl⟩ := list2 hlen0
  rw [hx0] at w0
  dsimp only at w0
  have g0 : DataW.trod enc Try.prog w base spare held n0 22 [v0] = some z0 := by simpa [cells_pairs] using hf0 0 _ rfl
  have g1 : DataW.trod enc Try.prog w base spare held n0 23 [v1] = some z1 := by simpa [cells_pairs, cells_accts] using hf0 1 _ rfl
  obtain ⟨A0, n0, c0, l0, e0, a1, a2, a3, a4, a5, a6⟩ := open_flatS (e := encP) (G := SmP) encP_len (by omega) Try.underlying22 cells_pair bytes_pair (fun _ _ _ h hw => open_PairS h hw) g0 (w0.field Try.underlying25 (i := 0) rfl rfl)
  obtain ⟨A1, n1, c1, l1, e1, b1, b2, b3, b4, b5, b6⟩ := open_flatS (e := encA) (G := fun _ => True) encA_len (by omega) Try.underlying23 cells_acct bytes_acct (fun _ _ _ h hw => open_AcctS h hw) g1 (w0.field Try.underlying25 (i := 1) rfl rfl)
  obtain ⟨A2, n2, c2, l2, e2, d1, d2, d3, d4, d5, d6⟩ := open_flatS (e := encX) (G := SmX) encX_len (by omega) Try.underlying26 cells_tx bytes_tx (fun _ _ _ h hw => open_TxS h hw) f1 w1
  obtain ⟨A3, n3, c3, l3, e3, r3, s3, t3⟩ := open_BatchesS f2 w2
  obtain ⟨A4, n4, c4, l4, e4, k1, k2, k3, k4, k5, k6⟩ := open_flatS (e := encS) (G := fun s => s.size ≤ 140737488355328) encS_len (by omega) Try.underlying28 cells_str bytes_str (fun _ _ _ h hw => open_StringS h hw) f3 w3
  simp only [List.cons.injEq, and_true] at e0 e1 e2 e3 e4
  subst e0; subst e1; subst e2; subst e3; subst e4
  exact ⟨⟨⟨A0, n0, c0⟩, ⟨A1, n1, c1⟩, ⟨A2, n2, c2⟩, ⟨A3, n3, c3⟩, ⟨A4, n4, c4⟩⟩, ⟨l0, l1, l2, l3, l4⟩, rfl,
    { p := ⟨a1, a2⟩, q := ⟨b1, b2⟩, x := ⟨d1, d2⟩, b := r3, k := ⟨k1, k2⟩, sp := by show n0 ≤ _; omega, sq := by show n1 ≤ _; omega, sx := by show n2 ≤ _; omega, sb := s3, sk := by show n4 ≤ _; omega, gp := a6, gx := d6, gb := t3, gk := k6 }⟩
end
end Go.Proofs.Ytgljmljmljccgaa
