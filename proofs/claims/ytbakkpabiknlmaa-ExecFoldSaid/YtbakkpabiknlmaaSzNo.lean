/- Arguments opened, with the bound that the form itself sets: flat rows of any element, askings of droverlaw22. -/
import Derived.Test.YtbakkpabiknlmaaSzNm
import Derived.Test.YtbakkpabiknlmaaSzYj
import Derived.ChangeArms
import Derived.SizedLaws
namespace Go.Proofs.Ytbakkpabiknlmaa
open Go.RowKit Go.ChangeShapes Go.WideShapes Go.ChangeAt
set_option linter.unusedSimpArgs false
set_option linter.unusedVariables false

section
variable {H : Type} {enc : TypeId × Value → H} {w : World} {base : Nat} {spare : Nat → Bool} {held : Bool}
def Wok (t : TypeId) (d : DataW H) : Prop := ∀ b ∈ d.weights Try.prog t, b ≤ reachBytes
theorem Wok.field {t : TypeId} {fs : Array Field} {parts : List (DataW H)} (ht : Try.prog.underlying t = some (.struct fs)) (h : Wok t (.agg parts)) {i : Nat} {f : TypeId} {d : DataW H} (hf : (fs.toList.map (·.type))[i]? = some f) (hd : parts[i]? = some d) : Wok f d :=
  fun b hb => h b (by simp only [DataW.weights, ht]; exact DataW.weights_mem_each hf hd b hb)
theorem weightsAll_mem {e : TypeId} {d : DataW H} {b : Nat} (hb : b ∈ d.weights Try.prog e) : ∀ {l : List (DataW H)}, d ∈ l → b ∈ DataW.weightsAll Try.prog e l
  | [], h => by cases h
  | x :: l, h => by
    rw [DataW.weightsAll, List.mem_append]
    rcases List.mem_cons.1 h with rfl | h
    · exact .inl hb
    · exact .inr (weightsAll_mem hb h)
theorem Wok.elem {t e : TypeId} {elems sp : List (DataW H)} (ht : Try.prog.underlying t = some (.slice e)) (h : Wok t (.slice elems sp)) {d : DataW H} (hd : d ∈ elems) : Wok e d :=
  fun b hb => h b (by simp only [DataW.weights, ht]; exact List.mem_cons_of_mem _ (List.mem_append_left _ (weightsAll_mem hb hd)))
theorem Wok.len {t e : TypeId} {elems sp : List (DataW H)} (ht : Try.prog.underlying t = some (.slice e)) (h : Wok t (.slice elems sp)) : (elems.length + sp.length) * Try.prog.bytesOf e ≤ reachBytes :=
  h _ (by simp only [DataW.weights, ht]; exact List.mem_cons_self)
theorem Wok.str {t : TypeId} {l : List UInt8} (h : Wok (H := H) t (.lit (.string l))) : l.length ≤ reachBytes := h _ (by simp [DataW.weights])
/-- A string, opened: how long it may be. -/
theorem open_StrS {t : TypeId} (ht : Try.prog.underlying t = some .string) {fuel : Nat} {cs : List Value} {x : DataW H × List MemPlace} (h : DataW.trod enc Try.prog w base spare held fuel t cs = some x) (hw : Wok t x.1) : ∃ s : ByteArray, cs = [.string s] ∧ s.size ≤ 140737488355328 := by
  obtain ⟨s, e, ex, _⟩ := DataW.trod_string ht h
  refine ⟨s, e, ?_⟩
  rw [ex] at hw
  have := hw.str
  simp [reachBytes] at this
  have e2 : s.size = s.data.size := rfl
  rw [e2]; omega
set_option maxRecDepth 20000 in
/-- A slice of flat elements, opened: how long it may be. -/
theorem open_flatS {α : Type} [Inhabited α] {e : α → List Value} {k kb : Nat} {G : α → Prop} {t te : TypeId} (hk : ∀ x, (e x).length = k) (hk0 : 0 < k) (ht : Try.prog.underlying t = some (.slice te)) (hc : Try.prog.cellsOf te = k) (hb0 : Try.prog.bytesOf te = kb)
    (hopen : ∀ (fuel : Nat) (cs : List Value) (x : DataW H × List MemPlace), DataW.trod enc Try.prog w base spare held fuel te cs = some x → Wok te x.1 → ∃ v, cs = e v ∧ G v)
    {fuel : Nat} {cs : List Value} {x : DataW H × List MemPlace} (h : DataW.trod enc Try.prog w base spare held fuel t cs = some x) (hw : Wok t x.1) : ∃ A n c l, cs = [.slice A n c] ∧ l.length = n ∧ RowV w A n k (flat e l) ∧ n ≤ c ∧ c ≤ 9223372036854775807 ∧ n * kb ≤ 140737488355328 ∧ ∀ v ∈ l, G v := by
  rcases Deep.open_slice ht h with ⟨hcs, _⟩ | ⟨a, len, cap, m, n, D, Pl, hcs, _, hl, hm, hmm, hxx, hx⟩
  · exact ⟨none, 0, 0, [], hcs, rfl, ⟨by simp [flat], by omega, fun h => absurd h (by omega)⟩, by omega, by omega, by omega, fun v hv => by cases hv⟩
  · have hlen : len ≤ m := by rw [hmm]; split <;> omega
    rw [hxx] at hw
    have hq : len * kb ≤ 140737488355328 := by
      have := hw.len ht
      rw [hb0] at this
      simp only [List.length_map, List.length_range, reachBytes] at this
      have h2 : len * kb ≤ (len + (m - len)) * kb := Nat.mul_le_mul_right _ (by omega)
      omega
    have hcell : ∀ i, i < len → ∃ v : α, G v ∧ ∀ j u, (e v)[j]? = some u → w.cell? (a.add (i * k + j)) = some u := by
      intro i hi
      obtain ⟨cs', h1, h2⟩ := hx i (by omega)
      rw [hc] at h1
      obtain ⟨v, rfl, hg⟩ := hopen _ _ _ h2 (hw.elem ht (List.mem_map.2 ⟨i, List.mem_range.2 hi, rfl⟩))
      refine ⟨v, hg, fun j u hj => ?_⟩
      obtain ⟨_, _, hat⟩ := World.cells?_some h1
      have hjk : j < k := by
        have := (List.getElem?_eq_some_iff.1 hj).1
        rw [hk] at this; exact this
      have := hat j hjk
      rw [Deep.add_add] at this
      rw [this]; exact hj
    obtain ⟨f, hf⟩ := Deep.choose_lt (α := α) hcell
    have hg : ∀ i, i < len → ((List.range len).map f).getD i default = f i := fun i hi => by simp [hi]
    refine ⟨some a, len, cap, (List.range len).map f, hcs, by simp, ⟨by rw [flat_len hk]; simp, by have : cap ≤ 9223372036854775807 := hm; omega, fun hn => ?_⟩, hl, hm, hq, fun v hv => ?_⟩
    · obtain ⟨b, off, spot⟩ := a
      have h0 := (hf 0 hn).2
      obtain ⟨u0, hu0⟩ : ∃ u, (e (f 0))[0]? = some u := by
        have : 0 < (e (f 0)).length := by rw [hk]; exact hk0
        exact ⟨_, List.getElem?_eq_getElem this⟩
      have hc0 := h0 0 u0 hu0
      have hspot : spot = none := by simpa [Addr.add] using World.cell?_spot hc0
      subst hspot
      refine ⟨b, off, rfl, by simpa [Addr.add] using World.block_lt_of_cell? w _ hc0, fun j u hj => ?_⟩
      have hjl : j < len * k := by
        have := (List.getElem?_eq_some_iff.1 hj).1
        rw [flat_len hk] at this; simpa using this
      have hq : j / k < len := by rw [Nat.div_lt_iff_lt_mul hk0]; exact hjl
      have hr : j % k < k := Nat.mod_lt _ hk0
      have hjj : j = j / k * k + j % k := by rw [Nat.mul_comm]; exact (Nat.div_add_mod j k).symm
      have h1 := flat_at hk ((List.range len).map f) (j / k) (j % k) (by simpa using hq) hr
      rw [← hjj, hg _ hq, hj] at h1
      have h2 := (hf (j / k) hq).2 (j % k) u h1.symm
      rw [← hjj] at h2
      rw [← h2]
      congr 1
      by_cases hz : j = 0
      · subst hz; rfl
      · simp [Addr.add, hz]
    · rw [List.mem_map] at hv
      obtain ⟨i, hi, rfl⟩ := hv
      exact (hf i (List.mem_range.1 hi)).1
theorem cells_str : Try.prog.cellsOf 9 = 1 := by kernel_rfl
theorem cells_pair : Try.prog.cellsOf 85 = 2 := by kernel_rfl
theorem cells_pairs : Try.prog.cellsOf 22 = 1 := by kernel_rfl
theorem cells_acct : Try.prog.cellsOf 87 = 2 := by kernel_rfl
theorem cells_accts : Try.prog.cellsOf 23 = 1 := by kernel_rfl
theorem cells_table : Try.prog.cellsOf 25 = 2 := by kernel_rfl
theorem cells_tx : Try.prog.cellsOf 81 = 4 := by kernel_rfl
theorem cells_txs : Try.prog.cellsOf 40 = 1 := by kernel_rfl
theorem cells_batch : Try.prog.cellsOf 42 = 3 := by kernel_rfl
theorem bytes_pair : Try.prog.bytesOf 85 = 32 := by kernel_rfl
theorem bytes_acct : Try.prog.bytesOf 87 = 16 := by kernel_rfl
theorem bytes_tx : Try.prog.bytesOf 81 = 48 := by kernel_rfl
set_option maxRecDepth 20000 in
theorem open_PairS {fuel : Nat} {cs : List Value} {x : DataW H × List MemPlace} (h : DataW.trod enc Try.prog w base spare held fuel 85 cs = some x) (hw : Wok 85 x.1) : ∃ v, cs = encP v ∧ SmP v := by
  obtain ⟨xs, n, _, hx, hl, hlen, hf⟩ := DataW.trod_struct Try.underlying85 h
  rw [hx] at hw
  rw [cells_pair] at hl
  obtain ⟨v0, v1, rfl⟩ := list2 hl
  obtain ⟨y0, y1, rfl⟩ := list2 hlen
  have f0 : DataW.trod enc Try.prog w base spare held n 9 [v0] = some y0 := by simpa [cells_str] using hf 0 _ rfl
  have f1 : DataW.trod enc Try.prog w base spare held n 9 [v1] = some y1 := by simpa [cells_str] using hf 1 _ rfl
  obtain ⟨z0, e0, s0⟩ := open_StrS Try.underlying9 f0 (hw.field Try.underlying85 (i := 0) rfl rfl)
  obtain ⟨z1, e1, s1⟩ := open_StrS Try.underlying9 f1 (hw.field Try.underlying85 (i := 1) rfl rfl)
  injection e0 with e0; injection e1 with e1
  subst e0; subst e1
  exact ⟨⟨z0, z1⟩, rfl, s0, s1⟩
set_option maxRecDepth 20000 in
theorem open_AcctS {fuel : Nat} {cs : List Value} {x : DataW H × List MemPlace} (h : DataW.trod enc Try.prog w base spare held fuel 87 cs = some x) (hw : Wok 87 x.1) : ∃ v, cs = encA v ∧ True := by
  obtain ⟨xs, n, _, hx, hl, hlen, hf⟩ := DataW.trod_struct Try.underlying87 h
  rw [cells_acct] at hl
  obtain ⟨v0, v1, rfl⟩ := list2 hl
  obtain ⟨y0, y1, rfl⟩ := list2 hlen
  have f0 : DataW.trod enc Try.prog w base spare held n 3 [v0] = some y0 := by simpa [cells_int] using hf 0 _ rfl
  have f1 : DataW.trod enc Try.prog w base spare held n 3 [v1] = some y1 := by simpa [cells_int] using hf 1 _ rfl
  obtain ⟨z0, e0⟩ := open_Int f0
  obtain ⟨z1, e1⟩ := open_Int f1
  injection e0 with e0; injection e1 with e1
  subst e0; subst e1
  exact ⟨⟨z0, z1⟩, rfl, trivial⟩
set_option maxRecDepth 20000 in
theorem open_TxS {fuel : Nat} {cs : List Value} {x : DataW H × List MemPlace} (h : DataW.trod enc Try.prog w base spare held fuel 81 cs = some x) (hw : Wok 81 x.1) : ∃ v, cs = encX v ∧ SmX v := by
  obtain ⟨xs, n, _, hx, hl, hlen, hf⟩ := DataW.trod_struct Try.underlying81 h
  rw [hx] at hw
  rw [cells_tx] at hl
  obtain ⟨v0, v1, v2, v3, rfl⟩ := list4 hl
  obtain ⟨y0, y1, y2, y3, rfl⟩ := list4 hlen
  have f0 : DataW.trod enc Try.prog w base spare held n 3 [v0] = some y0 := by simpa [cells_int] using hf 0 _ rfl
  have f1 : DataW.trod enc Try.prog w base spare held n 3 [v1] = some y1 := by simpa [cells_int] using hf 1 _ rfl
  have f2 : DataW.trod enc Try.prog w base spare held n 9 [v2] = some y2 := by simpa [cells_str] using hf 2 _ rfl
  have f3 : DataW.trod enc Try.prog w base spare held n 9 [v3] = some y3 := by simpa [cells_str] using hf 3 _ rfl
  obtain ⟨z0, e0⟩ := open_Int f0
  obtain ⟨z1, e1⟩ := open_Int f1
  obtain ⟨z2, e2, s2⟩ := open_StrS Try.underlying9 f2 (hw.field Try.underlying81 (i := 2) rfl rfl)
  obtain ⟨z3, e3, s3⟩ := open_StrS Try.underlying9 f3 (hw.field Try.underlying81 (i := 3) rfl rfl)
  injection e0 with e0; injection e1 with e1; injection e2 with e2; injection e3 with e3
  subst e0; subst e1; subst e2; subst e3
  exact ⟨⟨z0, z1, z2, z3⟩, rfl, s2, s3⟩
set_option maxRecDepth 20000 in
theorem open_BatchS {fuel : Nat} {cs : List Value} {x : DataW H × List MemPlace} (h : DataW.trod enc Try.prog w base spare held fuel 42 cs = some x) (hw : Wok 42 x.1) : ∃ (b : BatchD) (A : Option Addr) (n c : Nat), cs = [.int .i64 b.au, .int .i64 b.n, .slice A n c] ∧ TxsR w A n b.tx ∧ SmB b := by
  obtain ⟨xs, n, _, hx, hl, hlen, hf⟩ := DataW.trod_struct Try.underlying42 h
  rw [hx] at hw
  rw [cells_batch] at hl
  obtain ⟨v0, v1, v2, rfl⟩ := list3 hl
  obtain ⟨y0, y1, y2, rfl⟩ := list3 hlen
  have f0 : DataW.trod enc Try.prog w base spare held n 3 [v0] = some y0 := by simpa [cells_int] using hf 0 _ rfl
  have f1 : DataW.trod enc Try.prog w base spare held n 3 [v1] = some y1 := by simpa [cells_int] using hf 1 _ rfl
  have f2 : DataW.trod enc Try.prog w base spare held n 40 [v2] = some y2 := by simpa [cells_txs] using hf 2 _ rfl
  obtain ⟨z0, e0⟩ := open_Int f0
  obtain ⟨z1, e1⟩ := open_Int f1
  obtain ⟨A, m, c, l, e2, h1, h2, h3, h4, h5, h6⟩ := open_flatS (e := encX) (G := SmX) encX_len (by omega) Try.underlying40 cells_tx bytes_tx (fun _ _ _ h hw => open_TxS h hw) f2 (hw.field Try.underlying42 (i := 2) rfl rfl)
  injection e0 with e0; injection e1 with e1; injection e2 with e2
  subst e0; subst e1; subst e2
  exact ⟨⟨z0, z1, l⟩, A, m, c, rfl, ⟨h1, h2⟩, by rw [h1]; omega, h6⟩
end
end Go.Proofs.Ytbakkpabiknlmaa
