/- Copies at the program: transactions, batches, held batches, waits; a worker of one's own. -/
import Derived.Test.YtgfakefcmbpboaaSxWg
import Derived.Deep.RegionHeld3
namespace Go.Proofs.Ytgfakefcmbpboaa
open Go.RowKit
set_option linter.unusedSimpArgs false
set_option linter.unusedVariables false

set_option maxHeartbeats 1000000 in
set_option maxRecDepth 100000 in
theorem slices_Clone_Tx (A : Option Addr) (n c : Nat) (xs : List Value) (w : World) (hr : RowV w A n 4 xs) (h1x : ∀ u ∈ xs, u.oneCell' = true) (hn : n ≤ 900000000) :
    Calls Try.prog 45 #[.slice A n c] w fun r w' => ∃ v', r = .returned v' ∧ w'.ownsRow w.heap.size 37 4 v' n xs ∧ Below w.heap.size w w' := by
  obtain ⟨g1, g2, g3⟩ := hr
  cases A with
  | none =>
    have h0 : n = 0 := by
      rcases Nat.eq_zero_or_pos n with h | h
      · exact h
      · obtain ⟨b, off, e, _⟩ := g3 h; cases e
    subst h0
    have hx : xs = [] := by simpa using g1
    subst hx
    clear g1 g2 g3
    have hnil := Lib.run_eql_slice_nil (P := Try.prog) w 22 37 none 0 c 0 0 Try.underlying22
    go_enter Try.func45, Try.ntmps45
    go_wp2_with fail
    go_ret
    exact ⟨_, rfl, own_nil _ _ _ _, Below.refl _ _⟩
  | some a =>
    have hown : (w.alloc (.cells #[] 37)).ownsRow w.heap.size 37 4 (.slice (some ⟨w.heap.size, 0, none⟩) 0 0) 0 [] :=
      ⟨rfl, .inr ⟨w.heap.size, 0, #[], rfl, Nat.le_refl _, heap_alloc_new w _, Nat.le_refl _, by decide, rfl, rfl⟩⟩
    rcases Nat.eq_zero_or_pos n with h0 | h0
    · subst h0
      have hx : xs = [] := by simpa using g1
      subst hx
      clear g1 g2 g3
      obtain ⟨b, off, sp⟩ := a
      have hrun : (Builtin.append_ #[22, 22] 22 #[.slice (some ⟨w.heap.size, 0, none⟩) 0 0, .slice (some ⟨b, off, sp⟩) 0 c]).run Try.prog (w.alloc (.cells #[] 37)) = .ok (.slice (some ⟨w.heap.size, 0, none⟩) 0 0) (w.alloc (.cells #[] 37)) := by
        obtain ⟨i0, hi, hz, hz1, hz2⟩ := info_parts info_Tx
        simp [Builtin.append_, run_underlying Try.underlying22, sizeOf, typeInfo, hi, Builtin.lenOf, Builtin.firstCells, loadCells, loadCellsFrom, storeCells]
      have HR := Lib.hid hrun
      clear hrun
      have hnil := Lib.run_eql_slice_nil (P := Try.prog) w 22 37 (some ⟨b, off, sp⟩) 0 c 0 0 Try.underlying22
      go_enter Try.func45, Try.ntmps45
      go_wp2_with (at_builtin; refine Lib.wpList_append_run _ rfl _ _ _ _ rfl _ _ rfl rfl _ _ HR.out ?_)
      go_ret
      exact ⟨_, rfl, hown, (Below.refl _ _).alloc (Nat.le_refl _) _⟩
    · obtain ⟨b, off, e, hb, hc⟩ := g3 h0
      injection e with e
      subst e
      have hba : Below w.heap.size w (w.alloc (.cells #[] 37)) := (Below.refl _ _).alloc (Nat.le_refl _) _
      obtain ⟨v', w', hrun, h2, h3, h4, h5⟩ := run_app_Tx (w.alloc (.cells #[] 37)) w.heap.size _ 0 [] hown b off n c xs g1 (fun j u hj => (hba.cell (p := ⟨b, off + j, none⟩) hb).trans (hc j u hj)) h1x (by omega) (by simp)
      rw [Nat.zero_add, List.nil_append] at h2
      have HR := Lib.hid hrun
      have H2 := Lib.hid h2
      have hbel : Below w.heap.size w w' := hba.trans h4
      clear hrun h2 h3 h4 h5 g1 g2 g3 hc hown
      have hnil := Lib.run_eql_slice_nil (P := Try.prog) w 22 37 (some ⟨b, off, none⟩) n c 0 0 Try.underlying22
      go_enter Try.func45, Try.ntmps45
      go_wp2_with (at_builtin; refine Lib.wpList_append_run _ rfl _ _ _ _ rfl _ _ rfl rfl _ _ HR.out ?_)
      go_ret
      exact ⟨_, rfl, H2.out, hbel⟩
set_option maxHeartbeats 1000000 in
set_option maxRecDepth 100000 in
theorem slices_Clone_Wait (A : Option Addr) (n c : Nat) (xs : List Value) (w : World) (hr : RowV w A n 2 xs) (h1x : ∀ u ∈ xs, u.oneCell' = true) (hn : n ≤ 900000000) :
    Calls Try.prog 48 #[.slice A n c] w fun r w' => ∃ v', r = .returned v' ∧ w'.ownsRow w.heap.size 84 2 v' n xs ∧ Below w.heap.size w w' := by
  obtain ⟨g1, g2, g3⟩ := hr
  cases A with
  | none =>
    have h0 : n = 0 := by
      rcases Nat.eq_zero_or_pos n with h | h
      · exact h
      · obtain ⟨b, off, e, _⟩ := g3 h; cases e
    subst h0
    have hx : xs = [] := by simpa using g1
    subst hx
    clear g1 g2 g3
    have hnil := Lib.run_eql_slice_nil (P := Try.prog) w 23 84 none 0 c 0 0 Try.underlying23
    go_enter Try.func48, Try.ntmps48
    go_wp2_with fail
    go_ret
    exact ⟨_, rfl, own_nil _ _ _ _, Below.refl _ _⟩
  | some a =>
    have hown : (w.alloc (.cells #[] 84)).ownsRow w.heap.size 84 2 (.slice (some ⟨w.heap.size, 0, none⟩) 0 0) 0 [] :=
      ⟨rfl, .inr ⟨w.heap.size, 0, #[], rfl, Nat.le_refl _, heap_alloc_new w _, Nat.le_refl _, by decide, rfl, rfl⟩⟩
    rcases Nat.eq_zero_or_pos n with h0 | h0
    · subst h0
      have hx : xs = [] := by simpa using g1
      subst hx
      clear g1 g2 g3
      obtain ⟨b, off, sp⟩ := a
      have hrun : (Builtin.append_ #[23, 23] 23 #[.slice (some ⟨w.heap.size, 0, none⟩) 0 0, .slice (some ⟨b, off, sp⟩) 0 c]).run Try.prog (w.alloc (.cells #[] 84)) = .ok (.slice (some ⟨w.heap.size, 0, none⟩) 0 0) (w.alloc (.cells #[] 84)) := by
        obtain ⟨i0, hi, hz, hz1, hz2⟩ := info_parts info_Wait
        simp [Builtin.append_, run_underlying Try.underlying23, sizeOf, typeInfo, hi, Builtin.lenOf, Builtin.firstCells, loadCells, loadCellsFrom, storeCells]
      have HR := Lib.hid hrun
      clear hrun
      have hnil := Lib.run_eql_slice_nil (P := Try.prog) w 23 84 (some ⟨b, off, sp⟩) 0 c 0 0 Try.underlying23
      go_enter Try.func48, Try.ntmps48
      go_wp2_with (at_builtin; refine Lib.wpList_append_run _ rfl _ _ _ _ rfl _ _ rfl rfl _ _ HR.out ?_)
      go_ret
      exact ⟨_, rfl, hown, (Below.refl _ _).alloc (Nat.le_refl _) _⟩
    · obtain ⟨b, off, e, hb, hc⟩ := g3 h0
      injection e with e
      subst e
      have hba : Below w.heap.size w (w.alloc (.cells #[] 84)) := (Below.refl _ _).alloc (Nat.le_refl _) _
      obtain ⟨v', w', hrun, h2, h3, h4, h5⟩ := run_app_Wait (w.alloc (.cells #[] 84)) w.heap.size _ 0 [] hown b off n c xs g1 (fun j u hj => (hba.cell (p := ⟨b, off + j, none⟩) hb).trans (hc j u hj)) h1x (by omega) (by simp)
      rw [Nat.zero_add, List.nil_append] at h2
      have HR := Lib.hid hrun
      have H2 := Lib.hid h2
      have hbel : Below w.heap.size w w' := hba.trans h4
      clear hrun h2 h3 h4 h5 g1 g2 g3 hc hown
      have hnil := Lib.run_eql_slice_nil (P := Try.prog) w 23 84 (some ⟨b, off, none⟩) n c 0 0 Try.underlying23
      go_enter Try.func48, Try.ntmps48
      go_wp2_with (at_builtin; refine Lib.wpList_append_run _ rfl _ _ _ _ rfl _ _ rfl rfl _ _ HR.out ?_)
      go_ret
      exact ⟨_, rfl, H2.out, hbel⟩
set_option maxHeartbeats 1000000 in
set_option maxRecDepth 100000 in
theorem slices_Clone_Held (A : Option Addr) (n c : Nat) (xs : List Value) (w : World) (hr : RowV w A n 4 xs) (h1x : ∀ u ∈ xs, u.oneCell' = true) (hn : n ≤ 900000000) :
    Calls Try.prog 71 #[.slice A n c] w fun r w' => ∃ v', r = .returned v' ∧ w'.ownsRow w.heap.size 70 4 v' n xs ∧ Below w.heap.size w w' := by
  obtain ⟨g1, g2, g3⟩ := hr
  cases A with
  | none =>
    have h0 : n = 0 := by
      rcases Nat.eq_zero_or_pos n with h | h
      · exact h
      · obtain ⟨b, off, e, _⟩ := g3 h; cases e
    subst h0
    have hx : xs = [] := by simpa using g1
    subst hx
    clear g1 g2 g3
    have hnil := Lib.run_eql_slice_nil (P := Try.prog) w 24 70 none 0 c 0 0 Try.underlying24
    go_enter Try.func71, Try.ntmps71
    go_wp2_with fail
    go_ret
    exact ⟨_, rfl, own_nil _ _ _ _, Below.refl _ _⟩
  | some a =>
    have hown : (w.alloc (.cells #[] 70)).ownsRow w.heap.size 70 4 (.slice (some ⟨w.heap.size, 0, none⟩) 0 0) 0 [] :=
      ⟨rfl, .inr ⟨w.heap.size, 0, #[], rfl, Nat.le_refl _, heap_alloc_new w _, Nat.le_refl _, by decide, rfl, rfl⟩⟩
    rcases Nat.eq_zero_or_pos n with h0 | h0
    · subst h0
      have hx : xs = [] := by simpa using g1
      subst hx
      clear g1 g2 g3
      obtain ⟨b, off, sp⟩ := a
      have hrun : (Builtin.append_ #[24, 24] 24 #[.slice (some ⟨w.heap.size, 0, none⟩) 0 0, .slice (some ⟨b, off, sp⟩) 0 c]).run Try.prog (w.alloc (.cells #[] 70)) = .ok (.slice (some ⟨w.heap.size, 0, none⟩) 0 0) (w.alloc (.cells #[] 70)) := by
        obtain ⟨i0, hi, hz, hz1, hz2⟩ := info_parts info_Held
        simp [Builtin.append_, run_underlying Try.underlying24, sizeOf, typeInfo, hi, Builtin.lenOf, Builtin.firstCells, loadCells, loadCellsFrom, storeCells]
      have HR := Lib.hid hrun
      clear hrun
      have hnil := Lib.run_eql_slice_nil (P := Try.prog) w 24 70 (some ⟨b, off, sp⟩) 0 c 0 0 Try.underlying24
      go_enter Try.func71, Try.ntmps71
      go_wp2_with (at_builtin; refine Lib.wpList_append_run _ rfl _ _ _ _ rfl _ _ rfl rfl _ _ HR.out ?_)
      go_ret
      exact ⟨_, rfl, hown, (Below.refl _ _).alloc (Nat.le_refl _) _⟩
    · obtain ⟨b, off, e, hb, hc⟩ := g3 h0
      injection e with e
      subst e
      have hba : Below w.heap.size w (w.alloc (.cells #[] 70)) := (Below.refl _ _).alloc (Nat.le_refl _) _
      obtain ⟨v', w', hrun, h2, h3, h4, h5⟩ := run_app_Held (w.alloc (.cells #[] 70)) w.heap.size _ 0 [] hown b off n c xs g1 (fun j u hj => (hba.cell (p := ⟨b, off + j, none⟩) hb).trans (hc j u hj)) h1x (by omega) (by simp)
      rw [Nat.zero_add, List.nil_append] at h2
      have HR := Lib.hid hrun
      have H2 := Lib.hid h2
      have hbel : Below w.heap.size w w' := hba.trans h4
      clear hrun h2 h3 h4 h5 g1 g2 g3 hc hown
      have hnil := Lib.run_eql_slice_nil (P := Try.prog) w 24 70 (some ⟨b, off, none⟩) n c 0 0 Try.underlying24
      go_enter Try.func71, Try.ntmps71
      go_wp2_with (at_builtin; refine Lib.wpList_append_run _ rfl _ _ _ _ rfl _ _ rfl rfl _ _ HR.out ?_)
      go_ret
      exact ⟨_, rfl, H2.out, hbel⟩
theorem clone_Txs (A : Option Addr) (n c : Nat) (l : List TxD) (w : World) (hl : TxsR w A n l) (hn : n ≤ 900000000) :
    Calls Try.prog 45 #[.slice A n c] w fun e w' => ∃ v, e = .returned v ∧ OwnX w' w.heap.size v l ∧ Below w.heap.size w w' :=
  (slices_Clone_Tx A n c (flat encX l) w hl.2 (flat_oneCell encX_one l) hn).mono fun e w' ⟨v, h1, h2, h3⟩ => ⟨v, h1, by unfold OwnX; rw [hl.1]; exact h2, h3⟩
theorem ints_rowV {w : World} {A n l} (h : IntsR w A n l) : RowV w A n 1 (l.map (Value.int .i64)) := by
  refine ⟨by simp [h.1], h.2.1, fun hn => ?_⟩
  obtain ⟨b, off, e, hb, hc⟩ := h.2.2 hn
  refine ⟨b, off, e, hb, fun j u hj => ?_⟩
  have hjl : j < l.length := by have := (List.getElem?_eq_some_iff.1 hj).1; simpa using this
  have e2 : u = .int .i64 (nth l j) := by simp [List.getElem?_map, hjl, nth] at hj ⊢; exact hj.symm
  rw [e2]; exact hc j (by rw [← h.1]; exact hjl)
theorem cloneO_Ints (A : Option Addr) (n c : Nat) (l : List Int) (w : World) (hl : IntsR w A n l) (hn : n ≤ 900000000) :
    Calls Try.prog 46 #[.slice A n c] w fun e w' => ∃ v, e = .returned v ∧ OwnI w' w.heap.size v l ∧ Below w.heap.size w w' :=
  (slices_Clone_Int A n c (l.map (Value.int .i64)) w (ints_rowV hl) (ints_one l) hn).mono fun e w' ⟨v, h1, h2, h3⟩ => ⟨v, h1, by unfold OwnI; rw [hl.1]; exact h2, h3⟩
set_option maxRecDepth 100000 in
set_option maxHeartbeats 1000000 in
theorem batch_Own (b : BatchD) (A : Option Addr) (n c : Nat) (w : World) (hl : TxsR w A n b.tx) (hn : n ≤ 800000000) :
    Calls Try.prog 61 #[.agg #[.int .i64 b.au, .int .i64 b.n, .slice A n c]] w fun e w' => ∃ v, e = .returned (.agg #[.int .i64 b.au, .int .i64 b.n, v]) ∧ OwnX w' w.heap.size v b.tx ∧ Below w.heap.size w w' := by
  have HL := Lib.hid hl
  have HN := Lib.hid hl.1
  clear hl
  go_enter Try.func61, Try.ntmps61
  go_wp2_with fail
  refine (clone_Txs A n c b.tx _ (HL.out.up (belB)) (by omega)).mono ?_
  rintro e w1 ⟨v, rfl, hown, hb1⟩
  obtain ⟨A1, c1, rfl, hx, _⟩ := hown.txs (by rw [HN.out]; omega)
  rw [HN.out] at hx hown ⊢
  have hown' := hown.mono (B' := w.heap.size + 2) (by simp)
  have HO := Lib.hid hown'
  clear hown hown' hx
  have hz_w1 : w.heap.size + 2 ≤ w1.heap.size := (by have hq := (hb1).size; (try simp at hq); omega); have hc0_w1 := fun o => (bcell hb1).1 (w.heap.size) o (by first | (simp; done) | (simp; omega) | omega); have hc1_w1 := fun o => (bcell hb1).1 (w.heap.size + 1) o (by first | (simp; done) | (simp; omega) | omega); have hf0_w1 := fun o => (bcell hb1).2 (w.heap.size) o (by first | (simp; done) | (simp; omega) | omega); have hf1_w1 := fun o => (bcell hb1).2 (w.heap.size + 1) o (by first | (simp; done) | (simp; omega) | omega)
  go_wp2_with fail
  exact bodyPost_ret (v := .agg #[.int .i64 b.au, .int .i64 b.n, .slice A1 n c1]) (by simp [results, Try.results61, go_sem, *]) rfl ⟨_, rfl, (by (refine OwnX.mono (B := w.heap.size + 2) ?_ (by omega)); (repeat (first | (with_reducible exact HO.out) | ((with_reducible refine OwnX.set3 ?_ ?_ _); rotate_left; (omega))))), belB⟩
theorem rows_of {α : Type} [Inhabited α] (T : DeepT α Value) {w : World} {A : Option Addr} {n : Nat} {l : List α} {R : Value → α → Prop} (h1 : l.length = n) (h2 : n ≤ 9223372036854775807) (h3 : 0 < n → ∃ b off, A = some ⟨b, off, none⟩ ∧ b < w.heap.size ∧ ∀ j, j < n → ∃ p : Value, (∀ r u, (T.enc (l.getD j default) p)[r]? = some u → w.cell? ⟨b, off + j * T.k + r, none⟩ = some u) ∧ R p (l.getD j default)) :
    ∃ qs : List Value, qs.length = l.length ∧ RowV w A n T.k (dcells T l qs) ∧ ∀ j, j < n → R (qs.getD j default) (l.getD j default) := by
  rcases Nat.eq_zero_or_pos n with h0 | h0
  · subst h0
    have e : l = [] := List.length_eq_zero_iff.1 h1
    subst e
    exact ⟨[], rfl, ⟨by simp [dcells], by omega, fun h => absurd h (by omega)⟩, fun j hj => absurd hj (by omega)⟩
  · obtain ⟨b, off, e, hb, hc⟩ := h3 h0
    obtain ⟨f, hf⟩ := Deep.choose_lt hc
    refine ⟨(List.range n).map f, by simp [h1], ⟨?_, h2, fun _ => ⟨b, off, e, hb, fun j u hj => ?_⟩⟩, fun j hj => ?_⟩
    · rw [dcells_len T (by simp [h1]), h1]
    · have hlen : (dcells T l ((List.range n).map f)).length = l.length * T.k := dcells_len T (by simp [h1])
      have hjl : j < l.length * T.k := by rw [← hlen]; exact (List.getElem?_eq_some_iff.1 hj).1
      have hk := T.k0
      have hq : j / T.k < l.length := Nat.div_lt_of_lt_mul (by rw [Nat.mul_comm]; exact hjl)
      have hr : j % T.k < T.k := Nat.mod_lt _ hk
      have hjj : j = (j / T.k) * T.k + j % T.k := by have := Nat.div_add_mod j T.k; rw [Nat.mul_comm] at this; omega
      have hj2 := hj
      rw [hjj, dcells_at T (by simp [h1]) hq hr] at hj2
      have hg : ((List.range n).map f).getD (j / T.k) default = f (j / T.k) := by simp [show j / T.k < n by omega]
      rw [hg] at hj2
      have := (hf (j / T.k) (by omega)).1 (j % T.k) u hj2
      rw [hjj, ← Nat.add_assoc]; exact this
    · have hg : ((List.range n).map f).getD j default = f j := by simp [hj]
      rw [hg]; exact (hf j hj).2
theorem WaitsR.rows {w : World} {A n l} (h : WaitsR w A n l) : ∃ qs : List Value, qs.length = l.length ∧ RowV w A n 2 (dcells dWait l qs) ∧ ∀ j, j < n → ∃ B m c, qs.getD j default = .slice B m c ∧ IntsR w B m (l.getD j default).ak :=
  rows_of dWait (R := fun p x => ∃ B m c, p = .slice B m c ∧ IntsR w B m x.ak) h.1 h.2.1 fun hn => by
    obtain ⟨b, off, e, hb, hc⟩ := h.2.2 hn
    refine ⟨b, off, e, hb, fun j hj => ?_⟩
    obtain ⟨B, m, d, ⟨c0, c1⟩, hi⟩ := hc j hj
    refine ⟨.slice B m d, fun r u hu => ?_, B, m, d, rfl, hi⟩
    match r, hu with
    | 0, hu => have e : Value.int .i64 (l.getD j default).di = u := by simpa [dWait] using hu
               rw [← e]; exact c0
    | 1, hu => have e : Value.slice B m d = u := by simpa [dWait] using hu
               rw [← e]; exact c1
    | r + 2, hu => simp [dWait] at hu
theorem dcells_oneW {l : List WaitD} {qs : List Value} (h : ∀ p ∈ qs, p.oneCell' = true) : ∀ u ∈ dcells dWait l qs, u.oneCell' = true := by
  intro u hu
  unfold dcells at hu
  obtain ⟨c, hc, huc⟩ := List.mem_flatten.1 hu
  obtain ⟨i, hi, rfl⟩ := List.getElem_of_mem hc
  rw [List.getElem_zipWith] at huc
  simp only [dWait, List.mem_cons, List.not_mem_nil, or_false] at huc
  rcases huc with rfl | rfl
  · rfl
  · exact h _ (List.getElem_mem _)
theorem step_run {P : Program} {ops : Array Oper} {o : Oper} {a : Act} {w : World} {K : Act → World → Prop} {Q : Exit → Act → World → Prop} {E : Prop} (hg : o.guard = none) (s x : Operand) (t t' : TypeId)
    (ho : o.op = .call { callee := .builtin .append, args := #[s, x], argTypes := #[t, t'] }) (v v9 : Value) (hs : a.eval s = v) (hx : a.eval x = v9) (v' : Value) (w' : World) (hrun : (Builtin.append_ #[t, t'] o.type #[v, v9]).run P w = .ok v' w')
    (h : K (a.put o.dst v') w') : if Region.wanted o (yielded ops a.tmps) = true then Oper.wp P o a w K Q else E := by
  have hw : Region.wanted o (yielded ops a.tmps) = true := by simp [Region.wanted, hg]
  rw [if_pos hw]
  exact Lib.wp_append_run w s x _ _ ho v _ hs hx v' w' hrun h
theorem run_appH (w : World) (B : Nat) (v : Value) (ps : List Value) (l : List HeldD) (hown : OwnT dHeld w B v ps l) (g : Nat) (x : HeldD) (p : Value) (hbx : BoxR w g [.int .i64 x.di, .int .i64 x.b.au, .int .i64 x.b.n, p]) (hin : OwnX w B p x.b.tx) (hlen : l.length ≤ 800000000) (hB : B ≤ w.heap.size) :
    ∃ v' w', (Builtin.append_ #[24, 24] 24 #[v, .slice (some ⟨g, 0, none⟩) 1 1]).run Try.prog w = .ok v' w' ∧ OwnT dHeld w' B v' (ps ++ [p]) (l ++ [x]) ∧ w.grownBy w' v.ownBlock ∧ Below B w w' := by
  obtain ⟨v', w', hrun, h2, h3, h4, h5⟩ := run_app_Held w B v l.length (dcells dHeld l ps) hown.1 g 0 1 1 [.int .i64 x.di, .int .i64 x.b.au, .int .i64 x.b.n, p] rfl (fun r u hu => by rw [Nat.zero_add]; exact hbx.2 r u hu) (dHeld.one (w := w) (B := B) (p := p) (x := x) hin) (by omega) hB
  exact ⟨v', w', hrun, hown.snoc hin h2 h3, h3, h4⟩
theorem step_appH {ops : Array Oper} {o : Oper} {a : Act} {w : World} {K : Act → World → Prop} {Q : Exit → Act → World → Prop} {E : Prop} (hg : o.guard = none) (s x : Operand)
    (ho : o.op = .call { callee := .builtin .append, args := #[s, x], argTypes := #[24, 24] }) (hty : o.type = 24) (B : Nat) (v : Value) (ps : List Value) (l : List HeldD) (hs : a.eval s = v) (hown : OwnT dHeld w B v ps l) (g : Nat) (y : HeldD) (p : Value) (hx : a.eval x = .slice (some ⟨g, 0, none⟩) 1 1)
    (hbx : BoxR w g [.int .i64 y.di, .int .i64 y.b.au, .int .i64 y.b.n, p]) (hin : OwnX w B p y.b.tx) (hlen : l.length ≤ 800000000) (hB : B ≤ w.heap.size)
    (h : ∀ v' w', OwnT dHeld w' B v' (ps ++ [p]) (l ++ [y]) → w.grownBy w' v.ownBlock → Below B w w' → K (a.put o.dst v') w') : if Region.wanted o (yielded ops a.tmps) = true then Oper.wp Try.prog o a w K Q else E := by
  obtain ⟨v', w', hrun, h2, h3, h4⟩ := run_appH w B v ps l hown g y p hbx hin hlen hB
  exact step_run hg s x _ _ ho v _ hs hx v' w' (by rw [hty]; exact hrun) (h v' w' h2 h3 h4)
set_option maxRecDepth 100000 in
set_option maxHeartbeats 4000000 in
theorem worker_OwnHeld (A : Option Addr) (n c : Nat) (l : List HeldD) (w : World) (hl : HeldsR w A n l) (hs : BigH l) :
    Calls Try.prog 47 #[.slice A n c] w fun e w' => ∃ v, e = .returned v ∧ OwnHs w' w.heap.size v l ∧ Below w.heap.size w w' := by
  have HL := Lib.hid hl
  have hN := hl.1
  have hn : n ≤ 800000000 := by rw [← hN]; exact hs.1
  have HN := Lib.hid hN
  have HS := Lib.hid hs
  clear hl hN hs
  suffices h : Calls Try.prog 47 #[.slice A n c] w fun e w' => ∃ v ps, e = .returned v ∧ OwnT dHeld w' w.heap.size v ps l ∧ Below w.heap.size w w' from h.mono fun e w' ⟨v, ps, h1, h2, h3⟩ => ⟨v, h1, ⟨ps, h2⟩, h3⟩
  go_enter Try.func47, Try.ntmps47
  go_wp2_with fail
  go_loopw [2, 7] (fun v i wr => ∃ (j : Nat) (ps : List Value), j ≤ n ∧ i = .int .i64 j ∧ OwnT dHeld wr w.heap.size v ps (l.take j) ∧ Below w.heap.size w wr) (fun _ i _ => n - (intOf i).toNat)
  case atStart => exact ⟨0, [], Nat.zero_le _, rfl, OwnT.nil _ _, Below.refl _ _⟩
  case round =>
    obtain ⟨j, ps, hj, rfl, hown, hbw⟩ := hrel
    (obtain ⟨wk, hwk⟩ : ∃ x, x = wr := ⟨_, rfl⟩); subst hwk
    by_cases hlt : j < n
    · obtain ⟨b, off, rfl, hb, hc⟩ := (HL.out.up hbw).2.2 (by omega)
      obtain ⟨B, m, d, ⟨c0, c1, c2, c3⟩, hin⟩ := hc j hlt
      have hm : m ≤ 800000000 := by rw [← hin.1]; exact HS.out.2 _ (getD_mem (by rw [HN.out]; exact hlt))
      have htk : l.take (j + 1) = l.take j ++ [hth l j] := by rw [List.take_succ_eq_append_getElem (by rw [HN.out]; exact hlt)]; simp [hth, show j < l.length by rw [HN.out]; exact hlt]
      have HTK := Lib.hid htk
      obtain ⟨x, hx⟩ : ∃ x, hth l j = x := ⟨_, rfl⟩
      rw [hx] at hin c0 c1 c2
      have HX := Lib.hid hx
      have HIN := Lib.hid hin
      have hlenj : (l.take j).length ≤ j := by simp; omega
      have hsz := hbw.size
      have HO := Lib.hid hown
      clear hc hin hx htk hown
      go_upto_region 4 with fail
      have hA : Blk (wk.alloc (.cells #[.int .i64 x.di, .int .i64 x.b.au, .int .i64 x.b.n, .slice B m d] 70)) wk.heap.size 70 [.int .i64 x.di, .int .i64 x.b.au, .int .i64 x.b.n, .slice B m d] := Blk.new wk 70 [.int .i64 x.di, .int .i64 x.b.au, .int .i64 x.b.n, .slice B m d]
      have hbX : Below wk.heap.size wk (wk.alloc (.cells #[.int .i64 x.di, .int .i64 x.b.au, .int .i64 x.b.n, .slice B m d] 70)) := belA
      obtain ⟨g, hg⟩ : ∃ g, g = wk.heap.size := ⟨_, rfl⟩
      rw [← hg] at hA
      have hgk : wk.heap.size ≤ g := by omega
      rw [← hg]
      generalize (wk.alloc (.cells #[.int .i64 x.di, .int .i64 x.b.au, .int .i64 x.b.n, .slice B m d] 70)) = X at *
      have HA := Lib.hid hA
      have HOX := Lib.hid (HO.out.up hbX)
      have HINX := Lib.hid (HIN.out.up hbX)
      have hszX : w.heap.size ≤ X.heap.size := Nat.le_trans hsz hbX.size
      have HCL : Hid (∀ Y, Below X.heap.size X Y → Y.cell? ⟨g, 0, none⟩ = some (.int .i64 x.di) ∧ Y.cell? ⟨g, 1, none⟩ = some (.int .i64 x.b.au) ∧ Y.cell? ⟨g, 2, none⟩ = some (.int .i64 x.b.n) ∧ Y.cell? ⟨g, 3, none⟩ = some (.slice B m d)) := Lib.hid (fun Y hY => ⟨(HA.out.up hY).box.2 0 _ rfl, (HA.out.up hY).box.2 1 _ rfl, (HA.out.up hY).box.2 2 _ rfl, (HA.out.up hY).box.2 3 _ rfl⟩)
      have HCG : Hid (∀ Y Z, Below X.heap.size X Y → Y.grownBy Z u2.ownBlock → Z.cell? ⟨g, 0, none⟩ = some (.int .i64 x.di) ∧ Z.cell? ⟨g, 1, none⟩ = some (.int .i64 x.b.au) ∧ Z.cell? ⟨g, 2, none⟩ = some (.int .i64 x.b.n) ∧ Z.cell? ⟨g, 3, none⟩ = some (.slice B m d)) := Lib.hid (fun Y Z hY hZ => by
        have hne : u2.ownBlock ≠ some g := fun e => by have := (own_lt HO.out.1 _ e).2; omega
        have hk := (HA.out.up hY).grown2 hZ hne
        exact ⟨hk.box.2 0 _ rfl, hk.box.2 1 _ rfl, hk.box.2 2 _ rfl, hk.box.2 3 _ rfl⟩)
      have hlB := hA.lt
      clear hA hg c0 c1 c2 c3
      go_region_held3 (fun Y => Y.cell? ⟨g, 0, none⟩ = some (.int .i64 x.di) ∧ Y.cell? ⟨g, 1, none⟩ = some (.int .i64 x.b.au) ∧ Y.cell? ⟨g, 2, none⟩ = some (.int .i64 x.b.n) ∧ Y.cell? ⟨g, 3, none⟩ = some (.slice B m d))
        ((first | (refine HCL.out _ ?_; ((repeat (first | (with_reducible exact Below.refl _ _) | (with_reducible assumption) | (with_reducible apply bel_alloc) | (with_reducible apply bel_drew) | (with_reducible apply bel_drewN) | (with_reducible refine bel_trans ?_ (by with_reducible assumption)) | (with_reducible refine bel_trans ?_ (HF.out _)) | ((with_reducible refine bel_set3 ?_ ?_); rotate_left; omega)))); done) | (refine HCG.out _ _ ?_ hg5; ((repeat (first | (with_reducible exact Below.refl _ _) | (with_reducible assumption) | (with_reducible apply bel_alloc) | (with_reducible apply bel_drew) | (with_reducible apply bel_drewN) | (with_reducible refine bel_trans ?_ (by with_reducible assumption)) | (with_reducible refine bel_trans ?_ (HF.out _)) | ((with_reducible refine bel_set3 ?_ ?_); rotate_left; omega)))); done)))
        (first
          | (refine step_appH rfl (.tmp 11) (.tmp 18) rfl rfl w.heap.size u2 ps (l.take j) (by simp [Act.eval, Act.put]) (HOX.out.up (belB)) _ x v3 (by simp [Act.eval, Act.put]) (BoxR.new w3 [.int .i64 x.di, .int .i64 x.b.au, .int .i64 x.b.n, v3] 70) ((hown3.mono (by have := hszX; simp; omega)).up (belB)) (by omega) (by have := hszX; have := hb3.size; simp at this; simp; omega) ?_; intro v5 w5 hown5 hg5 hb5)
          | (go_at_call 61; refine (batch_Own x.b B m d _ (HINX.out.up (belB)) hm).mono ?_; rintro e9 w3 ⟨v3, rfl, hown3, hb3⟩))
      all_goals
        go_wp2_with fail
        (first | (go_round; (case rel => exact ⟨j + 1, ps ++ [v3], by omega, by go_num, by rw [HTK.out, HX.out]; exact hown5, Below.trans (bel_trans (bel_trans (bel_trans hbw hbX) (bel_trans (bel_drew (Below.refl _ _)) hb3)) (belB)) hb5⟩); (case measure => (simp [intOf] <;> omega))) | (go_roundw; (case rel => exact ⟨j + 1, ps ++ [v3], by omega, by go_num, by rw [HTK.out, HX.out]; exact hown5, Below.trans (bel_trans (bel_trans (bel_trans hbw hbX) (bel_trans (bel_drew (Below.refl _ _)) hb3)) (belB)) hb5⟩); (case measure => (simp [intOf] <;> omega))) | (refine ⟨?_, by simp [intOf] <;> omega⟩; (repeat apply Exists.intro); refine ⟨?rel, ?fr⟩; (case fr => ((repeat' apply And.intro) <;> rfl)); (case rel => exact ⟨j + 1, ps ++ [v3], by omega, by go_num, by rw [HTK.out, HX.out]; exact hown5, Below.trans (bel_trans (bel_trans (bel_trans hbw hbX) (bel_trans (bel_drew (Below.refl _ _)) hb3)) (belB)) hb5⟩)))
    · go_wp2_with fail
      go_ret
      have e : l.take j = l := List.take_of_length_le (by rw [HN.out]; omega)
      rw [e] at hown
      exact ⟨_, _, rfl, hown, hbw⟩
end Go.Proofs.Ytgfakefcmbpboaa
