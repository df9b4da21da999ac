/- Rows put together at the page: a part in front, one element, the rest behind. -/
import Derived.Test.YtgfakefcmbpboaaGreatShWtl
import Derived.Test.YtgfakefcmbpboaaGreatShWp
namespace Go.Proofs.YtgfakefcmbpboaaGreat
open Go.RowKit
set_option linter.unusedSimpArgs false
set_option linter.unusedVariables false

theorem run_appRow_Held (w : World) (B : Nat) (v : Value) (n : Nat) (xs : List Value) (hown : w.ownsRow B 101 4 v n xs) (A : Option Addr) (m c : Nat) (e : List Value) (he : RowV w A m 4 e) (h1e : ∀ u ∈ e, u.oneCell' = true) (hn : n + m ≤ 900000000) (hB : B ≤ w.heap.size) :
    ∃ v' w', (Builtin.append_ #[24, 24] 24 #[v, .slice A m c]).run Tryz.prog w = .ok v' w' ∧ w'.ownsRow B 101 4 v' (n + m) (xs ++ e) ∧ w.grownBy w' v.ownBlock ∧ Below B w w' := by
  rcases Nat.eq_zero_or_pos m with h0 | h0
  · subst h0
    have e0 : e = [] := List.length_eq_zero_iff.1 (by rw [he.1, Nat.zero_mul])
    subst e0
    obtain ⟨i0, hi, hz, hz1, hz2⟩ := info_parts info_Held
    refine ⟨v, w, ?_, by simpa using hown, World.grownBy.refl _ _, Below.refl _ _⟩
    rcases hown.2 with ⟨rfl, _⟩ | ⟨g, cap, cur, rfl, _, _, hnc, _⟩
    · cases A <;> simp [Builtin.append_, run_underlying Tryz.underlying24, sizeOf, typeInfo, hi, Builtin.lenOf, Builtin.firstCells, loadCells, loadCellsFrom, storeCells]
    · cases A <;> simp [Builtin.append_, run_underlying Tryz.underlying24, sizeOf, typeInfo, hi, Builtin.lenOf, Builtin.firstCells, loadCells, loadCellsFrom, hnc, storeCells]
  · obtain ⟨b, off, rfl, hb, hc⟩ := he.2.2 h0
    obtain ⟨v', w', hrun, h2, h3, h4, h5⟩ := run_app_Held w B v n xs hown b off m c e he.1 hc h1e (by omega) hB
    exact ⟨v', w', hrun, h2, h3, h4⟩
theorem wpList_appRow_Held {w : World} {ops : Array Oper} {rest : List Oper} {o : Oper} {a : Act} {Q : Exit → Act → World → Prop} (hgd : o.guard = none) (s x : Operand)
    (ho : o.op = .call { callee := .builtin .append, args := #[s, x], argTypes := #[24, 24] }) (hty : o.type = 24) (B : Nat) (v : Value) (n : Nat) (xs : List Value) (hs : a.eval s = v) (hown : w.ownsRow B 101 4 v n xs) (A : Option Addr) (m c : Nat) (e : List Value) (hx : a.eval x = .slice A m c)
    (he : RowV w A m 4 e) (h1e : ∀ u ∈ e, u.oneCell' = true) (hn : n + m ≤ 900000000) (hB : B ≤ w.heap.size)
    (h : ∀ v' w', w'.ownsRow B 101 4 v' (n + m) (xs ++ e) → w.grownBy w' v.ownBlock → Below B w w' → wpList Tryz.prog ops Q rest (a.put o.dst v') w') : wpList Tryz.prog ops Q (o :: rest) a w := by
  obtain ⟨v', w', hrun, h2, h3, h4⟩ := run_appRow_Held w B v n xs hown A m c e he h1e hn hB
  exact Lib.wpList_append_run w hgd s x _ _ ho _ _ hs hx _ _ (by rw [hty]; exact hrun) (h v' w' h2 h3 h4)
theorem step_appRow_Held {ops : Array Oper} {o : Oper} {a : Act} {w : World} {K : Act → World → Prop} {Q : Exit → Act → World → Prop} {E : Prop} (hgd : o.guard = none) (s x : Operand)
    (ho : o.op = .call { callee := .builtin .append, args := #[s, x], argTypes := #[24, 24] }) (hty : o.type = 24) (B : Nat) (v : Value) (n : Nat) (xs : List Value) (hs : a.eval s = v) (hown : w.ownsRow B 101 4 v n xs) (A : Option Addr) (m c : Nat) (e : List Value) (hx : a.eval x = .slice A m c)
    (he : RowV w A m 4 e) (h1e : ∀ u ∈ e, u.oneCell' = true) (hn : n + m ≤ 900000000) (hB : B ≤ w.heap.size)
    (h : ∀ v' w', w'.ownsRow B 101 4 v' (n + m) (xs ++ e) → w.grownBy w' v.ownBlock → Below B w w' → K (a.put o.dst v') w') : if Region.wanted o (yielded ops a.tmps) = true then Oper.wp Tryz.prog o a w K Q else E := by
  obtain ⟨v', w', hrun, h2, h3, h4⟩ := run_appRow_Held w B v n xs hown A m c e he h1e hn hB
  exact step_app_runR hgd s x _ _ ho _ _ hs hx (by rw [hty]; exact hrun) (h v' w' h2 h3 h4)
theorem run_appRow_Wait (w : World) (B : Nat) (v : Value) (n : Nat) (xs : List Value) (hown : w.ownsRow B 56 2 v n xs) (A : Option Addr) (m c : Nat) (e : List Value) (he : RowV w A m 2 e) (h1e : ∀ u ∈ e, u.oneCell' = true) (hn : n + m ≤ 900000000) (hB : B ≤ w.heap.size) :
    ∃ v' w', (Builtin.append_ #[23, 23] 23 #[v, .slice A m c]).run Tryz.prog w = .ok v' w' ∧ w'.ownsRow B 56 2 v' (n + m) (xs ++ e) ∧ w.grownBy w' v.ownBlock ∧ Below B w w' := by
  rcases Nat.eq_zero_or_pos m with h0 | h0
  · subst h0
    have e0 : e = [] := List.length_eq_zero_iff.1 (by rw [he.1, Nat.zero_mul])
    subst e0
    obtain ⟨i0, hi, hz, hz1, hz2⟩ := info_parts info_Wait
    refine ⟨v, w, ?_, by simpa using hown, World.grownBy.refl _ _, Below.refl _ _⟩
    rcases hown.2 with ⟨rfl, _⟩ | ⟨g, cap, cur, rfl, _, _, hnc, _⟩
    · cases A <;> simp [Builtin.append_, run_underlying Tryz.underlying23, sizeOf, typeInfo, hi, Builtin.lenOf, Builtin.firstCells, loadCells, loadCellsFrom, storeCells]
    · cases A <;> simp [Builtin.append_, run_underlying Tryz.underlying23, sizeOf, typeInfo, hi, Builtin.lenOf, Builtin.firstCells, loadCells, loadCellsFrom, hnc, storeCells]
  · obtain ⟨b, off, rfl, hb, hc⟩ := he.2.2 h0
    obtain ⟨v', w', hrun, h2, h3, h4, h5⟩ := run_app_Wait w B v n xs hown b off m c e he.1 hc h1e (by omega) hB
    exact ⟨v', w', hrun, h2, h3, h4⟩
theorem wpList_appRow_Wait {w : World} {ops : Array Oper} {rest : List Oper} {o : Oper} {a : Act} {Q : Exit → Act → World → Prop} (hgd : o.guard = none) (s x : Operand)
    (ho : o.op = .call { callee := .builtin .append, args := #[s, x], argTypes := #[23, 23] }) (hty : o.type = 23) (B : Nat) (v : Value) (n : Nat) (xs : List Value) (hs : a.eval s = v) (hown : w.ownsRow B 56 2 v n xs) (A : Option Addr) (m c : Nat) (e : List Value) (hx : a.eval x = .slice A m c)
    (he : RowV w A m 2 e) (h1e : ∀ u ∈ e, u.oneCell' = true) (hn : n + m ≤ 900000000) (hB : B ≤ w.heap.size)
    (h : ∀ v' w', w'.ownsRow B 56 2 v' (n + m) (xs ++ e) → w.grownBy w' v.ownBlock → Below B w w' → wpList Tryz.prog ops Q rest (a.put o.dst v') w') : wpList Tryz.prog ops Q (o :: rest) a w := by
  obtain ⟨v', w', hrun, h2, h3, h4⟩ := run_appRow_Wait w B v n xs hown A m c e he h1e hn hB
  exact Lib.wpList_append_run w hgd s x _ _ ho _ _ hs hx _ _ (by rw [hty]; exact hrun) (h v' w' h2 h3 h4)
theorem step_appRow_Wait {ops : Array Oper} {o : Oper} {a : Act} {w : World} {K : Act → World → Prop} {Q : Exit → Act → World → Prop} {E : Prop} (hgd : o.guard = none) (s x : Operand)
    (ho : o.op = .call { callee := .builtin .append, args := #[s, x], argTypes := #[23, 23] }) (hty : o.type = 23) (B : Nat) (v : Value) (n : Nat) (xs : List Value) (hs : a.eval s = v) (hown : w.ownsRow B 56 2 v n xs) (A : Option Addr) (m c : Nat) (e : List Value) (hx : a.eval x = .slice A m c)
    (he : RowV w A m 2 e) (h1e : ∀ u ∈ e, u.oneCell' = true) (hn : n + m ≤ 900000000) (hB : B ≤ w.heap.size)
    (h : ∀ v' w', w'.ownsRow B 56 2 v' (n + m) (xs ++ e) → w.grownBy w' v.ownBlock → Below B w w' → K (a.put o.dst v') w') : if Region.wanted o (yielded ops a.tmps) = true then Oper.wp Tryz.prog o a w K Q else E := by
  obtain ⟨v', w', hrun, h2, h3, h4⟩ := run_appRow_Wait w B v n xs hown A m c e he h1e hn hB
  exact step_app_runR hgd s x _ _ ho _ _ hs hx (by rw [hty]; exact hrun) (h v' w' h2 h3 h4)
theorem cnt_lt {α : Type} [Inhabited α] (p : α → Bool) (l : List α) {t : Nat} (h : t < cnt p l) : p (l.getD t default) = true := by
  have hl := cnt_le p l
  refine cnt_take p l _ ?_
  rw [List.mem_take_iff_getElem]
  exact ⟨t, by omega, by simp [show t < l.length by omega]⟩
theorem HeldsR.takeN {w : World} {A : Option Addr} {n k : Nat} {l : List HeldD} (h : HeldsR w A n l) (hk : k ≤ n) : HeldsR w A k (l.take k) := by
  obtain ⟨h1, h2, h3⟩ := h
  refine ⟨by rw [List.length_take]; omega, by omega, fun h0 => ?_⟩
  obtain ⟨b, off, e, hb, hc⟩ := h3 (by omega)
  refine ⟨b, off, e, hb, fun j hj => ?_⟩
  have e2 : hth (l.take k) j = hth l j := by simp [hth, hj]
  rw [e2]; exact hc j (by omega)
theorem WaitsR.takeN {w : World} {A : Option Addr} {n k : Nat} {l : List WaitD} (h : WaitsR w A n l) (hk : k ≤ n) : WaitsR w A k (l.take k) := by
  obtain ⟨h1, h2, h3⟩ := h
  refine ⟨by rw [List.length_take]; omega, by omega, fun h0 => ?_⟩
  obtain ⟨b, off, e, hb, hc⟩ := h3 (by omega)
  refine ⟨b, off, e, hb, fun j hj => ?_⟩
  have e2 : wth (l.take k) j = wth l j := by simp [wth, hj]
  rw [e2]; exact hc j (by omega)
theorem RowV.dropK {w : World} {b n k i : Nat} {xs : List Value} (h : RowV w (some ⟨b, 0, none⟩) n k xs) (hi : i ≤ n) : RowV w (some ⟨b, i * k, none⟩) (n - i) k (xs.drop (i * k)) := by
  obtain ⟨h1, h2, h3⟩ := h
  refine ⟨by rw [List.length_drop, h1, Nat.sub_mul], by omega, fun h0 => ?_⟩
  obtain ⟨b', off, e, hb, hc⟩ := h3 (by omega)
  injection e with e
  injection e with e1 e2 e3
  subst e1; subst e2
  exact ⟨b, i * k, rfl, hb, fun j u hu => by (have := hc (i * k + j) u (by rw [List.getElem?_drop] at hu; exact hu)); rw [Nat.zero_add] at this; exact this⟩
theorem RowV.nilA {w : World} (A : Option Addr) (k : Nat) : RowV w A 0 k [] := ⟨by simp, by omega, fun h => absurd h (by omega)⟩
theorem dcells_oneK {α β : Type} [Inhabited α] [Inhabited β] (T : DeepT α β) {w : World} {B : Nat} {l : List α} {ps : List β} (hps : ps.length = l.length) (h : ∀ j, j < l.length → T.inner w B (ps.getD j default) (l.getD j default)) : ∀ u ∈ dcells T l ps, u.oneCell' = true := by
  intro u hu
  obtain ⟨i, hi, rfl⟩ := List.getElem_of_mem hu
  rw [dcells_len T hps] at hi
  have hk := T.k0
  have hj : i / T.k < l.length := Nat.div_lt_of_lt_mul (by rw [Nat.mul_comm]; exact hi)
  have e := dcells_at T hps hj (r := i % T.k) (Nat.mod_lt _ hk)
  rw [Nat.div_add_mod'] at e
  have e2 : (dcells T l ps)[i]? = some ((dcells T l ps)[i]'(by rw [dcells_len T hps]; exact hi)) := List.getElem?_eq_getElem _
  rw [e2] at e
  exact T.one (h _ hj) _ (List.mem_of_getElem? e.symm)
theorem ownT_ins {α β : Type} [Inhabited α] [Inhabited β] (T : DeepT α β) {w : World} {B lo : Nat} {v : Value} {qs ps : List β} {p : β} {l : List α} {x : α} (hq : qs.length = lo) (hlo : lo ≤ l.length) (hps : ps.length = l.length) (hrow : w.ownsRow B T.t T.k v (lo + 1 + (l.length - lo)) ((dcells T (l.take lo) qs ++ T.enc x p) ++ (dcells T l ps).drop (lo * T.k)))
    (h1 : ∀ j, j < lo → T.inner w B (qs.getD j default) (l.getD j default)) (h2 : T.inner w B p x) (h3 : ∀ j, lo ≤ j → j < l.length → T.inner w B (ps.getD j default) (l.getD j default)) : OwnT T w B v (qs ++ p :: ps.drop lo) (insAt l lo x) := by
  have ht : (l.take lo).length = lo := by rw [List.length_take]; omega
  have e1 : dcells T (insAt l lo x) (qs ++ p :: ps.drop lo) = (dcells T (l.take lo) qs ++ T.enc x p) ++ (dcells T l ps).drop (lo * T.k) := by
    unfold insAt
    rw [dcells_app T (by rw [ht]; exact hq), ← (dcells_take T hps hlo).2, show x :: l.drop lo = [x] ++ l.drop lo from rfl, show p :: ps.drop lo = [p] ++ ps.drop lo from rfl, dcells_app T (by rfl), List.append_assoc]
    simp [dcells]
  refine ⟨by rw [e1, insAt_len hlo]; (have e2 : l.length + 1 = lo + 1 + (l.length - lo) := by omega); rw [e2]; exact hrow, ?_, fun j hj => ?_⟩
  · rw [insAt_len hlo, List.length_append, List.length_cons, List.length_drop, hq, hps]; omega
  · rw [insAt_len hlo] at hj
    unfold insAt
    rcases Nat.lt_trichotomy j lo with h | h | h
    · have a1 : (qs ++ p :: ps.drop lo).getD j default = qs.getD j default := by simp [List.getElem?_append, hq, h]
      have a2 : (l.take lo ++ x :: l.drop lo).getD j default = l.getD j default := by simp [List.getElem?_append, h, show j < l.length by omega, show j < min lo l.length by omega]
      rw [a1, a2]; exact h1 j h
    · subst h
      have a1 : (qs ++ p :: ps.drop j).getD j default = p := by
        simp only [List.getD_eq_getElem?_getD]
        rw [List.getElem?_append_right (by omega), hq, Nat.sub_self]; rfl
      have a2 : (l.take j ++ x :: l.drop j).getD j default = x := by
        simp only [List.getD_eq_getElem?_getD]
        rw [List.getElem?_append_right (by omega), ht, Nat.sub_self]; rfl
      rw [a1, a2]; exact h2
    · obtain ⟨i, rfl⟩ : ∃ i, j = lo + 1 + i := ⟨j - lo - 1, by omega⟩
      have a1 : (qs ++ p :: ps.drop lo).getD (lo + 1 + i) default = ps.getD (lo + i) default := by
        simp only [List.getD_eq_getElem?_getD]
        rw [List.getElem?_append_right (by omega), hq, show lo + 1 + i - lo = i + 1 by omega, List.getElem?_cons_succ, List.getElem?_drop]
      have a2 : (l.take lo ++ x :: l.drop lo).getD (lo + 1 + i) default = l.getD (lo + i) default := by
        simp only [List.getD_eq_getElem?_getD]
        rw [List.getElem?_append_right (by rw [ht]; omega), ht, show lo + 1 + i - lo = i + 1 by omega, List.getElem?_cons_succ, List.getElem?_drop]
      rw [a1, a2]; exact h3 (lo + i) (by omega) (by omega)
end Go.Proofs.YtgfakefcmbpboaaGreat
