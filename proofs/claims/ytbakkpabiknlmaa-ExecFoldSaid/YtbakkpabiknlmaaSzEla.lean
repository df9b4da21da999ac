/- ExecFold: held batches that come in, kept by their digests, beside a list of numbers that grows. -/
import Derived.Test.YtbakkpabiknlmaaSzEy2
import Derived.Test.YtbakkpabiknlmaaSzEx
import Derived.Laws.AppendOwn
namespace Go.Proofs.Ytbakkpabiknlmaa
open Go.RowKit
set_option linter.unusedSimpArgs false
set_option linter.unusedVariables false

section
variable {α β : Type} (T : DeepT α β)
theorem dcells_app {l m : List α} {ps qs : List β} (h : ps.length = l.length) : dcells T (l ++ m) (ps ++ qs) = dcells T l ps ++ dcells T m qs := by
  unfold dcells
  rw [List.zipWith_append h.symm]; simp
theorem dcells_take {l : List α} {ps : List β} (h : ps.length = l.length) {i : Nat} (hi : i ≤ l.length) : dcells T (l.take i) (ps.take i) = (dcells T l ps).take (i * T.k) ∧ dcells T (l.drop i) (ps.drop i) = (dcells T l ps).drop (i * T.k) := by
  have h1 : (ps.take i).length = (l.take i).length := by simp; omega
  have e := dcells_app T (l := l.take i) (m := l.drop i) (ps := ps.take i) (qs := ps.drop i) h1
  rw [List.take_append_drop, List.take_append_drop] at e
  have hl : (dcells T (l.take i) (ps.take i)).length = i * T.k := by rw [dcells_len T h1]; simp [Nat.min_eq_left hi]
  rw [e]
  exact ⟨(List.take_left' hl).symm, (List.drop_left' hl).symm⟩
end
theorem run_appRow_Held (w : World) (B : Nat) (v : Value) (n : Nat) (xs : List Value) (hown : w.ownsRow B 44 4 v n xs) (A : Option Addr) (m c : Nat) (e : List Value) (he : RowV w A m 4 e) (h1e : ∀ u ∈ e, u.oneCell' = true) (hn : n + m ≤ 900000000) (hB : B ≤ w.heap.size) :
    ∃ v' w', (Builtin.append_ #[34, 34] 34 #[v, .slice A m c]).run Try.prog w = .ok v' w' ∧ w'.ownsRow B 44 4 v' (n + m) (xs ++ e) ∧ w.grownBy w' v.ownBlock ∧ Below B w w' := by
  rcases Nat.eq_zero_or_pos m with h0 | h0
  · subst h0
    have e0 : e = [] := List.length_eq_zero_iff.1 (by rw [he.1, Nat.zero_mul])
    subst e0
    obtain ⟨i0, hi, hz, hz1, hz2⟩ := info_parts info_Held
    refine ⟨v, w, ?_, by simpa using hown, World.grownBy.refl _ _, Below.refl _ _⟩
    rcases hown.2 with ⟨rfl, _⟩ | ⟨g, cap, cur, rfl, _, _, hnc, _⟩
    · cases A <;> simp [Builtin.append_, run_underlying Try.underlying34, sizeOf, typeInfo, hi, Builtin.lenOf, Builtin.firstCells, loadCells, loadCellsFrom, storeCells]
    · cases A <;> simp [Builtin.append_, run_underlying Try.underlying34, sizeOf, typeInfo, hi, Builtin.lenOf, Builtin.firstCells, loadCells, loadCellsFrom, hnc, storeCells]
  · obtain ⟨b, off, rfl, hb, hc⟩ := he.2.2 h0
    obtain ⟨v', w', hrun, h2, h3, h4, h5⟩ := run_app_Held w B v n xs hown b off m c e he.1 hc h1e (by omega) hB
    exact ⟨v', w', hrun, h2, h3, h4⟩
theorem wpList_appRow_Held {w : World} {ops : Array Oper} {rest : List Oper} {o : Oper} {a : Act} {Q : Exit → Act → World → Prop} (hgd : o.guard = none) (s x : Operand)
    (ho : o.op = .call { callee := .builtin .append, args := #[s, x], argTypes := #[34, 34] }) (hty : o.type = 34) (B : Nat) (v : Value) (n : Nat) (xs : List Value) (hs : a.eval s = v) (hown : w.ownsRow B 44 4 v n xs) (A : Option Addr) (m c : Nat) (e : List Value) (hx : a.eval x = .slice A m c)
    (he : RowV w A m 4 e) (h1e : ∀ u ∈ e, u.oneCell' = true) (hn : n + m ≤ 900000000) (hB : B ≤ w.heap.size)
    (h : ∀ v' w', w'.ownsRow B 44 4 v' (n + m) (xs ++ e) → w.grownBy w' v.ownBlock → Below B w w' → wpList Try.prog ops Q rest (a.put o.dst v') w') : wpList Try.prog ops Q (o :: rest) a w := by
  obtain ⟨v', w', hrun, h2, h3, h4⟩ := run_appRow_Held w B v n xs hown A m c e he h1e hn hB
  exact Lib.wpList_append_run w hgd s x _ _ ho _ _ hs hx _ _ (by rw [hty]; exact hrun) (h v' w' h2 h3 h4)
theorem step_appRow_Held {ops : Array Oper} {o : Oper} {a : Act} {w : World} {K : Act → World → Prop} {Q : Exit → Act → World → Prop} {E : Prop} (hgd : o.guard = none) (s x : Operand)
    (ho : o.op = .call { callee := .builtin .append, args := #[s, x], argTypes := #[34, 34] }) (hty : o.type = 34) (B : Nat) (v : Value) (n : Nat) (xs : List Value) (hs : a.eval s = v) (hown : w.ownsRow B 44 4 v n xs) (A : Option Addr) (m c : Nat) (e : List Value) (hx : a.eval x = .slice A m c)
    (he : RowV w A m 4 e) (h1e : ∀ u ∈ e, u.oneCell' = true) (hn : n + m ≤ 900000000) (hB : B ≤ w.heap.size)
    (h : ∀ v' w', w'.ownsRow B 44 4 v' (n + m) (xs ++ e) → w.grownBy w' v.ownBlock → Below B w w' → K (a.put o.dst v') w') : if Region.wanted o (yielded ops a.tmps) = true then Oper.wp Try.prog o a w K Q else E := by
  obtain ⟨v', w', hrun, h2, h3, h4⟩ := run_appRow_Held w B v n xs hown A m c e he h1e hn hB
  exact step_app_runR hgd s x _ _ ho _ _ hs hx (by rw [hty]; exact hrun) (h v' w' h2 h3 h4)
theorem HeldsR.takeN {w : World} {A : Option Addr} {n k : Nat} {l : List HeldD} (h : HeldsR w A n l) (hk : k ≤ n) : HeldsR w A k (l.take k) := by
  obtain ⟨h1, h2, h3⟩ := h
  refine ⟨by rw [List.length_take]; omega, by omega, fun h0 => ?_⟩
  obtain ⟨b, off, e, hb, hc⟩ := h3 (by omega)
  refine ⟨b, off, e, hb, fun j hj => ?_⟩
  have e2 : hth (l.take k) j = hth l j := by simp [hth, hj]
  rw [e2]; exact hc j (by omega)
theorem RowV.dropK {w : World} {b n k i : Nat} {xs : List Value} (h : RowV w (some ⟨b, 0, none⟩) n k xs) (hi : i ≤ n) : RowV w (some ⟨b, i * k, none⟩) (n - i) k (xs.drop (i * k)) := by
  obtain ⟨h1, h2, h3⟩ := h
  refine ⟨by rw [List.length_drop, h1, Nat.sub_mul], by omega, fun h0 => ?_⟩
  obtain ⟨b', off, e, hb, hc⟩ := h3 (by omega)
  injection e with e
  injection e with e1 e2 e3
  subst e1; subst e2
  exact ⟨b, i * k, rfl, hb, fun j u hu => by (have := hc (i * k + j) u (by rw [List.getElem?_drop] at hu; exact hu)); rw [Nat.zero_add] at this; exact this⟩
theorem RowV.nilA {w : World} (A : Option Addr) (k : Nat) : RowV w A 0 k [] := ⟨by simp, by omega, fun h => absurd h (by omega)⟩
/-- A slice is empty or lies in none of those blocks. -/
def FarO (A : Option Addr) (n : Nat) (o : Nat → Prop) : Prop := n = 0 ∨ ∀ b f s, A = some ⟨b, f, s⟩ → ¬ o b
theorem TxsR.grO {w w' : World} {A : Option Addr} {n : Nat} {o : Nat → Prop} {row : Option Nat} {l : List TxD} (h : TxsR w A n l) (hf : FarO A n o) (hg : w.grownBy w' row) (hr : ∀ g, row = some g → o g) : TxsR w' A n l := by
  refine ⟨h.1, h.2.1, h.2.2.1, fun hn => ?_⟩
  obtain ⟨b, off, e, hb, hc⟩ := h.2.2.2 hn
  have hne : ¬ o b := (hf.resolve_left (by omega)) b off none e
  exact ⟨b, off, e, Nat.lt_of_lt_of_le hb hg.size, fun j v hj => hg.cell (hc j v hj) (fun e => hne (hr b e.symm))⟩
theorem TxsR.low {w : World} {A : Option Addr} {n : Nat} {o : Nat → Prop} {l : List TxD} (h : TxsR w A n l) (ho : ∀ g, o g → w.heap.size ≤ g) : FarO A n o := by
  rcases Nat.eq_zero_or_pos n with h0 | h0
  · exact .inl h0
  · obtain ⟨b, off, e, hb, _⟩ := h.2.2.2 h0
    exact .inr (fun b' f s e' eo => by have := ho b' eo; rw [e] at e'; injection e' with e'; injection e' with e1; omega)
theorem FarO.wide {w : World} {A : Option Addr} {n : Nat} {o o' : Nat → Prop} {l : List TxD} (h : FarO A n o) (hx : TxsR w A n l) (ho : ∀ g, o' g → o g ∨ w.heap.size ≤ g) : FarO A n o' := by
  rcases Nat.eq_zero_or_pos n with h0 | h0
  · exact .inl h0
  · obtain ⟨b, off, e, hb, _⟩ := hx.2.2.2 h0
    refine .inr (fun b' f s e' eo => ?_)
    rcases ho b' eo with h1 | h1
    · exact (h.resolve_left (by omega)) b' f s e' h1
    · rw [e] at e'; injection e' with e'; injection e' with e1; omega
/-- Held batches in a row of one's own; their transactions lie away from the blocks o. -/
structure HeldO (w : World) (B : Nat) (o : Nat → Prop) (v : Value) (vs : List Value) (l : List HeldD) : Prop where
  row : w.ownsRow B 44 4 v l.length (dcells dHeld l vs)
  len : vs.length = l.length
  tx : ∀ j, j < l.length → ∃ (A : Option Addr) (n c : Nat), vs.getD j default = .slice A n c ∧ TxsR w A n (hth l j).b.tx ∧ FarO A n o
theorem HeldO.nil (w : World) (B : Nat) (o : Nat → Prop) : HeldO w B o (.slice none 0 0) [] [] := ⟨World.ownsRow_nil w B _ _, rfl, fun j hj => absurd hj (by simp)⟩
theorem HeldO.up {w w' : World} {B : Nat} {o : Nat → Prop} {v : Value} {vs : List Value} {l : List HeldD} (h : HeldO w B o v vs l) (hb : Below w.heap.size w w') : HeldO w' B o v vs l :=
  ⟨own_up h.row hb, h.len, fun j hj => by obtain ⟨A, n, c, e, h1, h2⟩ := h.tx j hj; exact ⟨A, n, c, e, h1.up hb, h2⟩⟩
theorem HeldO.wide {w : World} {B : Nat} {o o' : Nat → Prop} {v : Value} {vs : List Value} {l : List HeldD} (h : HeldO w B o v vs l) (ho : ∀ g, o' g → o g ∨ w.heap.size ≤ g) : HeldO w B o' v vs l :=
  ⟨h.row, h.len, fun j hj => by obtain ⟨A, n, c, e, h1, h2⟩ := h.tx j hj; exact ⟨A, n, c, e, h1, h2.wide h1 ho⟩⟩
theorem HeldO.gro {w w' : World} {B : Nat} {o : Nat → Prop} {row : Option Nat} {v : Value} {vs : List Value} {l : List HeldD} (h : HeldO w B o v vs l) (hg : w.grownBy w' row) (hr : ∀ g, row = some g → o g) (hv : v.ownBlock = none ∨ v.ownBlock ≠ row) : HeldO w' B o v vs l :=
  ⟨h.row.kept hg hv, h.len, fun j hj => by obtain ⟨A, n, c, e, h1, h2⟩ := h.tx j hj; exact ⟨A, n, c, e, h1.grO h2 hg hr, h2⟩⟩
/-- A row's block is none of another type's blocks. -/
theorem own_apart {w : World} {B k n : Nat} {t t' : TypeId} {v : Value} {xs : List Value} {g : Nat} {cs : List Value} (h : w.ownsRow B t k v n xs) (hb : Blk w g t' cs) (hne : t ≠ t') : v.ownBlock ≠ some g := fun e => by
  obtain ⟨_, cur, hc⟩ := own_typeB h g e
  have hb' : w.heap[g]? = some (.cells cs.toArray t' (0, 0)) := hb
  rw [hc] at hb'
  injection hb' with hb'
  injection hb' with _ e2 _
  exact hne e2
theorem own_apart2 {w : World} {B B' k k' n n' : Nat} {t t' : TypeId} {v u : Value} {xs ys : List Value} (h : w.ownsRow B t k v n xs) (hu : w.ownsRow B' t' k' u n' ys) (hne : t ≠ t') : v.ownBlock = none ∨ v.ownBlock ≠ u.ownBlock := by
  cases e : v.ownBlock with
  | none => exact .inl rfl
  | some g =>
    refine .inr (fun e2 => ?_)
    obtain ⟨_, c1, h1⟩ := own_typeB h g e
    obtain ⟨_, c2, h2⟩ := own_typeB hu g e2.symm
    rw [h1] at h2
    injection h2 with h2
    injection h2 with _ e3 _
    exact hne e3
theorem BoxR.grO {w w' : World} {g : Nat} {cs : List Value} {row : Option Nat} (h : BoxR w g cs) (hr : row ≠ some g) (hg : w.grownBy w' row) : BoxR w' g cs :=
  ⟨Nat.lt_of_lt_of_le h.1 hg.size, fun j v hj => hg.cell (h.2 j v hj) (fun e => hr e.symm)⟩
theorem ExO.grLow {w w' : World} {B : Nat} {vp va vs u : Value} {p q s} (h : ExO w B vp va vs p q s) (hu : ∀ g, u.ownBlock = some g → g < B) (hg : w.grownBy w' u.ownBlock) : ExO w' B vp va vs p q s :=
  { p := own_grown h.p hg (fun g e1 e2 => by have := (own_lt h.p g e1).1; have := hu g e2; omega), a := own_grown h.a hg (fun g e1 e2 => by have := (own_lt h.a g e1).1; have := hu g e2; omega), s := own_grown h.s hg (fun g e1 e2 => by have := (own_lt h.s g e1).1; have := hu g e2; omega), pa := h.pa, ps := h.ps, qs := h.qs }
theorem HeldO.read {w : World} {B : Nat} {o : Nat → Prop} {v : Value} {vs : List Value} {l : List HeldD} (h : HeldO w B o v vs l) (hl : l.length ≤ 900000000) : ∃ A c, v = .slice A l.length c ∧ HeldsR w A l.length l ∧ l.length ≤ c ∧ RowV w A l.length 4 (dcells dHeld l vs) := by
  obtain ⟨A, c, e, hr, _, h1, h2⟩ := own_row h.row (by omega)
  refine ⟨A, c, e, ⟨rfl, by omega, fun h0 => ?_⟩, h1, hr⟩
  obtain ⟨b, off, eA, hb, hc⟩ := hr.2.2 h0
  refine ⟨b, off, eA, hb, fun j hj => ?_⟩
  obtain ⟨A2, n2, c2, e2, hx, _⟩ := h.tx j hj
  have hat : ∀ r u, r < 4 → (dHeld.enc (l.getD j default) (vs.getD j default))[r]? = some u → w.cell? ⟨b, off + j * 4 + r, none⟩ = some u := fun r u hr hu => by
    have e4 := dcells_at dHeld h.len hj (r := r) hr
    rw [Nat.add_assoc]
    exact hc (j * 4 + r) u (by rw [← hu]; exact e4)
  rw [e2] at hat
  exact ⟨A2, n2, c2, ⟨hat 0 _ (by omega) rfl, hat 1 _ (by omega) rfl, hat 2 _ (by omega) rfl, hat 3 _ (by omega) rfl⟩, hx⟩
/-- A part in front copied, one more, the rest behind. -/
theorem HeldO.ins {w w' : World} {B lo : Nat} {o : Nat → Prop} {v v' : Value} {qs vs : List Value} {l : List HeldD} {x : HeldD} {X : Option Addr} {xn xc : Nat} (h : HeldO w B o v vs l) (hlo : lo ≤ l.length) (hq : qs.length = lo)
    (hq1 : ∀ j, j < lo → ∃ (A : Option Addr) (n c : Nat), qs.getD j default = .slice A n c ∧ TxsR w' A n (hth l j).b.tx ∧ FarO A n o) (hx : TxsR w' X xn x.b.tx) (hxf : FarO X xn o) (hk : ∀ A n (t : List TxD), TxsR w A n t → TxsR w' A n t)
    (hrow : w'.ownsRow B 44 4 v' (lo + 1 + (l.length - lo)) ((dcells dHeld (l.take lo) qs ++ dHeld.enc x (.slice X xn xc)) ++ (dcells dHeld l vs).drop (lo * 4))) :
    HeldO w' B o v' (qs ++ .slice X xn xc :: vs.drop lo) (insAt l lo x) := by
  have ht : (l.take lo).length = lo := by rw [List.length_take]; omega
  have e1 : dcells dHeld (insAt l lo x) (qs ++ .slice X xn xc :: vs.drop lo) = (dcells dHeld (l.take lo) qs ++ dHeld.enc x (.slice X xn xc)) ++ (dcells dHeld l vs).drop (lo * 4) := by
    unfold insAt
    rw [dcells_app dHeld (by rw [ht]; exact hq), ← show _ = (dcells dHeld l vs).drop (lo * 4) from (dcells_take dHeld h.len hlo).2, show x :: l.drop lo = [x] ++ l.drop lo from rfl, show Value.slice X xn xc :: vs.drop lo = [Value.slice X xn xc] ++ vs.drop lo from rfl, dcells_app dHeld (by rfl), List.append_assoc]
    simp [dcells]
  have hil : (insAt l lo x).length = l.length + 1 := insAt_len hlo
  refine ⟨by rw [e1, hil]; (have e2 : l.length + 1 = lo + 1 + (l.length - lo) := by omega); rw [e2]; exact hrow, ?_, fun j hj => ?_⟩
  · rw [hil, List.length_append, List.length_cons, List.length_drop, hq, h.len]; omega
  · rw [hil] at hj
    rw [hth_ins hlo]
    by_cases g1 : j < lo
    · rw [if_pos g1]
      have a1 : (qs ++ .slice X xn xc :: vs.drop lo).getD j default = qs.getD j default := by simp [List.getElem?_append, hq, g1]
      rw [a1]; exact hq1 j g1
    · rw [if_neg g1]
      by_cases g2 : j = lo
      · rw [if_pos g2]
        have a1 : (qs ++ .slice X xn xc :: vs.drop lo).getD j default = .slice X xn xc := by
          simp only [List.getD_eq_getElem?_getD]
          rw [List.getElem?_append_right (by omega), hq, g2, Nat.sub_self]; rfl
        rw [a1]; exact ⟨X, xn, xc, rfl, hx, hxf⟩
      · rw [if_neg g2]
        have a1 : (qs ++ .slice X xn xc :: vs.drop lo).getD j default = vs.getD (j - 1) default := by
          simp only [List.getD_eq_getElem?_getD]
          rw [List.getElem?_append_right (by omega), hq, show j - lo = (j - 1 - lo) + 1 by omega, List.getElem?_cons_succ, List.getElem?_drop, show lo + (j - 1 - lo) = j - 1 by omega]
        rw [a1]
        obtain ⟨A, n, c, e, h1, h2⟩ := h.tx (j - 1) (by omega)
        exact ⟨A, n, c, e, hk _ _ _ h1, h2⟩
theorem HeldO.one {w : World} {B : Nat} {o : Nat → Prop} {v : Value} {vs : List Value} {l : List HeldD} (h : HeldO w B o v vs l) : ∀ u ∈ dcells dHeld l vs, u.oneCell' = true := by
  intro u hu
  obtain ⟨i, hi, rfl⟩ := List.getElem_of_mem hu
  have hi' := hi
  rw [dcells_len dHeld h.len] at hi'
  have hk : (0 : Nat) < 4 := by omega
  have hj : i / 4 < l.length := Nat.div_lt_of_lt_mul (by rw [Nat.mul_comm]; exact hi')
  have e := dcells_at dHeld h.len hj (r := i % 4) (Nat.mod_lt _ hk)
  rw [show i / 4 * dHeld.k + i % 4 = i from Nat.div_add_mod' i 4] at e
  obtain ⟨A, n, c, e2, _⟩ := h.tx _ hj
  rw [e2] at e
  have e3 : (dcells dHeld l vs)[i]? = some ((dcells dHeld l vs)[i]'hi) := List.getElem?_eq_getElem _
  rw [e3] at e
  have hm := List.mem_of_getElem? e.symm
  obtain ⟨y, hy⟩ : ∃ y, (dcells dHeld l vs)[i]'hi = y := ⟨_, rfl⟩
  rw [hy] at hm ⊢
  simp only [dHeld, List.mem_cons, List.not_mem_nil, or_false] at hm
  rcases hm with h | h | h | h <;> rw [h] <;> rfl
theorem OwnX.farO {w : World} {B : Nat} {v : Value} {l : List TxD} {o : Nat → Prop} (h : OwnX w B v l) (hl : l.length ≤ 900000000) (ho : ∀ g, o g → g < B) : ∃ (A : Option Addr) (n c : Nat), v = .slice A n c ∧ TxsR w A n l ∧ FarO A n o := by
  obtain ⟨A', c', e', hx, _⟩ := h.txs (by omega)
  refine ⟨A', _, c', e', hx, .inr (fun b f s ea eo => ?_)⟩
  have hb : v.ownBlock = some b := by rw [e', ea]; rfl
  have := (own_lt h b hb).1
  have := ho b eo
  omega
theorem BigH_of {l : List HeldD} (hm : MayHs l) (hl : l.length ≤ 800000000) : BigH l := ⟨hl, fun x hx => by
  obtain ⟨j, hj, rfl⟩ := List.getElem_of_mem hx
  have := (hm j hj).2.1
  have e : hth l j = l[j] := by simp [hth, hj]
  rw [e] at this
  have := (bmT_iff.1 this).2.2.2.2.2.1
  omega⟩
theorem BigH.take {l : List HeldD} (h : BigH l) (k : Nat) : BigH (l.take k) := ⟨by have := h.1; rw [List.length_take]; omega, fun x hx => h.2 x (List.mem_of_mem_take hx)⟩
theorem wpList_appIR {w : World} {ops : Array Oper} {rest : List Oper} {o : Oper} {a : Act} {Q : Exit → Act → World → Prop} (hgd : o.guard = none) (s x : Operand)
    (ho : o.op = .call { callee := .builtin .append, args := #[s, x], argTypes := #[26, 26] }) (hty : o.type = 26) (B : Nat) (v : Value) (l : List Int) (hs : a.eval s = v) (hown : OwnI w B v l) (A : Option Addr) (m c : Nat) (e : List Int) (hx : a.eval x = .slice A m c) (he : IntsR w A m e) (hlen : l.length + m ≤ 900000000) (hB : B ≤ w.heap.size)
    (h : ∀ v' w', OwnI w' B v' (l ++ e) → w.grownBy w' v.ownBlock → Below B w w' → (v'.ownBlock = v.ownBlock ∨ v'.ownBlock = some w.heap.size) → wpList Try.prog ops Q rest (a.put o.dst v') w') : wpList Try.prog ops Q (o :: rest) a w := by
  obtain ⟨v', w', hrun, h2, h3, h4, h5⟩ := run_app_any w B v l hown A m c e he hlen hB
  exact Lib.wpList_append_run w hgd s x _ _ ho v _ hs hx v' w' (by rw [hty]; exact hrun) (h v' w' h2 h3 h4 h5)
end Go.Proofs.Ytbakkpabiknlmaa
