/- Workers, waits, messages, acts, scripts of droverlaw13: how they lie; opened, with the bound that the form sets. -/
import Derived.Test.YtgfakefcmbpboaaSxJ2
namespace Go.Proofs.Ytgfakefcmbpboaa
open Go.RowKit Go.ChangeShapes Go.WideShapes Go.ChangeAt
set_option linter.unusedSimpArgs false
set_option linter.unusedVariables false

structure WaitD where
  di : Int
  ak : List Int
deriving Inhabited
def wth (l : List WaitD) (i : Nat) : WaitD := l.getD i default
def WaitsR (w : World) (A : Option Addr) (n : Nat) (l : List WaitD) : Prop :=
  l.length = n ∧ n ≤ 9223372036854775807 ∧ (0 < n → ∃ b off, A = some ⟨b, off, none⟩ ∧ b < w.heap.size ∧ ∀ j, j < n → ∃ (B : Option Addr) (m d : Nat), (w.cell? ⟨b, off + j * 2, none⟩ = some (.int .i64 (wth l j).di) ∧ w.cell? ⟨b, off + j * 2 + 1, none⟩ = some (.slice B m d)) ∧ IntsR w B m (wth l j).ak)
theorem WaitsR.up {w w' : World} {A n l} (h : WaitsR w A n l) (hb : Below w.heap.size w w') : WaitsR w' A n l := by
  obtain ⟨h1, h2, h3⟩ := h
  refine ⟨h1, h2, fun hn => ?_⟩
  obtain ⟨b, off, e, hlt, hc⟩ := h3 hn
  refine ⟨b, off, e, Nat.lt_of_lt_of_le hlt hb.size, fun j hj => ?_⟩
  obtain ⟨B, m, d, ⟨g0, g1⟩, g4⟩ := hc j hj
  have g := (bcell hb).1
  exact ⟨B, m, d, ⟨(g _ _ hlt).trans g0, (g _ _ hlt).trans g1⟩, g4.up hb⟩
structure WorkD where
  id : Int
  nodes : Int
  next : Int
  op : List TxD
  age : Int
  clock : Int
  wa : List WaitD
  he : List HeldD
  re : List Int
structure WorkP where
  op : SlP
  wa : SlP
  he : SlP
  re : SlP
def WorkP.val (P : WorkP) (D : WorkD) : Value := .agg #[.int .i64 D.id, .int .i64 D.nodes, .int .i64 D.next, .slice P.op.A P.op.n P.op.c, .int .i64 D.age, .int .i64 D.clock, .slice P.wa.A P.wa.n P.wa.c, .slice P.he.A P.he.n P.he.c, .slice P.re.A P.re.n P.re.c]
structure WorkR (w : World) (P : WorkP) (D : WorkD) : Prop where
  op : TxsR w P.op.A P.op.n D.op
  wa : WaitsR w P.wa.A P.wa.n D.wa
  he : HeldsR w P.he.A P.he.n D.he
  re : IntsR w P.re.A P.re.n D.re
  oc : P.op.n ≤ P.op.c
  om : P.op.c ≤ 9223372036854775807
  rc : P.re.n ≤ P.re.c
theorem WorkR.up {w w' : World} {P D} (h : WorkR w P D) (hb : Below w.heap.size w w') : WorkR w' P D := { h with op := h.op.up hb, wa := h.wa.up hb, he := h.he.up hb, re := h.re.up hb }
structure MsgD where
  ki : Int
  fr : Int
  tt : Int
  di : Int
  b : BatchD
  h : HeaderD
  c : CertD
  ds : List Int
instance : Inhabited MsgD := ⟨⟨0, 0, 0, 0, default, default, default, []⟩⟩
structure MsgP where
  b : SlP
  h : HeaderP
  c : CertP
  ds : SlP
instance : Inhabited MsgP := ⟨⟨default, default, default, default⟩⟩
def msgCells (P : MsgP) (M : MsgD) : List Value := [.int .i64 M.ki, .int .i64 M.fr, .int .i64 M.tt, .int .i64 M.di, .int .i64 M.b.au, .int .i64 M.b.n, .slice P.b.A P.b.n P.b.c, .int .i64 M.h.au, .int .i64 M.h.ro, .slice P.h.b.A P.h.b.n P.h.b.c, .slice P.h.p.A P.h.p.n P.h.p.c, .int .i64 M.c.h.au, .int .i64 M.c.h.ro, .slice P.c.h.b.A P.c.h.b.n P.c.h.b.c, .slice P.c.h.p.A P.c.h.p.n P.c.h.p.c, .int .i64 M.c.di, .slice P.c.s.A P.c.s.n P.c.s.c, .slice P.ds.A P.ds.n P.ds.c]
structure MsgR (w : World) (P : MsgP) (M : MsgD) : Prop where
  tx : TxsR w P.b.A P.b.n M.b.tx
  h : HeaderR w P.h M.h
  c : CertR w P.c M.c
  ds : IntsR w P.ds.A P.ds.n M.ds
theorem MsgR.up {w w' : World} {P M} (h : MsgR w P M) (hb : Below w.heap.size w w') : MsgR w' P M := ⟨h.tx.up hb, h.h.up hb, h.c.up hb, h.ds.up hb⟩
structure JobD where
  doo : Int
  d : Int
  t : TxD
  m : MsgD
  fit : Bool
  l : List Int
instance : Inhabited JobD := ⟨⟨0, 0, default, default, false, []⟩⟩
section
variable {H : Type} {enc : TypeId × Value → H} {w : World} {base : Nat} {spare : Nat → Bool} {held : Bool}
theorem list9 {α : Type} {l : List α} (h : l.length = 9) : ∃ a0 a1 a2 a3 a4 a5 a6 a7 a8, l = [a0, a1, a2, a3, a4, a5, a6, a7, a8] := by
  match l, h with
  | [a0, a1, a2, a3, a4, a5, a6, a7, a8], _ => exact ⟨a0, a1, a2, a3, a4, a5, a6, a7, a8, rfl⟩
end
end Go.Proofs.Ytgfakefcmbpboaa
namespace Go.Proofs.Ytgfakefcmbpboaa
open Go.RowKit
set_option linter.unusedSimpArgs false
set_option linter.unusedVariables false

/-- How an element lies (k cells; β: where its lists lie), and what it is to own its lists from block B on. -/
structure DeepT (α β : Type) where
  t : TypeId
  k : Nat
  enc : α → β → List Value
  inner : World → Nat → β → α → Prop
  k0 : 0 < k
  len : ∀ x p, (enc x p).length = k
  one : ∀ {w B p x}, inner w B p x → ∀ u ∈ enc x p, u.oneCell' = true
  up : ∀ {w w' B p x}, inner w B p x → Below w.heap.size w w' → inner w' B p x
  mono : ∀ {w B B' p x}, inner w B p x → B' ≤ B → inner w B' p x
  low : ∀ {w B p x} {b o : Nat} {u : Value}, inner w B p x → b < B → inner (w.setCell ⟨b, o, none⟩ u) B p x
  grown : ∀ {w w' B B' p x} {v : Value} {n : Nat} {xs : List Value}, inner w B p x → w.ownsRow B' t k v n xs → w.grownBy w' v.ownBlock → inner w' B p x
theorem flatK {k : Nat} : ∀ (ll : List (List Value)), (∀ x ∈ ll, x.length = k) → ∀ (j r : Nat), r < k → ll.flatten[j * k + r]? = (ll[j]?).bind (·[r]?)
  | [], _, j, r, _ => by simp
  | x :: ll, h, 0, r, hr => by
    have hx := h x (by simp)
    simp [List.getElem?_append, hx, hr]
  | x :: ll, h, j + 1, r, hr => by
    have hx := h x (by simp)
    have ih := flatK ll (fun y hy => h y (by simp [hy])) j r hr
    simp only [List.flatten_cons, List.getElem?_cons_succ]
    rw [List.getElem?_append_right (by rw [hx, Nat.succ_mul]; omega), show (j + 1) * k + r - x.length = j * k + r by rw [hx, Nat.succ_mul]; omega, ih]
section
variable {α β : Type} (T : DeepT α β)
def dcells (l : List α) (ps : List β) : List Value := (List.zipWith T.enc l ps).flatten
theorem dcells_len : ∀ {l : List α} {ps : List β}, ps.length = l.length → (dcells T l ps).length = l.length * T.k
  | [], [], _ => by simp [dcells]
  | x :: l, p :: ps, h => by
    have ih := dcells_len (l := l) (ps := ps) (by simpa using h)
    unfold dcells at ih ⊢
    rw [List.zipWith_cons_cons, List.flatten_cons, List.length_append, ih, T.len, List.length_cons, Nat.succ_mul]
    omega
theorem dcells_snoc {l : List α} {ps : List β} (h : ps.length = l.length) (x : α) (p : β) : dcells T (l ++ [x]) (ps ++ [p]) = dcells T l ps ++ T.enc x p := by
  unfold dcells
  rw [List.zipWith_append h.symm]; simp
end
section
variable {α β : Type} [Inhabited α] [Inhabited β] (T : DeepT α β)
theorem dcells_at {l : List α} {ps : List β} (h : ps.length = l.length) {j r : Nat} (hj : j < l.length) (hr : r < T.k) : (dcells T l ps)[j * T.k + r]? = (T.enc (l.getD j default) (ps.getD j default))[r]? := by
  unfold dcells
  rw [flatK _ (by intro x hx; obtain ⟨i, hi, rfl⟩ := List.getElem_of_mem hx; simp [T.len]) j r hr]
  simp [List.getElem?_zipWith, show j < ps.length by omega, hj]
/-- The slice value v owns, in blocks from B on, these elements and their lists. -/
def OwnT (w : World) (B : Nat) (v : Value) (ps : List β) (l : List α) : Prop :=
  w.ownsRow B T.t T.k v l.length (dcells T l ps) ∧ ps.length = l.length ∧ ∀ j, j < l.length → T.inner w B (ps.getD j default) (l.getD j default)
variable {T}
theorem OwnT.nil (w : World) (B : Nat) : OwnT T w B (.slice none 0 0) [] [] := ⟨World.ownsRow_nil w B _ _, rfl, fun j hj => absurd hj (by simp)⟩
theorem OwnT.up {w w' : World} {B : Nat} {v : Value} {ps : List β} {l : List α} (h : OwnT T w B v ps l) (hb : Below w.heap.size w w') : OwnT T w' B v ps l := ⟨own_up h.1 hb, h.2.1, fun j hj => T.up (h.2.2 j hj) hb⟩
theorem OwnT.mono {w : World} {B B' : Nat} {v : Value} {ps : List β} {l : List α} (h : OwnT T w B v ps l) (hB : B' ≤ B) : OwnT T w B' v ps l := ⟨own_mono h.1 hB, h.2.1, fun j hj => T.mono (h.2.2 j hj) hB⟩
theorem OwnT.low {w : World} {B b o : Nat} {v u : Value} {ps : List β} {l : List α} (h : OwnT T w B v ps l) (hp : b < B) : OwnT T (w.setCell ⟨b, o, none⟩ u) B v ps l := ⟨own_set3 h.1 hp u, h.2.1, fun j hj => T.low (h.2.2 j hj) hp⟩
theorem OwnT.snoc {w w' : World} {B : Nat} {v v' : Value} {ps : List β} {l : List α} {x : α} {p : β} (h : OwnT T w B v ps l) (hin : T.inner w B p x) (hown : w'.ownsRow B T.t T.k v' (l.length + 1) (dcells T l ps ++ T.enc x p)) (hg : w.grownBy w' v.ownBlock) : OwnT T w' B v' (ps ++ [p]) (l ++ [x]) := by
  refine ⟨by rw [dcells_snoc T h.2.1]; simpa using hown, by simp [h.2.1], fun j hj => ?_⟩
  rcases Nat.lt_or_ge j l.length with hj' | hj'
  · have e1 : (ps ++ [p]).getD j default = ps.getD j default := by simp [List.getElem?_append, h.2.1, hj']
    have e2 : (l ++ [x]).getD j default = l.getD j default := by simp [List.getElem?_append, hj']
    rw [e1, e2]
    exact T.grown (h.2.2 j hj') h.1 hg
  · obtain rfl : j = l.length := by simp at hj; omega
    have e1 : (ps ++ [p]).getD l.length default = p := by rw [← h.2.1]; simp
    have e2 : (l ++ [x]).getD l.length default = x := by simp
    rw [e1, e2]
    exact T.grown hin h.1 hg
/-- What is read of such a row. -/
theorem OwnT.read {w : World} {B : Nat} {v : Value} {ps : List β} {l : List α} (h : OwnT T w B v ps l) : ∃ A c, v = .slice A l.length c ∧ l.length ≤ c ∧ c ≤ maxLen ∧ (0 < l.length → ∃ b, A = some ⟨b, 0, none⟩ ∧ B ≤ b ∧ b < w.heap.size ∧ ∀ j, j < l.length → ∀ r u, (T.enc (l.getD j default) (ps.getD j default))[r]? = some u → w.cell? ⟨b, 0 + j * T.k + r, none⟩ = some u) := by
  rcases h.1.2 with ⟨rfl, hn⟩ | ⟨g, cap, cur, rfl, hb, hgg, h1, h2, h3⟩
  · exact ⟨_, _, by rw [hn], by omega, by simp [maxLen], fun h0 => by omega⟩
  · refine ⟨_, _, rfl, h1, h2, fun h0 => ⟨g, rfl, hb, (Array.getElem?_eq_some_iff.1 hgg).1, fun j hj r u hu => ?_⟩⟩
    have hr : r < T.k := by have := (List.getElem?_eq_some_iff.1 hu).1; rw [T.len] at this; exact this
    have := World.ownsRow.cells h.1 (g := g) rfl (j * T.k + r) u (by rw [dcells_at T h.2.1 hj hr]; exact hu)
    rw [Nat.zero_add]
    simpa [Addr.add_lit] using this
end

theorem OwnX.shape {w : World} {B : Nat} {v : Value} {l : List TxD} (h : OwnX w B v l) : v.oneCell' = true := by
  rcases own_shape h with ⟨rfl, _⟩ | ⟨g, c, rfl, _⟩ <;> rfl
theorem OwnI.shape1 {w : World} {B : Nat} {v : Value} {l : List Int} (h : OwnI w B v l) : v.oneCell' = true := by
  rcases own_shape h with ⟨rfl, _⟩ | ⟨g, c, rfl, _⟩ <;> rfl
theorem own_typeB {w : World} {B k n : Nat} {t : TypeId} {v : Value} {xs : List Value} (h : w.ownsRow B t k v n xs) : ∀ g, v.ownBlock = some g → g < w.heap.size ∧ ∃ cur, w.heap[g]? = some (.cells cur t (0, 0)) := by
  intro g hg
  rcases h.2 with ⟨rfl, _⟩ | ⟨g', cap, cur, rfl, hb, hgg, rest⟩
  · cases hg
  · simp only [Value.ownBlock, Option.map_some] at hg
    injection hg with hg
    subst hg
    exact ⟨(Array.getElem?_eq_some_iff.1 hgg).1, cur, hgg⟩
theorem own_farT {w w' : World} {B B' k k' n n' : Nat} {t t' : TypeId} {u v : Value} {xs ys : List Value} (h : w.ownsRow B t k u n xs) (hv : w.ownsRow B' t' k' v n' ys) (hne : t ≠ t') (hg : w.grownBy w' v.ownBlock) : w'.ownsRow B t k u n xs := by
  refine ⟨h.1, ?_⟩
  rcases h.2 with hn | ⟨g, cap, cur, rfl, hb, hgg, rest⟩
  · exact .inl hn
  · refine .inr ⟨g, cap, cur, rfl, hb, ?_, rest⟩
    rw [hg.block g (Array.getElem?_eq_some_iff.1 hgg).1 (fun e => ?_)]
    · exact hgg
    · obtain ⟨_, c2, e2⟩ := own_typeB hv g e.symm
      rw [hgg] at e2
      injection e2 with e2
      injection e2 with _ e3 _
      exact hne e3
def dHeld : DeepT HeldD Value where
  t := 70
  k := 4
  enc := fun x p => [.int .i64 x.di, .int .i64 x.b.au, .int .i64 x.b.n, p]
  inner := fun w B p x => OwnX w B p x.b.tx
  k0 := by omega
  len := fun _ _ => rfl
  one := fun h u hu => by
    simp only [List.mem_cons, List.not_mem_nil, or_false] at hu
    rcases hu with rfl | rfl | rfl | rfl
    · rfl
    · rfl
    · rfl
    · exact h.shape
  up := fun h hb => h.up hb
  mono := fun h hB => h.mono hB
  low := fun h hp => h.set3 hp _
  grown := fun h hv hg => own_farT h hv (by decide) hg
def dWait : DeepT WaitD Value where
  t := 84
  k := 2
  enc := fun x p => [.int .i64 x.di, p]
  inner := fun w B p x => OwnI w B p x.ak
  k0 := by omega
  len := fun _ _ => rfl
  one := fun h u hu => by
    simp only [List.mem_cons, List.not_mem_nil, or_false] at hu
    rcases hu with rfl | rfl
    · rfl
    · exact h.shape1
  up := fun h hb => h.up hb
  mono := fun h hB => h.mono hB
  low := fun h hp => h.set hp _
  grown := fun h hv hg => own_farT h hv (by decide) hg
instance : Inhabited Value := ⟨.slice none 0 0⟩
def OwnHs (w : World) (B : Nat) (v : Value) (l : List HeldD) : Prop := ∃ ps, OwnT dHeld w B v ps l
def OwnWs (w : World) (B : Nat) (v : Value) (l : List WaitD) : Prop := ∃ ps, OwnT dWait w B v ps l
theorem OwnHs.up {w w' : World} {B : Nat} {v : Value} {l : List HeldD} (h : OwnHs w B v l) (hb : Below w.heap.size w w') : OwnHs w' B v l := let ⟨ps, h⟩ := h; ⟨ps, h.up hb⟩
theorem OwnWs.up {w w' : World} {B : Nat} {v : Value} {l : List WaitD} (h : OwnWs w B v l) (hb : Below w.heap.size w w') : OwnWs w' B v l := let ⟨ps, h⟩ := h; ⟨ps, h.up hb⟩
theorem OwnHs.mono {w : World} {B B' : Nat} {v : Value} {l : List HeldD} (h : OwnHs w B v l) (hB : B' ≤ B) : OwnHs w B' v l := let ⟨ps, h⟩ := h; ⟨ps, h.mono hB⟩
theorem OwnWs.mono {w : World} {B B' : Nat} {v : Value} {l : List WaitD} (h : OwnWs w B v l) (hB : B' ≤ B) : OwnWs w B' v l := let ⟨ps, h⟩ := h; ⟨ps, h.mono hB⟩
theorem OwnHs.low {w : World} {B b o : Nat} {v u : Value} {l : List HeldD} (h : OwnHs w B v l) (hp : b < B) : OwnHs (w.setCell ⟨b, o, none⟩ u) B v l := let ⟨ps, h⟩ := h; ⟨ps, h.low hp⟩
theorem OwnWs.low {w : World} {B b o : Nat} {v u : Value} {l : List WaitD} (h : OwnWs w B v l) (hp : b < B) : OwnWs (w.setCell ⟨b, o, none⟩ u) B v l := let ⟨ps, h⟩ := h; ⟨ps, h.low hp⟩
theorem OwnHs.nil (w : World) (B : Nat) : OwnHs w B (.slice none 0 0) [] := ⟨[], OwnT.nil _ _⟩
theorem OwnWs.nil (w : World) (B : Nat) : OwnWs w B (.slice none 0 0) [] := ⟨[], OwnT.nil _ _⟩
def BigH (l : List HeldD) : Prop := l.length ≤ 800000000 ∧ ∀ x ∈ l, x.b.tx.length ≤ 800000000
def BigW (l : List WaitD) : Prop := l.length ≤ 800000000 ∧ ∀ x ∈ l, x.ak.length ≤ 800000000
theorem getD_mem {α : Type} [Inhabited α] {l : List α} {j : Nat} (h : j < l.length) : l.getD j default ∈ l := by simp [h]
theorem OwnHs.helds {w : World} {B : Nat} {v : Value} {l : List HeldD} (h : OwnHs w B v l) (hs : BigH l) : ∃ A c, v = .slice A l.length c ∧ HeldsR w A l.length l ∧ l.length ≤ c ∧ c ≤ 9223372036854775807 := by
  obtain ⟨ps, h⟩ := h
  obtain ⟨A, c, e, h1, h2, h3⟩ := h.read
  refine ⟨A, c, e, ⟨rfl, by have := hs.1; omega, fun h0 => ?_⟩, h1, by simpa [maxLen] using h2⟩
  obtain ⟨b, eA, hB, hb, hc⟩ := h3 h0
  refine ⟨b, 0, eA, hb, fun j hj => ?_⟩
  have hin : OwnX w B (ps.getD j default) (l.getD j default).b.tx := h.2.2 j hj
  obtain ⟨A', c', e', hx, _⟩ := hin.txs (by have := hs.2 _ (getD_mem hj); omega)
  have hq := hc j hj
  rw [e'] at hq
  exact ⟨A', _, c', ⟨hq 0 _ rfl, hq 1 _ rfl, hq 2 _ rfl, hq 3 _ rfl⟩, hx⟩
theorem OwnWs.waits {w : World} {B : Nat} {v : Value} {l : List WaitD} (h : OwnWs w B v l) (hs : BigW l) : ∃ A c, v = .slice A l.length c ∧ WaitsR w A l.length l ∧ l.length ≤ c ∧ c ≤ 9223372036854775807 := by
  obtain ⟨ps, h⟩ := h
  obtain ⟨A, c, e, h1, h2, h3⟩ := h.read
  refine ⟨A, c, e, ⟨rfl, by have := hs.1; omega, fun h0 => ?_⟩, h1, by simpa [maxLen] using h2⟩
  obtain ⟨b, eA, hB, hb, hc⟩ := h3 h0
  refine ⟨b, 0, eA, hb, fun j hj => ?_⟩
  have hin : OwnI w B (ps.getD j default) (l.getD j default).ak := h.2.2 j hj
  obtain ⟨A', c', e', hx, _⟩ := hin.ints (by have := hs.2 _ (getD_mem hj); omega)
  have hq := hc j hj
  rw [e'] at hq
  exact ⟨A', _, c', ⟨hq 0 _ rfl, hq 1 _ rfl⟩, hx⟩
end Go.Proofs.Ytgfakefcmbpboaa
