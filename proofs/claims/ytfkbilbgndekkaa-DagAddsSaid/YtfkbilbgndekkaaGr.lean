/- Rows of elements of k cells: copies, places in a row put in, of no program. -/
import Derived.Test.YtfkbilbgndekkaaO
import Derived.Laws.CopyRow
import Derived.Lib.AppendZerosOnto
import Derived.Lib.Overlaps
import Derived.Deep.RegionLaw
import Derived.Lib.SliceRun
namespace Go.Proofs.Ytfkbilbgndekkaa
open Go.RowKit
set_option linter.unusedSimpArgs false
set_option linter.unusedVariables false

/-- copy of k-cell elements into a block known whole. -/
theorem run_copyK {P : Program} (w : World) (dT sT ty elem : TypeId) (g o dLen dCap : Nat) (a : Addr) (sLen sCap k : Nat) (cur : Array Value) (t : TypeId) (cs : List Value)
    (hu : P.underlying dT = some (.slice elem)) (hs : (P.info? elem).map (·.size) = some k)
    (hg : w.heap[g]? = some (.cells cur t (0, 0))) (hn : cs.length = Nat.min sLen dLen * k)
    (hsrc : ∀ j v, cs[j]? = some v → w.cell? (a.add j) = some v) (hfit : o + cs.length ≤ cur.size) (h1 : ∀ v ∈ cs, v.oneCell' = true) :
    (Builtin.copy_ #[dT, sT] ty #[.slice (some ⟨g, o, none⟩) dLen dCap, .slice (some a) sLen sCap]).run P w =
      .ok (goInt (Nat.min sLen dLen)) (w.setRow g (cur.toList.take o ++ cs ++ cur.toList.drop (o + cs.length)).toArray) := by
  have hl := run_loadCells_list (P := P) w a cs hsrc
  have hst := run_storeCells_at P g o t cs 0 cur w hg (by simpa using hfit) h1
  cases hq : P.info? elem with
  | none => simp [hq] at hs
  | some i =>
    have hi : i.size = k := by simpa [hq] using hs
    simp [Builtin.copy_, run_underlying hu, Builtin.lenOf, Builtin.firstCells, sizeOf, typeInfo, hq, hi, ← hn, hl, hst]
theorem wp_copy_runR {P : Program} (w : World) {o : Oper} {a : Act} {K : Act → World → Prop} {Q : Exit → Act → World → Prop} (d s : Operand) (t t' : TypeId)
    (ho : o.op = .call { callee := .builtin .copy, args := #[d, s], argTypes := #[t, t'] }) (v u : Value) (hd : a.eval d = v) (hs : a.eval s = u) {v' : Value} {w' : World}
    (hr : (Builtin.copy_ #[t, t'] o.type #[v, u]).run P w = .ok v' w') (h : K (a.put o.dst v') w') : o.wp P a w K Q := by
  unfold Oper.wp execOp
  simp only [ho, resolve, invoke, builtin, Sem.run_bind, Sem.run_pure, Result.andThen_ok, List.map_toArray, List.map_cons, List.map_nil, hd, hs, hr]
  exact h
theorem wpList_copy_runR {P : Program} (w : World) {ops : Array Oper} {rest : List Oper} {o : Oper} {a : Act} {Q : Exit → Act → World → Prop} (hgd : o.guard = none) (d s : Operand) (t t' : TypeId)
    (ho : o.op = .call { callee := .builtin .copy, args := #[d, s], argTypes := #[t, t'] }) (v u : Value) (hd : a.eval d = v) (hs : a.eval s = u) {v' : Value} {w' : World}
    (hr : (Builtin.copy_ #[t, t'] o.type #[v, u]).run P w = .ok v' w') (h : wpList P ops Q rest (a.put o.dst v') w') : wpList P ops Q (o :: rest) a w :=
  wpList_plain hgd fun _ hK => wp_copy_runR w d s t t' ho v u hd hs hr (hK _ _ h)
theorem step_copy_runR {P : Program} {ops : Array Oper} {o : Oper} {a : Act} {w : World} {K : Act → World → Prop} {Q : Exit → Act → World → Prop} {E : Prop}
    (hg : o.guard = none) (d x : Operand) (dT sT : TypeId) (hop : o.op = Op.call { callee := Callee.builtin Builtin.copy, args := #[d, x], argTypes := #[dT, sT] })
    (v u : Value) (hd : a.eval d = v) (hx : a.eval x = u) {v' : Value} {w' : World} (hr : (Builtin.copy_ #[dT, sT] o.type #[v, u]).run P w = .ok v' w') (hK : K (a.put o.dst v') w') :
    if Region.wanted o (yielded ops a.tmps) = true then Oper.wp P o a w K Q else E := by
  have hw : Region.wanted o (yielded ops a.tmps) = true := by simp [Region.wanted, hg]
  rw [if_pos hw]
  exact wp_copy_runR w d x dT sT hop v u hd hx hr hK

/-! ### a place put in, in plain lists -/
theorem ins_new {α : Type} {a N k : Nat} {xs e R : List α} (hx : xs.length = N) (he : e.length = k) (ha : a ≤ N) (hR : R.take a = xs.take a) (hl : N + k ≤ R.length) :
    ((R.take a ++ e ++ R.drop (a + e.length)).take (a + k) ++ xs.drop a ++ (R.take a ++ e ++ R.drop (a + e.length)).drop (a + k + (xs.drop a).length)).take (N + k) = xs.take a ++ e ++ xs.drop a ∧
    ((R.take a ++ e ++ R.drop (a + e.length)).take (a + k) ++ xs.drop a ++ (R.take a ++ e ++ R.drop (a + e.length)).drop (a + k + (xs.drop a).length)).length = R.length := by
  have h1 : (R.take a ++ e).length = a + k := by rw [List.length_append, List.length_take, he]; omega
  have h2 : (R.take a ++ e ++ R.drop (a + e.length)).take (a + k) = xs.take a ++ e := by rw [List.take_left' h1, hR]
  constructor
  · rw [h2]
    refine List.take_left' ?_
    simp only [List.length_append, List.length_take, List.length_drop]; omega
  · rw [h2]
    simp only [List.length_append, List.length_take, List.length_drop]; omega
theorem ins_room {α : Type} {a N k : Nat} {xs e R : List α} (hx : xs.length = N) (he : e.length = k) (ha : a ≤ N) (hR : R.take N = xs) (hl : N + k ≤ R.length) :
    ((R.take (a + k) ++ xs.drop a ++ R.drop (a + k + (xs.drop a).length)).take a ++ e ++ (R.take (a + k) ++ xs.drop a ++ R.drop (a + k + (xs.drop a).length)).drop (a + e.length)).take (N + k) = xs.take a ++ e ++ xs.drop a ∧
    ((R.take (a + k) ++ xs.drop a ++ R.drop (a + k + (xs.drop a).length)).take a ++ e ++ (R.take (a + k) ++ xs.drop a ++ R.drop (a + k + (xs.drop a).length)).drop (a + e.length)).length = R.length := by
  have hd : (xs.drop a).length = N - a := by rw [List.length_drop, hx]
  have h0 : (R.take (a + k)).length = a + k := by rw [List.length_take]; omega
  have h1 : (R.take (a + k) ++ xs.drop a ++ R.drop (a + k + (xs.drop a).length)).take a = xs.take a := by
    rw [List.append_assoc, List.take_append_of_le_length (by omega), List.take_take, ← hR, List.take_take]
    congr 1; omega
  have h2 : (R.take (a + k) ++ xs.drop a ++ R.drop (a + k + (xs.drop a).length)).drop (a + e.length) = xs.drop a ++ R.drop (a + k + (xs.drop a).length) := by
    rw [List.append_assoc, he, List.drop_left' h0]
  rw [h1, h2]
  constructor
  · rw [← List.append_assoc]
    refine List.take_left' ?_
    simp only [List.length_append, List.length_take, hd]; omega
  · simp only [List.length_append, List.length_take, List.length_drop, hd]; omega

/-! ### elements of k cells -/
/-- The slice (A, n, _) reads as these cells, k an element. -/
def RowV (w : World) (A : Option Addr) (n k : Nat) (xs : List Value) : Prop :=
  xs.length = n * k ∧ n ≤ 9223372036854775807 ∧ (0 < n → ∃ b off, A = some ⟨b, off, none⟩ ∧ b < w.heap.size ∧ ∀ j u, xs[j]? = some u → w.cell? ⟨b, off + j, none⟩ = some u)
theorem RowV.up {w w' : World} {A n k xs} (h : RowV w A n k xs) (hb : Below w.heap.size w w') : RowV w' A n k xs := by
  obtain ⟨h1, h2, h3⟩ := h
  refine ⟨h1, h2, fun hn => ?_⟩
  obtain ⟨b, off, rfl, hlt, hc⟩ := h3 hn
  exact ⟨b, off, rfl, Nat.lt_of_lt_of_le hlt hb.size, fun j u hj => (hb.cell (p := ⟨b, off + j, none⟩) hlt).trans (hc j u hj)⟩
theorem own_row {w : World} {B k n : Nat} {t : TypeId} {v : Value} {xs : List Value} (h : w.ownsRow B t k v n xs) (hn : n ≤ 9223372036854775807) : ∃ A c, v = .slice A n c ∧ RowV w A n k xs ∧ (∀ b off sp, A = some ⟨b, off, sp⟩ → B ≤ b) ∧ n ≤ c ∧ c ≤ 9223372036854775807 := by
  rcases h.2 with ⟨rfl, rfl⟩ | ⟨g, cap, cur, rfl, hb, hg, hnc, hcm, hsz, htk⟩
  · exact ⟨none, 0, rfl, ⟨h.1, by omega, fun h => absurd h (by omega)⟩, (fun b off sp e => by cases e), by omega, by omega⟩
  · refine ⟨_, _, rfl, ⟨h.1, hn, fun _ => ⟨g, 0, rfl, (Array.getElem?_eq_some_iff.1 hg).1, fun j u hj => ?_⟩⟩, (fun b off sp e => by injection e with e; injection e with e1 e2 e3; omega), hnc, by simpa [maxLen] using hcm⟩
    have := World.ownsRow.cells h (g := g) rfl j u hj
    simpa [Addr.add_lit] using this
theorem own_lt {w : World} {B k n : Nat} {t : TypeId} {v : Value} {xs : List Value} (h : w.ownsRow B t k v n xs) : ∀ g, v.ownBlock = some g → B ≤ g ∧ g < w.heap.size := World.ownsRow.lt h
theorem own_of_heap {w w' : World} {B k n : Nat} {t : TypeId} {v : Value} {xs : List Value} (h : w.ownsRow B t k v n xs) (hh : ∀ g, v.ownBlock = some g → w'.heap[g]? = w.heap[g]?) : w'.ownsRow B t k v n xs := by
  refine ⟨h.1, ?_⟩
  rcases h.2 with hn | ⟨g, cap, cur, rfl, hb, hgg, rest⟩
  · exact .inl hn
  · exact .inr ⟨g, cap, cur, rfl, hb, (hh g rfl).trans hgg, rest⟩
theorem own_up {w w' : World} {B k n : Nat} {t : TypeId} {v : Value} {xs : List Value} (h : w.ownsRow B t k v n xs) (hb : Below w.heap.size w w') : w'.ownsRow B t k v n xs := own_of_heap h fun g hg => hb.block g (own_lt h g hg).2
theorem own_alloc {w : World} {B k n : Nat} {t : TypeId} {v : Value} {xs : List Value} (h : w.ownsRow B t k v n xs) (o : Obj) : (w.alloc o).ownsRow B t k v n xs := own_up h ((Below.refl _ _).alloc (Nat.le_refl _) _)
theorem own_set {w : World} {B k n : Nat} {t : TypeId} {v : Value} {xs : List Value} (h : w.ownsRow B t k v n xs) {p : Addr} (hp : p.block < B) (u : Value) : (w.setCell p u).ownsRow B t k v n xs := own_of_heap h fun g hg => Below.heap_setCell _ _ _ _ (by have := (own_lt h g hg).1; omega)
theorem own_mono {w : World} {B B' k n : Nat} {t : TypeId} {v : Value} {xs : List Value} (h : w.ownsRow B t k v n xs) (hB : B' ≤ B) : w.ownsRow B' t k v n xs := by
  refine ⟨h.1, ?_⟩
  rcases h.2 with hn | ⟨g, cap, cur, rfl, hb, rest⟩
  · exact .inl hn
  · exact .inr ⟨g, cap, cur, rfl, by omega, rest⟩
theorem own_nil (w : World) (B k : Nat) (t : TypeId) : w.ownsRow B t k (.slice none 0 0) 0 [] := World.ownsRow_nil w B _ _

/-! ### elements told by a function -/
def flat {α : Type} (enc : α → List Value) (l : List α) : List Value := (l.map enc).flatten
section
variable {α : Type} {enc : α → List Value} {k : Nat} (hk : ∀ x, (enc x).length = k)
include hk
theorem flat_len : ∀ (l : List α), (flat enc l).length = l.length * k
  | [] => by simp [flat]
  | x :: l => by
    have := flat_len l
    unfold flat at this ⊢
    rw [List.map_cons, List.flatten_cons, List.length_append, this, hk, List.length_cons, Nat.succ_mul]; omega
theorem flat_take : ∀ (l : List α) (i : Nat), flat enc (l.take i) = (flat enc l).take (i * k)
  | [], i => by simp [flat]
  | x :: l, 0 => by simp [flat]
  | x :: l, i + 1 => by
    have := flat_take l i
    unfold flat at this ⊢
    rw [List.take_succ_cons, List.map_cons, List.flatten_cons, this, List.map_cons, List.flatten_cons, List.take_append, hk, List.take_of_length_le (l := enc x) (by rw [hk, Nat.succ_mul]; omega)]
    congr 2
    rw [Nat.succ_mul]; omega
theorem flat_drop : ∀ (l : List α) (i : Nat), flat enc (l.drop i) = (flat enc l).drop (i * k)
  | [], i => by simp [flat]
  | x :: l, 0 => by simp [flat]
  | x :: l, i + 1 => by
    have := flat_drop l i
    unfold flat at this ⊢
    rw [List.drop_succ_cons, this, List.map_cons, List.flatten_cons, List.drop_append, hk, List.drop_of_length_le (l := enc x) (by rw [hk, Nat.succ_mul]; omega), List.nil_append]
    congr 1
    rw [Nat.succ_mul]; omega
theorem flat_at [Inhabited α] : ∀ (l : List α) (j r : Nat), j < l.length → r < k → (flat enc l)[j * k + r]? = (enc (l.getD j default))[r]?
  | [], j, r, hj, _ => absurd hj (by simp)
  | x :: l, 0, r, _, hr => by
    unfold flat
    rw [List.map_cons, List.flatten_cons, Nat.zero_mul, Nat.zero_add, List.getElem?_append_left (by rw [hk]; exact hr)]
    rfl
  | x :: l, j + 1, r, hj, hr => by
    have := flat_at l j r (by simpa using hj) hr
    unfold flat at this ⊢
    rw [List.map_cons, List.flatten_cons, List.getElem?_append_right (by rw [hk, Nat.succ_mul]; omega), hk, show (j + 1) * k + r - k = j * k + r by rw [Nat.succ_mul]; omega, this]
    rfl
end
theorem flat_app {α : Type} (enc : α → List Value) (l m : List α) : flat enc (l ++ m) = flat enc l ++ flat enc m := by simp [flat]
theorem flat_one {α : Type} (enc : α → List Value) (x : α) : flat enc [x] = enc x := by simp [flat]
theorem flat_nil {α : Type} (enc : α → List Value) : flat enc [] = [] := rfl
theorem flat_oneCell {α : Type} {enc : α → List Value} (h : ∀ x, ∀ u ∈ enc x, u.oneCell' = true) (l : List α) : ∀ u ∈ flat enc l, u.oneCell' = true := fun u hu => by
  unfold flat at hu
  rw [List.mem_flatten] at hu
  obtain ⟨c, hc, hu⟩ := hu
  rw [List.mem_map] at hc
  obtain ⟨x, _, rfl⟩ := hc
  exact h x u hu
end Go.Proofs.Ytfkbilbgndekkaa
