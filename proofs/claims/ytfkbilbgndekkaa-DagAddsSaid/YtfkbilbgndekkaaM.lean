/- Maps with int keys that a call makes for itself: what they hold, as a function; a look-up, a store. -/
import Derived.Test.YtfkbilbgndekkaaBase
namespace Go.Proofs.Ytfkbilbgndekkaa
open Go.RowKit
set_option linter.unusedSimpArgs false
set_option linter.unusedVariables false

def keyIs (n : Int) (e : MapEntry) : Bool := match e.key with | .int .i64 m => m == n | _ => false
def KeysI (es : List MapEntry) : Prop := ∀ e ∈ es, ∃ n, e.key = .int .i64 n
def lk (es : List MapEntry) (n : Int) : Option Value := (es.find? (keyIs n)).map (·.val)
theorem findNow_lk (n : Int) : ∀ (es : List MapEntry) (i : Nat), KeysI es →
    (Instr.findNow (.int .i64) (.int .i64 n) es i = some none ∧ lk es n = none ∧ ∀ e ∈ es, keyIs n e = false) ∨
    ∃ j e, es[j]? = some e ∧ keyIs n e = true ∧ (∀ j' e', j' < j → es[j']? = some e' → keyIs n e' = false) ∧ Instr.findNow (.int .i64) (.int .i64 n) es i = some (some (i + j, e.val)) ∧ lk es n = some e.val
  | [], i, _ => .inl ⟨rfl, rfl, fun e he => by cases he⟩
  | e :: es, i, hk => by
    obtain ⟨m, hm⟩ := hk e (by simp)
    have hs : Instr.sameNow (.int .i64) (.int .i64 n) e.key = some (n == m) := by rw [hm]; rfl
    have hki : keyIs n e = (m == n) := by unfold keyIs; rw [hm]
    by_cases hnm : n = m
    · subst hnm
      refine .inr ⟨0, e, rfl, by rw [hki]; simp, fun j' e' h => absurd h (by omega), ?_, ?_⟩
      · unfold Instr.findNow; rw [hs]; simp
      · unfold lk; rw [List.find?_cons]; simp [hki]
    · have h1 : (n == m) = false := by simp [hnm]
      have h2 : keyIs n e = false := by rw [hki]; simp; exact fun h => hnm h.symm
      have hf : Instr.findNow (.int .i64) (.int .i64 n) (e :: es) i = Instr.findNow (.int .i64) (.int .i64 n) es (i + 1) := by
        rw [Instr.findNow]; rw [hs, h1]
      have hl : lk (e :: es) n = lk es n := by unfold lk; rw [List.find?_cons]; simp [h2]
      rcases findNow_lk n es (i + 1) (fun x hx => hk x (by simp [hx])) with ⟨a, b, c⟩ | ⟨j, e', a, b, c, d, f⟩
      · refine .inl ⟨hf.trans a, hl.trans b, fun x hx => ?_⟩
        rcases List.mem_cons.1 hx with rfl | hx
        · exact h2
        · exact c x hx
      · refine .inr ⟨j + 1, e', by simpa using a, b, fun j' x hj hx => ?_, by rw [hf, d]; congr 3; omega, hl.trans f⟩
        cases j' with
        | zero => simp at hx; subst hx; exact h2
        | succ j' => exact c j' x (by omega) (by simpa using hx)

theorem find_modify (m n : Int) (v k : Value) : ∀ (es : List MapEntry) (j : Nat) (e : MapEntry), es[j]? = some e → keyIs n e = true → k = .int .i64 n → (∀ j' e', j' < j → es[j']? = some e' → keyIs n e' = false) →
    lk (es.modify j fun e => { e with key := k, val := v }) m = if m = n then some v else lk es m
  | [], j, e, h, _, _, _ => by simp at h
  | x :: es, 0, e, h, hk, hkk, hlt => by
    simp at h; subst h
    have hx : ∃ q, x.key = .int .i64 q ∧ q = n := by
      unfold keyIs at hk
      split at hk
      · rename_i q hq; exact ⟨q, hq, by simpa using hk⟩
      · cases hk
    obtain ⟨q, hq, rfl⟩ := hx
    simp only [List.modify_zero_cons]
    unfold lk
    by_cases hm : m = q
    · subst hm; rw [if_pos rfl, List.find?_cons]; simp [keyIs, hkk]
    · rw [if_neg hm, List.find?_cons, List.find?_cons]
      have e1 : keyIs m x = false := by unfold keyIs; rw [hq]; simp; exact fun h => hm h.symm
      have e2 : keyIs m { x with key := k, val := v } = false := by unfold keyIs; simp [hkk]; exact fun h => hm h.symm
      simp [e1, e2]
  | x :: es, j + 1, e, h, hk, hkk, hlt => by
    have h0 : keyIs n x = false := hlt 0 x (by omega) rfl
    simp only [List.modify_succ_cons]
    have ih := find_modify m n v k es j e (by simpa using h) hk hkk (fun j' e' hj he => hlt (j' + 1) e' (by omega) (by simpa using he))
    unfold lk at ih ⊢
    rw [List.find?_cons, List.find?_cons]
    cases hx : keyIs m x
    · simpa using ih
    · simp
      have : m ≠ n := fun hmn => by subst hmn; rw [h0] at hx; cases hx
      exact fun h => absurd h this

/-- Block g is a map from ints; asked for n it gives 'enc (S n)', 'enc z' being the element type's zero value. -/
def MapR {α : Type} (enc : α → Value) (z : α) (w : World) (g : Nat) (S : Int → α) : Prop :=
  ∃ es clock, w.heap[g]? = some (.map es clock) ∧ KeysI es.toList ∧ ∀ n, (lk es.toList n).getD (enc z) = enc (S n)
section
variable {α : Type} {enc : α → Value} {z : α} {w : World} {g : Nat} {S : Int → α}
theorem MapR.lt (h : MapR enc z w g S) : g < w.heap.size := by
  obtain ⟨es, c, hb, _⟩ := h
  rcases Nat.lt_or_ge g w.heap.size with h' | h'
  · exact h'
  · rw [Array.getElem?_eq_none h'] at hb; cases hb
theorem MapR.of_heap {w' : World} (h : MapR enc z w g S) (hh : w'.heap[g]? = w.heap[g]?) : MapR enc z w' g S := by
  obtain ⟨es, c, hb, r⟩ := h
  exact ⟨es, c, hh.trans hb, r⟩
theorem MapR.up {w' : World} (h : MapR enc z w g S) (hb : Below w.heap.size w w') : MapR enc z w' g S := h.of_heap (hb.block g h.lt)
theorem MapR.grown {w' : World} {g' : Nat} (h : MapR enc z w g S) (hb : w.grownBy w' (some g')) (hne : g ≠ g') : MapR enc z w' g S := h.of_heap (hb.block g h.lt (by intro e; injection e with e; exact hne e))
theorem MapR.set {a : Addr} {v : Value} (h : MapR enc z w g S) (hne : g ≠ a.block) : MapR enc z (w.setCell a v) g S := h.of_heap (Below.heap_setCell _ _ _ _ hne)
theorem MapR.made (w : World) : MapR enc z (w.alloc (.map #[] 0)) w.heap.size (fun _ => z) := by
  refine ⟨#[], 0, ?_, fun e he => by simp at he, fun n => rfl⟩
  show (w.heap.push _)[w.heap.size]? = _
  simp
theorem MapR.made' {w : World} (hg : g = w.heap.size) (hS : S = fun _ => z) : MapR enc z (w.alloc (.map #[] 0)) g S := by subst hg; subst hS; exact MapR.made w
theorem MapR.lookup {P : Program} {t kt et : TypeId} (h : MapR enc z w g S) (ht : P.underlying t = some (.map kt et)) (hk : P.underlying kt = some (.int .i64)) (hz : (zeroValue et).run P w = .ok (enc z) w) (n : Int) :
    (Instr.lookup t (.map (some g)) (.int .i64 n) false).run P w = .ok (enc (S n)) w := by
  obtain ⟨es, c, hb, hK, hS⟩ := h
  have hS' := hS n
  have hc : ∀ b : Bool, (Instr.checkKey b 10000 kt (.int .i64 n)).run P w = .ok () w := fun b => by
    unfold Instr.checkKey; simp [run_underlying hk]
  have hfk : ∀ r, Instr.findNow (.int .i64) (.int .i64 n) es.toList 0 = some r → (Instr.findKey kt (.int .i64 n) es.toList).run P w = .ok r w := fun r hr => by
    unfold Instr.findKey; simp [run_underlying hk, hr]
  rcases findNow_lk n es.toList 0 hK with ⟨a, b, _⟩ | ⟨j, e, _, _, _, d, f⟩
  · rw [b] at hS'
    simp [Instr.lookup, run_underlying ht, MapKept.run_getObj_map hb, hc, hfk _ a, hz, Result.andThen]
    simpa using hS'
  · rw [f] at hS'
    simp [Instr.lookup, run_underlying ht, MapKept.run_getObj_map hb, hc, hfk _ d, hz, Result.andThen]
    simpa using hS'
theorem sameBits_int (m : Nat) (n : Int) : Instr.sameBits m (.int .i64 n) (.int .i64 n) = true := by cases m <;> simp [Instr.sameBits]
theorem MapR.update {P : Program} {t kt et : TypeId} (h : MapR enc z w g S) (ht : P.underlying t = some (.map kt et)) (hk : P.underlying kt = some (.int .i64)) (n : Int) (x : α) :
    ∃ w', (Instr.mapUpdate t (.map (some g)) (.int .i64 n) (enc x)).run P w = .ok () w' ∧ MapR enc z w' g (fun m => if m = n then x else S m) ∧ w.grownBy w' (some g) ∧ w'.heap.size = w.heap.size := by
  have hglt := h.lt
  obtain ⟨es, c, hb, hK, hS⟩ := h
  have hc : ∀ b : Bool, (Instr.checkKey b 10000 kt (.int .i64 n)).run P w = .ok () w := fun b => by
    unfold Instr.checkKey; simp [run_underlying hk]
  have hfk : ∀ r, Instr.findNow (.int .i64) (.int .i64 n) es.toList 0 = some r → (Instr.findKey kt (.int .i64 n) es.toList).run P w = .ok r w := fun r hr => by
    unfold Instr.findKey; simp [run_underlying hk, hr]
  have hset : ∀ o : Obj, (∀ a b d, o ≠ .cells a b d) → ∀ w1 : World, w1 = { w with heap := w.heap.setIfInBounds g o } → w.grownBy w1 (some g) ∧ w1.heap[g]? = some o := fun o ho w1 e => by
    subst e
    refine ⟨⟨rfl, rfl, rfl, by simp, fun k hk hne => ?_⟩, ?_⟩
    · simp only [Array.getElem?_setIfInBounds]
      rw [if_neg (fun e => hne (by rw [e]))]
    · simp [Array.getElem?_setIfInBounds, hglt]
  rcases findNow_lk n es.toList 0 hK with ⟨a, b, hno⟩ | ⟨j, e, he, hki, hfirst, d, f⟩
  · obtain ⟨hg, hgg⟩ := hset (.map (es.push { key := .int .i64 n, val := enc x, born := c }) (c + 1)) (by simp) _ rfl
    refine ⟨_, ?_, ⟨_, _, hgg, ?_, ?_⟩, hg, by simp⟩
    · simp [Instr.mapUpdate, run_underlying ht, MapKept.run_getObj_map hb, hc, hfk _ a, MapKept.run_setObj_map _ hb, Result.andThen]
    · intro y hy
      simp at hy
      rcases hy with hy | rfl
      · exact hK y (by simpa using hy)
      · exact ⟨n, rfl⟩
    · intro m
      have hl : lk (es.push { key := .int .i64 n, val := enc x, born := c }).toList m = if m = n then some (enc x) else lk es.toList m := by
        unfold lk
        simp only [Array.toList_push, List.find?_append]
        by_cases hm : m = n
        · subst hm
          have : es.toList.find? (keyIs m) = none := List.find?_eq_none.2 (fun y hy => by rw [hno y hy]; simp)
          simp [this, keyIs]
        · have : [({ key := .int .i64 n, val := enc x, born := c } : MapEntry)].find? (keyIs m) = none := by
            simp [keyIs]; exact fun h => hm h.symm
          simp [this, hm]
      rw [hl]
      by_cases hm : m = n
      · simp [hm]
      · simp [hm]; exact hS m
  · obtain ⟨q, hq⟩ := hK e (List.mem_of_getElem? he)
    have hqn : q = n := by unfold keyIs at hki; rw [hq] at hki; simpa using hki
    subst hqn
    obtain ⟨hg, hgg⟩ := hset (.map (es.modify j fun e => { e with key := .int .i64 q, val := enc x }) c) (by simp) _ rfl
    refine ⟨_, ?_, ⟨_, _, hgg, ?_, ?_⟩, hg, by simp⟩
    · have hej : es[j]? = some e := by simpa using he
      simp only [Nat.zero_add] at d
      simp [Instr.mapUpdate, run_underlying ht, MapKept.run_getObj_map hb, hc, hfk _ d, hej, Instr.keyThatStays, hq, sameBits_int, MapKept.run_setObj_map _ hb, Result.andThen]
    · intro y hy
      simp only [Array.toList_modify] at hy
      obtain ⟨i, hi, rfl⟩ := List.mem_iff_getElem.1 hy
      rw [List.getElem_modify]
      split
      · exact ⟨q, rfl⟩
      · exact hK _ (List.getElem_mem _)
    · intro m
      rw [Array.toList_modify, find_modify m q (enc x) (.int .i64 q) es.toList j e he hki rfl hfirst]
      by_cases hm : m = q
      · simp [hm]
      · simp [hm]; exact hS m
end

theorem wpList_mapUpd {α : Type} (enc : α → Value) (z : α) {P : Program} {w : World} {ops : Array Oper} {rest : List Oper} {o : Oper} {a : Act} {Q : Exit → Act → World → Prop}
    (hg : o.guard = none) (m x v : Operand) (t kt et : TypeId) (hop : o.op = Op.mapUpdate t m x v ∨ o.op = Op.insert t m x v) (ht : P.underlying t = some (.map kt et)) (hk : P.underlying kt = some (.int .i64))
    {g : Nat} {S : Int → α} (hR : MapR enc z w g S) (hm : a.eval m = .map (some g)) (n : Int) (hx : a.eval x = .int .i64 n) (y : α) (hv : a.eval v = enc y)
    (hK : ∀ w', MapR enc z w' g (fun m => if m = n then y else S m) → w.grownBy w' (some g) → w'.heap.size = w.heap.size → wpList P ops Q rest (a.put o.dst undef) w') : wpList P ops Q (o :: rest) a w := by
  refine wpList_plain hg fun K' hK' => ?_
  obtain ⟨w', hrun, r1, r2, r3⟩ := hR.update ht hk n y
  unfold Oper.wp
  rcases hop with hop | hop
  · simp [execOp, hop, hm, hx, hv, hrun, Result.andThen]
    exact hK' _ _ (hK w' r1 r2 r3)
  · simp [execOp, hop, hm, hx, hv, hrun, Result.andThen]
    exact hK' _ _ (hK w' r1 r2 r3)
theorem bel_grown {w x y : World} {g : Nat} (h : Below w.heap.size w x) (hg : x.grownBy y (some g)) (hB : w.heap.size ≤ g) : Below w.heap.size w y :=
  h.grown hg h.size (fun k hk => by injection hk with hk; omega)
theorem gcell {x y : World} {g : Nat} (hg : x.grownBy y (some g)) : ∀ b o, b < x.heap.size → b ≠ g → y.cell? ⟨b, o, none⟩ = x.cell? ⟨b, o, none⟩ :=
  fun b o h hne => World.cell?_of_block (hg.block b h (fun e => hne (by injection e)))

/-- A block of the call's own reads as these cells. -/
def BoxR (w : World) (g : Nat) (cs : List Value) : Prop := g < w.heap.size ∧ ∀ j v, cs[j]? = some v → w.cell? ⟨g, j, none⟩ = some v
theorem BoxR.up {w w' : World} {g cs} (h : BoxR w g cs) (hb : Below w.heap.size w w') : BoxR w' g cs :=
  ⟨Nat.lt_of_lt_of_le h.1 hb.size, fun j v hv => (hb.cell (p := ⟨g, j, none⟩) h.1).trans (h.2 j v hv)⟩
theorem BoxR.grown {w w' : World} {g g' cs} (h : BoxR w g cs) (hb : w.grownBy w' (some g')) (hne : g ≠ g') : BoxR w' g cs :=
  ⟨Nat.lt_of_lt_of_le h.1 hb.size, fun j v hv => (gcell hb g j h.1 hne).trans (h.2 j v hv)⟩
theorem BoxR.set {w : World} {g : Nat} {cs : List Value} (h : BoxR w g cs) {a : Addr} {v : Value} (hne : g ≠ a.block) : BoxR (w.setCell a v) g cs :=
  ⟨by simpa [World.setCell] using h.1, fun j u hu => (World.cell?_of_block (w := w) (a := ⟨g, j, none⟩) (Below.heap_setCell _ _ _ _ hne)).trans (h.2 j u hu)⟩
theorem BoxR.new (w : World) (cs : List Value) (t : TypeId) : BoxR (w.alloc (.cells cs.toArray t)) w.heap.size cs := by
  refine ⟨by simp, fun j v hv => ?_⟩
  simp [hv]
theorem BoxR.new' {g : Nat} (w : World) (cs : List Value) (t : TypeId) (hg : g = w.heap.size) : BoxR (w.alloc (.cells cs.toArray t)) g cs := hg ▸ BoxR.new w cs t
end Go.Proofs.Ytfkbilbgndekkaa
