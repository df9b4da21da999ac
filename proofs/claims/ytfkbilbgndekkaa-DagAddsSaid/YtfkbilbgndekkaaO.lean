/- Rows that a call makes for itself: numbers appended one by one. Scopes with two labels. -/
import Derived.Test.YtfkbilbgndekkaaM
import Derived.Maps.AppendAt
import Derived.ScopeJumps
import Derived.WalkMore
namespace Go.Proofs.Ytfkbilbgndekkaa
open Go.RowKit
set_option linter.unusedSimpArgs false
set_option linter.unusedVariables false

/-- The slice value v owns, in a block from B on (or is nil), the numbers l. -/
def OwnI (w : World) (B : Nat) (v : Value) (l : List Int) : Prop := w.ownsRow B 3 1 v l.length (l.map (Value.int .i64))
section
variable {w w' : World} {B : Nat} {v : Value} {l : List Int}
theorem OwnI.nil (w : World) (B : Nat) : OwnI w B (.slice none 0 0) [] := World.ownsRow_nil w B _ _
theorem OwnI.of_heap (h : OwnI w B v l) (hh : ∀ g, v.ownBlock = some g → w'.heap[g]? = w.heap[g]?) : OwnI w' B v l := by
  refine ⟨h.1, ?_⟩
  rcases h.2 with hn | ⟨g, cap, cur, rfl, hb, hgg, rest⟩
  · exact .inl hn
  · exact .inr ⟨g, cap, cur, rfl, hb, (hh g rfl).trans hgg, rest⟩
theorem OwnI.lt (h : OwnI w B v l) : ∀ k, v.ownBlock = some k → B ≤ k ∧ k < w.heap.size := World.ownsRow.lt h
theorem OwnI.up (h : OwnI w B v l) (hb : Below w.heap.size w w') : OwnI w' B v l := h.of_heap fun g hg => hb.block g (h.lt g hg).2
theorem OwnI.alloc (h : OwnI w B v l) (o : Obj) : OwnI (w.alloc o) B v l := h.up ((Below.refl _ _).alloc (Nat.le_refl _) _)
theorem OwnI.set (h : OwnI w B v l) {p : Addr} (hp : p.block < B) (u : Value) : OwnI (w.setCell p u) B v l := h.of_heap fun g hg => Below.heap_setCell _ _ _ _ (by have := (h.lt g hg).1; omega)
theorem OwnI.grown {g : Nat} (h : OwnI w B v l) (hg : w.grownBy w' (some g)) (hp : g < B) : OwnI w' B v l := h.of_heap fun k hk => hg.block k (h.lt k hk).2 (by intro e; injection e with e; have := (h.lt k hk).1; omega)
theorem OwnI.mono {B' : Nat} (h : OwnI w B v l) (hB : B' ≤ B) : OwnI w B' v l := by
  refine ⟨h.1, ?_⟩
  rcases h.2 with hn | ⟨g, cap, cur, rfl, hb, rest⟩
  · exact .inl hn
  · exact .inr ⟨g, cap, cur, rfl, by omega, rest⟩
/-- What is owned is a slice that reads as l. -/
theorem OwnI.ints (h : OwnI w B v l) (hl : l.length ≤ 9223372036854775807) : ∃ A c, v = .slice A l.length c ∧ IntsR w A l.length l ∧ (∀ b off sp, A = some ⟨b, off, sp⟩ → B ≤ b) := by
  rcases h.2 with ⟨rfl, hn⟩ | ⟨g, cap, cur, rfl, hb, hgg, rest⟩
  · have hl0 : l = [] := by simpa using hn
    subst hl0
    exact ⟨none, 0, rfl, ⟨rfl, by simp, fun h => absurd h (by simp)⟩, fun b off sp e => by cases e⟩
  · refine ⟨_, _, rfl, ⟨rfl, hl, fun _ => ⟨g, 0, rfl, (Array.getElem?_eq_some_iff.1 hgg).1, fun j hj => ?_⟩⟩, fun b off sp e => by injection e with e; injection e with e1 e2 e3; omega⟩
    have := World.ownsRow.cells h (g := g) rfl j (.int .i64 (nth l j)) (by simp [nth, hj])
    simpa [Addr.add_lit] using this
end

theorem int_info : (Try.prog.info? 3).map (fun i => (i.zero, i.size, i.bytes)) = some (some (.int .i64 0), 1, 8) := by kernel_rfl
theorem cell0_alloc (w : World) (x : Value) (t : TypeId) : (w.alloc (.cells #[x] t)).cell? ⟨w.heap.size, 0, none⟩ = some x := by simp
theorem le_alloc {w : World} {o : Obj} {B : Nat} (h : B ≤ w.heap.size) : B ≤ (w.alloc o).heap.size := by simp; omega
/-- append of one number to a row of one's own. -/
theorem wpList_app1 {w : World} {ops : Array Oper} {rest : List Oper} {o : Oper} {a : Act} {Q : Exit → Act → World → Prop} (hgd : o.guard = none) (s x : Operand)
    (ho : o.op = .call { callee := .builtin .append, args := #[s, x], argTypes := #[25, 25] })
    (B : Nat) (v : Value) (l : List Int) (hs : a.eval s = v) (hown : OwnI w B v l) (g : Nat) (y : Int) (hx : a.eval x = .slice (some ⟨g, 0, none⟩) 1 1) (hc : w.cell? ⟨g, 0, none⟩ = some (.int .i64 y))
    (hlen : l.length ≤ 1000000000) (hB : B ≤ w.heap.size)
    (h : ∀ v' w', OwnI w' B v' (l ++ [y]) → w.grownBy w' v.ownBlock → Below B w w' → (v'.ownBlock = v.ownBlock ∨ v'.ownBlock = some w.heap.size) → wpList Try.prog ops Q rest (a.put o.dst v') w') : wpList Try.prog ops Q (o :: rest) a w := by
  obtain ⟨i0, hi, hz, hz1, hz2⟩ := info_parts int_info
  refine wpList_plain hgd fun K hK => ?_
  obtain ⟨v', w', hrun, h2, h3, _, h5⟩ := run_append_own_at (P := Try.prog) w B 25 o.type 3 i0 (.int .i64 0) 1 8 Try.underlying25 hi hz hz1 hz2 rfl (by omega) v l.length (l.map (Value.int .i64)) hown ⟨g, 0, none⟩ 1 1 [.int .i64 y] rfl
    (by intro j u hu; cases j with
        | zero => simp at hu; subst hu; simpa [Addr.add] using hc
        | succ j => simp at hu) (by simp [Value.oneCell']) (by simp only [maxLen]; omega) (by omega) hB
  have hown' : OwnI w' B v' (l ++ [y]) := by unfold OwnI; simpa using h2
  have hbel : Below B w w' := ⟨h3.os, h3.tape, h3.output, h3.size, fun k hk => h3.block k (by omega) (fun e => by have := (hown.lt k e.symm).1; omega)⟩
  unfold Oper.wp execOp
  simp only [ho, resolve, invoke, builtin, Sem.run_bind, Sem.run_pure, Result.andThen_ok, List.map_toArray, List.map_cons, List.map_nil, hs, hx, hrun]
  exact hK _ _ (h v' w' hown' h3 hbel h5)

/-! ### boxes kept below a bound -/
theorem BoxR.below {w w' : World} {B g : Nat} {cs : List Value} (h : BoxR w g cs) (hb : Below B w w') (hg : g < B) : BoxR w' g cs :=
  ⟨Nat.lt_of_lt_of_le h.1 hb.size, fun j v hv => (hb.cell (p := ⟨g, j, none⟩) hg).trans (h.2 j v hv)⟩
theorem MapR.below {α : Type} {enc : α → Value} {z : α} {w w' : World} {B g : Nat} {S : Int → α} (h : MapR enc z w g S) (hb : Below B w w') (hg : g < B) : MapR enc z w' g S := h.of_heap (hb.block g hg)
/-- A block known whole: its cells, none frozen. -/
def Blk (w : World) (g : Nat) (t : TypeId) (cs : List Value) : Prop := w.heap[g]? = some (.cells cs.toArray t (0, 0))
section
variable {w w' : World} {g : Nat} {t : TypeId} {cs : List Value}
theorem Blk.lt (h : Blk w g t cs) : g < w.heap.size := by
  rcases Nat.lt_or_ge g w.heap.size with hlt | hge
  · exact hlt
  · unfold Blk at h; rw [Array.getElem?_eq_none hge] at h; cases h
theorem Blk.box (h : Blk w g t cs) : BoxR w g cs := ⟨h.lt, fun j v hv => by unfold Blk at h; simp [World.cell?, h, hv]⟩
theorem Blk.frozen (h : Blk w g t cs) (i : Nat) : w.frozen? ⟨g, i, none⟩ = false := by unfold Blk at h; simp [World.frozen?, h]
theorem Blk.new (w : World) (t : TypeId) (cs : List Value) : Blk (w.alloc (.cells cs.toArray t)) w.heap.size t cs := heap_alloc_new w _
theorem Blk.of_heap (h : Blk w g t cs) (hh : w'.heap[g]? = w.heap[g]?) : Blk w' g t cs := hh.trans h
theorem Blk.up (h : Blk w g t cs) (hb : Below w.heap.size w w') : Blk w' g t cs := h.of_heap (hb.block g h.lt)
theorem Blk.below {B : Nat} (h : Blk w g t cs) (hb : Below B w w') (hg : g < B) : Blk w' g t cs := h.of_heap (hb.block g hg)
theorem Blk.grown {g' : Nat} (h : Blk w g t cs) (hb : w.grownBy w' (some g')) (hne : g ≠ g') : Blk w' g t cs := h.of_heap (hb.block g h.lt (by intro e; injection e with e; exact hne e))
theorem Blk.far (h : Blk w g t cs) {p : Addr} (hp : g ≠ p.block) (u : Value) : Blk (w.setCell p u) g t cs := h.of_heap (Below.heap_setCell w p u g hp)
theorem Blk.set_ (h : Blk w g t cs) (i : Nat) (u : Value) : Blk (w.setCell ⟨g, i, none⟩ u) g t (cs.set i u) := by
  unfold Blk at h ⊢
  simp [World.setCell, Array.getElem?_modify, h]
end

/-- A whole variable is stored into a block of one's own. -/
theorem wpList_storeBlk {P : Program} {w : World} {ops : Array Oper} {rest : List Oper} {o : Oper} {a : Act} {Q : Exit → Act → World → Prop} (hgd : o.guard = none) (x v : Operand) (t : TypeId)
    (ho : o.op = Op.store t x v) (g : Nat) (tt : TypeId) (cs cs' : List Value) (hsz : (P.info? t).map (·.size) = some cs'.length) (hB : Blk w g tt cs) (hx : a.eval x = .pointer (some ⟨g, 0, none⟩)) (hv : a.eval v = .agg cs'.toArray)
    (hl : cs'.length = cs.length) (h1 : cs'.all (·.oneCell') = true)
    (hK : ∀ w2, Blk w2 g tt cs' → w.grownBy w2 (some g) → w2.heap.size = w.heap.size → wpList P ops Q rest (a.put o.dst undef) w2) : wpList P ops Q (o :: rest) a w := by
  refine wpList_plain hgd fun K hKK => ?_
  have hrun := run_storeCells_from (P := P) g tt cs' 0 cs.toArray w hB (by simp [hl]) (fun u hu => List.all_eq_true.1 h1 u hu)
  simp only [List.take_zero, List.nil_append] at hrun
  obtain ⟨i, hi, hi2⟩ := Option.map_eq_some_iff.1 hsz
  have hst : (Instr.storeAt t (.pointer (some ⟨g, 0, none⟩)) (.agg cs'.toArray)).run P w = .ok () (w.setRow g cs'.toArray) := by
    simp [Instr.storeAt, Instr.sureAddr, storeVar, sizeOf, typeInfo, hi, hi2, Value.cells, hrun]
  unfold Oper.wp
  simp only [execOp, ho, hx, hv]
  simp [hst, Result.andThen]
  refine hKK _ _ (hK _ (setRow_heap w g cs.toArray _ tt _ hB) ⟨rfl, rfl, rfl, by simp [World.setRow], fun k hk hne => ?_⟩ (by simp [World.setRow]))
  simp only [World.setRow, Array.getElem?_modify]
  rw [if_neg (fun e => hne (by rw [e]))]

/-! ### a scope with two labels: one is jumped back to, the other only forward -/
def Exit.jump2 (l0 : Nat) (J0 : Act → World → Prop) (l1 : Nat) (J1 : Act → World → Prop) (Q : Exit → Act → World → Prop) : Exit → Act → World → Prop
  | .goto l', a, w => (l' = l0 ∧ J0 a w) ∨ (l' = l1 ∧ J1 a w)
  | e, a, w => Q e a w

section
variable {P : Program} {a : Act} {w : World} {Q : Exit → Act → World → Prop}
theorem wp_skip_seq {c : Code} (h : c.wp P Q a w) : (Code.seq .skip c).wp P Q a w := wp_seq (wp_skip h)
theorem jump2_mono {l0 l1 : Nat} {J0 J1 J1' : Act → World → Prop} (h : ∀ a w, J1 a w → J1' a w) (e : Exit) (a : Act) (w : World) (hq : Exit.jump2 l0 J0 l1 J1 Q e a w) : Exit.jump2 l0 J0 l1 J1' Q e a w := by
  cases e with
  | goto l => exact hq.imp id (fun ⟨x, y⟩ => ⟨x, h _ _ y⟩)
  | _ => exact hq
/-- Two labels: l1 is jumped back to, l0 only forward. -/
theorem wp_scope_two {c b0 b1 : Code} (l0 l1 : Nat) (J0 J1 : Act → World → Prop) (μ : Act → World → Nat) (hf0 : findLabel c l0 = some (.seq .skip b0)) (hf1 : findLabel c l1 = some (.seq .skip b1))
    (first : (∀ a w, J1 a w → b1.wp P (Exit.jump2 l0 J0 l1 J1 Q) a w) → c.wp P (Exit.jump2 l0 J0 l1 J1 Q) a w)
    (pass : ∀ a w, J1 a w → b1.wp P (Exit.jump2 l0 J0 l1 (fun a' w' => J1 a' w' ∧ μ a' w' < μ a w) Q) a w)
    (last : ∀ a w, J0 a w → b0.wp P (Exit.noGoto Q) a w) : (Code.scope c).wp P Q a w := by
  have first := first fun a w hJ => Code.wp_mono (jump2_mono fun _ _ h => h.1) (pass a w hJ)
  have pass : ∀ a w, J1 a w → (Code.seq .skip b1).wp P (Exit.jump2 l0 J0 l1 (fun a' w' => J1 a' w' ∧ μ a' w' < μ a w) Q) a w := fun a w h => wp_skip_seq (pass a w h)
  have last : ∀ a w, J0 a w → (Code.seq .skip b0).wp P (Exit.noGoto Q) a w := fun a w h => wp_skip_seq (last a w h)
  intro b k cs
  have hg0 : gotoIn l0 (.inScope c :: k) = some (.code (.seq .skip b0) :: .inScope c :: k) := by simp [gotoIn, hf0]
  have hg1 : gotoIn l1 (.inScope c :: k) = some (.code (.seq .skip b1) :: .inScope c :: k) := by simp [gotoIn, hf1]
  have key0 : ∀ a w, J0 a w → ∃ e a' w', Q e a' w' ∧ Arrives P (lone (b.at a (.code (.seq .skip b0) :: .inScope c :: k)) cs w) b k cs e a' w' := by
    intro a w hJ
    obtain ⟨e, a₁, w₁, hq, harr⟩ := last a w hJ b (.inScope c :: k) cs
    cases e with
    | normal => exact ⟨.normal, a₁, w₁, hq, Steps.trans harr (.one step_inScope)⟩
    | exit id => exact ⟨.exit id, a₁, w₁, hq, fun k' hk => harr k' (by simp [exitTo, hk])⟩
    | goto l' => exact hq.elim
    | ret => exact ⟨_, a₁, w₁, hq, harr⟩
    | panic ch => exact ⟨_, a₁, w₁, hq, harr⟩
    | outgrown => exact ⟨_, a₁, w₁, hq, harr⟩
  have key : ∀ n a w, μ a w = n → J1 a w → ∃ e a' w', Q e a' w' ∧ Arrives P (lone (b.at a (.code (.seq .skip b1) :: .inScope c :: k)) cs w) b k cs e a' w' := by
    intro n
    induction n using Nat.strongRecOn with
    | _ n ih =>
      intro a w hn hJ
      obtain ⟨e, a₁, w₁, hq, harr⟩ := pass a w hJ b (.inScope c :: k) cs
      cases e with
      | normal => exact ⟨.normal, a₁, w₁, hq, Steps.trans harr (.one step_inScope)⟩
      | exit id => exact ⟨.exit id, a₁, w₁, hq, fun k' hk => harr k' (by simp [exitTo, hk])⟩
      | goto l' =>
        rcases hq with ⟨rfl, hJ'⟩ | ⟨rfl, hJ', hlt⟩
        · obtain ⟨e₂, a₂, w₂, hq₂, harr₂⟩ := key0 a₁ w₁ hJ'
          exact ⟨e₂, a₂, w₂, hq₂, .of_steps (harr _ hg0) harr₂⟩
        · obtain ⟨e₂, a₂, w₂, hq₂, harr₂⟩ := ih _ (by omega) a₁ w₁ rfl hJ'
          exact ⟨e₂, a₂, w₂, hq₂, .of_steps (harr _ hg1) harr₂⟩
      | ret => exact ⟨_, a₁, w₁, hq, harr⟩
      | panic ch => exact ⟨_, a₁, w₁, hq, harr⟩
      | outgrown => exact ⟨_, a₁, w₁, hq, harr⟩
  obtain ⟨e, a₁, w₁, hq, harr⟩ := first b (.inScope c :: k) cs
  cases e with
  | normal => exact ⟨.normal, a₁, w₁, hq, .head step_scope (Steps.trans harr (.one step_inScope))⟩
  | exit id => exact ⟨.exit id, a₁, w₁, hq, fun k' hk => .head step_scope (harr k' (by simp [exitTo, hk]))⟩
  | goto l' =>
    rcases hq with ⟨rfl, hJ'⟩ | ⟨rfl, hJ'⟩
    · obtain ⟨e₂, a₂, w₂, hq₂, harr₂⟩ := key0 a₁ w₁ hJ'
      exact ⟨e₂, a₂, w₂, hq₂, .of_steps (.head step_scope (harr _ hg0)) harr₂⟩
    · obtain ⟨e₂, a₂, w₂, hq₂, harr₂⟩ := key _ a₁ w₁ rfl hJ'
      exact ⟨e₂, a₂, w₂, hq₂, .of_steps (.head step_scope (harr _ hg1)) harr₂⟩
  | ret => exact ⟨_, a₁, w₁, hq, .of_steps (.one step_scope) harr⟩
  | panic ch => exact ⟨_, a₁, w₁, hq, .of_steps (.one step_scope) harr⟩
  | outgrown => exact ⟨_, a₁, w₁, hq, .of_steps (.one step_scope) harr⟩
/-- One label, jumped back to. -/
theorem wp_scope_back {c b1 : Code} (l1 : Nat) (J1 : Act → World → Prop) (μ : Act → World → Nat) (hf1 : findLabel c l1 = some (.seq .skip b1))
    (first : (∀ a w, J1 a w → b1.wp P (Exit.jump l1 J1 Q) a w) → c.wp P (Exit.jump l1 J1 Q) a w)
    (pass : ∀ a w, J1 a w → b1.wp P (Exit.jump l1 (fun a' w' => J1 a' w' ∧ μ a' w' < μ a w) Q) a w) : (Code.scope c).wp P Q a w :=
  wp_scope_jumps l1 J1 μ hf1 (first fun a w hJ => Code.wp_mono (fun e a w hq => by
    cases e with
    | goto l => exact ⟨hq.1, hq.2.1⟩
    | _ => exact hq) (pass a w hJ)) (fun a w h => wp_skip_seq (pass a w h))
/-- One label, jumped forward to. -/
theorem wp_scope_fwd {c b0 : Code} (l0 : Nat) (J0 : Act → World → Prop) (hf0 : findLabel c l0 = some (.seq .skip b0))
    (first : c.wp P (Exit.jump l0 J0 Q) a w) (last : ∀ a w, J0 a w → b0.wp P (Exit.noGoto Q) a w) : (Code.scope c).wp P Q a w :=
  wp_scope_jumps l0 J0 (fun _ _ => 0) hf0 first (fun a w h => wp_skip_seq (Code.wp_mono (fun e a w hq => by
    cases e with
    | goto l => exact hq.elim
    | _ => exact hq) (last a w h)))
end
end Go.Proofs.Ytfkbilbgndekkaa
