/- Joined: Base F M O Gr Gi Ya Yb Yc Yd Ye Yv Yf Yh Yj. -/
import Derived.Test.YtnngeaibdnnpoaaRows
import Derived.WalkKit
import Derived.WalkLawsBesides
import Derived.WalkSpells
import Derived.Deep.QuietTactic
import Derived.BigQuiet
import Derived.Lib.Hide
import Derived.Deep.Light
import Derived.Maps.AppendAt
import Derived.ScopeJumps
import Derived.WalkMore
import Derived.Laws.CopyRow
import Derived.Lib.AppendZerosOnto
import Derived.Lib.Overlaps
import Derived.Deep.RegionLaw
import Derived.Lib.SliceRun
import Derived.Deep.RegionWith
import Derived.ProofKit
import Derived.OpenShut
import Derived.ChangeSlices
import Derived.ChangeOld
import Derived.Below
import Derived.Deep.Slices
namespace Go.Proofs.Ytnngeaibdnnpoaa
set_option linter.unusedSimpArgs false
set_option linter.unusedVariables false

section
open Go.RowKit
theorem bcell {W w1 : World} (hb : Below W.heap.size W w1) : (∀ b o, b < W.heap.size → w1.cell? ⟨b, o, none⟩ = W.cell? ⟨b, o, none⟩) ∧ (∀ b o, b < W.heap.size → w1.frozen? ⟨b, o, none⟩ = W.frozen? ⟨b, o, none⟩) :=
  ⟨fun b o h => hb.cell (p := ⟨b, o, none⟩) h, fun b o h => hb.frozen (p := ⟨b, o, none⟩) h⟩
theorem bel_alloc {w x : World} {o : Obj} (h : Below w.heap.size w x) : Below w.heap.size w (x.alloc o) := h.alloc h.size o
theorem bel_drew {w x : World} (h : Below w.heap.size w x) : Below w.heap.size w x.drew := h.drew
theorem bel_drewN {w x : World} {n : Nat} (h : Below w.heap.size w x) : Below w.heap.size w (x.drewN n) := ⟨h.os, h.tape, h.output, h.size, h.block⟩
theorem bel_trans {w x y : World} (h : Below w.heap.size w x) (k : Below x.heap.size x y) : Below w.heap.size w y := h.trans (k.mono h.size)
theorem bel_set {w x : World} (h : Below w.heap.size w x) {p : Addr} (hp : w.heap.size ≤ p.block) (v : Value) : Below w.heap.size w (x.setCell p v) := h.setCell hp v

theorem wp_region_fam {P : Program} {id : Nat} {Q : Exit → Act → World → Prop} {a : Act} {w : World} {l : List Oper} (hm : P.follows .mixedOrders = true) (hB : Region.lexB .any l.toArray = true)
    (h : ∀ (ι : Type) (F : ι → World), Nonempty ι → (∀ n, Below w.heap.size w (F n)) → (∀ n w', Below (F n).heap.size (F n) w' → ∃ m, w' = F m) →
      wpQuiet P l.toArray (fun w' => ∃ n, w' = F n) (fun a' => ∀ n, Q .normal a' (F n)) l a) : (Code.region id l.toArray true).wp P Q a w := by
  refine wp_region_quiet (C := fun w' => ∃ n : {w' : World // Below w.heap.size w w'}, w' = n.1) hm hB ⟨⟨_, (Below.refl w.heap.size w).drew⟩, rfl⟩ ?_
  have := h {w' : World // Below w.heap.size w w'} (fun n => n.1) ⟨⟨w, Below.refl _ _⟩⟩ (fun n => n.2) (fun n w' hb => ⟨⟨w', n.2.trans (hb.mono n.2.size)⟩, rfl⟩)
  have e : (fun a' => ∀ (n : {w' : World // Below w.heap.size w w'}), Q .normal a' n.1) = (fun a' => ∀ w', (∃ n : {w' : World // Below w.heap.size w w'}, w' = n.1) → Q .normal a' w') := by
    funext a'
    exact propext ⟨fun h w' ⟨n, hn⟩ => hn ▸ h n, fun h n => h _ ⟨n, rfl⟩⟩
  rw [e] at this
  simpa using this
theorem wpQuiet_guard {P : Program} {ops : Array Oper} {C : World → Prop} {Q : Act → Prop} {a : Act} {o : Oper} {rest : List Oper} (j : Nat) (want b : Bool) (_ : o.guard = some (j, want)) (_ : yielded ops a.tmps j = some b)
    (h : ∀ b', b = b' → wpQuiet P ops C Q (o :: rest) a) : wpQuiet P ops C Q (o :: rest) a := h b rfl
theorem Calls.fam {P : Program} {f : FuncId} {args : Array Value} {ι : Type} {F : ι → World} (hcl : ∀ n w', Below (F n).heap.size (F n) w' → ∃ m, w' = F m) {n : ι} {v : Value}
    (h : Calls P f args (F n) fun e w' => e = .returned v ∧ Below (F n).heap.size (F n) w') : Calls P f args (F n) fun e w'' => e = .returned v ∧ ∃ m, w'' = F m :=
  h.mono fun _ _ ⟨he, hb⟩ => ⟨he, hcl n _ hb⟩
def nth (l : List Int) (j : Nat) : Int := l.getD j 0
theorem take_nth (l : List Int) (k : Nat) (h : k < l.length) : l.take (k + 1) = l.take k ++ [nth l k] := by
  rw [List.take_succ_eq_append_getElem h]; simp [nth, h]

/-- The slice (A, n, _) reads as the numbers l. -/
def IntsR (w : World) (A : Option Addr) (n : Nat) (l : List Int) : Prop :=
  l.length = n ∧ n ≤ 9223372036854775807 ∧ (0 < n → ∃ b off, A = some ⟨b, off, none⟩ ∧ b < w.heap.size ∧ ∀ j, j < n → w.cell? ⟨b, off + j, none⟩ = some (.int .i64 (nth l j)))
theorem IntsR.up {w w' : World} {A n l} (h : IntsR w A n l) (hb : Below w.heap.size w w') : IntsR w' A n l := by
  obtain ⟨h1, h2, h3⟩ := h
  refine ⟨h1, h2, fun hn => ?_⟩
  obtain ⟨b, off, rfl, hlt, hc⟩ := h3 hn
  exact ⟨b, off, rfl, Nat.lt_of_lt_of_le hlt hb.size, fun j hj => (hb.cell (p := ⟨b, off + j, none⟩) hlt).trans (hc j hj)⟩

structure HeaderD where
  au : Int
  ro : Int
  ba : List Int
  pa : List Int
structure CertD where
  h : HeaderD
  di : Int
  si : List Int
structure SlP where
  A : Option Addr
  n : Nat
  c : Nat
structure HeaderP where
  b : SlP
  p : SlP
structure CertP where
  h : HeaderP
  s : SlP
instance : Inhabited HeaderD := ⟨⟨0, 0, [], []⟩⟩
instance : Inhabited CertD := ⟨⟨default, 0, []⟩⟩
instance : Inhabited SlP := ⟨⟨none, 0, 0⟩⟩
instance : Inhabited HeaderP := ⟨⟨default, default⟩⟩
instance : Inhabited CertP := ⟨⟨default, default⟩⟩
def HeaderR (w : World) (p : HeaderP) (H : HeaderD) : Prop := IntsR w p.b.A p.b.n H.ba ∧ IntsR w p.p.A p.p.n H.pa
def CertR (w : World) (p : CertP) (C : CertD) : Prop := HeaderR w p.h C.h ∧ IntsR w p.s.A p.s.n C.si
theorem HeaderR.up {w w' : World} {p H} (h : HeaderR w p H) (hb : Below w.heap.size w w') : HeaderR w' p H := ⟨h.1.up hb, h.2.up hb⟩
theorem CertR.up {w w' : World} {p C} (h : CertR w p C) (hb : Below w.heap.size w w') : CertR w' p C := ⟨h.1.up hb, h.2.up hb⟩
theorem ret_bool {b c : Bool} (h : b = c) : Ending.returned (.bool b) = .returned (.bool c) := by rw [h]
theorem ret_int {k : IntKind} {a b : Int} (h : a = b) : Ending.returned (.int k a) = .returned (.int k b) := by rw [h]
end
section
open Go.RowKit
def fl (n : Int) : Nat := FloatKind.f64.nearest n

end
section
open Go.RowKit
section
variable {α : Type} {enc : α → Value} {z : α} {w : World} {g : Nat} {S : Int → α}
end

/-- A block of the call's own reads as these cells. -/
def BoxR (w : World) (g : Nat) (cs : List Value) : Prop := g < w.heap.size ∧ ∀ j v, cs[j]? = some v → w.cell? ⟨g, j, none⟩ = some v
theorem BoxR.up {w w' : World} {g cs} (h : BoxR w g cs) (hb : Below w.heap.size w w') : BoxR w' g cs :=
  ⟨Nat.lt_of_lt_of_le h.1 hb.size, fun j v hv => (hb.cell (p := ⟨g, j, none⟩) h.1).trans (h.2 j v hv)⟩
theorem BoxR.new (w : World) (cs : List Value) (t : TypeId) : BoxR (w.alloc (.cells cs.toArray t)) w.heap.size cs := by
  refine ⟨by simp, fun j v hv => ?_⟩
  simp [hv]
end
section
open Go.RowKit
/-- The slice value v owns, in a block from B on (or is nil), the numbers l. -/
def OwnI (w : World) (B : Nat) (v : Value) (l : List Int) : Prop := w.ownsRow B 3 1 v l.length (l.map (Value.int .i64))
section
variable {w w' : World} {B : Nat} {v : Value} {l : List Int}
theorem OwnI.nil (w : World) (B : Nat) : OwnI w B (.slice none 0 0) [] := World.ownsRow_nil w B _ _
theorem OwnI.of_heap (h : OwnI w B v l) (hh : ∀ g, v.ownBlock = some g → w'.heap[g]? = w.heap[g]?) : OwnI w' B v l := by
  refine ⟨h.1, ?_⟩
  rcases h.2 with hn | ⟨g, cap, cur, rfl, hb, hgg, rest⟩
  · exact .inl hn
  · exact .inr ⟨g, cap, cur, rfl, hb, (hh g rfl).trans hgg, rest⟩
theorem OwnI.lt (h : OwnI w B v l) : ∀ k, v.ownBlock = some k → B ≤ k ∧ k < w.heap.size := World.ownsRow.lt h
theorem OwnI.up (h : OwnI w B v l) (hb : Below w.heap.size w w') : OwnI w' B v l := h.of_heap fun g hg => hb.block g (h.lt g hg).2
theorem OwnI.alloc (h : OwnI w B v l) (o : Obj) : OwnI (w.alloc o) B v l := h.up ((Below.refl _ _).alloc (Nat.le_refl _) _)
theorem OwnI.set (h : OwnI w B v l) {p : Addr} (hp : p.block < B) (u : Value) : OwnI (w.setCell p u) B v l := h.of_heap fun g hg => Below.heap_setCell _ _ _ _ (by have := (h.lt g hg).1; omega)
theorem OwnI.mono {B' : Nat} (h : OwnI w B v l) (hB : B' ≤ B) : OwnI w B' v l := by
  refine ⟨h.1, ?_⟩
  rcases h.2 with hn | ⟨g, cap, cur, rfl, hb, rest⟩
  · exact .inl hn
  · exact .inr ⟨g, cap, cur, rfl, by omega, rest⟩
/-- What is owned is a slice that reads as l. -/
theorem OwnI.ints (h : OwnI w B v l) (hl : l.length ≤ 9223372036854775807) : ∃ A c, v = .slice A l.length c ∧ IntsR w A l.length l ∧ (∀ b off sp, A = some ⟨b, off, sp⟩ → B ≤ b) := by
  rcases h.2 with ⟨rfl, hn⟩ | ⟨g, cap, cur, rfl, hb, hgg, rest⟩
  · have hl0 : l = [] := by simpa using hn
    subst hl0
    exact ⟨none, 0, rfl, ⟨rfl, by simp, fun h => absurd h (by simp)⟩, fun b off sp e => by cases e⟩
  · refine ⟨_, _, rfl, ⟨rfl, hl, fun _ => ⟨g, 0, rfl, (Array.getElem?_eq_some_iff.1 hgg).1, fun j hj => ?_⟩⟩, fun b off sp e => by injection e with e; injection e with e1 e2 e3; omega⟩
    have := World.ownsRow.cells h (g := g) rfl j (.int .i64 (nth l j)) (by simp [nth, hj])
    simpa [Addr.add_lit] using this
end

theorem int_info : (Try.prog.info? 3).map (fun i => (i.zero, i.size, i.bytes)) = some (some (.int .i64 0), 1, 8) := by kernel_rfl
theorem cell0_alloc (w : World) (x : Value) (t : TypeId) : (w.alloc (.cells #[x] t)).cell? ⟨w.heap.size, 0, none⟩ = some x := by simp
theorem le_alloc {w : World} {o : Obj} {B : Nat} (h : B ≤ w.heap.size) : B ≤ (w.alloc o).heap.size := by simp; omega
/-- append of one number to a row of one's own. -/
theorem wpList_app1 {w : World} {ops : Array Oper} {rest : List Oper} {o : Oper} {a : Act} {Q : Exit → Act → World → Prop} (hgd : o.guard = none) (s x : Operand)
    (ho : o.op = .call { callee := .builtin .append, args := #[s, x], argTypes := #[31, 31] })
    (B : Nat) (v : Value) (l : List Int) (hs : a.eval s = v) (hown : OwnI w B v l) (g : Nat) (y : Int) (hx : a.eval x = .slice (some ⟨g, 0, none⟩) 1 1) (hc : w.cell? ⟨g, 0, none⟩ = some (.int .i64 y))
    (hlen : l.length ≤ 1000000000) (hB : B ≤ w.heap.size)
    (h : ∀ v' w', OwnI w' B v' (l ++ [y]) → w.grownBy w' v.ownBlock → Below B w w' → (v'.ownBlock = v.ownBlock ∨ v'.ownBlock = some w.heap.size) → wpList Try.prog ops Q rest (a.put o.dst v') w') : wpList Try.prog ops Q (o :: rest) a w := by
  obtain ⟨i0, hi, hz, hz1, hz2⟩ := info_parts int_info
  refine wpList_plain hgd fun K hK => ?_
  obtain ⟨v', w', hrun, h2, h3, _, h5⟩ := run_append_own_at (P := Try.prog) w B 31 o.type 3 i0 (.int .i64 0) 1 8 Try.underlying31 hi hz hz1 hz2 rfl (by omega) v l.length (l.map (Value.int .i64)) hown ⟨g, 0, none⟩ 1 1 [.int .i64 y] rfl
    (by intro j u hu; cases j with
        | zero => simp at hu; subst hu; simpa [Addr.add] using hc
        | succ j => simp at hu) (by simp [Value.oneCell']) (by simp only [maxLen]; omega) (by omega) hB
  have hown' : OwnI w' B v' (l ++ [y]) := by unfold OwnI; simpa using h2
  have hbel : Below B w w' := ⟨h3.os, h3.tape, h3.output, h3.size, fun k hk => h3.block k (by omega) (fun e => by have := (hown.lt k e.symm).1; omega)⟩
  unfold Oper.wp execOp
  simp only [ho, resolve, invoke, builtin, Sem.run_bind, Sem.run_pure, Result.andThen_ok, List.map_toArray, List.map_cons, List.map_nil, hs, hx, hrun]
  exact hK _ _ (h v' w' hown' h3 hbel h5)

/-- A block known whole: its cells, none frozen. -/
def Blk (w : World) (g : Nat) (t : TypeId) (cs : List Value) : Prop := w.heap[g]? = some (.cells cs.toArray t (0, 0))
section
variable {w w' : World} {g : Nat} {t : TypeId} {cs : List Value}
theorem Blk.lt (h : Blk w g t cs) : g < w.heap.size := by
  rcases Nat.lt_or_ge g w.heap.size with hlt | hge
  · exact hlt
  · unfold Blk at h; rw [Array.getElem?_eq_none hge] at h; cases h
theorem Blk.box (h : Blk w g t cs) : BoxR w g cs := ⟨h.lt, fun j v hv => by unfold Blk at h; simp [World.cell?, h, hv]⟩
theorem Blk.frozen (h : Blk w g t cs) (i : Nat) : w.frozen? ⟨g, i, none⟩ = false := by unfold Blk at h; simp [World.frozen?, h]
theorem Blk.new (w : World) (t : TypeId) (cs : List Value) : Blk (w.alloc (.cells cs.toArray t)) w.heap.size t cs := heap_alloc_new w _
theorem Blk.of_heap (h : Blk w g t cs) (hh : w'.heap[g]? = w.heap[g]?) : Blk w' g t cs := hh.trans h
theorem Blk.up (h : Blk w g t cs) (hb : Below w.heap.size w w') : Blk w' g t cs := h.of_heap (hb.block g h.lt)
theorem Blk.below {B : Nat} (h : Blk w g t cs) (hb : Below B w w') (hg : g < B) : Blk w' g t cs := h.of_heap (hb.block g hg)
theorem Blk.far (h : Blk w g t cs) {p : Addr} (hp : g ≠ p.block) (u : Value) : Blk (w.setCell p u) g t cs := h.of_heap (Below.heap_setCell w p u g hp)
theorem Blk.set_ (h : Blk w g t cs) (i : Nat) (u : Value) : Blk (w.setCell ⟨g, i, none⟩ u) g t (cs.set i u) := by
  unfold Blk at h ⊢
  simp [World.setCell, Array.getElem?_modify, h]
end

section
variable {P : Program} {a : Act} {w : World} {Q : Exit → Act → World → Prop}
theorem wp_skip_seq {c : Code} (h : c.wp P Q a w) : (Code.seq .skip c).wp P Q a w := wp_seq (wp_skip h)
/-- One label, jumped back to. -/
theorem wp_scope_back {c b1 : Code} (l1 : Nat) (J1 : Act → World → Prop) (μ : Act → World → Nat) (hf1 : findLabel c l1 = some (.seq .skip b1))
    (first : (∀ a w, J1 a w → b1.wp P (Exit.jump l1 J1 Q) a w) → c.wp P (Exit.jump l1 J1 Q) a w)
    (pass : ∀ a w, J1 a w → b1.wp P (Exit.jump l1 (fun a' w' => J1 a' w' ∧ μ a' w' < μ a w) Q) a w) : (Code.scope c).wp P Q a w :=
  wp_scope_jumps l1 J1 μ hf1 (first fun a w hJ => Code.wp_mono (fun e a w hq => by
    cases e with
    | goto l => exact ⟨hq.1, hq.2.1⟩
    | _ => exact hq) (pass a w hJ)) (fun a w h => wp_skip_seq (pass a w h))
end
end
section
open Go.RowKit
/-- copy of k-cell elements into a block known whole. -/
theorem run_copyK {P : Program} (w : World) (dT sT ty elem : TypeId) (g o dLen dCap : Nat) (a : Addr) (sLen sCap k : Nat) (cur : Array Value) (t : TypeId) (cs : List Value)
    (hu : P.underlying dT = some (.slice elem)) (hs : (P.info? elem).map (·.size) = some k)
    (hg : w.heap[g]? = some (.cells cur t (0, 0))) (hn : cs.length = Nat.min sLen dLen * k)
    (hsrc : ∀ j v, cs[j]? = some v → w.cell? (a.add j) = some v) (hfit : o + cs.length ≤ cur.size) (h1 : ∀ v ∈ cs, v.oneCell' = true) :
    (Builtin.copy_ #[dT, sT] ty #[.slice (some ⟨g, o, none⟩) dLen dCap, .slice (some a) sLen sCap]).run P w =
      .ok (goInt (Nat.min sLen dLen)) (w.setRow g (cur.toList.take o ++ cs ++ cur.toList.drop (o + cs.length)).toArray) := by
  have hl := run_loadCells_list (P := P) w a cs hsrc
  have hst := run_storeCells_at P g o t cs 0 cur w hg (by simpa using hfit) h1
  cases hq : P.info? elem with
  | none => simp [hq] at hs
  | some i =>
    have hi : i.size = k := by simpa [hq] using hs
    simp [Builtin.copy_, run_underlying hu, Builtin.lenOf, Builtin.firstCells, sizeOf, typeInfo, hq, hi, ← hn, hl, hst]
theorem wp_copy_runR {P : Program} (w : World) {o : Oper} {a : Act} {K : Act → World → Prop} {Q : Exit → Act → World → Prop} (d s : Operand) (t t' : TypeId)
    (ho : o.op = .call { callee := .builtin .copy, args := #[d, s], argTypes := #[t, t'] }) (v u : Value) (hd : a.eval d = v) (hs : a.eval s = u) {v' : Value} {w' : World}
    (hr : (Builtin.copy_ #[t, t'] o.type #[v, u]).run P w = .ok v' w') (h : K (a.put o.dst v') w') : o.wp P a w K Q := by
  unfold Oper.wp execOp
  simp only [ho, resolve, invoke, builtin, Sem.run_bind, Sem.run_pure, Result.andThen_ok, List.map_toArray, List.map_cons, List.map_nil, hd, hs, hr]
  exact h
theorem step_copy_runR {P : Program} {ops : Array Oper} {o : Oper} {a : Act} {w : World} {K : Act → World → Prop} {Q : Exit → Act → World → Prop} {E : Prop}
    (hg : o.guard = none) (d x : Operand) (dT sT : TypeId) (hop : o.op = Op.call { callee := Callee.builtin Builtin.copy, args := #[d, x], argTypes := #[dT, sT] })
    (v u : Value) (hd : a.eval d = v) (hx : a.eval x = u) {v' : Value} {w' : World} (hr : (Builtin.copy_ #[dT, sT] o.type #[v, u]).run P w = .ok v' w') (hK : K (a.put o.dst v') w') :
    if Region.wanted o (yielded ops a.tmps) = true then Oper.wp P o a w K Q else E := by
  have hw : Region.wanted o (yielded ops a.tmps) = true := by simp [Region.wanted, hg]
  rw [if_pos hw]
  exact wp_copy_runR w d x dT sT hop v u hd hx hr hK

theorem ins_new {α : Type} {a N k : Nat} {xs e R : List α} (hx : xs.length = N) (he : e.length = k) (ha : a ≤ N) (hR : R.take a = xs.take a) (hl : N + k ≤ R.length) :
    ((R.take a ++ e ++ R.drop (a + e.length)).take (a + k) ++ xs.drop a ++ (R.take a ++ e ++ R.drop (a + e.length)).drop (a + k + (xs.drop a).length)).take (N + k) = xs.take a ++ e ++ xs.drop a ∧
    ((R.take a ++ e ++ R.drop (a + e.length)).take (a + k) ++ xs.drop a ++ (R.take a ++ e ++ R.drop (a + e.length)).drop (a + k + (xs.drop a).length)).length = R.length := by
  have h1 : (R.take a ++ e).length = a + k := by rw [List.length_append, List.length_take, he]; omega
  have h2 : (R.take a ++ e ++ R.drop (a + e.length)).take (a + k) = xs.take a ++ e := by rw [List.take_left' h1, hR]
  constructor
  · rw [h2]
    refine List.take_left' ?_
    simp only [List.length_append, List.length_take, List.length_drop]; omega
  · rw [h2]
    simp only [List.length_append, List.length_take, List.length_drop]; omega
theorem ins_room {α : Type} {a N k : Nat} {xs e R : List α} (hx : xs.length = N) (he : e.length = k) (ha : a ≤ N) (hR : R.take N = xs) (hl : N + k ≤ R.length) :
    ((R.take (a + k) ++ xs.drop a ++ R.drop (a + k + (xs.drop a).length)).take a ++ e ++ (R.take (a + k) ++ xs.drop a ++ R.drop (a + k + (xs.drop a).length)).drop (a + e.length)).take (N + k) = xs.take a ++ e ++ xs.drop a ∧
    ((R.take (a + k) ++ xs.drop a ++ R.drop (a + k + (xs.drop a).length)).take a ++ e ++ (R.take (a + k) ++ xs.drop a ++ R.drop (a + k + (xs.drop a).length)).drop (a + e.length)).length = R.length := by
  have hd : (xs.drop a).length = N - a := by rw [List.length_drop, hx]
  have h0 : (R.take (a + k)).length = a + k := by rw [List.length_take]; omega
  have h1 : (R.take (a + k) ++ xs.drop a ++ R.drop (a + k + (xs.drop a).length)).take a = xs.take a := by
    rw [List.append_assoc, List.take_append_of_le_length (by omega), List.take_take, ← hR, List.take_take]
    congr 1; omega
  have h2 : (R.take (a + k) ++ xs.drop a ++ R.drop (a + k + (xs.drop a).length)).drop (a + e.length) = xs.drop a ++ R.drop (a + k + (xs.drop a).length) := by
    rw [List.append_assoc, he, List.drop_left' h0]
  rw [h1, h2]
  constructor
  · rw [← List.append_assoc]
    refine List.take_left' ?_
    simp only [List.length_append, List.length_take, hd]; omega
  · simp only [List.length_append, List.length_take, List.length_drop, hd]; omega

/-- The slice (A, n, _) reads as these cells, k an element. -/
def RowV (w : World) (A : Option Addr) (n k : Nat) (xs : List Value) : Prop :=
  xs.length = n * k ∧ n ≤ 9223372036854775807 ∧ (0 < n → ∃ b off, A = some ⟨b, off, none⟩ ∧ b < w.heap.size ∧ ∀ j u, xs[j]? = some u → w.cell? ⟨b, off + j, none⟩ = some u)
theorem RowV.up {w w' : World} {A n k xs} (h : RowV w A n k xs) (hb : Below w.heap.size w w') : RowV w' A n k xs := by
  obtain ⟨h1, h2, h3⟩ := h
  refine ⟨h1, h2, fun hn => ?_⟩
  obtain ⟨b, off, rfl, hlt, hc⟩ := h3 hn
  exact ⟨b, off, rfl, Nat.lt_of_lt_of_le hlt hb.size, fun j u hj => (hb.cell (p := ⟨b, off + j, none⟩) hlt).trans (hc j u hj)⟩
theorem own_row {w : World} {B k n : Nat} {t : TypeId} {v : Value} {xs : List Value} (h : w.ownsRow B t k v n xs) (hn : n ≤ 9223372036854775807) : ∃ A c, v = .slice A n c ∧ RowV w A n k xs ∧ (∀ b off sp, A = some ⟨b, off, sp⟩ → B ≤ b) ∧ n ≤ c ∧ c ≤ 9223372036854775807 := by
  rcases h.2 with ⟨rfl, rfl⟩ | ⟨g, cap, cur, rfl, hb, hg, hnc, hcm, hsz, htk⟩
  · exact ⟨none, 0, rfl, ⟨h.1, by omega, fun h => absurd h (by omega)⟩, (fun b off sp e => by cases e), by omega, by omega⟩
  · refine ⟨_, _, rfl, ⟨h.1, hn, fun _ => ⟨g, 0, rfl, (Array.getElem?_eq_some_iff.1 hg).1, fun j u hj => ?_⟩⟩, (fun b off sp e => by injection e with e; injection e with e1 e2 e3; omega), hnc, by simpa [maxLen] using hcm⟩
    have := World.ownsRow.cells h (g := g) rfl j u hj
    simpa [Addr.add_lit] using this
theorem own_lt {w : World} {B k n : Nat} {t : TypeId} {v : Value} {xs : List Value} (h : w.ownsRow B t k v n xs) : ∀ g, v.ownBlock = some g → B ≤ g ∧ g < w.heap.size := World.ownsRow.lt h
theorem own_of_heap {w w' : World} {B k n : Nat} {t : TypeId} {v : Value} {xs : List Value} (h : w.ownsRow B t k v n xs) (hh : ∀ g, v.ownBlock = some g → w'.heap[g]? = w.heap[g]?) : w'.ownsRow B t k v n xs := by
  refine ⟨h.1, ?_⟩
  rcases h.2 with hn | ⟨g, cap, cur, rfl, hb, hgg, rest⟩
  · exact .inl hn
  · exact .inr ⟨g, cap, cur, rfl, hb, (hh g rfl).trans hgg, rest⟩
theorem own_up {w w' : World} {B k n : Nat} {t : TypeId} {v : Value} {xs : List Value} (h : w.ownsRow B t k v n xs) (hb : Below w.heap.size w w') : w'.ownsRow B t k v n xs := own_of_heap h fun g hg => hb.block g (own_lt h g hg).2
theorem own_alloc {w : World} {B k n : Nat} {t : TypeId} {v : Value} {xs : List Value} (h : w.ownsRow B t k v n xs) (o : Obj) : (w.alloc o).ownsRow B t k v n xs := own_up h ((Below.refl _ _).alloc (Nat.le_refl _) _)
theorem own_set {w : World} {B k n : Nat} {t : TypeId} {v : Value} {xs : List Value} (h : w.ownsRow B t k v n xs) {p : Addr} (hp : p.block < B) (u : Value) : (w.setCell p u).ownsRow B t k v n xs := own_of_heap h fun g hg => Below.heap_setCell _ _ _ _ (by have := (own_lt h g hg).1; omega)
theorem own_mono {w : World} {B B' k n : Nat} {t : TypeId} {v : Value} {xs : List Value} (h : w.ownsRow B t k v n xs) (hB : B' ≤ B) : w.ownsRow B' t k v n xs := by
  refine ⟨h.1, ?_⟩
  rcases h.2 with hn | ⟨g, cap, cur, rfl, hb, rest⟩
  · exact .inl hn
  · exact .inr ⟨g, cap, cur, rfl, by omega, rest⟩
theorem own_nil (w : World) (B k : Nat) (t : TypeId) : w.ownsRow B t k (.slice none 0 0) 0 [] := World.ownsRow_nil w B _ _

def flat {α : Type} (enc : α → List Value) (l : List α) : List Value := (l.map enc).flatten
section
variable {α : Type} {enc : α → List Value} {k : Nat} (hk : ∀ x, (enc x).length = k)
include hk
theorem flat_len : ∀ (l : List α), (flat enc l).length = l.length * k
  | [] => by simp [flat]
  | x :: l => by
    have := flat_len l
    unfold flat at this ⊢
    rw [List.map_cons, List.flatten_cons, List.length_append, this, hk, List.length_cons, Nat.succ_mul]; omega
theorem flat_take : ∀ (l : List α) (i : Nat), flat enc (l.take i) = (flat enc l).take (i * k)
  | [], i => by simp [flat]
  | x :: l, 0 => by simp [flat]
  | x :: l, i + 1 => by
    have := flat_take l i
    unfold flat at this ⊢
    rw [List.take_succ_cons, List.map_cons, List.flatten_cons, this, List.map_cons, List.flatten_cons, List.take_append, hk, List.take_of_length_le (l := enc x) (by rw [hk, Nat.succ_mul]; omega)]
    congr 2
    rw [Nat.succ_mul]; omega
theorem flat_drop : ∀ (l : List α) (i : Nat), flat enc (l.drop i) = (flat enc l).drop (i * k)
  | [], i => by simp [flat]
  | x :: l, 0 => by simp [flat]
  | x :: l, i + 1 => by
    have := flat_drop l i
    unfold flat at this ⊢
    rw [List.drop_succ_cons, this, List.map_cons, List.flatten_cons, List.drop_append, hk, List.drop_of_length_le (l := enc x) (by rw [hk, Nat.succ_mul]; omega), List.nil_append]
    congr 1
    rw [Nat.succ_mul]; omega
theorem flat_at [Inhabited α] : ∀ (l : List α) (j r : Nat), j < l.length → r < k → (flat enc l)[j * k + r]? = (enc (l.getD j default))[r]?
  | [], j, r, hj, _ => absurd hj (by simp)
  | x :: l, 0, r, _, hr => by
    unfold flat
    rw [List.map_cons, List.flatten_cons, Nat.zero_mul, Nat.zero_add, List.getElem?_append_left (by rw [hk]; exact hr)]
    rfl
  | x :: l, j + 1, r, hj, hr => by
    have := flat_at l j r (by simpa using hj) hr
    unfold flat at this ⊢
    rw [List.map_cons, List.flatten_cons, List.getElem?_append_right (by rw [hk, Nat.succ_mul]; omega), hk, show (j + 1) * k + r - k = j * k + r by rw [Nat.succ_mul]; omega, this]
    rfl
end
theorem flat_app {α : Type} (enc : α → List Value) (l m : List α) : flat enc (l ++ m) = flat enc l ++ flat enc m := by simp [flat]
theorem flat_one {α : Type} (enc : α → List Value) (x : α) : flat enc [x] = enc x := by simp [flat]
theorem flat_oneCell {α : Type} {enc : α → List Value} (h : ∀ x, ∀ u ∈ enc x, u.oneCell' = true) (l : List α) : ∀ u ∈ flat enc l, u.oneCell' = true := fun u hu => by
  unfold flat at hu
  rw [List.mem_flatten] at hu
  obtain ⟨c, hc, hu⟩ := hu
  rw [List.mem_map] at hc
  obtain ⟨x, _, rfl⟩ := hc
  exact h x u hu
end
section
open Go.RowKit
end
section
open Go.RowKit
end
section
open Go.RowKit
def befS (r a s b : Int) : Bool := decide (r < s ∨ r = s ∧ a < b)
theorem befS_iff {r a s b : Int} : befS r a s b = true ↔ (r < s ∨ r = s ∧ a < b) := by simp [befS]
def cmp3 (a b : Int) : Int := if a < b then -1 else if b < a then 1 else 0
def or2 (x y : Int) : Int := if x = 0 then y else x
set_option maxRecDepth 100000 in
set_option maxHeartbeats 1000000 in
theorem cmp_Or (g : Nat) (x y : Int) (w : World) (h0 : w.cell? ⟨g, 0, none⟩ = some (.int .i64 x)) (h1 : w.cell? ⟨g, 1, none⟩ = some (.int .i64 y)) :
    Calls Try.prog 74 #[.slice (some ⟨g, 0, none⟩) 2 2] w fun e w' => e = .returned (.int .i64 (or2 x y)) ∧ w = w' := by
  go_enter Try.func74, Try.ntmps74
  go_wp2_with fail
  go_loop [8] (fun i => ∃ k : Nat, k ≤ 2 ∧ i = .int .i64 k ∧ (k = 0 ∨ x = 0) ∧ (k ≤ 1 ∨ y = 0)) (fun i => 2 - (intOf i).toNat)
  case atStart => exact ⟨0, by omega, rfl, .inl rfl, .inl (by omega)⟩
  case round =>
    obtain ⟨k, hk, rfl, hx, hy⟩ := hrel
    obtain h | h | h : k = 0 ∨ k = 1 ∨ k = 2 := by omega
    · subst h
      by_cases hx0 : x = 0
      · have hb : (x != 0) = false := by simp [hx0]
        have HX := Lib.hid hx0
        clear hx hy hx0
        go_wp2_with fail
        (first | (go_round; (case rel => exact ⟨1, by omega, rfl, .inr HX.out, .inl (by omega)⟩); (case measure => (simp [intOf] <;> omega))) | (go_roundw; (case rel => exact ⟨1, by omega, rfl, .inr HX.out, .inl (by omega)⟩); (case measure => (simp [intOf] <;> omega))) | (refine ⟨?_, by simp [intOf] <;> omega⟩; (repeat apply Exists.intro); refine ⟨?rel, ?fr⟩; (case fr => ((repeat' apply And.intro) <;> rfl)); (case rel => exact ⟨1, by omega, rfl, .inr HX.out, .inl (by omega)⟩)))
      · have hb : (x != 0) = true := by simp [hx0]
        have HX := Lib.hid hx0
        clear hx hy hx0
        go_wp2_with fail
        go_ret
        exact ⟨ret_int (by unfold or2; rw [if_neg HX.out]), rfl⟩
    · subst h
      have hx0 : x = 0 := by omega
      have HX := Lib.hid hx0
      clear hx hy hx0
      by_cases hy0 : y = 0
      · have hb : (y != 0) = false := by simp [hy0]
        have HY := Lib.hid hy0
        clear hy0
        go_wp2_with fail
        (first | (go_round; (case rel => exact ⟨2, by omega, rfl, .inr HX.out, .inr HY.out⟩); (case measure => (simp [intOf] <;> omega))) | (go_roundw; (case rel => exact ⟨2, by omega, rfl, .inr HX.out, .inr HY.out⟩); (case measure => (simp [intOf] <;> omega))) | (refine ⟨?_, by simp [intOf] <;> omega⟩; (repeat apply Exists.intro); refine ⟨?rel, ?fr⟩; (case fr => ((repeat' apply And.intro) <;> rfl)); (case rel => exact ⟨2, by omega, rfl, .inr HX.out, .inr HY.out⟩)))
      · have hb : (y != 0) = true := by simp [hy0]
        clear hy0
        go_wp2_with fail
        go_ret
        exact ⟨ret_int (by unfold or2; rw [if_pos HX.out]), rfl⟩
    · subst h
      have hx0 : x = 0 := by omega
      have hy0 : y = 0 := by omega
      have HX := Lib.hid hx0
      have HY := Lib.hid hy0
      clear hx hy hx0 hy0
      go_wp2_with fail
      go_ret
      exact ⟨ret_int (by unfold or2; rw [if_pos HX.out, HY.out]), rfl⟩
def cmpP (ro au r a : Int) : Int := or2 (cmp3 ro r) (cmp3 au a)
theorem cmpP_lt {ro au r a : Int} : cmpP ro au r a < 0 ↔ befS ro au r a = true := by
  rw [befS_iff]; unfold cmpP or2 cmp3; repeat' split
  all_goals omega
theorem cmpP_eq {ro au r a : Int} : cmpP ro au r a = 0 ↔ ro = r ∧ au = a := by
  unfold cmpP or2 cmp3; repeat' split
  all_goals omega
end
section
open Go.RowKit
open Classical in
noncomputable def dec (p : Prop) : Bool := decide p
theorem dec_iff {p : Prop} : dec p = true ↔ p := by simp [dec]
theorem dec_true {p : Prop} (h : p) : true = dec p := (dec_iff.2 h).symm
theorem dec_false {p : Prop} (h : ¬ p) : false = dec p := by simp [dec, h]
def digS (d : Int) : Bool := decide (1 ≤ d ∧ d ≤ 65536)
theorem digS_iff {d : Int} : digS d = true ↔ (1 ≤ d ∧ d ≤ 65536) := by simp [digS]
set_option maxRecDepth 100000 in
set_option maxHeartbeats 1000000 in
theorem committee_Digest (d : Int) (w : World) : Calls Try.prog 29 #[.int .i64 d] w fun e w' => e = .returned (.bool (digS d)) ∧ w = w' := by
  go_enter Try.func29, Try.ntmps29
  go_wp2
  all_goals (go_ret; refine ⟨ret_bool ?_, rfl⟩; rw [Bool.eq_iff_iff, digS_iff]; simp; try omega)
set_option maxRecDepth 100000 in
set_option maxHeartbeats 1000000 in
theorem ref0_Digest (d : Int) (w : World) : Calls Try.prog 34 #[.int .i64 d] w fun e w' => e = .returned (.bool (digS d)) ∧ w = w' := by
  go_enter Try.func34, Try.ntmps34
  go_wp2
  all_goals (go_ret; refine ⟨ret_bool ?_, rfl⟩; rw [Bool.eq_iff_iff, digS_iff]; simp; try omega)
end
section
open Go.RowKit
theorem befS_tr {a b c d e f : Int} (h1 : befS a b c d = true) (h2 : befS c d e f = true) : befS a b e f = true := by
  rw [befS_iff] at *; omega
theorem befS_no {a b c d e f : Int} (h1 : befS a b c d = true) (h2 : befS a b e f = false) : befS c d e f = false := by
  cases h : befS c d e f
  · rfl
  · rw [befS_tr h1 h] at h2; cases h2
end
section
open Go.RowKit
end
section
open Go.RowKit Go.ChangeShapes Go.WideShapes Go.ChangeAt
theorem list2 {α : Type} {l : List α} (h : l.length = 2) : ∃ a0 a1, l = [a0, a1] := by
  match l, h with
  | [a0, a1], _ => exact ⟨a0, a1, rfl⟩
theorem list3 {α : Type} {l : List α} (h : l.length = 3) : ∃ a0 a1 a2, l = [a0, a1, a2] := by
  match l, h with
  | [a0, a1, a2], _ => exact ⟨a0, a1, a2, rfl⟩
theorem list4 {α : Type} {l : List α} (h : l.length = 4) : ∃ a0 a1 a2 a3, l = [a0, a1, a2, a3] := by
  match l, h with
  | [a0, a1, a2, a3], _ => exact ⟨a0, a1, a2, a3, rfl⟩
section
variable {H : Type} {enc : TypeId × Value → H} {w : World} {base : Nat} {spare : Nat → Bool} {held : Bool}
theorem open_Int {fuel : Nat} {cs : List Value} {x : DataW H × List MemPlace} (h : DataW.trod enc Try.prog w base spare held fuel 3 cs = some x) : ∃ z, cs = [.int .i64 z] := by
  obtain ⟨z, hz, _⟩ := DataW.trod_int Try.underlying3 h
  exact ⟨z, hz⟩
theorem cells_int : Try.prog.cellsOf 3 = 1 := by kernel_rfl
theorem cells_ints : Try.prog.cellsOf 31 = 1 := by kernel_rfl
end
end
section
open Go.RowKit
end
section
open Go.RowKit
end
section
open Go.RowKit
theorem own_get {w : World} {B k n c g : Nat} {t : TypeId} {xs : List Value} (h : w.ownsRow B t k (.slice (some ⟨g, 0, none⟩) n c) n xs) : (∀ j u, xs[j]? = some u → w.cell? ⟨g, j, none⟩ = some u) ∧ ∀ j, w.frozen? ⟨g, j, none⟩ = false := by
  refine ⟨fun j u hj => ?_, fun j => ?_⟩
  · have := World.ownsRow.cells h (g := g) rfl j u hj
    simpa [Addr.add_lit] using this
  · rcases h.2 with ⟨e, _⟩ | ⟨g', cap, cur, e, hb, hg, _⟩
    · cases e
    · injection e with e1 e2 e3
      injection e1 with e1; injection e1 with e1
      subst e1
      simp [World.frozen?, hg]
theorem own_shape {w : World} {B k n : Nat} {t : TypeId} {v : Value} {xs : List Value} (h : w.ownsRow B t k v n xs) : (v = .slice none 0 0 ∧ n = 0) ∨ ∃ g c, v = .slice (some ⟨g, 0, none⟩) n c ∧ B ≤ g ∧ n ≤ c := by
  rcases h.2 with h | ⟨g, cap, cur, rfl, hb, _, hc, _⟩
  · exact .inl h
  · exact .inr ⟨g, cap, rfl, hb, hc⟩
end
end Go.Proofs.Ytnngeaibdnnpoaa
