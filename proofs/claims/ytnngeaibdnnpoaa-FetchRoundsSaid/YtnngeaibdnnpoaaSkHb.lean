/- Fetch: slices.AppendSeq(nil, seq) and slices.Collect(seq) of slices of ints against any iterator value (turned from the kit's worked proof at keys); slices.Chunk's iterator gives the pieces. -/
import Derived.Test.YtnngeaibdnnpoaaRows
import Derived.RangeFuncGives
import Derived.Maps.AppendAt
import Derived.Sort.QuietTacIn
import Derived.OwnWalkIn
import Derived.TacticsInMore
import Derived.RegionIn
import Derived.LoopNIn
import Derived.LoopIn
import Derived.Sort.MapsRangeIn
import Derived.WalkKit
import Derived.Shelf.Abstract
import Derived.Test.YtnngeaibdnnpoaaSkJ0
namespace Go.Proofs.Ytnngeaibdnnpoaa
open Go.RowKit Go.Shelf
set_option linter.unusedSimpArgs false
set_option linter.unusedVariables false

def encL (x : SlP) : Value := .slice x.A x.n x.c
def Ck.apAssign : Code := (Code.region 2 #[{ dst := some 5, op := Op.assign (Operand.tmp 7), type := 31, pos := "iter.go:51", after := #[], guard := none }] false)
def Ck.apBody : Code := (Code.block 1 (Code.region 3 #[{ dst := some 8, op := Op.load 95 (Operand.tmp 2), type := 95, pos := "iter.go:52", after := #[], guard := none }, { dst := some 9, op := Op.move (Operand.tmp 5), type := 31, pos := "iter.go:52", after := #[], guard := none }, { dst := some 10, op := Op.buildSlice 95 1 #[(0, Operand.tmp 9)], type := 95, pos := "iter.go:52", after := #[{ on := 1, ground := Ground.data }], guard := none }, { dst := some 11, op := Op.call { callee := Callee.builtin Builtin.append, args := #[Operand.tmp 8, Operand.tmp 10], argTypes := #[95, 95] }, type := 95, pos := "iter.go:52", after := #[{ on := 0, ground := Ground.data }, { on := 2, ground := Ground.data }], guard := none }, { dst := none, op := Op.store 95 (Operand.tmp 2) (Operand.tmp 11), type := 0, pos := "iter.go:52", after := #[{ on := 3, ground := Ground.data }, { on := 3, ground := Ground.chain }, { on := 0, ground := Ground.phase }, { on := 1, ground := Ground.phase }, { on := 2, ground := Ground.phase }, { on := 3, ground := Ground.phase }], guard := none }] false))
def Ck.apRec (fn : FuncId) (sv : Value) (Bs D : Nat) (st : LoopState) (pend : Option Code) : Loop :=
  { state := st, pending := pend, fn, tmps := #[.slice none 0 0, sv, .pointer (some ⟨Bs, 0, none⟩), undef, .slice none 0 0, undef, sv, undef, undef, undef, undef, undef, undef], params := #[7], assign := Ck.apAssign, body := Ck.apBody, defers := D }

structure Ck.ApAt (w0 : World) (fn : FuncId) (sv : Value) (Bs l D : Nat) (ss : List SlP) (W : World) : Prop where
  box : ∃ v, W.heap[Bs]? = some (.cells #[v] 95 (0, 0)) ∧ W.ownsRow w0.heap.size 31 1 v ss.length (ss.map encL) ∧ (v = .slice none 0 0 ↔ ss = [])
  L : W.heap[l]? = some (.loop (Ck.apRec fn sv Bs D .ready none))
  K : W.heap[D]? = some (.deferred (some []))
  below : Below w0.heap.size w0 W

theorem ownsRow_abides {W W' : World} {row : Option Nat} {base : Nat} {e : TypeId} {size : Nat} {v : Value} {k : Nat} {xs : List Value} (h : W.ownsRow base e size v k xs) (hg : W.grownBy W' row)
    (hrow : ∀ r, row = some r → ∃ o : Obj, W.heap[r]? = some o ∧ o.isWalk = true) : W'.ownsRow base e size v k xs := by
  refine h.kept hg ?_
  rcases h.2 with ⟨rfl, _⟩ | ⟨g, cap, cur, rfl, _, hgb, _⟩
  · exact .inl rfl
  · refine .inr fun e' => ?_
    obtain ⟨o, ho, hw⟩ := hrow g (by simpa [Value.ownBlock] using e'.symm)
    rw [hgb] at ho; cases ho; cases hw

theorem Ck.ap_abides (w0 : World) (fn : FuncId) (sv : Value) (Bs l D B : Nat) (hB : w0.heap.size ≤ B) : AbidesFrom B (Ck.ApAt w0 fn sv Bs l D) := fun s W W' row h hg hrow => by
  have hrow' : ∀ r, row = some r → ∃ o : Obj, W.heap[r]? = some o ∧ o.isWalk = true := fun r e => (hrow r e).2
  obtain ⟨v, hv, hr, hn⟩ := h.box
  exact ⟨⟨v, (grownBy_keeps hg hrow' hv rfl).trans hv, ownsRow_abides hr hg hrow', hn⟩, (grownBy_keeps hg hrow' h.L rfl).trans h.L, (grownBy_keeps hg hrow' h.K rfl).trans h.K,
    h.below.grown hg h.below.size (fun k e => Nat.le_trans hB (hrow k e).1)⟩

theorem grownBy_putObj (W : World) (l : Nat) (o : Obj) : W.grownBy (W.putObj l o) (some l) :=
  ⟨rfl, rfl, rfl, by simp, fun k _ hk => World.putObj_heap_other (fun e => hk (by rw [e]))⟩
theorem grownBy_setCell0 (W : World) (b : Nat) (v : Value) : W.grownBy (W.setCell ⟨b, 0, none⟩ v) (some b) :=
  ⟨rfl, rfl, rfl, (KeepsWalks.setCell W _ v).size, fun k _ hk => Below.heap_setCell _ _ _ k (fun e => hk (by rw [e]))⟩
theorem ownsRow_ne {W : World} {base : Nat} {e : TypeId} {size : Nat} {v : Value} {k : Nat} {xs : List Value} (h : W.ownsRow base e size v k xs) {j : Nat} {o : Obj} (hj : W.heap[j]? = some o) (hno : ∀ cur, o ≠ .cells cur e (0, 0)) :
    v.ownBlock = none ∨ v.ownBlock ≠ some j := by
  rcases h.2 with ⟨rfl, _⟩ | ⟨g, cap, cur, rfl, _, hgb, _⟩
  · exact .inl rfl
  · refine .inr fun e' => ?_
    have : g = j := by simpa [Value.ownBlock] using e'
    subst this; rw [hgb] at hj; cases hj; exact hno cur rfl
theorem cell_of_box {W : World} {B : Nat} {v : Value} {t : TypeId} (h : W.heap[B]? = some (.cells #[v] t (0, 0))) : W.cell? ⟨B, 0, none⟩ = some v ∧ W.frozen? ⟨B, 0, none⟩ = false := by
  constructor <;> simp [World.cell?, World.frozen?, h]

theorem heap_setCell_box {W : World} {B : Nat} {v : Value} {t : TypeId} (v' : Value) (h : W.heap[B]? = some (.cells #[v] t (0, 0))) : (W.setCell ⟨B, 0, none⟩ v').heap[B]? = some (.cells #[v'] t (0, 0)) := by
  obtain ⟨hlt, hk⟩ := Array.getElem?_eq_some_iff.1 h
  show (W.heap.modify B _)[B]? = _
  rw [Array.getElem?_eq_getElem (by rw [Array.size_modify]; exact hlt), Array.getElem_modify_self, hk]
  rfl
theorem ownsRow_not_walk {W : World} {base : Nat} {e : TypeId} {size : Nat} {v : Value} {k : Nat} {xs : List Value} (h : W.ownsRow base e size v k xs) : ∀ (j : Nat) (o : Obj), v.ownBlock = some j → W.heap[j]? = some o → o.isWalk = false := by
  intro j o hj ho
  rcases h.2 with ⟨rfl, _⟩ | ⟨g, cap, cur, rfl, _, hgb, _⟩
  · simp [Value.ownBlock] at hj
  · have : g = j := by simpa [Value.ownBlock] using hj
    subst this; rw [hgb] at ho; cases ho; rfl

theorem Ck.infoL : (Try.prog.info? 31).map (fun i => (i.zero, i.size, i.bytes)) = some (some (.slice none 0 0), 1, 24) := by kernel_rfl

set_option maxRecDepth 100000 in
set_option maxHeartbeats 2000000 in
theorem Ck.apYield (F : Fence) (m : Nat) (w0 : World) (fn : FuncId) (hfn : F.fn fn) (sv : Value) (Bs l D : Nat) (hBl : Bs ≠ l) (hDl : D ≠ l) (hDB : D ≠ Bs) (h0B : w0.heap.size ≤ Bs) (h0l : w0.heap.size ≤ l)
    (N : Nat) (hN : N ≤ maxLen) (hNb : N * 24 ≤ 140737488355328) (ss : List SlP) (x : SlP) (W : World) (h : Ck.ApAt w0 fn sv Bs l D ss W) (hlen : ss.length < N) :
    YieldAt F m Try.prog l #[encL x] W fun e W' => e = .returned (.bool true) ∧ Ck.ApAt w0 fn sv Bs l D (ss ++ [x]) W' ∧ KeepsWalks W W' := by
  obtain ⟨xA, xn, xc⟩ := x
  show YieldAt F m Try.prog l #[Value.slice xA xn xc] W _
  obtain ⟨i0, hi, hz0, hz1, hz2⟩ := info_parts Ck.infoL
  obtain ⟨v, hv, hrow, _⟩ := h.box
  refine ⟨fn, #[.slice none 0 0, sv, .pointer (some ⟨Bs, 0, none⟩), undef, .slice none 0 0, undef, sv, (Value.slice xA xn xc), undef, undef, undef, undef, undef], Ck.apAssign, Ck.apBody, by simpa [Ck.apRec] using run_yield (P := Try.prog) (args := #[(Value.slice xA xn xc)]) h.L rfl, roundIn_of_wpIn hfn ?_⟩
  have hl : l < W.heap.size := (Array.getElem?_eq_some_iff.1 h.L).1
  have hbr := run_beginRound (P := Try.prog) h.L rfl
  obtain ⟨W2, hW2⟩ : ∃ W2, W.putObj l (.loop { Ck.apRec fn sv Bs D .ready none with state := .busy }) = W2 := ⟨_, rfl⟩
  rw [hW2] at hbr
  have hg2 : W.grownBy W2 (some l) := by rw [← hW2]; exact grownBy_putObj _ _ _
  have hk2 : KeepsWalks W W2 := by rw [← hW2]; exact KeepsWalks.putObj _ h.L rfl
  have hv2 : W2.heap[Bs]? = some (.cells #[v] 95 (0, 0)) := by rw [← hW2]; exact (World.putObj_heap_other hBl).trans hv
  have hK2 : W2.heap[D]? = some (.deferred (some [])) := by rw [← hW2]; exact (World.putObj_heap_other hDl).trans h.K
  have hL2 : W2.heap[l]? = some (.loop { Ck.apRec fn sv Bs D .ready none with state := .busy }) := by rw [← hW2]; exact World.putObj_heap_same hl
  have hrow2 : W2.ownsRow w0.heap.size 31 1 v ss.length (ss.map encL) := hrow.kept hg2 (ownsRow_ne hrow h.L (fun cur e => by cases e))
  have hb2 : Below w0.heap.size w0 W2 := h.below.grown hg2 h.below.size (fun k e => by cases e; exact h0l)
  obtain ⟨hc2, hf2⟩ := cell_of_box hv2
  have hBlt : Bs < W2.heap.size := (Array.getElem?_eq_some_iff.1 hv2).1
  have hl2 : l < W2.heap.size := (Array.getElem?_eq_some_iff.1 hL2).1
  have hDlt : D < W2.heap.size := (Array.getElem?_eq_some_iff.1 hK2).1
  have ne_of : ∀ {j : Nat} {o : Obj}, W2.heap[j]? = some o → (∀ cur, o ≠ .cells cur 31 (0, 0)) → some j ≠ v.ownBlock := fun hj hno => by
    rcases ownsRow_ne hrow2 hj hno with e | e
    · rw [e]; simp
    · exact fun e' => e e'.symm
  clear hW2
  unfold Ck.apAssign
  gi_wp2_with (rw [Oper.semAt_eq _ _ _ (fun c h => by cases h)]; go_simp; try go_bits)
  unfold Ck.apBody
  gi_wp2_with (first
    | (gi_at_builtin; refine wpListIn_append_own _ rfl _ _ 95 rfl w0.heap.size 31 i0 (.slice none 0 0) 1 24 Try.underlying95 hi hz0 hz1 hz2 rfl (by decide) _ _ _ rfl (hrow2.alloc _) ⟨W2.heap.size, 0, none⟩ 1 1 [(Value.slice xA xn xc)] rfl rfl (cell_one_new _ _ _) (by simp [Value.oneCell']) (by omega) (by omega) (by have := hb2.size; simp; omega) ?_; intro v' w3 hown' hg3 hnil3
       have hv3 : w3.heap[Bs]? = some (.cells #[v] 95 (0, 0)) := (hg3.block Bs (by simp; omega) (ne_of hv2 (fun cur e => by cases e))).trans ((Below.heap_alloc _ _ Bs hBlt).trans hv2)
       obtain ⟨hc3, hf3⟩ := cell_of_box hv3
       obtain ⟨g', cap', cur', rfl, hbase', hgb', hr1, hr2, hr3, hr4⟩ : ∃ g' cap' cur', v' = .slice (some ⟨g', 0, none⟩) (ss.length + 1) cap' ∧ w0.heap.size ≤ g' ∧ w3.heap[g']? = some (.cells cur' 31 (0, 0)) ∧ ss.length + 1 ≤ cap' ∧ cap' ≤ maxLen ∧ cur'.size = cap' * 1 ∧ cur'.toList.take ((ss.length + 1) * 1) = ss.map encL ++ [(Value.slice xA xn xc)] := by
         rcases hown'.2 with ⟨_, h0⟩ | h'
         · exact absurd h0 (by omega)
         · exact h'
       go_frame)
    | (rw [Oper.semAt_eq _ _ _ (fun c h => by cases h)]; go_simp; try go_bits))
  have hg3' : (W2.alloc (.cells #[(Value.slice xA xn xc)] 31)).grownBy w3 v.ownBlock := hg3
  have hL3 : w3.heap[l]? = some (.loop { Ck.apRec fn sv Bs D .ready none with state := .busy }) := (hg3'.block l (by simp; omega) (ne_of hL2 (fun cur e => by cases e))).trans ((Below.heap_alloc _ _ l hl2).trans hL2)
  have hK3 : w3.heap[D]? = some (.deferred (some [])) := (hg3'.block D (by simp; omega) (ne_of hK2 (fun cur e => by cases e))).trans ((Below.heap_alloc _ _ D hDlt).trans hK2)
  obtain ⟨w4, hw4⟩ : ∃ w4, w3.setCell ⟨Bs, 0, none⟩ (.slice (some ⟨g', 0, none⟩) (ss.length + 1) cap') = w4 := ⟨_, rfl⟩
  rw [hw4]
  have hg4 : w3.grownBy w4 (some Bs) := by rw [← hw4]; exact grownBy_setCell0 _ _ _
  have hv4 : w4.heap[Bs]? = some (.cells #[.slice (some ⟨g', 0, none⟩) (ss.length + 1) cap'] 95 (0, 0)) := by rw [← hw4]; exact heap_setCell_box _ hv3
  have hL4 : w4.heap[l]? = some (.loop { Ck.apRec fn sv Bs D .ready none with state := .busy }) := (hg4.block l (Array.getElem?_eq_some_iff.1 hL3).1 (fun e => hBl (by cases e; rfl))).trans hL3
  have hK4 : w4.heap[D]? = some (.deferred (some [])) := (hg4.block D (Array.getElem?_eq_some_iff.1 hK3).1 (fun e => hDB (by cases e; rfl))).trans hK3
  have hrow4 := hown'.kept hg4 (ownsRow_ne hown' hv3 (fun cur e => by cases e))
  have hl4 : l < w4.heap.size := (Array.getElem?_eq_some_iff.1 hL4).1
  have hb3 : Below w0.heap.size w0 w3 := (hb2.alloc hb2.size _).grown hg3' (by have := hb2.size; simp; omega) (fun k e => (hrow2.lt k e).1)
  have hb4 : Below w0.heap.size w0 w4 := hb3.grown hg4 hb3.size (fun k e => by cases e; exact h0B)
  have hk4 : KeepsWalks W w4 := ((hk2.trans (KeepsWalks.alloc _ _)).trans (KeepsWalks.of_grownBy hg3' (ownsRow_not_walk (hrow2.alloc _)))).trans (by rw [← hw4]; exact KeepsWalks.setCell _ _ _)
  clear hw4
  refine ⟨_, _, run_endRound none hL4, rfl, ⟨⟨_, (World.putObj_heap_other hBl).trans hv4, ?_, by simp⟩, World.putObj_heap_same hl4, (World.putObj_heap_other hDl).trans hK4, hb4.grown (grownBy_putObj _ _ _) hb4.size (fun k e => by cases e; exact h0l)⟩, hk4.trans (KeepsWalks.putObj _ hL4 rfl)⟩
  have := hrow4.kept (grownBy_putObj w4 l (.loop { { Ck.apRec fn sv Bs D .ready none with state := .busy } with state := if (none : Option Code).isNone then .ready else .done, pending := none })) (ownsRow_ne hrow4 hL4 (fun cur e => by cases e))
  simpa [encL] using this


/-- The word of an iterator value whose cells lie below the world w: the rounds keep what lay there. -/
def SeqB {α : Type} (F : Fence) (n : Nat) (P : Program) (g : Nat) (lb : Array Value) (enc : α → Value) (S : List α → Prop) (N : Nat) (w : World) : Prop :=
  ∀ (l : Nat) (J : List α → World → Prop) (W : World), Below w.heap.size w W → AbidesFrom W.heap.size J → (∀ ss W1, J ss W1 → Below w.heap.size w W1) →
    (∀ pre x W1, J pre W1 → pre.length < N → YieldAt F (n - 1) P l #[enc x] W1 fun e W' => e = .returned (.bool true) ∧ J (pre ++ [x]) W' ∧ KeepsWalks W1 W') →
    J [] W →
    CallsIn F n P g (#[.func (.yield l) #[] #[]] ++ lb) W fun e W' => (∃ v, e = .returned v) ∧ ∃ xs, S xs ∧ J xs W'

set_option maxRecDepth 100000 in
set_option maxHeartbeats 2000000 in
theorem Ck.appendSeq_in (F : Fence) (n : Nat) (h11 : F.fn 86) (hro : F.round = none) (hn : 2 ≤ n) (g : Nat) (lb : Array Value) (hFg : F.fn g) (eg : ∀ args w, (callFunc g args).run Try.prog w = .ok (.enter g args) w)
    (S : List SlP → Prop) (N : Nat) (hN : N ≤ maxLen) (hNb : N * 24 ≤ 140737488355328) (w : World) (hseq : SeqB F (n - 1) Try.prog g lb encL S N w) :
    CallsIn F n Try.prog 86 #[.slice none 0 0, .func (.func g) #[] lb] w fun e w' => ∃ (v : Value) (ss : List SlP), e = .returned v ∧ S ss ∧ w'.ownsRow w.heap.size 31 1 v ss.length (ss.map encL) ∧ (v = .slice none 0 0 ↔ ss = []) ∧ Below w.heap.size w w' := by
  have h1 : 1 ≤ n := by omega
  refine callsIn_of_wp_marks Try.func86 rfl h11 ?_ hro
  simp only [Try.ntmps86, List.size_toArray, List.length_cons, List.length_nil, Nat.reduceAdd, Nat.reduceSub, Array.replicate_succ, Array.replicate_zero, List.push_toArray, List.append_toArray, List.nil_append, List.cons_append]
  gi_wp2
  refine wpIn_rangeFunc ?_
  intro fn hfn
  rw [hro]
  obtain ⟨W0, hW0⟩ : ∃ W0, w.alloc (.cells #[.slice none 0 0] 95) = W0 := ⟨_, rfl⟩
  have hs0 : W0.heap.size = w.heap.size + 1 := by rw [← hW0]; simp
  have hv0 : W0.heap[w.heap.size]? = some (.cells #[.slice none 0 0] 95 (0, 0)) := by rw [← hW0]; exact World.alloc_heap_new w _
  have hb0 : Below w.heap.size w W0 := by rw [← hW0]; exact (Below.refl _ w).alloc (Nat.le_refl _) _
  rw [hW0]
  obtain ⟨W1, hW1⟩ : ∃ W1, (W0.alloc (.deferred (some []))).alloc (.loop (Ck.apRec fn (.func (.func g) #[] lb) w.heap.size W0.heap.size .ready none)) = W1 := ⟨_, rfl⟩
  have hold : ∀ k, k < W0.heap.size → W1.heap[k]? = W0.heap[k]? := fun k hk => by
    rw [← hW1]; exact (Below.heap_alloc _ _ k (by simp; omega)).trans (Below.heap_alloc _ _ k hk)
  have hb1 : Below w.heap.size w W1 := by rw [← hW1]; exact (hb0.alloc hb0.size _).alloc (by have := hb0.size; simp; omega) _
  have hs1 : W1.heap.size = W0.heap.size + 2 := by rw [← hW1]; simp
  have hM : Ck.ApAt w fn (.func (.func g) #[] lb) w.heap.size (W0.heap.size + 1) W0.heap.size [] W1 :=
    ⟨⟨_, (hold w.heap.size (by omega)).trans hv0, ⟨rfl, .inl ⟨rfl, rfl⟩⟩, by simp⟩,
     by rw [← hW1]; have := World.alloc_heap_new (W0.alloc (.deferred (some []))) (.loop (Ck.apRec fn (.func (.func g) #[] lb) w.heap.size W0.heap.size .ready none)); rwa [World.size_alloc] at this,
     by rw [← hW1]; exact (Below.heap_alloc _ _ _ (by simp)).trans (World.alloc_heap_new W0 _), hb1⟩
  refine ⟨W0.heap.size + 1, [{ target := .collected W0.heap.size, args := #[] }], W1, { target := .fn (.func g) lb, args := #[.func (.yield (W0.heap.size + 1)) #[] #[]] }, W1, g,
    #[.func (.yield (W0.heap.size + 1)) #[] #[]] ++ lb, W1, ?_, ?_, ?_, ?_, fun _ => h1, ?_⟩
  · rw [← hW1]; exact run_enterLoop_outer _ _ _ _ _
  · simp [resolve, go_sem]
  · intro f' hf'; simp [Target.leads] at hf'; subst hf'; exact hFg
  · simp [invoke, go_sem, eg]
  · refine (hseq (W0.heap.size + 1) (Ck.ApAt w fn (.func (.func g) #[] lb) w.heap.size (W0.heap.size + 1) W0.heap.size) W1 hb1 (Ck.ap_abides _ _ _ _ _ _ _ hb1.size) (fun ss W h => h.below)
      (fun pre x W hJ hl => Ck.apYield F (n - 1 - 1) w fn hfn _ w.heap.size (W0.heap.size + 1) W0.heap.size (by omega) (by omega) (by omega) (Nat.le_refl _) (by omega) N hN hNb pre x W hJ hl) hM).mono ?_
    rintro e W2 ⟨⟨v0, rfl⟩, ss, hS, h2⟩
    obtain ⟨v, hv, hrow, hnil⟩ := h2.box
    have hend := run_endLoop (P := Try.prog) h2.L (by simp [Ck.apRec])
    obtain ⟨W3, hW3⟩ : ∃ W3, W2.putObj (W0.heap.size + 1) (.loop { Ck.apRec fn (.func (.func g) #[] lb) w.heap.size W0.heap.size .ready none with state := .exhausted }) = W3 := ⟨_, rfl⟩
    rw [hW3] at hend
    have hg3 : W2.grownBy W3 (some (W0.heap.size + 1)) := by rw [← hW3]; exact grownBy_putObj _ _ _
    have hv3 : W3.heap[w.heap.size]? = some (.cells #[v] 95 (0, 0)) := by rw [← hW3]; exact (World.putObj_heap_other (by omega)).trans hv
    have hK3 : W3.heap[W0.heap.size]? = some (.deferred (some [])) := by rw [← hW3]; exact (World.putObj_heap_other (by omega)).trans h2.K
    have hrow3 := hrow.kept hg3 (ownsRow_ne hrow h2.L (fun cur e => by cases e))
    have hb3 : Below w.heap.size w W3 := h2.below.grown hg3 h2.below.size (fun k e => by cases e; omega)
    obtain ⟨hc3, hf3⟩ := cell_of_box hv3
    clear hW3
    refine ⟨none, W3, hend, ?_⟩
    gi_wp2
    rw [← hs0]
    refine ⟨by simp, .inl ⟨_, _, rfl, run_takeDeferred hK3, ?_⟩⟩
    exact ⟨_, results_tmp rfl _ _ _, v, ss, rfl, hS, hrow3.kept (grownBy_putObj _ _ _) (ownsRow_ne hrow3 hK3 (fun cur e => by cases e)), hnil, hb3.grown (grownBy_putObj _ _ _) hb3.size (fun k e => by cases e; omega)⟩


set_option maxHeartbeats 1000000 in
theorem Ck.collect_in (F : Fence) (n : Nat) (h8 : F.fn 63) (h11 : F.fn 86) (hro : F.round = none) (hn : 3 ≤ n) (g : Nat) (lb : Array Value) (hFg : F.fn g) (eg : ∀ args w, (callFunc g args).run Try.prog w = .ok (.enter g args) w)
    (S : List SlP → Prop) (N : Nat) (hN : N ≤ maxLen) (hNb : N * 24 ≤ 140737488355328) (w : World) (hseq : SeqB F (n - 1 - 1) Try.prog g lb encL S N w) :
    CallsIn F n Try.prog 63 #[.func (.func g) #[] lb] w fun e w' => ∃ (v : Value) (ss : List SlP), e = .returned v ∧ S ss ∧ w'.ownsRow w.heap.size 31 1 v ss.length (ss.map encL) ∧ (v = .slice none 0 0 ↔ ss = []) ∧ Below w.heap.size w w' := by
  have h1 : 1 ≤ n := by omega
  refine callsIn_of_wp Try.func63 rfl h8 ?_ hro
  simp only [Try.ntmps63, List.size_toArray, List.length_cons, List.length_nil, Nat.reduceAdd, Nat.reduceSub, Array.replicate_succ, Array.replicate_zero, List.push_toArray, List.append_toArray, List.nil_append, List.cons_append]
  gi_wp2_with (gi_at_call 86; refine (Ck.appendSeq_in F (n - 1) h11 hro (by omega) g lb hFg eg S N hN hNb _ hseq).mono ?_; rintro e w' ⟨v, ss, rfl, hS, hrow, hnil, hb⟩)
  go_ret
  exact ⟨v, ss, rfl, hS, hrow, hnil, hb⟩


/-- piece j of m ints at b, off -/
def pcs (b off m k : Nat) : List SlP := (List.range k).map fun j => ⟨some ⟨b, off + j * 16, none⟩, min 16 (m - j * 16), min 16 (m - j * 16)⟩
theorem pcs_succ (b off m k : Nat) : pcs b off m (k + 1) = pcs b off m k ++ [⟨some ⟨b, off + k * 16, none⟩, min 16 (m - k * 16), min 16 (m - k * 16)⟩] := by simp [pcs, List.range_succ]
theorem pcs_length (b off m k : Nat) : (pcs b off m k).length = k := by simp [pcs]
set_option maxRecDepth 100000 in
set_option maxHeartbeats 8000000 in
theorem Ck.chunk1_in (F : Fence) (n : Nat) (h7 : F.fn 87) (hro : F.round = none) (hn : 1 ≤ n) (l Bs Bn b off m c : Nat) (A : Option Addr) (hA : 0 < m → A = some ⟨b, off, none⟩) (hmc : m ≤ c) (hc : m ≤ 1000000000) (J : List SlP → World → Prop) (w : World)
    (hBsl : Bs < w.heap.size) (hBnl : Bn < w.heap.size) (hBs : w.cell? ⟨Bs, 0, none⟩ = some (.slice A m c)) (hBn : w.cell? ⟨Bn, 0, none⟩ = some (.int .i64 16))
    (W : World) (hJ : AbidesFrom W.heap.size J) (hJB : ∀ ss W1, J ss W1 → Below w.heap.size w W1)
    (hY : ∀ pre x W1, J pre W1 → pre.length < (m + 15) / 16 → YieldAt F (n - 1) Try.prog l #[encL x] W1 fun e W' => e = .returned (.bool true) ∧ J (pre ++ [x]) W' ∧ KeepsWalks W1 W')
    (h0 : J [] W) :
    CallsIn F n Try.prog 87 #[.func (.yield l) #[] #[], .pointer (some ⟨Bs, 0, none⟩), .pointer (some ⟨Bn, 0, none⟩)] W fun e W' => (∃ v, e = .returned v) ∧ J (pcs b off m ((m + 15) / 16)) W' := by
  obtain ⟨q, hq⟩ : ∃ q : Nat, 16 = q := ⟨_, rfl⟩
  have hBn : w.cell? ⟨Bn, 0, none⟩ = some (.int .i64 (q : Int)) := by rw [← hq]; exact hBn
  have HQ := Lib.hid hq
  have hqI : (q : Int) ≤ 1000000000 := by omega
  have hq0 : 0 < q := by omega
  clear hq
  have hcell : ∀ ss W1, J ss W1 → W1.cell? ⟨Bs, 0, none⟩ = some (.slice A m c) ∧ W1.cell? ⟨Bn, 0, none⟩ = some (.int .i64 (q : Int)) ∧ Bs < W1.heap.size ∧ Bn < W1.heap.size := fun ss W1 h => by
    have hb := hJB ss W1 h
    exact ⟨(hb.cell (p := ⟨Bs, 0, none⟩) hBsl).trans hBs, (hb.cell (p := ⟨Bn, 0, none⟩) hBnl).trans hBn, Nat.lt_of_lt_of_le hBsl hb.size, Nat.lt_of_lt_of_le hBnl hb.size⟩
  have HCELL := Lib.hid hcell
  have HY := Lib.hid hY
  clear hY hcell hBs hBn
  refine callsIn_of_wp Try.func87 rfl h7 ?_ hro
  simp only [Try.ntmps87, List.size_toArray, List.length_cons, List.length_nil, Nat.reduceAdd, Nat.reduceSub, Array.replicate_succ, Array.replicate_zero, List.push_toArray, List.append_toArray, List.nil_append, List.cons_append]
  obtain ⟨q1, q2, q3, q4⟩ := HCELL.out _ _ h0
  gi_wp2
  gi_loopw [4] (fun i wr => ∃ k : Nat, k ≤ (m + 15) / 16 ∧ i = .int .i64 (k * 16 : Nat) ∧ J (pcs b off m k) wr)
    (fun i _ => m - (intOf i).toNat)
  case atStart => exact ⟨0, Nat.zero_le _, rfl, h0⟩
  case round =>
    clear q1 q2 q3 q4
    obtain ⟨k, hk, rfl, hJs⟩ := hrel
    obtain ⟨q1, q2, q3, q4⟩ := HCELL.out _ _ hJs
    obtain ⟨i, hi⟩ : ∃ i, i = k * 16 := ⟨_, rfl⟩
    rw [← hi]
    have HI := Lib.hid hi
    clear hi
    by_cases hlt : i < m
    · have hAe := hA (by omega)
      subst hAe
      have hlc : i < c := by omega
      have hlm : i ≤ m := by omega
      have hce : ¬ c = i := by omega
      have hdc : decide ((i : Int) < (m : Int)) = true := by simp; omega
      have hmi : ((m : Int) - (i : Int)).toNat = m - i := by omega
      obtain ⟨r, hr⟩ : ∃ r, m - i = r := ⟨_, rfl⟩
      have hr0 : 0 < r := by omega
      have hrI : (r : Int) ≤ 1000000000 := by omega
      have hiI : (i : Int) ≤ 1000000000 := by omega
      have hJd : ∀ nq, J (pcs b off m k) (wr.drewN nq) := fun nq => hJ _ _ _ none hJs ⟨rfl, rfl, rfl, Nat.le_refl _, fun _ _ _ => rfl⟩ (fun r e => by cases e)
      gi_wp2
      by_cases h16 : r < q
      · have m3 : (r : Int) < (q : Int) := by omega
        have m1 : decide ((r : Int) < (q : Int)) = true := decide_eq_true m3
        have m2 : decide ((q : Int) < (r : Int)) = false := by simp; omega
        have m4 : ¬ (q : Int) < (r : Int) := by omega
        refine wpIn_region_quiet_lit hro (by kernel_rfl) (by kernel_rfl) ?_
        repeat (quiet_step_in (fail))
        refine wpQuietIn_nil ?_
        intro _ hw'
        obtain ⟨nq, hw''⟩ := hw'
        subst hw''
        have hend : (i : Int) + (r : Int) ≤ 2000000000 := by omega
        have hlow : (i : Int) ≤ (i : Int) + (r : Int) := by omega
        have hcap : (i : Int) + (r : Int) ≤ (c : Int) := by omega
        have hsub : ((i : Int) + (r : Int)).toNat - i = r := by omega
        have hsub2 : ((i : Int) + (r : Int)).toNat = i + r := by omega
        have hsub3 : i + r - i = r := by omega
        have hpc : pcs b off m (k + 1) = pcs b off m k ++ [⟨some ⟨b, off + i, none⟩, r, r⟩] := by (have := HQ.out); rw [pcs_succ, ← HI.out, hr]; congr 3 <;> omega
        obtain ⟨fn, tmps, assign, body, hy, hR⟩ := HY.out _ ⟨some ⟨b, off + i, none⟩, r, r⟩ (wr.drewN nq) (hJd nq) (by rw [pcs_length]; have := HI.out; omega)
        have hy : (Instr.yield l #[.slice (some ⟨b, off + i, none⟩) r r]).run Try.prog (wr.drewN nq) = .ok (.round l fn tmps assign body) (wr.drewN nq) := hy
        gi_wp2
        refine hR.mono ?_
        rintro e W3 ⟨rfl, hJ3, hk3⟩
        obtain ⟨q5, q6, q7, q8⟩ := HCELL.out _ _ hJ3
        gi_wp2
        go_roundw
        (case rel => exact ⟨k + 1, by have := HI.out; omega, by rw [show (k + 1) * 16 = i + q by rw [HI.out, ← HQ.out]; omega]; simp, by rw [hpc]; exact hJ3⟩)
        (case measure => (have := HQ.out); simp [intOf]; omega)
      · have m1 : decide ((r : Int) < (q : Int)) = false := by simp; omega
        have H16 := Lib.hid h16
        clear h16
        refine wpIn_region_quiet_lit hro (by kernel_rfl) (by kernel_rfl) ?_
        repeat (quiet_step_in (fail))
        refine wpQuietIn_nil ?_
        intro _ hw'
        obtain ⟨nq, hw''⟩ := hw'
        subst hw''
        all_goals have h16 := H16.out
        have hend : (i : Int) + (q : Int) ≤ 2000000000 := by omega
        have hlow : (i : Int) ≤ (i : Int) + (q : Int) := by omega
        have hcap : (i : Int) + (q : Int) ≤ (c : Int) := by omega
        have hsub : ((i : Int) + (q : Int)).toNat - i = q := by omega
        have hsub2 : ((i : Int) + (q : Int)).toNat = i + q := by omega
        have hsub3 : i + q - i = q := by omega
        have hpc : pcs b off m (k + 1) = pcs b off m k ++ [⟨some ⟨b, off + i, none⟩, q, q⟩] := by (have := HQ.out); rw [pcs_succ, ← HI.out, hr]; congr 3 <;> omega
        obtain ⟨fn, tmps, assign, body, hy, hR⟩ := HY.out _ ⟨some ⟨b, off + i, none⟩, q, q⟩ (wr.drewN nq) (hJd nq) (by rw [pcs_length]; have := HI.out; omega)
        have hy : (Instr.yield l #[.slice (some ⟨b, off + i, none⟩) q q]).run Try.prog (wr.drewN nq) = .ok (.round l fn tmps assign body) (wr.drewN nq) := hy
        gi_wp2
        refine hR.mono ?_
        rintro e W3 ⟨rfl, hJ3, hk3⟩
        obtain ⟨q5, q6, q7, q8⟩ := HCELL.out _ _ hJ3
        gi_wp2
        go_roundw
        (case rel => exact ⟨k + 1, by have := HI.out; omega, by rw [show (k + 1) * 16 = i + q by rw [HI.out, ← HQ.out]; omega]; simp, by rw [hpc]; exact hJ3⟩)
        (case measure => (have := HQ.out); simp [intOf]; omega)
    · obtain rfl : k = (m + 15) / 16 := by have := HI.out; omega
      have hlI : decide ((i : Int) < (m : Int)) = false := by simp; omega
      have hlN : ¬ (i : Int) < (m : Int) := by omega
      gi_wp2
      go_end0
      exact ⟨⟨_, rfl⟩, hJs⟩
/-- slices.Chunk(s, 16): the closure over two boxes. -/
theorem slices_Chunk16 (A : Option Addr) (m c : Nat) (w : World) : Calls Try.prog 64 #[.slice A m c, .int .i64 16] w fun e w' => e = .returned (.func (.func 87) #[] #[.pointer (some ⟨w.heap.size, 0, none⟩), .pointer (some ⟨w.heap.size + 1, 0, none⟩)]) ∧ w' = (w.alloc (.cells #[.slice A m c] 31)).alloc (.cells #[.int .i64 16] 3) := by
  go_enter Try.func64, Try.ntmps64
  go_wp2
  go_ret
  exact ⟨rfl, rfl⟩
theorem collect_chunk (b off m c Bs Bn : Nat) (A : Option Addr) (hA : 0 < m → A = some ⟨b, off, none⟩) (hmc : m ≤ c) (hm : m ≤ 1000) (w : World)
    (hBsl : Bs < w.heap.size) (hBnl : Bn < w.heap.size) (hBs : w.cell? ⟨Bs, 0, none⟩ = some (.slice A m c)) (hBn : w.cell? ⟨Bn, 0, none⟩ = some (.int .i64 16)) :
    Calls Try.prog 63 #[.func (.func 87) #[] #[.pointer (some ⟨Bs, 0, none⟩), .pointer (some ⟨Bn, 0, none⟩)]] w fun e w' => ∃ v, e = .returned v ∧ w'.ownsRow w.heap.size 31 1 v ((m + 15) / 16) ((pcs b off m ((m + 15) / 16)).map encL) ∧ Below w.heap.size w w' :=
  (callsIn_wide.1 (Ck.collect_in Fence.wide 3 trivial trivial rfl (Nat.le_refl _) 87 #[.pointer (some ⟨Bs, 0, none⟩), .pointer (some ⟨Bn, 0, none⟩)] trivial (enters_of Try.func87 (by kernel_rfl) rfl) (fun ss => ss = pcs b off m ((m + 15) / 16)) ((m + 15) / 16) (by simp [maxLen]; omega) (by omega) w
    (fun l J W hW hJ hJB hY h0 => (Ck.chunk1_in Fence.wide (3 - 1 - 1) trivial rfl (by omega) l Bs Bn b off m c A hA hmc (by omega) J w hBsl hBnl hBs hBn W hJ hJB hY h0).mono fun e W' ⟨h1, h2⟩ => ⟨h1, _, rfl, h2⟩))).mono fun e w' ⟨v, ss, he, hss, hrow, _, hb⟩ => by
      subst hss
      rw [pcs_length] at hrow
      exact ⟨v, he, hrow, hb⟩

end Go.Proofs.Ytnngeaibdnnpoaa
