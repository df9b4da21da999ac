/- Part 0 of what WorkerExact leans on. No conditions. -/
import Derived.Test.YtgfakefcmbpboaaGreatRows
import Derived.WalkKit
import Derived.WalkLawsBesides
import Derived.WalkSpells
import Derived.Deep.QuietTactic
import Derived.BigQuiet
import Derived.Lib.Hide
import Derived.Deep.Light
import Derived.Maps.AppendAt
import Derived.ScopeJumps
import Derived.WalkMore
import Derived.Laws.CopyRow
import Derived.Lib.AppendZerosOnto
import Derived.Lib.Overlaps
import Derived.Deep.RegionLaw
import Derived.Lib.SliceRun
import Derived.Deep.RegionWith
import Derived.ProofKit
import Derived.OpenShut
import Derived.ChangeSlices
import Derived.ChangeOld
import Derived.Below
import Derived.Deep.Slices
import Derived.Lib.Bytealg
import Derived.Deep.Cut
import Derived.Deep.CutRange
import Derived.ChangeArms
import Derived.SizedLaws
import Derived.Deep.RegionHeld3
import Derived.Deep.CutBlock
import Derived.Deep.MidRow
namespace Go.Proofs.YtgfakefcmbpboaaGreat
set_option linter.all false
set_option maxRecDepth 100000
set_option maxHeartbeats 64000000
open _root_.Go.Proofs.Tryz Go.RowKit
theorem jE {P : Program} {ops : Array Oper} {Q : Exit → Act → World → Prop} {md : Region.Mode} {S : World → Prop} {i : Nat} {oi : Oper} {d : Option Tmp} {v : Value} {fuel : Nat} {listed : Array Bool} {a : Act} {w : World} (hi : ops[i]? = some oi) (hd : oi.dst = d)
    (hs : Region.noSelect ops = true) (hf : Region.free md ops listed i = true) (hr : (Region.ready md ops listed).contains i = true)
    (hQ : ∀ c a w, Q (.panic c) (a.put d v) w → Q (.panic c) a w) (hy : YieldsIf P ops S oi v a) (hS : S w)
    (h : wpAnyH P md ops Q S fuel (listed.setIfInBounds i true) (a.put d v) w) : wpAnyH P md ops Q S (fuel + 1) listed a w := by
  subst hd; exact wpAnyH_take hi hs hf hr hQ hy hS h
/-- an operation that turns no world, taken: its value by the walk's own simp -/
theorem tk {P : Program} {ops : Array Oper} {Q : Exit → Act → World → Prop} {md : Region.Mode} {S : World → Prop} (i d : Nat) {q : Prop} {oi : Oper} {v : Value} {fuel : Nat} {listed : Array Bool} {a : Act} {w : World} (k : q) (hi : ops[i]? = some oi := by rfl) (hd : oi.dst = some d := by rfl)
    (hv : ∀ w, S w → (execOp a.eval oi).run P w = .ok (.value v) w := by intro wq hSw; clear hSw; go_simp; all_goals (with_reducible rfl))
    (h : q → wpAnyH P md ops Q S fuel (listed.setIfInBounds i true) (a.put (some d) v) w := by intro hq; simp only [Act.put, List.setIfInBounds_toArray, List.set_cons_zero, List.set_cons_succ]; exact hq)
    (hs : Region.noSelect ops = true := by kernel_rfl) (hf : Region.free md ops listed i = true := by kernel_rfl) (hr : (Region.ready md ops listed).contains i = true := by kernel_rfl) (hw : Region.wanted oi (yielded ops a.tmps) = true := by rfl)
    (hQ : ∀ c a w, Q (.panic c) (a.put (some d) v) w → Q (.panic c) a w := by exact fun _ _ _ h => h) (hS : S w := by assumption) : wpAnyH P md ops Q S (fuel + 1) listed a w :=
  jE hi hd hs hf hr hQ (Or.inl ⟨hw, hv⟩) hS (h k)
theorem tq {P : Program} {ops : Array Oper} {Q : Exit → Act → World → Prop} {md : Region.Mode} {S : World → Prop} (i d : Nat) {c : World → Prop} (x : ∀ w, S w → c w) {q : Prop} {oi : Oper} {v : Value} {fuel : Nat} {listed : Array Bool} {a : Act} {w : World} (k : q) (hi : ops[i]? = some oi := by rfl) (hd : oi.dst = some d := by rfl)
    (hv : ∀ w, S w → c w → (execOp a.eval oi).run P w = .ok (.value v) w := by intro wq hSw q1; clear hSw; go_simp; all_goals (with_reducible rfl))
    (h : q → wpAnyH P md ops Q S fuel (listed.setIfInBounds i true) (a.put (some d) v) w := by intro hq; simp only [Act.put, List.setIfInBounds_toArray, List.set_cons_zero, List.set_cons_succ]; exact hq)
    (hs : Region.noSelect ops = true := by kernel_rfl) (hf : Region.free md ops listed i = true := by kernel_rfl) (hr : (Region.ready md ops listed).contains i = true := by kernel_rfl) (hw : Region.wanted oi (yielded ops a.tmps) = true := by rfl)
    (hQ : ∀ c a w, Q (.panic c) (a.put (some d) v) w → Q (.panic c) a w := by exact fun _ _ _ h => h) (hS : S w := by assumption) : wpAnyH P md ops Q S (fuel + 1) listed a w :=
  jE hi hd hs hf hr hQ (Or.inl ⟨hw, fun w h => hv w h (x w h)⟩) hS (h k)
theorem ld {P : Program} {ops : Array Oper} {Q : Exit → Act → World → Prop} {md : Region.Mode} {S : World → Prop} (i d : Nat) {b o : Nat} {cs : List Value} (x : ∀ w, S w → w.rangeAt b o cs) {ty : TypeId} {de : TypeDesc} (hu : P.underlying ty = some de) {q : Prop} {oi : Oper} {y : Operand} {fuel : Nat} {listed : Array Bool} {a : Act} {w : World} (k : q) (hi : ops[i]? = some oi := by rfl) (hd : oi.dst = some d := by rfl) (ho : oi.op = .load ty y := by rfl)
    (hx : a.eval y = .pointer (some ⟨b, o, none⟩) := by simp [Act.eval, Act.put]) (hw : Region.wanted oi (yielded ops a.tmps) = true := by rfl) (hr0 : de.isRow = true := by rfl) (hz : (P.info? ty).map (·.size) = some cs.length := by kernel_rfl)
    (h : q → wpAnyH P md ops Q S fuel (listed.setIfInBounds i true) (a.put (some d) (.agg cs.toArray)) w := by intro hq; simp only [Act.put, List.setIfInBounds_toArray, List.set_cons_zero, List.set_cons_succ]; exact hq)
    (hs : Region.noSelect ops = true := by kernel_rfl) (hf : Region.free md ops listed i = true := by kernel_rfl) (hr : (Region.ready md ops listed).contains i = true := by kernel_rfl)
    (hQ : ∀ c a w, Q (.panic c) (a.put (some d) (.agg cs.toArray)) w → Q (.panic c) a w := by exact fun _ _ _ h => h) (hS : S w := by assumption) : wpAnyH P md ops Q S (fuel + 1) listed a w :=
  jE hi hd hs hf hr hQ (yieldsIf_load_mid hw ty y ho b o hx cs de x hu hr0 hz) hS (h k)
theorem wz {P : Program} {ops : Array Oper} {Q : Exit → Act → World → Prop} {md : Region.Mode} {S : World → Prop} {listed : Array Bool} {a : Act} {w : World} {fuel : Nat} (h : Q .normal a w) (hr : Region.ready md ops listed = [] := by kernel_rfl) : wpAnyH P md ops Q S fuel listed a w := wpAnyH_done hr h fuel
theorem ry {P : Program} {ops : Array Oper} {Q : Exit → Act → World → Prop} {md : Region.Mode} {S : World → Prop} {fuel : Nat} {listed : Array Bool} {a : Act} {w : World} (i : Nat) {o : Oper}
    (h : ∀ K' : Act → World → Prop, Shut (∀ a w, S w → (S w → wpAnyH P md ops Q S fuel (listed.setIfInBounds i true) a w) → K' a w) → if Region.wanted o (yielded ops a.tmps) = true then Oper.wp P o a w K' Q else K' (a.put o.dst undef) w)
    (ho : ops[i]? = some o := by rfl) (hr : Region.ready md ops listed = [i] := by kernel_rfl) : wpAnyH P md ops Q S (fuel + 1) listed a w := wpAnyH_ready hr (by simp) (AllReadyH.cons ho h AllReadyH.nil)
theorem pl {P : Program} {ops : Array Oper} {rest : List Oper} {o : Oper} {Q : Exit → Act → World → Prop} {a : Act} {w : World} {q : Prop} (k : q) (hg : o.guard = none := by rfl)
    (h : q → ∀ K : Act → World → Prop, (∀ a w, wpList P ops Q rest a w → K a w) → o.wp P a w K Q := by intro hq K hK; go_simp; refine hK _ _ ?_; clear hK K; (try simp only [Act.put, List.setIfInBounds_toArray, List.set_cons_zero, List.set_cons_succ]); exact hq) : wpList P ops Q (o :: rest) a w := wpList_plain hg (h k)
theorem pg {P : Program} {ops : Array Oper} {rest : List Oper} {o : Oper} {Q : Exit → Act → World → Prop} {a : Act} {w : World} {q : Prop} (k : q) (hg : Region.wanted o (yielded ops a.tmps) = true := by kernel_rfl)
    (h : q → ∀ K : Act → World → Prop, (∀ a w, wpList P ops Q rest a w → K a w) → o.wp P a w K Q := by intro hq K hK; go_simp; refine hK _ _ ?_; clear hK K; (try simp only [Act.put, List.setIfInBounds_toArray, List.set_cons_zero, List.set_cons_succ]); exact hq) : wpList P ops Q (o :: rest) a w :=
  wpList_step fun K hK => by rw [if_pos hg]; exact h k K hK
theorem nm {α : Sort _} {p : Prop} (e : α) (h : ∀ x, x = e → p) : p := h e rfl
theorem mn {α : Sort _} {p : Prop} (e : α) (h : ∀ x, e = x → p) : p := h e rfl
theorem sk {P : Program} {ops : Array Oper} {Q : Exit → Act → World → Prop} {md : Region.Mode} {S : World → Prop} (i d : Nat) {q : Prop} {oi : Oper} {fuel : Nat} {listed : Array Bool} {a : Act} {w : World} (k : q) (hi : ops[i]? = some oi := by rfl) (hd : oi.dst = some d := by rfl) (hw : Region.wanted oi (yielded ops a.tmps) = false := by rfl)
    (h : q → wpAnyH P md ops Q S fuel (listed.setIfInBounds i true) (a.put (some d) undef) w := by intro hq; simp only [Act.put, List.setIfInBounds_toArray, List.set_cons_zero, List.set_cons_succ]; exact hq)
    (hs : Region.noSelect ops = true := by kernel_rfl) (hf : Region.free md ops listed i = true := by kernel_rfl) (hr : (Region.ready md ops listed).contains i = true := by kernel_rfl)
    (hQ : ∀ c a w, Q (.panic c) (a.put (some d) undef) w → Q (.panic c) a w := by exact fun _ _ _ h => h) (hS : S w := by assumption) : wpAnyH P md ops Q S (fuel + 1) listed a w :=
  jE hi hd hs hf hr hQ (Or.inr ⟨hw, rfl⟩) hS (h k)
theorem hk {P : Program} {ops : Array Oper} {Q : Exit → Act → World → Prop} {md : Region.Mode} {S : World → Prop} {fuel : Nat} {listed : Array Bool} {a : Act} {w : World} {K : Act → World → Prop} {q : Prop} (hK : Shut (∀ a w, S w → (S w → wpAnyH P md ops Q S fuel listed a w) → K a w)) (hs : S w) (k : S w → q)
    (h : q → wpAnyH P md ops Q S fuel listed a w := by intro hq; (try simp only [Act.put, List.setIfInBounds_toArray, List.set_cons_zero, List.set_cons_succ]); exact hq) : K a w := hK.out _ _ hs fun g => h (k g)
theorem hd {P : Program} {ops : Array Oper} {Q : Exit → Act → World → Prop} {S : World → Prop} {id : Nat} {a : Act} {w : World} (hS : ∀ Y, Below w.heap.size w Y → S Y) (h : S w.drew → wpAnyH P .any ops Q S ops.size (Array.replicate ops.size false) a w.drew) (hm : P.follows .mixedOrders = true := by kernel_rfl) : (Code.region id ops true).wp P Q a w :=
  wp_region_held_drew hm (hS _ (Below.refl _ _).drew) h
theorem sp {p q : Prop} (k : q) (h : q → p := by intro hq; (try simp only [Act.put, List.setIfInBounds_toArray, List.set_cons_zero, List.set_cons_succ]); exact hq) : p := h k
theorem bdr (w : World) : Below w.heap.size w w.drew := (Below.refl _ _).drew
theorem tg {P : Program} {ops : Array Oper} {rest : List Oper} {o : Oper} {Q : Exit → Act → World → Prop} {a : Act} {w : World} (h : ∀ K : Act → World → Prop, (∀ a w, wpList P ops Q rest a w → K a w) → o.wp P a w K Q) (hg : Region.wanted o (yielded ops a.tmps) = true := by kernel_rfl) : wpList P ops Q (o :: rest) a w :=
  wpList_step fun K hK => by rw [if_pos hg]; exact h K hK
theorem sg {P : Program} {ops : Array Oper} {rest : List Oper} {o : Oper} {Q : Exit → Act → World → Prop} {a : Act} {w : World} {q : Prop} (k : q) (hg : Region.wanted o (yielded ops a.tmps) = false := by kernel_rfl) (h : q → wpList P ops Q rest (a.put o.dst undef) w := by intro hq; (try simp only [Act.put, List.setIfInBounds_toArray, List.set_cons_zero, List.set_cons_succ]); exact hq) : wpList P ops Q (o :: rest) a w :=
  wpList_step fun K hK => by rw [if_neg (by rw [hg]; simp)]; exact hK _ _ (h k)
theorem lm {P : Program} {ops : Array Oper} {rest : List Oper} {o : Oper} {Q : Exit → Act → World → Prop} {a : Act} {w : World} {q : Prop} {ty : TypeId} {x : Operand} {b off : Nat} {cs : List Value} {d : TypeDesc} (hc : w.rangeAt b off cs) (hu : P.underlying ty = some d) (k : q) (hg : Region.wanted o (yielded ops a.tmps) = true := by first | rfl | kernel_rfl) (ho : o.op = .load ty x := by rfl) (hx : a.eval x = .pointer (some ⟨b, off, none⟩) := by simp [Act.eval, Act.put])
    (hd : d.isRow = true := by rfl) (hi : (P.info? ty).map (·.size) = some cs.length := by kernel_rfl) (h : q → wpList P ops Q rest (a.put o.dst (.agg cs.toArray)) w := by intro hq; (try simp only [Act.put, List.setIfInBounds_toArray, List.set_cons_zero, List.set_cons_succ, List.toList_toArray]); exact hq) : wpList P ops Q (o :: rest) a w :=
  wpList_step fun _ hK => by rw [if_pos hg]; exact wp_load_mid ty x ho b off hx cs d hc hu hd hi (hK _ _ (h k))
theorem gq {p q1 q2 : Prop} (k1 : q1) (k2 : q2) (h : q1 → q2 → p := by intro hq1 hq2; refine uY _ _ _ rfl rfl ?_; (fail_if_success (intro b' hb; have h2 := hb.symm; have : b' = true := h2.trans (by with_reducible rfl))); (fail_if_success (intro b' hb; have h2 := hb.symm; have : b' = false := h2.trans (by with_reducible rfl))); intro b' hb; simp only [hb]; cases b' <;> (try simp only [Bool.not_eq_true', Bool.not_eq_false', decide_eq_true_eq, decide_eq_false_iff_not, Int.not_lt, Int.not_le, Bool.and_eq_true, Bool.or_eq_true, Bool.or_eq_false_iff, beq_iff_eq, beq_eq_false_iff_ne, Int.natCast_pos] at hb); (revert hb; exact hq1); (revert hb; exact hq2)) : p := h k1 k2
theorem rnd {p q : Prop} (k : q) (h : q → p := by intro hq; first | (go_round; (case rel => exact hq); (case measure => (simp [intOf] <;> omega))) | (go_roundw; (case rel => exact hq); (case measure => (simp [intOf] <;> omega))) | (refine ⟨?_, by simp [intOf] <;> omega⟩; (repeat apply Exists.intro); refine ⟨?rel, ?fr⟩; (case fr => ((repeat' apply And.intro) <;> rfl)); (case rel => exact hq))) : p := h k
theorem ry2 {P : Program} {ops : Array Oper} {Q : Exit → Act → World → Prop} {md : Region.Mode} {S : World → Prop} {fuel : Nat} {listed : Array Bool} {a : Act} {w : World} (i j : Nat) {o r : Oper}
    (h : ∀ K' : Act → World → Prop, Shut (∀ a w, S w → (S w → wpAnyH P md ops Q S fuel (listed.setIfInBounds i true) a w) → K' a w) → if Region.wanted o (yielded ops a.tmps) = true then Oper.wp P o a w K' Q else K' (a.put o.dst undef) w)
    (h2 : ∀ K' : Act → World → Prop, Shut (∀ a w, S w → (S w → wpAnyH P md ops Q S fuel (listed.setIfInBounds j true) a w) → K' a w) → if Region.wanted r (yielded ops a.tmps) = true then Oper.wp P r a w K' Q else K' (a.put r.dst undef) w)
    (ho : ops[i]? = some o := by rfl) (hp : ops[j]? = some r := by rfl) (hr : Region.ready md ops listed = [i, j] := by kernel_rfl) : wpAnyH P md ops Q S (fuel + 1) listed a w := wpAnyH_ready hr (by simp) (AllReadyH.cons ho h (AllReadyH.cons hp h2 AllReadyH.nil))
theorem lz : (∀ (a : Act) (d : Tmp) (v : Value), a.put (some d) v = { a with tmps := a.tmps.setIfInBounds d v }) ∧ (∀ (a : Act) (v : Value), a.put none v = a) ∧ (∀ (α : Type) (l : List α) (i : Nat) (a : α), l.toArray.setIfInBounds i a = (l.set i a).toArray) ∧ (∀ (α : Type) (a b : α) (l : List α), (a :: l).set 0 b = b :: l) ∧ (∀ (α : Type) (a b : α) (l : List α) (n : Nat), (a :: l).set (n + 1) b = a :: l.set n b) := ⟨fun _ _ _ => rfl, fun _ _ => rfl, fun _ _ _ _ => by simp, fun _ _ _ _ => rfl, fun _ _ _ _ _ => rfl⟩
instance : Coe World Nat := ⟨fun w => w.heap.size⟩
theorem ħ {p : Prop} (h : p) : RowKit.Hid p := Lib.hid h
theorem y0 {p : Prop} (h : p := by (repeat (first | (with_reducible exact Below.refl _ _) | (with_reducible assumption) | (with_reducible apply aB) | (with_reducible apply aM) | (with_reducible apply gV) | (with_reducible refine aA ?_ (by with_reducible assumption)) | (with_reducible refine aA ?_ (HF.out _)) | (with_reducible refine lO ?_ (by simp) _) | (with_reducible refine lO ?_ (by simp; omega) _) | (with_reducible refine lO ?_ (by omega) _)))) : p := h
theorem y1 {p : Prop} (h : p := by (repeat (first | (with_reducible exact Below.refl _ _) | (with_reducible assumption) | (with_reducible apply aB) | (with_reducible apply aM) | (with_reducible apply gV) | (with_reducible refine aA ?_ (by with_reducible assumption)) | (with_reducible refine aA ?_ (HF.out _)) | (with_reducible refine lO ?_ (by simp) _) | (with_reducible refine lO ?_ (by simp; omega) _) | (with_reducible refine lO ?_ (by omega) _)))) : p := h
theorem y2 {p : Prop} (h : p := by omega) : p := h
theorem y3 {p : Prop} (h : p := by (repeat (first | (with_reducible exact Below.refl _ _) | (with_reducible assumption) | (with_reducible apply aB) | (with_reducible apply aM) | (with_reducible apply gV) | (with_reducible refine aA ?_ (by with_reducible assumption)) | (with_reducible refine aA ?_ (HF.out _)) | ((with_reducible refine iC ?_ ?_); rotate_left; omega)))) : p := h
theorem y4 {p : Prop} (h : p := by first | (simp; done) | (simp; omega) | omega) : p := h
theorem y5 {p : Prop} (h : p := by decide) : p := h
theorem y6 {p : Prop} (h : p := by with_reducible assumption) : p := h
theorem y7 {p : Prop} (h : p := by rintro ⟨g1, g2, g3, g4, g5, g6, g7, g8, g9, g10, g11, g12⟩; first | omega | (cases g1; done) | (exact g1.elim) | (cases g4; done) | (cases g5; done) | (cases g6; done) | (cases g9; done) | (cases g10; done) | (cases g11; done) | (cases g12; done)) : p := h
theorem y8 {p : Prop} (h : p := by kernel_rfl) : p := h
theorem y9 {p : Prop} (h : p := by simp [Act.eval, Act.put]) : p := h
theorem y10 {p : Prop} (h : p := by (repeat (first | (with_reducible exact Below.refl _ _) | (with_reducible assumption) | (with_reducible apply aB) | (with_reducible apply aM) | (with_reducible apply gV) | (with_reducible refine aA ?_ (by with_reducible assumption)) | (with_reducible refine aA ?_ (HF.out _)) | ((with_reducible refine iC ?_ ?_); rotate_left; omega)))) : p := h
theorem y11 {p : Prop} (h : p := by show w.heap.size ≠ w.heap.size + 1; omega) : p := h
theorem y12 {p : Prop} (h : p := by show _ ≤ w.heap.size + 1; omega) : p := h
theorem y13 {p : Prop} (h : p := by simp; omega) : p := h
theorem y14 {p : Prop} (h : p := by (have hbe := HBE.out; (repeat (first | (with_reducible exact Below.refl _ _) | (with_reducible assumption) | (with_reducible apply aB) | (with_reducible apply aM) | (with_reducible apply gV) | (with_reducible refine aA ?_ (by with_reducible assumption)) | (with_reducible refine aA ?_ (HF.out _)) | ((with_reducible refine iC ?_ ?_); rotate_left; omega))))) : p := h
theorem y15 {p : Prop} (h : p := by intro e; simp only [Addr.mk.injEq] at e; omega) : p := h
theorem y16 {p : Prop} (h : p := by simp [Value.oneCell']) : p := h
theorem y17 {p : Prop} (h : p := by simp) : p := h
theorem y18 {p : Prop} (h : p := by rw [HN.out]; exact hlt) : p := h
theorem y19 {p : Prop} (h : p := by have hq := (hb1).size; (try simp at hq); omega) : p := h
theorem y20 {p : Prop} (h : p := by simp [results, Tryz.results102, go_sem]) : p := h
theorem y21 {p : Prop} (h : p := by simp [results, Tryz.results94, go_sem, h4]) : p := h
theorem y22 {p : Prop} (h : p := by show w.heap.size + 1 ≠ N; omega) : p := h
theorem y23 {p : Prop} (h : p := by (simp; omega)) : p := h
theorem y24 {p : Prop} (h : p := by simp [results, Tryz.results49, go_sem]) : p := h
theorem y25 {p : Prop} (h : p := by show w.heap.size ≠ N; omega) : p := h
theorem y26 {p : Prop} (h : p := by first | omega | (simp; omega)) : p := h
theorem y27 {p : Prop} (h : p := by first | exact Or.inl rfl | exact Or.inr rfl) : p := h
theorem y28 {p : Prop} (h : p := by obtain ⟨A', c', e', _⟩ := hT.read; injection e' with _ e2 _; exact e2.symm) : p := h
theorem y29 {p : Prop} (h : p := by (rw [Nat.zero_add])) : p := h
theorem y30 {p : Prop} (h : p := by rw [HN.out]; omega) : p := h
theorem y31 {p : Prop} (h : p := by rw [hz1]; omega) : p := h
theorem y32 {p : Prop} (h : p := by rw [hW]; exact (Blk.new w 27 (cW D P)).up (aJ)) : p := h
theorem y33 {p : Prop} (h : p := by simp [results, Tryz.results48, go_sem, c0, c1, c2, c3, c4, c5, c6, c7, c8, c9, c10, c11, c12, c13, c14, c15, c16, c17]) : p := h
theorem y34 {p : Prop} (h : p := by rw [List.length_take]; omega) : p := h
theorem y35 {p : Prop} (h : p := by rw [hty]; exact hrun) : p := h
theorem y36 {p : Prop} (h : p := by show w.heap.size + 2 < _; omega) : p := h
theorem y37 {p : Prop} (h : p := by show w.heap.size + 1 < _; omega) : p := h
theorem y38 {p : Prop} (h : p := by show _ ≤ N; omega) : p := h
theorem y39 {p : Prop} (h : p := by rw [hz2]; exact growslice_fits (by omega) (by omega)) : p := h
theorem y40 {p : Prop} (h : p := by have h1 := hbU.size; have h2 := hba.size; simp [World.setCell]; omega) : p := h
theorem y41 {p : Prop} (h : p := by (rcases Nat.lt_or_ge j k with h | h; exact HG.out j h; (obtain rfl : j = k := by omega); exact ⟨by rw [← HP.out]; exact H1.out, by rw [← HP.out]; exact H3.out, fun _ => by rw [← HP.out, ← HO.out]; exact H2.out⟩)) : p := h
theorem y42 {p : Prop} (h : p := by have e1 := hR8.he.1; rw [← e1]; exact HSM.out.2.2.1) : p := h
theorem y43 {p : Prop} (h : p := by have e1 := hR8.wa.1; rw [← e1]; exact HSM.out.2.1) : p := h
theorem y44 {p : Prop} (h : p := by rw [← HY.out, HB.out (fun g => (by have := g.2.1; rw [← HP.out, H3.out] at this; cases this))]) : p := h
theorem y45 {p : Prop} (h : p := by rw [hW2]; exact Blk.new w1 70 (cU D oA2 on2 oc2 tA2 tn2 tc2 eA2 en2 ec2 rA2 rn2 rc2 none 0 0)) : p := h
theorem y46 {p : Prop} (h : p := by rw [HTN.out]; exact hlwt) : p := h
theorem y47 {p : Prop} (h : p := by rw [if_neg (by decide)]; exact hG0) : p := h
theorem y48 {p : Prop} (h : p := by show w.heap.size ≤ gs; omega) : p := h
theorem y49 {p : Prop} (h : p := by (refine aX.mono (B := w.heap.size + 3) ?_ (by omega)); (repeat (first | (with_reducible exact K4.out) | ((with_reducible refine aX.low ?_ ?_); rotate_left; (omega))))) : p := h
theorem y50 {p : Prop} (h : p := by simp [results, Tryz.results102, go_sem, r_0, r_1, r_2, r_3, r_4, r_5, r_6, r_7, r_8]) : p := h
theorem y51 {p : Prop} (h : p := by simp [results, Tryz.results21, go_sem, r_0, r_1, r_2, r_3, r_4, r_5, r_6, r_7, r_8]) : p := h
theorem y52 {p : Prop} (h : p := by rw [HTN.out]; exact aZ howi hBd) : p := h
theorem y53 {p : Prop} (h : p := by intro j u hu; rw [Addr.add_lit]; exact hv j u hu) : p := h
theorem y54 {p : Prop} (h : p := by have e1 := hR8.op.1; show P8.op.n ≤ 1000000; rw [← e1]; exact HSM.out.1) : p := h
theorem y55 {p : Prop} (h : p := by rw [hW]; exact Blk.new1 w 27 49 (cW D P) (cK ki fr tt di b hd cc Pm)) : p := h
theorem y56 {p : Prop} (h : p := by rw [if_pos rfl]; exact hG1) : p := h
theorem y57 {p : Prop} (h : p := by ((obtain rfl : j = 0 := by omega); exact ⟨by rw [← HP.out]; exact H1.out, by rw [← HP.out]; exact H3.out, fun h => absurd h (by omega)⟩)) : p := h
theorem y58 {p : Prop} (h : p := by simp only [maxLen] at hcm; omega) : p := h
theorem y59 {p : Prop} (h : p := by simp only [maxLen]; omega) : p := h
theorem y60 {p : Prop} (h : p := by show ¬ 0 < 0; omega) : p := h
theorem y61 {p : Prop} (h : p := by rw [List.length_take, Nat.min_eq_left HLL.out]; exact hj) : p := h
theorem y62 {p : Prop} (h : p := by have := g.2.1; rw [← HP.out, H3.out] at this; cases this) : p := h
theorem y63 {p : Prop} (h : p := by (have hq2 := bV hol _ hq)) : p := h
theorem y64 {p : Prop} (h : p := by simpa [eN, kH] using hu) : p := h
theorem y65 {p : Prop} (h : p := by have := g.1; rw [← HP.out, H1.out] at this; cases this) : p := h
theorem y66 {p : Prop} (h : p := by have e1 := hR8.re.1; rw [← e1]; exact HSM.out.2.2.2.1) : p := h
theorem y67 {p : Prop} (h : p := by simp [World.setCell]) : p := h
theorem y68 {p : Prop} (h : p := by rw [← HY.out, Bool.eq_iff_iff, bJ]; simp [okM]) : p := h
theorem y69 {p : Prop} (h : p := by rw [HBN.out]; omega) : p := h
theorem y70 {p : Prop} (h : p := by rw [HTN.out]; exact hlwn) : p := h
theorem y71 {p : Prop} (h : p := by have hq := (hb2).size; (try simp at hq); omega) : p := h
theorem y72 {p : Prop} (h : p := by rw [← HY.out, HB.out (fun g => (by have := g.1; rw [← HP.out, H1.out] at this; cases this))]) : p := h
theorem y73 {p : Prop} (h : p := by rw [HY.out]; simp) : p := h
theorem y74 {p : Prop} (h : p := by rw [hW]; exact (Blk.new w 49 (cK ki fr tt di b hd cc P)).up (aB (Below.refl _ _))) : p := h
theorem y75 {p : Prop} (h : p := by assumption) : p := h
theorem y76 {p : Prop} (h : p := by rw [hz1]; simp; omega) : p := h
theorem y77 {p : Prop} (h : p := by rw [hY]; exact hGh.set_ 7 (.slice A3 n3 c3)) : p := h
theorem y78 {p : Prop} (h : p := by rw [h]; rfl) : p := h
theorem y79 {p : Prop} (h : p := by unfold qS; rw [HM.out, HQ.out]; exact hmq) : p := h
theorem y80 {p : Prop} (h : p := by simp [results, Tryz.results51, go_sem, *]) : p := h
theorem y81 {p : Prop} (h : p := by rw [hW, setRow_other _ _ _ _ (by show g ≠ w.heap.size; omega)]; exact hW1o g hgl) : p := h
theorem y82 {p : Prop} (h : p := by rw [HNO.out]; omega) : p := h
theorem y83 {p : Prop} (h : p := by rw [hgw]; exact (HA0.out.up hb1).up hb2) : p := h
theorem y84 {p : Prop} (h : p := by rw [hgm]; exact (HB0.out.up hb1).up hb2) : p := h
theorem y85 {p : Prop} (h : p := by have := C2 (by assumption); omega) : p := h
theorem y86 {p : Prop} (h : p := by simp [results, Tryz.results46, go_sem]) : p := h
theorem y87 {p : Prop} (h : p := by have := gR (by assumption); omega) : p := h
theorem y88 {p : Prop} (h : p := by have h1 := hbV.size; have h2 := hba.size; simp [World.setCell]; omega) : p := h
theorem y89 {p : Prop} (h : p := by rw [e]; exact hk) : p := h
theorem y90 {p : Prop} (h : p := by rw [HR.out.1]; omega) : p := h
theorem y91 {p : Prop} (h : p := by rw [HO.out.1]; omega) : p := h
theorem y92 {p : Prop} (h : p := by simpa using hz) : p := h
theorem y93 {p : Prop} (h : p := by rw [hmin2, he]) : p := h
theorem y94 {p : Prop} (h : p := by rw [hW]; exact setRow_other w g vb _ (fun h => hgv h.symm)) : p := h
theorem y95 {p : Prop} (h : p := by rw [HN.out] at hj; exact hj) : p := h
theorem y96 {p : Prop} (h : p := by first | exact ⟨gs, rfl, hb03⟩ | exact ⟨⟨gs, rfl⟩, hb03⟩) : p := h
theorem y97 {p : Prop} (h : p := by show 1 < 2; omega) : p := h
theorem y98 {p : Prop} (h : p := by simp [results, Tryz.results79, go_sem, r_0, r_1, r_2]) : p := h
theorem y99 {p : Prop} (h : p := by simp [results, Tryz.results41, go_sem, r_0, r_1, r_2]) : p := h
theorem Jq {p : Prop} (h : p := by rw [hzb]; exact growslice_fits (by omega) (by omega)) : p := h
theorem Jr {p : Prop} (h : p := by show w.heap.size + 1 + 1 ≠ w.heap.size + 1; omega) : p := h
theorem hkq {P : Program} {ops : Array Oper} {Q : Exit → Act → World → Prop} {md : Region.Mode} {S : World → Prop} {fuel : Nat} {listed : Array Bool} {a : Act} {w : World} {K : Act → World → Prop} {q : Prop} (hK : Shut (∀ a w, S w → (S w → wpAnyH P md ops Q S fuel listed a w) → K a w)) (hs : S w) (k : S w → q)
    (h : q → wpAnyH P md ops Q S fuel listed a w := by intro hq; (try simp only [Act.put, List.setIfInBounds_toArray, List.set_cons_zero, List.set_cons_succ]); exact hq) : K a w := hK.out _ _ hs fun g => h (k g)
theorem hdq {P : Program} {ops : Array Oper} {Q : Exit → Act → World → Prop} {S : World → Prop} {id : Nat} {a : Act} {w : World} (hS : ∀ Y, Below w.heap.size w Y → S Y) (h : S w.drew → wpAnyH P .any ops Q S ops.size (Array.replicate ops.size false) a w.drew) (hm : P.follows .mixedOrders = true := by kernel_rfl) : (Code.region id ops true).wp P Q a w :=
  wp_region_held_drew hm (hS _ (Below.refl _ _).drew) h
theorem wzq {P : Program} {ops : Array Oper} {Q : Exit → Act → World → Prop} {md : Region.Mode} {S : World → Prop} {listed : Array Bool} {a : Act} {w : World} {fuel : Nat} (h : Q .normal a w) (hr : Region.ready md ops listed = [] := by kernel_rfl) : wpAnyH P md ops Q S fuel listed a w := wpAnyH_done hr h fuel
theorem mnq {α : Sort _} {p : Prop} (e : α) (h : ∀ x, e = x → p) : p := h e rfl
theorem gqq {p q1 q2 : Prop} (k1 : q1) (k2 : q2) (h : q1 → q2 → p := by intro hq1 hq2; refine uY _ _ _ rfl rfl ?_; (fail_if_success (intro b' hb; have h2 := hb.symm; have : b' = true := h2.trans (by with_reducible rfl))); (fail_if_success (intro b' hb; have h2 := hb.symm; have : b' = false := h2.trans (by with_reducible rfl))); intro b' hb; simp only [hb]; cases b' <;> (try simp only [Bool.not_eq_true', Bool.not_eq_false', decide_eq_true_eq, decide_eq_false_iff_not, Int.not_lt, Int.not_le, Bool.and_eq_true, Bool.or_eq_true, Bool.or_eq_false_iff, beq_iff_eq, beq_eq_false_iff_ne, Int.natCast_pos] at hb); (revert hb; exact hq1); (revert hb; exact hq2)) : p := h k1 k2
end Go.Proofs.YtgfakefcmbpboaaGreat
