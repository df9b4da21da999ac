/- Words and small laws that all texts of this seat use: reading lists of numbers and of certificates, worlds that only grow, regions that draw. -/
import Derived.Test.YtfkbilbgndekkaaRows
import Derived.WalkKit
import Derived.WalkLawsBesides
import Derived.WalkSpells
import Derived.Deep.QuietTactic
import Derived.BigQuiet
import Derived.Lib.Hide
import Derived.Deep.Light

namespace Go.Proofs.Ytfkbilbgndekkaa
open Go.RowKit
set_option linter.unusedSimpArgs false
set_option linter.unusedVariables false

/-! ### worlds that only grow -/
theorem bcell {W w1 : World} (hb : Below W.heap.size W w1) : (∀ b o, b < W.heap.size → w1.cell? ⟨b, o, none⟩ = W.cell? ⟨b, o, none⟩) ∧ (∀ b o, b < W.heap.size → w1.frozen? ⟨b, o, none⟩ = W.frozen? ⟨b, o, none⟩) :=
  ⟨fun b o h => hb.cell (p := ⟨b, o, none⟩) h, fun b o h => hb.frozen (p := ⟨b, o, none⟩) h⟩
theorem bel_alloc {w x : World} {o : Obj} (h : Below w.heap.size w x) : Below w.heap.size w (x.alloc o) := h.alloc h.size o
theorem bel_drew {w x : World} (h : Below w.heap.size w x) : Below w.heap.size w x.drew := h.drew
theorem bel_drewN {w x : World} {n : Nat} (h : Below w.heap.size w x) : Below w.heap.size w (x.drewN n) := ⟨h.os, h.tape, h.output, h.size, h.block⟩
theorem bel_trans {w x y : World} (h : Below w.heap.size w x) (k : Below x.heap.size x y) : Below w.heap.size w y := h.trans (k.mono h.size)
theorem bel_set {w x : World} (h : Below w.heap.size w x) {p : Addr} (hp : w.heap.size ≤ p.block) (v : Value) : Below w.heap.size w (x.setCell p v) := h.setCell hp v

/-! ### a region that draws its order, whose callees only make memory -/
theorem wp_region_fam {P : Program} {id : Nat} {Q : Exit → Act → World → Prop} {a : Act} {w : World} {l : List Oper} (hm : P.follows .mixedOrders = true) (hB : Region.lexB .any l.toArray = true)
    (h : ∀ (ι : Type) (F : ι → World), Nonempty ι → (∀ n, Below w.heap.size w (F n)) → (∀ n w', Below (F n).heap.size (F n) w' → ∃ m, w' = F m) →
      wpQuiet P l.toArray (fun w' => ∃ n, w' = F n) (fun a' => ∀ n, Q .normal a' (F n)) l a) : (Code.region id l.toArray true).wp P Q a w := by
  refine wp_region_quiet (C := fun w' => ∃ n : {w' : World // Below w.heap.size w w'}, w' = n.1) hm hB ⟨⟨_, (Below.refl w.heap.size w).drew⟩, rfl⟩ ?_
  have := h {w' : World // Below w.heap.size w w'} (fun n => n.1) ⟨⟨w, Below.refl _ _⟩⟩ (fun n => n.2) (fun n w' hb => ⟨⟨w', n.2.trans (hb.mono n.2.size)⟩, rfl⟩)
  have e : (fun a' => ∀ (n : {w' : World // Below w.heap.size w w'}), Q .normal a' n.1) = (fun a' => ∀ w', (∃ n : {w' : World // Below w.heap.size w w'}, w' = n.1) → Q .normal a' w') := by
    funext a'
    exact propext ⟨fun h w' ⟨n, hn⟩ => hn ▸ h n, fun h n => h _ ⟨n, rfl⟩⟩
  rw [e] at this
  simpa using this
theorem wpQuiet_guard {P : Program} {ops : Array Oper} {C : World → Prop} {Q : Act → Prop} {a : Act} {o : Oper} {rest : List Oper} (j : Nat) (want b : Bool) (_ : o.guard = some (j, want)) (_ : yielded ops a.tmps j = some b)
    (h : ∀ b', b = b' → wpQuiet P ops C Q (o :: rest) a) : wpQuiet P ops C Q (o :: rest) a := h b rfl
theorem Calls.fam {P : Program} {f : FuncId} {args : Array Value} {ι : Type} {F : ι → World} (hcl : ∀ n w', Below (F n).heap.size (F n) w' → ∃ m, w' = F m) {n : ι} {v : Value}
    (h : Calls P f args (F n) fun e w' => e = .returned v ∧ Below (F n).heap.size (F n) w') : Calls P f args (F n) fun e w'' => e = .returned v ∧ ∃ m, w'' = F m :=
  h.mono fun _ _ ⟨he, hb⟩ => ⟨he, hcl n _ hb⟩
theorem Calls.fam_same {P : Program} {f : FuncId} {args : Array Value} {ι : Type} {F : ι → World} {n : ι} {v : Value}
    (h : Calls P f args (F n) fun e w' => e = .returned v ∧ F n = w') : Calls P f args (F n) fun e w'' => e = .returned v ∧ ∃ m, w'' = F m :=
  h.mono fun _ _ ⟨he, hb⟩ => ⟨he, n, hb.symm⟩
theorem Calls.below_of_same {P : Program} {f : FuncId} {args : Array Value} {w : World} {v : Value}
    (h : Calls P f args w fun e w' => e = .returned v ∧ w = w') : Calls P f args w fun e w' => e = .returned v ∧ Below w.heap.size w w' :=
  h.mono fun _ _ ⟨he, hb⟩ => ⟨he, hb ▸ Below.refl _ _⟩

/-! ### numbers -/
def maxI : Nat := 9223372036854775807
theorem maxI_def : maxI = 9223372036854775807 := rfl
def nth (l : List Int) (j : Nat) : Int := l.getD j 0
theorem drop_nth (l : List Int) (k : Nat) (h : k < l.length) : l.drop k = nth l k :: l.drop (k + 1) := by
  rw [List.drop_eq_getElem_cons h]; simp [nth, h]
theorem take_nth (l : List Int) (k : Nat) (h : k < l.length) : l.take (k + 1) = l.take k ++ [nth l k] := by
  rw [List.take_succ_eq_append_getElem h]; simp [nth, h]

/-- The slice (A, n, _) reads as the numbers l. -/
def IntsR (w : World) (A : Option Addr) (n : Nat) (l : List Int) : Prop :=
  l.length = n ∧ n ≤ 9223372036854775807 ∧ (0 < n → ∃ b off, A = some ⟨b, off, none⟩ ∧ b < w.heap.size ∧ ∀ j, j < n → w.cell? ⟨b, off + j, none⟩ = some (.int .i64 (nth l j)))
theorem IntsR.up {w w' : World} {A n l} (h : IntsR w A n l) (hb : Below w.heap.size w w') : IntsR w' A n l := by
  obtain ⟨h1, h2, h3⟩ := h
  refine ⟨h1, h2, fun hn => ?_⟩
  obtain ⟨b, off, rfl, hlt, hc⟩ := h3 hn
  exact ⟨b, off, rfl, Nat.lt_of_lt_of_le hlt hb.size, fun j hj => (hb.cell (p := ⟨b, off + j, none⟩) hlt).trans (hc j hj)⟩

/-! ### headers, certificates, DAGs: what they hold (D), where it lies (P) -/
structure HeaderD where
  au : Int
  ro : Int
  ba : List Int
  pa : List Int
structure CertD where
  h : HeaderD
  di : Int
  si : List Int
structure DagD where
  nodes : Int
  low : Int
  certs : List CertD
structure SlP where
  A : Option Addr
  n : Nat
  c : Nat
structure HeaderP where
  b : SlP
  p : SlP
structure CertP where
  h : HeaderP
  s : SlP
instance : Inhabited HeaderD := ⟨⟨0, 0, [], []⟩⟩
instance : Inhabited CertD := ⟨⟨default, 0, []⟩⟩
instance : Inhabited SlP := ⟨⟨none, 0, 0⟩⟩
instance : Inhabited HeaderP := ⟨⟨default, default⟩⟩
instance : Inhabited CertP := ⟨⟨default, default⟩⟩
def HeaderR (w : World) (p : HeaderP) (H : HeaderD) : Prop := IntsR w p.b.A p.b.n H.ba ∧ IntsR w p.p.A p.p.n H.pa
def CertR (w : World) (p : CertP) (C : CertD) : Prop := HeaderR w p.h C.h ∧ IntsR w p.s.A p.s.n C.si
theorem HeaderR.up {w w' : World} {p H} (h : HeaderR w p H) (hb : Below w.heap.size w w') : HeaderR w' p H := ⟨h.1.up hb, h.2.up hb⟩
theorem CertR.up {w w' : World} {p C} (h : CertR w p C) (hb : Below w.heap.size w w') : CertR w' p C := ⟨h.1.up hb, h.2.up hb⟩
def cth (l : List CertD) (j : Nat) : CertD := l.getD j default
theorem drop_cth (l : List CertD) (k : Nat) (h : k < l.length) : l.drop k = cth l k :: l.drop (k + 1) := by
  rw [List.drop_eq_getElem_cons h]; simp [cth, h]
theorem take_cth (l : List CertD) (k : Nat) (h : k < l.length) : l.take (k + 1) = l.take k ++ [cth l k] := by
  rw [List.take_succ_eq_append_getElem h]; simp [cth, h]
/-- The cells of a certificate at an address. -/
def CertAt (w : World) (b off : Nat) (p : CertP) (C : CertD) : Prop :=
  w.cell? ⟨b, off, none⟩ = some (.int .i64 C.h.au) ∧ w.cell? ⟨b, off + 1, none⟩ = some (.int .i64 C.h.ro) ∧
  w.cell? ⟨b, off + 2, none⟩ = some (.slice p.h.b.A p.h.b.n p.h.b.c) ∧ w.cell? ⟨b, off + 3, none⟩ = some (.slice p.h.p.A p.h.p.n p.h.p.c) ∧
  w.cell? ⟨b, off + 4, none⟩ = some (.int .i64 C.di) ∧ w.cell? ⟨b, off + 5, none⟩ = some (.slice p.s.A p.s.n p.s.c)
theorem CertAt.up {w w' : World} {b off p C} (h : CertAt w b off p C) (hb : Below w.heap.size w w') (hlt : b < w.heap.size) : CertAt w' b off p C := by
  have g := (bcell hb).1
  obtain ⟨h0, h1, h2, h3, h4, h5⟩ := h
  exact ⟨(g _ _ hlt).trans h0, (g _ _ hlt).trans h1, (g _ _ hlt).trans h2, (g _ _ hlt).trans h3, (g _ _ hlt).trans h4, (g _ _ hlt).trans h5⟩
/-- The slice (A, n, _) of certificates reads as l. -/
def CertsR (w : World) (A : Option Addr) (n : Nat) (l : List CertD) : Prop :=
  l.length = n ∧ n ≤ 9223372036854775807 ∧ (0 < n → ∃ b off, A = some ⟨b, off, none⟩ ∧ b < w.heap.size ∧ ∀ j, j < n → ∃ p, CertAt w b (off + j * 6) p (cth l j) ∧ CertR w p (cth l j))
theorem CertsR.up {w w' : World} {A n l} (h : CertsR w A n l) (hb : Below w.heap.size w w') : CertsR w' A n l := by
  obtain ⟨h1, h2, h3⟩ := h
  refine ⟨h1, h2, fun hn => ?_⟩
  obtain ⟨b, off, rfl, hlt, hc⟩ := h3 hn
  exact ⟨b, off, rfl, Nat.lt_of_lt_of_le hlt hb.size, fun j hj => let ⟨p, h1, h2⟩ := hc j hj; ⟨p, h1.up hb hlt, h2.up hb⟩⟩

/-! ### endings -/
theorem ret_bool {b c : Bool} (h : b = c) : Ending.returned (.bool b) = .returned (.bool c) := by rw [h]
theorem ret_int {k : IntKind} {a b : Int} (h : a = b) : Ending.returned (.int k a) = .returned (.int k b) := by rw [h]
end Go.Proofs.Ytfkbilbgndekkaa
