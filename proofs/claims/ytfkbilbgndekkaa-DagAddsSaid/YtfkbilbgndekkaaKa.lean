/- Certificates of one's own, whose lists are one's own too; numbers and certificates copied at the program. -/
import Derived.Test.YtfkbilbgndekkaaFd
import Derived.Test.YtfkbilbgndekkaaGr
namespace Go.Proofs.Ytfkbilbgndekkaa
open Go.RowKit
set_option linter.unusedSimpArgs false
set_option linter.unusedVariables false

def SlP.v (s : SlP) : Value := .slice s.A s.n s.c
/-- The lists of a certificate are one's own, from block B on. -/
def HeaderO (w : World) (B : Nat) (p : HeaderP) (H : HeaderD) : Prop := OwnI w B p.b.v H.ba ∧ OwnI w B p.p.v H.pa
def CertO (w : World) (B : Nat) (p : CertP) (C : CertD) : Prop := HeaderO w B p.h C.h ∧ OwnI w B p.s.v C.si
theorem HeaderO.up {w w' : World} {B : Nat} {p H} (h : HeaderO w B p H) (hb : Below w.heap.size w w') : HeaderO w' B p H := ⟨h.1.up hb, h.2.up hb⟩
theorem CertO.up {w w' : World} {B : Nat} {p C} (h : CertO w B p C) (hb : Below w.heap.size w w') : CertO w' B p C := ⟨h.1.up hb, h.2.up hb⟩
theorem HeaderO.mono {w : World} {B B' : Nat} {p H} (h : HeaderO w B p H) (hB : B' ≤ B) : HeaderO w B' p H := ⟨h.1.mono hB, h.2.mono hB⟩
theorem CertO.mono {w : World} {B B' : Nat} {p C} (h : CertO w B p C) (hB : B' ≤ B) : CertO w B' p C := ⟨h.1.mono hB, h.2.mono hB⟩
theorem HeaderO.setLow {w : World} {B b o : Nat} {p H} {u : Value} (h : HeaderO w B p H) (hp : b < B) : HeaderO (w.setCell ⟨b, o, none⟩ u) B p H := ⟨h.1.set hp u, h.2.set hp u⟩
theorem CertO.setLow {w : World} {B b o : Nat} {p C} {u : Value} (h : CertO w B p C) (hp : b < B) : CertO (w.setCell ⟨b, o, none⟩ u) B p C := ⟨h.1.setLow hp, h.2.set hp u⟩
theorem OwnI.sl {w : World} {B : Nat} {s : SlP} {l : List Int} (h : OwnI w B s.v l) (hl : l.length ≤ 9223372036854775807) : IntsR w s.A s.n l ∧ NewS B s.A ∧ s.n = l.length := by
  obtain ⟨A, c, e, h1, h2⟩ := h.ints hl
  unfold SlP.v at e
  injection e with e1 e2 e3
  rw [e1, e2]
  exact ⟨h1, h2, rfl⟩
def ShortC (C : CertD) : Prop := C.h.ba.length ≤ 1000000000 ∧ C.h.pa.length ≤ 1000000000 ∧ C.si.length ≤ 1000000000
theorem HeaderO.header {w : World} {B : Nat} {p H} (h : HeaderO w B p H) (h1 : H.ba.length ≤ 1000000000) (h2 : H.pa.length ≤ 1000000000) : HeaderR w p H ∧ HeaderNew B p :=
  ⟨⟨(h.1.sl (by omega)).1, (h.2.sl (by omega)).1⟩, ⟨(h.1.sl (by omega)).2.1, (h.2.sl (by omega)).2.1⟩⟩
theorem CertO.cert {w : World} {B : Nat} {p C} (h : CertO w B p C) (hs : ShortC C) : CertR w p C ∧ CertNew B p :=
  ⟨⟨(h.1.header hs.1 hs.2.1).1, (h.2.sl (by have := hs.2.2; omega)).1⟩, ⟨(h.1.header hs.1 hs.2.1).2, (h.2.sl (by have := hs.2.2; omega)).2.1⟩⟩

/-- The block of a row of certificates. -/
theorem own_type {w : World} {B k n : Nat} {t : TypeId} {v : Value} {xs : List Value} (h : w.ownsRow B t k v n xs) : ∀ g, v.ownBlock = some g → ∃ cur, w.heap[g]? = some (.cells cur t (0, 0)) := by
  intro g hg
  rcases h.2 with ⟨rfl, _⟩ | ⟨g', cap, cur, rfl, hb, hgg, rest⟩
  · cases hg
  · simp only [Value.ownBlock, Option.map_some] at hg
    injection hg with hg
    subst hg
    exact ⟨cur, hgg⟩
theorem OwnI.far {w : World} {B B' : Nat} {u v : Value} {l : List Int} {n : Nat} {xs : List Value} (h : OwnI w B u l) (hv : w.ownsRow B' 48 6 v n xs) : ∀ g, u.ownBlock = some g → v.ownBlock ≠ some g := by
  intro g hg hv2
  obtain ⟨c1, e1⟩ := own_type h g hg
  obtain ⟨c2, e2⟩ := own_type hv g hv2
  rw [e1] at e2
  injection e2 with e2
  injection e2 with _ e3 _
  exact absurd e3 (by decide)
theorem OwnI.grownC {w w' : World} {B B' : Nat} {u v : Value} {l : List Int} {n : Nat} {xs : List Value} (h : OwnI w B u l) (hv : w.ownsRow B' 48 6 v n xs) (hg : w.grownBy w' v.ownBlock) : OwnI w' B u l :=
  h.of_heap fun g hu => hg.block g (h.lt g hu).2 (fun e => h.far hv g hu e.symm)
theorem CertO.grownC {w w' : World} {B B' : Nat} {v : Value} {p C} {n : Nat} {xs : List Value} (h : CertO w B p C) (hv : w.ownsRow B' 48 6 v n xs) (hg : w.grownBy w' v.ownBlock) : CertO w' B p C :=
  ⟨⟨h.1.1.grownC hv hg, h.1.2.grownC hv hg⟩, h.2.grownC hv hg⟩
theorem CertO.certA {w : World} {B B' : Nat} {v : Value} {p C} {n : Nat} {xs : List Value} (h : CertO w B p C) (hs : ShortC C) (hv : w.ownsRow B' 48 6 v n xs) : CertA v.ownBlock w p C := by
  have far : ∀ (s : SlP) (l : List Int), l.length ≤ 9223372036854775807 → OwnI w B s.v l → IntsA v.ownBlock w s.A s.n l := fun s l hl ho =>
    ⟨(ho.sl hl).1, fun hn b off sp e => by
      rcases ho.shape with ⟨e1, _⟩ | ⟨g, c, e1, _⟩
      · unfold SlP.v at e1; injection e1 with e1 e2 e3; omega
      · refine (ho.far hv b ?_)
        rw [e1]
        unfold SlP.v at e1; injection e1 with e1 e2 e3
        rw [e] at e1; injection e1 with e1; injection e1 with e1
        rw [← e1]; rfl⟩
  exact ⟨far _ _ (by have := hs.1; omega) h.1.1, far _ _ (by have := hs.2.1; omega) h.1.2, far _ _ (by have := hs.2.2; omega) h.2⟩
/-- The slice value v owns, in blocks from B on, these certificates and their lists. -/
def OwnD (w : World) (B : Nat) (v : Value) (ps : List CertP) (l : List CertD) : Prop :=
  w.ownsRow B 48 6 v l.length (rowCells ps l) ∧ ps.length = l.length ∧ ∀ j, j < l.length → CertO w B (ps.getD j default) (cth l j)
def Short (l : List CertD) : Prop := ∀ k, k < l.length → ShortC (cth l k)
theorem OwnD.nil (w : World) (B : Nat) : OwnD w B (.slice none 0 0) [] [] := ⟨World.ownsRow_nil w B _ _, rfl, fun j hj => absurd hj (by simp)⟩
theorem OwnD.toC {w : World} {B : Nat} {v : Value} {ps l} (h : OwnD w B v ps l) (hs : Short l) : OwnC w B v ps l :=
  ⟨h.1, h.2.1, fun j hj => ⟨(h.2.2 j hj).certA (hs j hj) h.1, ((h.2.2 j hj).cert (hs j hj)).2⟩⟩
theorem OwnD.up {w w' : World} {B : Nat} {v : Value} {ps l} (h : OwnD w B v ps l) (hb : Below w.heap.size w w') : OwnD w' B v ps l := ⟨own_up h.1 hb, h.2.1, fun j hj => (h.2.2 j hj).up hb⟩
theorem OwnD.mono {w : World} {B B' : Nat} {v : Value} {ps l} (h : OwnD w B v ps l) (hB : B' ≤ B) : OwnD w B' v ps l := ⟨own_mono h.1 hB, h.2.1, fun j hj => (h.2.2 j hj).mono hB⟩
theorem OwnD.setLow {w : World} {B b o : Nat} {v u : Value} {ps l} (h : OwnD w B v ps l) (hp : b < B) : OwnD (w.setCell ⟨b, o, none⟩ u) B v ps l := ⟨own_set h.1 hp u, h.2.1, fun j hj => (h.2.2 j hj).setLow hp⟩
theorem OwnD.certs {w : World} {B : Nat} {v : Value} {ps l} (h : OwnD w B v ps l) (hs : Short l) (hl : l.length ≤ 9223372036854775807) : ∃ A c, v = .slice A l.length c ∧ CertsR w A l.length l ∧ l.length ≤ c ∧ c ≤ 9223372036854775807 := by
  obtain ⟨A, c, e, h1, _⟩ := (h.toC hs).certs hl
  obtain ⟨A', c', e', _, _, h2, h3⟩ := own_row h.1 hl
  rw [e] at e'
  injection e' with e1 e2 e3
  subst e1; subst e3
  exact ⟨A, c, e, h1, h2, h3⟩

/-! ### rows of certificates, put together -/
theorem rowCells_flat (ps : List CertP) (l : List CertD) : rowCells ps l = flat (fun x : CertP × CertD => certCells x.1 x.2) (ps.zip l) := by
  unfold rowCells flat
  rw [List.zip, List.map_zipWith]
theorem certCells_len (p : CertP) (C : CertD) : (certCells p C).length = 6 := rfl
theorem zip_take {α β : Type} : ∀ (a : List α) (b : List β) (i : Nat), (a.take i).zip (b.take i) = (a.zip b).take i
  | [], b, i => by simp
  | x :: a, [], i => by simp
  | x :: a, y :: b, 0 => by simp
  | x :: a, y :: b, i + 1 => by simp [zip_take a b i]
theorem zip_drop {α β : Type} : ∀ (a : List α) (b : List β) (i : Nat), (a.drop i).zip (b.drop i) = (a.zip b).drop i
  | [], b, i => by simp
  | x :: a, [], i => by simp
  | x :: a, y :: b, 0 => by simp
  | x :: a, y :: b, i + 1 => by simp [zip_drop a b i]
theorem rowCells_take (ps : List CertP) (l : List CertD) (i : Nat) : rowCells (ps.take i) (l.take i) = (rowCells ps l).take (i * 6) := by
  rw [rowCells_flat, rowCells_flat, ← flat_take (enc := fun x : CertP × CertD => certCells x.1 x.2) (fun x => certCells_len x.1 x.2), zip_take]
theorem rowCells_drop (ps : List CertP) (l : List CertD) (i : Nat) : rowCells (ps.drop i) (l.drop i) = (rowCells ps l).drop (i * 6) := by
  rw [rowCells_flat, rowCells_flat, ← flat_drop (enc := fun x : CertP × CertD => certCells x.1 x.2) (fun x => certCells_len x.1 x.2), zip_drop]
theorem rowCells_app {ps qs : List CertP} {l m : List CertD} (h : ps.length = l.length) : rowCells (ps ++ qs) (l ++ m) = rowCells ps l ++ rowCells qs m := by
  unfold rowCells
  rw [List.zipWith_append h]; simp
theorem rowCells_one (p : CertP) (C : CertD) : rowCells [p] [C] = certCells p C := by simp [rowCells]
theorem rowCells_ones (ps : List CertP) (l : List CertD) : ∀ u ∈ rowCells ps l, u.oneCell' = true := by
  rw [rowCells_flat]
  exact flat_oneCell (fun x => certCells_one) _
theorem rowCells_ins {ps : List CertP} {l : List CertD} (h : ps.length = l.length) (i : Nat) (p : CertP) (C : CertD) : (rowCells ps l).take (i * 6) ++ certCells p C ++ (rowCells ps l).drop (i * 6) = rowCells (ps.take i ++ [p] ++ ps.drop i) (l.take i ++ [C] ++ l.drop i) := by
  rw [rowCells_app (by simp [h]), rowCells_app (by simp [h]), rowCells_one, rowCells_take, rowCells_drop]
end Go.Proofs.Ytfkbilbgndekkaa
