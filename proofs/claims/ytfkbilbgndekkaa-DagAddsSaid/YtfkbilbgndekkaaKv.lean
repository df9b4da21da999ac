/- Arguments opened: the asking of layer 14; its weight. -/
import Derived.Test.YtfkbilbgndekkaaVs
import Derived.Test.YtfkbilbgndekkaaVc
import Derived.Test.YtfkbilbgndekkaaCw
import Derived.Test.YtfkbilbgndekkaaGr
namespace Go.Proofs.Ytfkbilbgndekkaa
open Go.RowKit Go.ChangeShapes Go.WideShapes Go.ChangeAt
set_option linter.unusedSimpArgs false
set_option linter.unusedVariables false

theorem list2 {α : Type} {l : List α} (h : l.length = 2) : ∃ a0 a1, l = [a0, a1] := by
  match l, h with
  | [a0, a1], _ => exact ⟨a0, a1, rfl⟩
section
variable {H : Type} {enc : TypeId × Value → H} {w : World} {base : Nat} {spare : Nat → Bool} {held : Bool}
theorem trod_float {P : Program} {k : FloatKind} {t : TypeId} {fuel : Nat} {cs : List Value} {x : DataW H × List MemPlace} (ht : P.underlying t = some (.float k)) (h : DataW.trod enc P w base spare held fuel t cs = some x) : ∃ n, cs = [.float k n] := by
  cases fuel with
  | zero => simp [DataW.trod] at h
  | succ n =>
    unfold DataW.trod at h
    rw [ht] at h
    split at h <;> simp_all
set_option maxRecDepth 20000 in
/-- A slice of flat elements, opened. -/
theorem open_flat {α : Type} [Inhabited α] {e : α → List Value} {k : Nat} {t te : TypeId} (hk : ∀ x, (e x).length = k) (hk0 : 0 < k) (ht : Try.prog.underlying t = some (.slice te)) (hc : Try.prog.cellsOf te = k)
    (hopen : ∀ (fuel : Nat) (cs : List Value) (x : DataW H × List MemPlace), DataW.trod enc Try.prog w base spare held fuel te cs = some x → ∃ v, cs = e v)
    {fuel : Nat} {cs : List Value} {x : DataW H × List MemPlace} (h : DataW.trod enc Try.prog w base spare held fuel t cs = some x) : ∃ A n c l, cs = [.slice A n c] ∧ l.length = n ∧ RowV w A n k (flat e l) ∧ n ≤ c ∧ c ≤ 9223372036854775807 := by
  rcases Deep.open_slice ht h with ⟨hcs, _⟩ | ⟨a, len, cap, m, n, D, Pl, hcs, _, hl, hm, hmm, _, hx⟩
  · exact ⟨none, 0, 0, [], hcs, rfl, ⟨by simp [flat], by omega, fun h => absurd h (by omega)⟩, by omega, by omega⟩
  · have hlen : len ≤ m := by rw [hmm]; split <;> omega
    have hcell : ∀ i, i < len → ∃ v : α, ∀ j u, (e v)[j]? = some u → w.cell? (a.add (i * k + j)) = some u := by
      intro i hi
      obtain ⟨cs', h1, h2⟩ := hx i (by omega)
      rw [hc] at h1
      obtain ⟨v, rfl⟩ := hopen _ _ _ h2
      refine ⟨v, fun j u hj => ?_⟩
      obtain ⟨_, _, hat⟩ := World.cells?_some h1
      have hjk : j < k := by
        have := (List.getElem?_eq_some_iff.1 hj).1
        rw [hk] at this; exact this
      have := hat j hjk
      rw [Deep.add_add] at this
      rw [this]; exact hj
    obtain ⟨f, hf⟩ := Deep.choose_lt (α := α) hcell
    have hg : ∀ i, i < len → ((List.range len).map f).getD i default = f i := fun i hi => by simp [hi]
    refine ⟨some a, len, cap, (List.range len).map f, hcs, by simp, ⟨by rw [flat_len hk]; simp, by have : cap ≤ 9223372036854775807 := hm; omega, fun hn => ?_⟩, hl, hm⟩
    obtain ⟨b, off, spot⟩ := a
    have h0 := hf 0 hn
    obtain ⟨u0, hu0⟩ : ∃ u, (e (f 0))[0]? = some u := by
      have : 0 < (e (f 0)).length := by rw [hk]; exact hk0
      exact ⟨_, List.getElem?_eq_getElem this⟩
    have hc0 := h0 0 u0 hu0
    have hspot : spot = none := by simpa [Addr.add] using World.cell?_spot hc0
    subst hspot
    refine ⟨b, off, rfl, by simpa [Addr.add] using World.block_lt_of_cell? w _ hc0, fun j u hj => ?_⟩
    have hjl : j < len * k := by
      have := (List.getElem?_eq_some_iff.1 hj).1
      rw [flat_len hk] at this; simpa using this
    have hq : j / k < len := by rw [Nat.div_lt_iff_lt_mul hk0]; exact hjl
    have hr : j % k < k := Nat.mod_lt _ hk0
    have hjj : j = j / k * k + j % k := by rw [Nat.mul_comm]; exact (Nat.div_add_mod j k).symm
    have h1 := flat_at hk ((List.range len).map f) (j / k) (j % k) (by simpa using hq) hr
    rw [← hjj, hg _ hq, hj] at h1
    have h2 := hf (j / k) hq (j % k) u h1.symm
    rw [← hjj] at h2
    rw [← h2]
    congr 1
    by_cases hz : j = 0
    · subst hz; rfl
    · simp [Addr.add, hz]
theorem cells_float : Try.prog.cellsOf 84 = 1 := by kernel_rfl
theorem cells_two : Try.prog.cellsOf 85 = 2 := by kernel_rfl
theorem cells_twos : Try.prog.cellsOf 56 = 1 := by kernel_rfl
theorem cells_ask14 : Try.prog.cellsOf 58 = 6 := by kernel_rfl
def encF (p : Nat × Nat) : List Value := [.float .f64 p.1, .float .f64 p.2]
theorem encF_len (p : Nat × Nat) : (encF p).length = 2 := rfl
set_option maxRecDepth 20000 in
theorem open_Two {fuel : Nat} {cs : List Value} {x : DataW H × List MemPlace} (h : DataW.trod enc Try.prog w base spare held fuel 85 cs = some x) : ∃ v, cs = encF v := by
  obtain ⟨xs, n, _, _, hl, hlen, hf⟩ := DataW.trod_array Try.underlying85 h
  rw [cells_two] at hl
  obtain ⟨v0, v1, rfl⟩ := list2 hl
  obtain ⟨y0, y1, rfl⟩ := list2 hlen
  have f0 : DataW.trod enc Try.prog w base spare held n 84 [v0] = some y0 := by simpa [cells_float] using hf 0 (by omega)
  have f1 : DataW.trod enc Try.prog w base spare held n 84 [v1] = some y1 := by simpa [cells_float] using hf 1 (by omega)
  obtain ⟨z0, e0⟩ := trod_float Try.underlying84 f0
  obtain ⟨z1, e1⟩ := trod_float Try.underlying84 f1
  injection e0 with e0; injection e1 with e1
  subst e0; subst e1
  exact ⟨(z0, z1), rfl⟩
def FloatsR (w : World) (A : Option Addr) (n : Nat) (l : List (Nat × Nat)) : Prop := l.length = n ∧ RowV w A n 2 (flat encF l)
theorem FloatsR.up {w w' : World} {A n l} (h : FloatsR w A n l) (hb : Below w.heap.size w w') : FloatsR w' A n l := ⟨h.1, h.2.up hb⟩
def fth (l : List (Nat × Nat)) (i : Nat) : Nat × Nat := l.getD i default
theorem FloatsR.at {w : World} {A n l} (h : FloatsR w A n l) (hn : 0 < n) : ∃ b off, A = some ⟨b, off, none⟩ ∧ b < w.heap.size ∧ ∀ j, j < n → w.cell? ⟨b, off + j * 2, none⟩ = some (.float .f64 (fth l j).1) ∧ w.cell? ⟨b, off + j * 2 + 1, none⟩ = some (.float .f64 (fth l j).2) := by
  obtain ⟨b, off, e, hb, hc⟩ := h.2.2.2 hn
  refine ⟨b, off, e, hb, fun j hj => ?_⟩
  have hat : ∀ r u, r < 2 → (encF (fth l j))[r]? = some u → w.cell? ⟨b, off + j * 2 + r, none⟩ = some u := fun r u hr hu => by
    rw [Nat.add_assoc]
    exact hc _ u (by rw [flat_at encF_len l j r (by rw [h.1]; exact hj) hr]; exact hu)
  exact ⟨hat 0 _ (by omega) rfl, hat 1 _ (by omega) rfl⟩
set_option maxRecDepth 20000 in
theorem open_Floats {fuel : Nat} {cs : List Value} {x : DataW H × List MemPlace} (h : DataW.trod enc Try.prog w base spare held fuel 56 cs = some x) : ∃ A n c l, cs = [.slice A n c] ∧ FloatsR w A n l := by
  obtain ⟨A, n, c, l, e, h1, h2, h3, h4⟩ := open_flat (e := encF) encF_len (by omega) Try.underlying56 cells_two (fun _ _ _ h => open_Two h) h
  exact ⟨A, n, c, l, e, ⟨h1, h2⟩⟩
/-- Where an asking lies; what it holds. -/
structure AskP where
  d : SlP
  c : SlP
  i : SlP
  p : SlP
structure AskD where
  D : DagD
  C : List CertD
  I : List Int
  P : List (Nat × Nat)
def askV (P : AskP) (D : AskD) : Value := .agg #[.int .i64 D.D.nodes, .int .i64 D.D.low, .slice P.d.A P.d.n P.d.c, .slice P.c.A P.c.n P.c.c, .slice P.i.A P.i.n P.i.c, .slice P.p.A P.p.n P.p.c]
structure AskR (w : World) (P : AskP) (D : AskD) : Prop where
  d : CertsR w P.d.A P.d.n D.D.certs
  ds : Small D.D.certs
  dc : P.d.n ≤ P.d.c
  dm : P.d.c ≤ 9223372036854775807
  c : CertsR w P.c.A P.c.n D.C
  cs : Small D.C
  i : IntsR w P.i.A P.i.n D.I
  is : P.i.n ≤ 17592186044416
  p : FloatsR w P.p.A P.p.n D.P
set_option maxRecDepth 20000 in
theorem open_Ask14 {r : Reach} {b0 : Nat} {v : Value} {d : DataW H} {p : List MemPlace} (hv : Value.okWide Try.prog w r b0 58 v) (h : DataW.Trod enc Try.prog w base spare held 58 v d p) (hw : Wok 58 d) :
    ∃ (P : AskP) (D : AskD), v = askV P D ∧ AskR w P D := by
  obtain ⟨cs, rfl, hsz⟩ := okWide_struct Try.underlying58 hv
  obtain ⟨l⟩ := cs
  rw [cells_ask14] at hsz
  obtain ⟨v0, v1, v2, v3, v4, v5, rfl⟩ := list6 hsz
  obtain ⟨fuel, hfu⟩ := h
  obtain ⟨xs, n, _, hx, hl, hlen, hf⟩ := DataW.trod_struct Try.underlying58 hfu
  have hd := congrArg Prod.fst hx
  dsimp only at hd
  rw [hd] at hw
  obtain ⟨y0, y1, y2, y3, rfl⟩ := list4 hlen
  have f0 : DataW.trod enc Try.prog w base spare held n 24 [v0, v1, v2] = some y0 := by simpa [cells_dag, Value.cells] using hf 0 _ rfl
  have f1 : DataW.trod enc Try.prog w base spare held n 22 [v3] = some y1 := by simpa [cells_certs, Value.cells] using hf 1 _ rfl
  have f2 : DataW.trod enc Try.prog w base spare held n 25 [v4] = some y2 := by simpa [cells_ints, Value.cells] using hf 2 _ rfl
  have f3 : DataW.trod enc Try.prog w base spare held n 56 [v5] = some y3 := by simpa [cells_twos, Value.cells] using hf 3 _ rfl
  obtain ⟨A0, n0, c0, D, e0, r0, s0⟩ := open_DagS f0 (hw.field Try.underlying58 (i := 0) rfl rfl)
  obtain ⟨A1, n1, c1, l1, e1, r1, s1⟩ := open_CertsS f1 (hw.field Try.underlying58 (i := 1) rfl rfl)
  obtain ⟨A2, n2, c2, l2, e2, r2, s2⟩ := open_IntsS f2 (hw.field Try.underlying58 (i := 2) rfl rfl)
  obtain ⟨A3, n3, c3, l3, e3, r3⟩ := open_Floats f3
  simp only [List.cons.injEq, and_true] at e0 e1 e2 e3
  obtain ⟨rfl, rfl, rfl⟩ := e0
  subst e1; subst e2; subst e3
  obtain ⟨q1, q2⟩ := cap_Dag f0
  exact ⟨⟨⟨A0, n0, c0⟩, ⟨A1, n1, c1⟩, ⟨A2, n2, c2⟩, ⟨A3, n3, c3⟩⟩, ⟨D, l1, l2, l3⟩, rfl, ⟨r0, s0, q1, q2, r1, s1, r2, by rw [← r2.1]; exact s2, r3⟩⟩
end
theorem AskR.up {w w' : World} {P D} (h : AskR w P D) (hb : Below w.heap.size w w') : AskR w' P D := ⟨h.d.up hb, h.ds, h.dc, h.dm, h.c.up hb, h.cs, h.i.up hb, h.is, h.p.up hb⟩
def WLight2 (certs : List CertD) (n : Nat) (x : Int) : Prop := x ≤ 3000 → ∀ k, k < n → LightC (cth certs k)
/-- What is not heavy. -/
structure Lit (P : AskP) (D : AskD) : Prop where
  d : Light D.D.certs
  cn : P.c.n ≤ 40
  c : ∀ k, k < P.c.n → LightC (cth D.C k)
  i : P.i.n ≤ 40
  p : P.p.n ≤ 40
set_option maxRecDepth 100000 in
set_option maxHeartbeats 1000000 in
theorem law14_heavy (P : AskP) (D : AskD) (w : World) (h : AskR w P D) :
    Calls Try.prog 39 #[askV P D] w fun e w' => RetQ (Lit P D) e ∧ Below w.heap.size w w' := by
  have HD := Lib.hid h
  obtain ⟨⟨dA, dn, dc⟩, ⟨cA, cn, cc⟩, ⟨iA, im, ic⟩, ⟨pA, pn, pc⟩⟩ := P
  have hb1 := h.is
  have hb2 := h.p.2.2.1
  have hb3 := h.c.2.1
  dsimp only at hb1 hb2 hb3
  clear h
  unfold askV
  dsimp only
  go_enter Try.func39, Try.ntmps39
  go_wp2_with (first
    | (go_at_call 66; refine (law14_Heavy' _ _ _ _ _ D.D.certs _ (HD.out.d.up (by (repeat (first | (with_reducible exact Below.refl _ _) | (with_reducible assumption) | (with_reducible apply bel_alloc) | (with_reducible apply bel_drew) | (with_reducible apply bel_drewN) | (with_reducible refine bel_trans ?_ (by with_reducible assumption)) | (with_reducible refine bel_trans ?_ (HF.out _)) | (with_reducible refine bel_set ?_ (by simp) _) | (with_reducible refine bel_set ?_ (by simp; omega) _) | (with_reducible refine bel_set ?_ (by omega) _))))) HD.out.ds).mono ?_; rintro e w1 ⟨⟨y, rfl, hy⟩, hb1⟩; have HY := Lib.hid hy; clear hy; have hz_w1 : w.heap.size + 1 ≤ w1.heap.size := (by have hq := (hb1).size; (try simp at hq); omega); have hc0_w1 := fun o => (bcell hb1).1 (w.heap.size) o (by first | (simp; done) | (simp; omega) | omega))
    | (go_at_call 80; refine (law0_CertsWeight' _ _ _ D.C _ (HD.out.c.up (by (repeat (first | (with_reducible exact Below.refl _ _) | (with_reducible assumption) | (with_reducible apply bel_alloc) | (with_reducible apply bel_drew) | (with_reducible apply bel_drewN) | (with_reducible refine bel_trans ?_ (by with_reducible assumption)) | (with_reducible refine bel_trans ?_ (HF.out _)) | (with_reducible refine bel_set ?_ (by simp) _) | (with_reducible refine bel_set ?_ (by simp; omega) _) | (with_reducible refine bel_set ?_ (by omega) _))))) HD.out.cs).mono ?_; rintro e w2 ⟨⟨z, rfl, hz⟩, hb2⟩; have HZ := Lib.hid hz; clear hz; have hz_w2 : w.heap.size + 1 ≤ w2.heap.size := (by have hq := (hb2).size; (try simp at hq); omega); have hc0_w2 := fun o => (bcell hb2).1 (w.heap.size) o (by first | (simp; done) | (simp; omega) | omega)))
  all_goals
    go_ret
    refine ⟨RetQ.mk _ (fun h => ?_), by (repeat (first | (with_reducible exact Below.refl _ _) | (with_reducible assumption) | (with_reducible apply bel_alloc) | (with_reducible apply bel_drew) | (with_reducible apply bel_drewN) | (with_reducible refine bel_trans ?_ (by with_reducible assumption)) | (with_reducible refine bel_trans ?_ (HF.out _)) | (with_reducible refine bel_set ?_ (by simp) _) | (with_reducible refine bel_set ?_ (by simp; omega) _) | (with_reducible refine bel_set ?_ (by omega) _)))⟩
    first
      | (exfalso; revert h; simp; done)
      | (have h40 : pn ≤ 40 := (by go_light; simp at h; omega); exact ⟨HY.out (by go_light; simp_all), (show cn ≤ 40 by go_light; omega), HZ.out (by go_light; omega), (show im ≤ 40 by go_light; omega), h40⟩)
end Go.Proofs.Ytfkbilbgndekkaa
