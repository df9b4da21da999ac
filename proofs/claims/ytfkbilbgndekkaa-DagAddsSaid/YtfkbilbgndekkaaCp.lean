/- Copies in new memory. -/
import Derived.Test.YtfkbilbgndekkaaU
namespace Go.Proofs.Ytfkbilbgndekkaa
open Go.RowKit
set_option linter.unusedSimpArgs false
set_option linter.unusedVariables false

theorem bel_set3 {w x : World} {b o : Nat} {v : Value} (h : Below w.heap.size w x) (hp : w.heap.size ≤ b) : Below w.heap.size w (x.setCell ⟨b, o, none⟩ v) := h.setCell hp v
def NewS (B : Nat) (A : Option Addr) : Prop := ∀ b off sp, A = some ⟨b, off, sp⟩ → B ≤ b
theorem NewS.mono {B B' : Nat} {A : Option Addr} (h : NewS B A) (hB : B' ≤ B) : NewS B' A := fun b off sp e => Nat.le_trans hB (h b off sp e)
theorem IntsR.of_heap {w w' : World} {A : Option Addr} {n : Nat} {l : List Int} (h : IntsR w A n l) (hs : w.heap.size ≤ w'.heap.size) (hh : ∀ b off sp, A = some ⟨b, off, sp⟩ → w'.heap[b]? = w.heap[b]?) : IntsR w' A n l := by
  obtain ⟨h1, h2, h3⟩ := h
  refine ⟨h1, h2, fun hn => ?_⟩
  obtain ⟨b, off, rfl, hb, hc⟩ := h3 hn
  exact ⟨b, off, rfl, by omega, fun j hj => (World.cell?_of_block (w := w) (w' := w') (a := ⟨b, off + j, none⟩) (hh _ _ _ rfl)).trans (hc j hj)⟩
theorem IntsR.setNew {w : World} {B : Nat} {A : Option Addr} {n : Nat} {l : List Int} {p : Addr} {v : Value} (h : IntsR w A n l) (hN : NewS B A) (hp : p.block < B) : IntsR (w.setCell p v) A n l :=
  h.of_heap (by simp [World.setCell]) (fun b off sp e => Below.heap_setCell _ _ _ _ (by have := hN b off sp e; omega))
theorem IntsR.setNew3 {w : World} {B b o : Nat} {A : Option Addr} {n : Nat} {l : List Int} {v : Value} (h : IntsR w A n l) (hN : NewS B A) (hp : b < B) : IntsR (w.setCell ⟨b, o, none⟩ v) A n l := h.setNew hN hp
theorem IntsR.grownNew {w w' : World} {g : Nat} {A : Option Addr} {n : Nat} {l : List Int} (h : IntsR w A n l) (hg : w.grownBy w' (some g)) (hN : NewS (g + 1) A) : IntsR w' A n l := by
  by_cases hn : 0 < n
  · obtain ⟨b, off, rfl, hb, _⟩ := h.2.2 hn
    exact h.of_heap hg.size (fun b' off' sp' e => by
      injection e with e; injection e with e1 e2 e3
      subst e1
      exact hg.block b hb (fun e => by injection e with e; have := hN b off none rfl; omega))
  · exact ⟨h.1, h.2.1, fun h' => absurd h' hn⟩
set_option maxRecDepth 100000 in
set_option maxHeartbeats 1000000 in
theorem ref0_CopyNumbers (A : Option Addr) (n c : Nat) (l : List Int) (w : World) (hl : IntsR w A n l) (hn : n ≤ 1000000000) :
    Calls Try.prog 82 #[.slice A n c] w fun e w' => ∃ v, e = .returned v ∧ OwnI w' w.heap.size v l ∧ Below w.heap.size w w' := by
  have HL := Lib.hid hl
  have hN := hl.1
  have HN := Lib.hid hN
  clear hl hN
  go_enter Try.func82, Try.ntmps82
  go_wp2_with fail
  go_loopw [3, 4] (fun v i wr => ∃ j : Nat, j ≤ n ∧ i = .int .i64 j ∧ OwnI wr w.heap.size v (l.take j) ∧ Below w.heap.size w wr) (fun _ i _ => n - (intOf i).toNat)
  case atStart => exact ⟨0, Nat.zero_le _, rfl, OwnI.nil _ _, Below.refl _ _⟩
  case round =>
    obtain ⟨j, hj, rfl, hown, hbw⟩ := hrel
    by_cases hlt : j < n
    · obtain ⟨b, off, rfl, hb, hc⟩ := (HL.out.up hbw).2.2 (by omega)
      have hcj := hc j hlt
      clear hc
      have hlenj : (l.take j).length ≤ j := by simp; omega
      have hsz := hbw.size
      go_wp2_with (at_builtin; refine wpList_app1 rfl (.tmp 11) (.tmp 16) rfl (w.heap.size) u3 _ rfl (hown.alloc _) _ (nth l j) rfl (cell0_alloc _ _ _) (by omega) (le_alloc hsz) ?_; intro v1 w1 hown1 hg1 hbel1 hat1)
      (first | (go_round; (case rel => exact ⟨j + 1, by omega, by go_num, by rw [take_nth l j (by rw [HN.out]; exact hlt)]; exact hown1, Below.trans (bel_alloc hbw) hbel1⟩); (case measure => (simp [intOf] <;> omega))) | (go_roundw; (case rel => exact ⟨j + 1, by omega, by go_num, by rw [take_nth l j (by rw [HN.out]; exact hlt)]; exact hown1, Below.trans (bel_alloc hbw) hbel1⟩); (case measure => (simp [intOf] <;> omega))) | (refine ⟨?_, by simp [intOf] <;> omega⟩; (repeat apply Exists.intro); refine ⟨?rel, ?fr⟩; (case fr => ((repeat' apply And.intro) <;> rfl)); (case rel => exact ⟨j + 1, by omega, by go_num, by rw [take_nth l j (by rw [HN.out]; exact hlt)]; exact hown1, Below.trans (bel_alloc hbw) hbel1⟩)))
    · go_wp2_with fail
      go_ret
      have e : l.take j = l := List.take_of_length_le (by rw [HN.out]; omega)
      exact ⟨_, rfl, e ▸ hown, hbw⟩
def HeaderNew (B : Nat) (p : HeaderP) : Prop := NewS B p.b.A ∧ NewS B p.p.A
def CertNew (B : Nat) (p : CertP) : Prop := HeaderNew B p.h ∧ NewS B p.s.A
set_option maxRecDepth 100000 in
set_option maxHeartbeats 1000000 in
theorem ref0_CopyHeader (H : HeaderD) (bA pA : Option Addr) (bn bc pn pc : Nat) (w : World) (hr : HeaderR w ⟨⟨bA, bn, bc⟩, ⟨pA, pn, pc⟩⟩ H) (hbn : bn ≤ 1000000000) (hpn : pn ≤ 1000000000) :
    Calls Try.prog 81 #[.agg #[.int .i64 H.au, .int .i64 H.ro, .slice bA bn bc, .slice pA pn pc]] w fun e w' => ∃ p : HeaderP, e = .returned (.agg #[.int .i64 H.au, .int .i64 H.ro, .slice p.b.A p.b.n p.b.c, .slice p.p.A p.p.n p.p.c]) ∧ HeaderR w' p H ∧ HeaderNew w.heap.size p ∧ Below w.heap.size w w' := by
  have h1 : IntsR w bA bn H.ba := hr.1
  have h2 : IntsR w pA pn H.pa := hr.2
  have G1 := Lib.hid h1; have G2 := Lib.hid h2
  clear hr h1 h2
  go_enter Try.func81, Try.ntmps81
  go_wp2_with fail
  refine (ref0_CopyNumbers _ _ _ H.ba _ (G1.out.up (by (repeat (first | (with_reducible exact Below.refl _ _) | (with_reducible assumption) | (with_reducible apply bel_alloc) | (with_reducible apply bel_drew) | (with_reducible apply bel_drewN) | (with_reducible refine bel_trans ?_ (by with_reducible assumption)) | (with_reducible refine bel_trans ?_ (HF.out _)) | (with_reducible refine bel_set ?_ (by simp) _) | (with_reducible refine bel_set ?_ (by simp; omega) _) | (with_reducible refine bel_set ?_ (by omega) _))))) hbn).mono ?_
  rintro e w1 ⟨v1, rfl, hown1, hb1⟩
  obtain ⟨A1, c1, rfl, hint1, hnew1⟩ := hown1.ints (by rw [G1.out.1]; omega)
  have hn1 : NewS (w.heap.size + 3) A1 := fun b off sp e => by have := hnew1 b off sp e; simp at this; omega
  clear hnew1
  have hz_w1 : w.heap.size + 3 ≤ w1.heap.size := (by have hq := (hb1).size; (try simp at hq); omega); have hc0_w1 := fun o => (bcell hb1).1 (w.heap.size) o (by first | (simp; done) | (simp; omega) | omega); have hc1_w1 := fun o => (bcell hb1).1 (w.heap.size + 1) o (by first | (simp; done) | (simp; omega) | omega); have hc2_w1 := fun o => (bcell hb1).1 (w.heap.size + 2) o (by first | (simp; done) | (simp; omega) | omega); have hf0_w1 := fun o => (bcell hb1).2 (w.heap.size) o (by first | (simp; done) | (simp; omega) | omega); have hf1_w1 := fun o => (bcell hb1).2 (w.heap.size + 1) o (by first | (simp; done) | (simp; omega) | omega); have hf2_w1 := fun o => (bcell hb1).2 (w.heap.size + 2) o (by first | (simp; done) | (simp; omega) | omega)
  go_wp2_with fail
  refine (ref0_CopyNumbers _ _ _ H.pa _ (G2.out.up ((by (repeat (first | (with_reducible exact Below.refl _ _) | (with_reducible assumption) | (with_reducible apply bel_alloc) | (with_reducible apply bel_drew) | (with_reducible apply bel_drewN) | (with_reducible refine bel_trans ?_ (by with_reducible assumption)) | (with_reducible refine bel_trans ?_ (HF.out _)) | ((with_reducible refine bel_set3 ?_ ?_); rotate_left; omega)))))) hpn).mono ?_
  rintro e w2 ⟨v2, rfl, hown2, hb2⟩
  obtain ⟨A2, c2, rfl, hint2, hnew2⟩ := hown2.ints (by rw [G2.out.1]; omega)
  have hn2 : NewS (w.heap.size + 3) A2 := fun b off sp e => by have := hnew2 b off sp e; simp at this; omega
  clear hnew2
  have hz_w2 : w.heap.size + 3 ≤ w2.heap.size := (by have hq := (hb2).size; (try simp at hq); omega); have hc0_w2 := fun o => (bcell hb2).1 (w.heap.size) o (by first | (simp; done) | (simp; omega) | omega); have hc1_w2 := fun o => (bcell hb2).1 (w.heap.size + 1) o (by first | (simp; done) | (simp; omega) | omega); have hc2_w2 := fun o => (bcell hb2).1 (w.heap.size + 2) o (by first | (simp; done) | (simp; omega) | omega); have hf0_w2 := fun o => (bcell hb2).2 (w.heap.size) o (by first | (simp; done) | (simp; omega) | omega); have hf1_w2 := fun o => (bcell hb2).2 (w.heap.size + 1) o (by first | (simp; done) | (simp; omega) | omega); have hf2_w2 := fun o => (bcell hb2).2 (w.heap.size + 2) o (by first | (simp; done) | (simp; omega) | omega)
  go_wp2_with fail
  refine bodyPost_ret (v := .agg #[.int .i64 H.au, .int .i64 H.ro, .slice A1 H.ba.length c1, .slice A2 H.pa.length c2]) (by simp [results, Try.results81, go_sem, hc0_w1, hc1_w1, hc2_w1, hc0_w2, hc1_w2, hc2_w2]) rfl ⟨⟨⟨A1, _, c1⟩, ⟨A2, _, c2⟩⟩, rfl, ⟨?_, ?_⟩, ⟨hn1.mono (by omega), hn2.mono (by omega)⟩, by (repeat (first | (with_reducible exact Below.refl _ _) | (with_reducible assumption) | (with_reducible apply bel_alloc) | (with_reducible apply bel_drew) | (with_reducible apply bel_drewN) | (with_reducible refine bel_trans ?_ (by with_reducible assumption)) | (with_reducible refine bel_trans ?_ (HF.out _)) | ((with_reducible refine bel_set3 ?_ ?_); rotate_left; omega)))⟩
  · show IntsR _ A1 H.ba.length H.ba
    (repeat (first | (with_reducible assumption) | ((with_reducible refine IntsR.setNew3 (B := w.heap.size + 3) ?_ (by with_reducible assumption) ?_); rotate_left; omega) | (with_reducible refine IntsR.up ?_ (by with_reducible assumption))))
  · show IntsR _ A2 H.pa.length H.pa
    (repeat (first | (with_reducible assumption) | ((with_reducible refine IntsR.setNew3 (B := w.heap.size + 3) ?_ (by with_reducible assumption) ?_); rotate_left; omega) | (with_reducible refine IntsR.up ?_ (by with_reducible assumption))))

set_option maxRecDepth 100000 in
set_option maxHeartbeats 1000000 in
theorem ref0_CopyCert (C : CertD) (bA pA sA : Option Addr) (bn bc pn pc sn sc : Nat) (w : World) (hr : CertR w ⟨⟨⟨bA, bn, bc⟩, ⟨pA, pn, pc⟩⟩, ⟨sA, sn, sc⟩⟩ C) (hbn : bn ≤ 1000000000) (hpn : pn ≤ 1000000000) (hsn : sn ≤ 1000000000) :
    Calls Try.prog 42 #[.agg #[.int .i64 C.h.au, .int .i64 C.h.ro, .slice bA bn bc, .slice pA pn pc, .int .i64 C.di, .slice sA sn sc]] w fun e w' => ∃ p : CertP, e = .returned (.agg #[.int .i64 C.h.au, .int .i64 C.h.ro, .slice p.h.b.A p.h.b.n p.h.b.c, .slice p.h.p.A p.h.p.n p.h.p.c, .int .i64 C.di, .slice p.s.A p.s.n p.s.c]) ∧ CertR w' p C ∧ CertNew w.heap.size p ∧ Below w.heap.size w w' := by
  have h1 : HeaderR w ⟨⟨bA, bn, bc⟩, ⟨pA, pn, pc⟩⟩ C.h := hr.1
  have h2 : IntsR w sA sn C.si := hr.2
  have G1 := Lib.hid h1; have G2 := Lib.hid h2
  clear hr h1 h2
  go_enter Try.func42, Try.ntmps42
  go_wp2_with fail
  refine (ref0_CopyHeader C.h _ _ _ _ _ _ _ (G1.out.up (by (repeat (first | (with_reducible exact Below.refl _ _) | (with_reducible assumption) | (with_reducible apply bel_alloc) | (with_reducible apply bel_drew) | (with_reducible apply bel_drewN) | (with_reducible refine bel_trans ?_ (by with_reducible assumption)) | (with_reducible refine bel_trans ?_ (HF.out _)) | ((with_reducible refine bel_set3 ?_ ?_); rotate_left; omega))))) hbn hpn).mono ?_
  rintro e w1 ⟨p1, rfl, hR1, hN1, hb1⟩
  obtain ⟨⟨A1, n1, c1⟩, ⟨A2, n2, c2⟩⟩ := p1
  have hi1 : IntsR w1 A1 n1 C.h.ba := hR1.1
  have hi2 : IntsR w1 A2 n2 C.h.pa := hR1.2
  have hn1 : NewS (w.heap.size + 3) A1 := fun b off sp e => by have := hN1.1 b off sp e; simp at this; omega
  have hn2 : NewS (w.heap.size + 3) A2 := fun b off sp e => by have := hN1.2 b off sp e; simp at this; omega
  clear hN1 hR1
  have hz_w1 : w.heap.size + 3 ≤ w1.heap.size := (by have hq := (hb1).size; (try simp at hq); omega); have hc0_w1 := fun o => (bcell hb1).1 (w.heap.size) o (by first | (simp; done) | (simp; omega) | omega); have hc1_w1 := fun o => (bcell hb1).1 (w.heap.size + 1) o (by first | (simp; done) | (simp; omega) | omega); have hc2_w1 := fun o => (bcell hb1).1 (w.heap.size + 2) o (by first | (simp; done) | (simp; omega) | omega); have hf0_w1 := fun o => (bcell hb1).2 (w.heap.size) o (by first | (simp; done) | (simp; omega) | omega); have hf1_w1 := fun o => (bcell hb1).2 (w.heap.size + 1) o (by first | (simp; done) | (simp; omega) | omega); have hf2_w1 := fun o => (bcell hb1).2 (w.heap.size + 2) o (by first | (simp; done) | (simp; omega) | omega)
  go_wp2_with fail
  refine (ref0_CopyNumbers _ _ _ C.si _ (G2.out.up ((by (repeat (first | (with_reducible exact Below.refl _ _) | (with_reducible assumption) | (with_reducible apply bel_alloc) | (with_reducible apply bel_drew) | (with_reducible apply bel_drewN) | (with_reducible refine bel_trans ?_ (by with_reducible assumption)) | (with_reducible refine bel_trans ?_ (HF.out _)) | ((with_reducible refine bel_set3 ?_ ?_); rotate_left; omega)))))) hsn).mono ?_
  rintro e w2 ⟨v2, rfl, hown2, hb2⟩
  obtain ⟨A3, c3, rfl, hi3, hnew2⟩ := hown2.ints (by rw [G2.out.1]; omega)
  have hn3 : NewS (w.heap.size + 3) A3 := fun b off sp e => by have := hnew2 b off sp e; simp at this; omega
  clear hnew2
  have hz_w2 : w.heap.size + 3 ≤ w2.heap.size := (by have hq := (hb2).size; (try simp at hq); omega); have hc0_w2 := fun o => (bcell hb2).1 (w.heap.size) o (by first | (simp; done) | (simp; omega) | omega); have hc1_w2 := fun o => (bcell hb2).1 (w.heap.size + 1) o (by first | (simp; done) | (simp; omega) | omega); have hc2_w2 := fun o => (bcell hb2).1 (w.heap.size + 2) o (by first | (simp; done) | (simp; omega) | omega); have hf0_w2 := fun o => (bcell hb2).2 (w.heap.size) o (by first | (simp; done) | (simp; omega) | omega); have hf1_w2 := fun o => (bcell hb2).2 (w.heap.size + 1) o (by first | (simp; done) | (simp; omega) | omega); have hf2_w2 := fun o => (bcell hb2).2 (w.heap.size + 2) o (by first | (simp; done) | (simp; omega) | omega)
  go_wp2_with fail
  refine bodyPost_ret (v := .agg #[.int .i64 C.h.au, .int .i64 C.h.ro, .slice A1 n1 c1, .slice A2 n2 c2, .int .i64 C.di, .slice A3 C.si.length c3]) (by simp [results, Try.results42, go_sem, hc0_w1, hc1_w1, hc2_w1, hc0_w2, hc1_w2, hc2_w2]) rfl ⟨⟨⟨⟨A1, _, c1⟩, ⟨A2, _, c2⟩⟩, ⟨A3, _, c3⟩⟩, rfl, ⟨⟨?_, ?_⟩, ?_⟩, ⟨⟨hn1.mono (by omega), hn2.mono (by omega)⟩, hn3.mono (by omega)⟩, by (repeat (first | (with_reducible exact Below.refl _ _) | (with_reducible assumption) | (with_reducible apply bel_alloc) | (with_reducible apply bel_drew) | (with_reducible apply bel_drewN) | (with_reducible refine bel_trans ?_ (by with_reducible assumption)) | (with_reducible refine bel_trans ?_ (HF.out _)) | ((with_reducible refine bel_set3 ?_ ?_); rotate_left; omega)))⟩
  · show IntsR _ A1 n1 C.h.ba
    (repeat (first | (with_reducible assumption) | ((with_reducible refine IntsR.setNew3 (B := w.heap.size + 3) ?_ (by with_reducible assumption) ?_); rotate_left; omega) | (with_reducible refine IntsR.up ?_ (by with_reducible assumption))))
  · show IntsR _ A2 n2 C.h.pa
    (repeat (first | (with_reducible assumption) | ((with_reducible refine IntsR.setNew3 (B := w.heap.size + 3) ?_ (by with_reducible assumption) ?_); rotate_left; omega) | (with_reducible refine IntsR.up ?_ (by with_reducible assumption))))
  · show IntsR _ A3 C.si.length C.si
    (repeat (first | (with_reducible assumption) | ((with_reducible refine IntsR.setNew3 (B := w.heap.size + 3) ?_ (by with_reducible assumption) ?_); rotate_left; omega) | (with_reducible refine IntsR.up ?_ (by with_reducible assumption))))

/-! ### rows of certificates of one's own -/
def certCells (p : CertP) (C : CertD) : List Value := [.int .i64 C.h.au, .int .i64 C.h.ro, .slice p.h.b.A p.h.b.n p.h.b.c, .slice p.h.p.A p.h.p.n p.h.p.c, .int .i64 C.di, .slice p.s.A p.s.n p.s.c]
def rowCells (ps : List CertP) (l : List CertD) : List Value := (List.zipWith certCells ps l).flatten
theorem flat6 : ∀ (ll : List (List Value)), (∀ x ∈ ll, x.length = 6) → ∀ (j r : Nat), r < 6 → ll.flatten[j * 6 + r]? = (ll[j]?).bind (·[r]?)
  | [], _, j, r, _ => by simp
  | x :: ll, h, 0, r, hr => by
    have hx := h x (by simp)
    simp [List.getElem?_append, hx, hr]
  | x :: ll, h, j + 1, r, hr => by
    have hx := h x (by simp)
    have ih := flat6 ll (fun y hy => h y (by simp [hy])) j r hr
    simp only [List.flatten_cons, List.getElem?_cons_succ]
    rw [List.getElem?_append_right (by omega), show (j + 1) * 6 + r - x.length = j * 6 + r by omega, ih]
theorem rowCells_at {ps : List CertP} {l : List CertD} (h : ps.length = l.length) {j r : Nat} (hj : j < l.length) (hr : r < 6) : (rowCells ps l)[j * 6 + r]? = (certCells (ps.getD j default) (cth l j))[r]? := by
  unfold rowCells
  rw [flat6 _ (by intro x hx; obtain ⟨i, hi, rfl⟩ := List.getElem_of_mem hx; simp [certCells]) j r hr]
  simp [List.getElem?_zipWith, show j < ps.length by omega, hj, cth]
theorem rowCells_len {ps : List CertP} {l : List CertD} (h : ps.length = l.length) : (rowCells ps l).length = l.length * 6 := by
  induction l generalizing ps with
  | nil => simp [rowCells]
  | cons c l ih =>
    cases ps with
    | nil => simp at h
    | cons p ps =>
      have := ih (ps := ps) (by simpa using h)
      unfold rowCells at this ⊢
      rw [List.zipWith_cons_cons, List.flatten_cons, List.length_append, this]
      simp [certCells]; omega
theorem rowCells_snoc {ps : List CertP} {l : List CertD} (h : ps.length = l.length) (p : CertP) (C : CertD) : rowCells (ps ++ [p]) (l ++ [C]) = rowCells ps l ++ certCells p C := by
  unfold rowCells
  rw [List.zipWith_append h]; simp
def IntsA (blk : Option Nat) (w : World) (A : Option Addr) (n : Nat) (l : List Int) : Prop := IntsR w A n l ∧ (0 < n → ∀ b off sp, A = some ⟨b, off, sp⟩ → blk ≠ some b)
theorem IntsA.up {blk : Option Nat} {w w' : World} {A n l} (h : IntsA blk w A n l) (hb : Below w.heap.size w w') : IntsA blk w' A n l := ⟨h.1.up hb, h.2⟩
theorem IntsA.grow {blk blk' : Option Nat} {w w' : World} {A n l} (h : IntsA blk w A n l) (hg : w.grownBy w' blk) (hk : blk' = blk ∨ blk' = some w.heap.size) : IntsA blk' w' A n l := by
  by_cases hn : 0 < n
  · obtain ⟨b, off, rfl, hb, _⟩ := h.1.2.2 hn
    have hne := h.2 hn b off none rfl
    refine ⟨h.1.of_heap hg.size (fun b' off' sp' e => ?_), fun _ b' off' sp' e => ?_⟩
    · injection e with e; injection e with e1 e2 e3
      subst e1
      exact hg.block b hb (fun e => hne e.symm)
    · injection e with e; injection e with e1 e2 e3
      subst e1
      rcases hk with rfl | rfl
      · exact hne
      · intro e; injection e with e; omega
  · exact ⟨⟨h.1.1, h.1.2.1, fun h' => absurd h' hn⟩, fun h' => absurd h' hn⟩
theorem IntsR.toA {blk : Option Nat} {B : Nat} {w : World} {A n l} (h : IntsR w A n l) (hN : NewS B A) (hk : ∀ g, blk = some g → g < B) : IntsA blk w A n l :=
  ⟨h, fun _ b off sp e hb => by have := hk b hb; have := hN b off sp e; omega⟩
def CertA (blk : Option Nat) (w : World) (p : CertP) (C : CertD) : Prop := IntsA blk w p.h.b.A p.h.b.n C.h.ba ∧ IntsA blk w p.h.p.A p.h.p.n C.h.pa ∧ IntsA blk w p.s.A p.s.n C.si
theorem CertA.up {blk : Option Nat} {w w' : World} {p C} (h : CertA blk w p C) (hb : Below w.heap.size w w') : CertA blk w' p C := ⟨h.1.up hb, h.2.1.up hb, h.2.2.up hb⟩
theorem CertA.grow {blk blk' : Option Nat} {w w' : World} {p C} (h : CertA blk w p C) (hg : w.grownBy w' blk) (hk : blk' = blk ∨ blk' = some w.heap.size) : CertA blk' w' p C := ⟨h.1.grow hg hk, h.2.1.grow hg hk, h.2.2.grow hg hk⟩
theorem CertA.cert {blk : Option Nat} {w : World} {p C} (h : CertA blk w p C) : CertR w p C := ⟨⟨h.1.1, h.2.1.1⟩, h.2.2.1⟩
theorem CertR.toA {blk : Option Nat} {B : Nat} {w : World} {p C} (h : CertR w p C) (hN : CertNew B p) (hk : ∀ g, blk = some g → g < B) : CertA blk w p C := ⟨h.1.1.toA hN.1.1 hk, h.1.2.toA hN.1.2 hk, h.2.toA hN.2 hk⟩
/-- The slice value v owns, in a block from B on (or is nil), these certificates, whose lists lie apart from it. -/
def OwnC (w : World) (B : Nat) (v : Value) (ps : List CertP) (l : List CertD) : Prop :=
  w.ownsRow B 48 6 v l.length (rowCells ps l) ∧ ps.length = l.length ∧ ∀ j, j < l.length → CertA v.ownBlock w (ps.getD j default) (cth l j) ∧ CertNew B (ps.getD j default)
theorem OwnC.nil (w : World) (B : Nat) : OwnC w B (.slice none 0 0) [] [] := ⟨World.ownsRow_nil w B _ _, rfl, fun j hj => absurd hj (by simp)⟩
theorem OwnC.lt {w : World} {B : Nat} {v : Value} {ps l} (h : OwnC w B v ps l) : ∀ k, v.ownBlock = some k → B ≤ k ∧ k < w.heap.size := World.ownsRow.lt h.1
theorem OwnC.up {w w' : World} {B : Nat} {v : Value} {ps l} (h : OwnC w B v ps l) (hb : Below w.heap.size w w') : OwnC w' B v ps l := by
  refine ⟨⟨h.1.1, ?_⟩, h.2.1, fun j hj => ⟨(h.2.2 j hj).1.up hb, (h.2.2 j hj).2⟩⟩
  rcases h.1.2 with hn | ⟨g, cap, cur, rfl, hB, hg, rest⟩
  · exact .inl hn
  · exact .inr ⟨g, cap, cur, rfl, hB, (hb.block g (h.lt g rfl).2).trans hg, rest⟩
theorem IntsA.setLow {blk : Option Nat} {w : World} {B b o : Nat} {A n l} {v : Value} (h : IntsA blk w A n l) (hN : NewS B A) (hp : b < B) : IntsA blk (w.setCell ⟨b, o, none⟩ v) A n l := ⟨h.1.setNew3 hN hp, h.2⟩
theorem OwnC.setLow {w : World} {B b o : Nat} {v u : Value} {ps l} (h : OwnC w B v ps l) (hp : b < B) : OwnC (w.setCell ⟨b, o, none⟩ u) B v ps l := by
  refine ⟨⟨h.1.1, ?_⟩, h.2.1, fun j hj => ?_⟩
  · rcases h.1.2 with hn | ⟨g, cap, cur, rfl, hB, hg, rest⟩
    · exact .inl hn
    · exact .inr ⟨g, cap, cur, rfl, hB, (Below.heap_setCell _ _ _ _ (by show g ≠ b; omega)).trans hg, rest⟩
  · obtain ⟨⟨h1, h2, h3⟩, h4⟩ := h.2.2 j hj
    exact ⟨⟨h1.setLow h4.1.1 hp, h2.setLow h4.1.2 hp, h3.setLow h4.2 hp⟩, h4⟩
theorem OwnC.mono {w : World} {B B' : Nat} {v : Value} {ps l} (h : OwnC w B v ps l) (hB : B' ≤ B) : OwnC w B' v ps l := by
  refine ⟨⟨h.1.1, ?_⟩, h.2.1, fun j hj => ⟨(h.2.2 j hj).1, ⟨⟨(h.2.2 j hj).2.1.1.mono hB, (h.2.2 j hj).2.1.2.mono hB⟩, (h.2.2 j hj).2.2.mono hB⟩⟩⟩
  rcases h.1.2 with hn | ⟨g, cap, cur, rfl, hb, rest⟩
  · exact .inl hn
  · exact .inr ⟨g, cap, cur, rfl, by omega, rest⟩
theorem OwnC.certs {w : World} {B : Nat} {v : Value} {ps l} (h : OwnC w B v ps l) (hl : l.length ≤ 9223372036854775807) : ∃ A c, v = .slice A l.length c ∧ CertsR w A l.length l ∧ NewS B A := by
  rcases h.1.2 with ⟨rfl, hn⟩ | ⟨g, cap, cur, rfl, hb, hgg, rest⟩
  · have hl0 : l = [] := by simpa using hn
    subst hl0
    exact ⟨none, 0, rfl, ⟨rfl, by simp, fun h => absurd h (by simp)⟩, fun b off sp e => by cases e⟩
  · refine ⟨_, _, rfl, ⟨rfl, hl, fun _ => ⟨g, 0, rfl, (Array.getElem?_eq_some_iff.1 hgg).1, fun j hj => ⟨ps.getD j default, ?_, (h.2.2 j hj).1.cert⟩⟩⟩, fun b off sp e => by injection e with e; injection e with e1 e2 e3; omega⟩
    have hcell : ∀ r u, r < 6 → (certCells (ps.getD j default) (cth l j))[r]? = some u → w.cell? ⟨g, 0 + j * 6 + r, none⟩ = some u := fun r u hr hu => by
      have := World.ownsRow.cells h.1 (g := g) rfl (j * 6 + r) u (by rw [rowCells_at h.2.1 hj hr]; exact hu)
      rw [Nat.zero_add]
      simpa [Addr.add_lit] using this
    exact ⟨hcell 0 _ (by omega) rfl, hcell 1 _ (by omega) rfl, hcell 2 _ (by omega) rfl, hcell 3 _ (by omega) rfl, hcell 4 _ (by omega) rfl, hcell 5 _ (by omega) rfl⟩
theorem cert_info : (Try.prog.info? 48).map (fun i => (i.zero, i.size, i.bytes)) = some (some (.agg #[.int .i64 0, .int .i64 0, .slice none 0 0, .slice none 0 0, .int .i64 0, .slice none 0 0]), 6, 96) := by kernel_rfl
theorem certCells_one {p : CertP} {C : CertD} : ∀ u ∈ certCells p C, u.oneCell' = true := by
  intro u hu
  simp only [certCells, List.mem_cons, List.not_mem_nil, or_false] at hu
  rcases hu with rfl | rfl | rfl | rfl | rfl | rfl <;> rfl
/-- append of one certificate to a row of one's own. -/
theorem wpList_appC {w : World} {ops : Array Oper} {rest : List Oper} {o : Oper} {a : Act} {Q : Exit → Act → World → Prop} (hgd : o.guard = none) (s x : Operand)
    (ho : o.op = .call { callee := .builtin .append, args := #[s, x], argTypes := #[22, 22] })
    (B : Nat) (v : Value) (ps : List CertP) (l : List CertD) (hs : a.eval s = v) (hown : OwnC w B v ps l) (g : Nat) (p : CertP) (C : CertD) (hx : a.eval x = .slice (some ⟨g, 0, none⟩) 1 1) (hc : BoxR w g (certCells p C)) (hA : CertA v.ownBlock w p C) (hNw : CertNew B p)
    (hlen : l.length ≤ 1000000000) (hB : B ≤ w.heap.size)
    (h : ∀ v' w', OwnC w' B v' (ps ++ [p]) (l ++ [C]) → Below B w w' → wpList Try.prog ops Q rest (a.put o.dst v') w') : wpList Try.prog ops Q (o :: rest) a w := by
  obtain ⟨i0, hi, hz, hz1, hz2⟩ := info_parts cert_info
  refine wpList_plain hgd fun K hK => ?_
  obtain ⟨v', w', hrun, h2, h3, _, h5⟩ := run_append_own_at (P := Try.prog) w B 22 o.type 48 i0 _ 6 96 Try.underlying22 hi hz hz1 hz2 rfl (by omega) v l.length (rowCells ps l) hown.1 ⟨g, 0, none⟩ 1 1 (certCells p C) rfl
    (by intro j u hu
        have := hc.2 j u hu
        by_cases hj : j = 0
        · subst hj; simpa [Addr.add] using this
        · simpa [Addr.add, hj] using this) certCells_one (by simp only [maxLen]; omega) (by omega) hB
  have hown' : OwnC w' B v' (ps ++ [p]) (l ++ [C]) := by
    refine ⟨by rw [rowCells_snoc hown.2.1]; simpa using h2, by simp [hown.2.1], fun j hj => ?_⟩
    rcases Nat.lt_or_ge j l.length with hj' | hj'
    · have e1 : (ps ++ [p]).getD j default = ps.getD j default := by simp [List.getElem?_append, hown.2.1, hj']
      have e2 : cth (l ++ [C]) j = cth l j := by simp [cth, List.getElem?_append, hj']
      rw [e1, e2]
      exact ⟨(hown.2.2 j hj').1.grow h3 h5, (hown.2.2 j hj').2⟩
    · obtain rfl : j = l.length := by simp at hj; omega
      have e1 : (ps ++ [p]).getD l.length default = p := by rw [← hown.2.1]; simp
      have e2 : cth (l ++ [C]) l.length = C := by simp [cth]
      rw [e1, e2]
      exact ⟨hA.grow h3 h5, hNw⟩
  have hbel : Below B w w' := ⟨h3.os, h3.tape, h3.output, h3.size, fun k hk => h3.block k (by omega) (fun e => by have := (hown.lt k e.symm).1; omega)⟩
  unfold Oper.wp execOp
  simp only [ho, resolve, invoke, builtin, Sem.run_bind, Sem.run_pure, Result.andThen_ok, List.map_toArray, List.map_cons, List.map_nil, hs, hx, hrun]
  exact hK _ _ (h v' w' hown' hbel)
end Go.Proofs.Ytfkbilbgndekkaa
