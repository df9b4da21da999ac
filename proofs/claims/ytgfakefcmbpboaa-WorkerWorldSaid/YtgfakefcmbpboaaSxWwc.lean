/- WorkerWorld: its argument; a new worker; what the walk wants. -/
import Derived.Test.YtgfakefcmbpboaaSxWwb
import Derived.Test.YtgfakefcmbpboaaSxWqb
namespace Go.Proofs.Ytgfakefcmbpboaa
open Go.RowKit Go.ChangeShapes Go.WideShapes Go.ChangeAt
set_option linter.unusedSimpArgs false
set_option linter.unusedVariables false

structure FateD where
  d : Int
  n : Int
  k : Int
deriving Inhabited
def encFa (p : FateD) : List Value := [.int .i64 p.d, .int .i64 p.n, .int .i64 p.k]
theorem encFa_len (p : FateD) : (encFa p).length = 3 := rfl
def fateAt (l : List FateD) (i : Nat) : FateD := l.getD i default
def FatesR (w : World) (A : Option Addr) (n : Nat) (l : List FateD) : Prop := l.length = n ∧ RowV w A n 3 (flat encFa l)
theorem FatesR.at {w : World} {A n l} (h : FatesR w A n l) (hn : 0 < n) : ∃ b off, A = some ⟨b, off, none⟩ ∧ b < w.heap.size ∧ ∀ j, j < n → w.cell? ⟨b, off + j * 3, none⟩ = some (.int .i64 (fateAt l j).d) ∧ w.cell? ⟨b, off + j * 3 + 1, none⟩ = some (.int .i64 (fateAt l j).n) ∧ w.cell? ⟨b, off + j * 3 + 2, none⟩ = some (.int .i64 (fateAt l j).k) := by
  obtain ⟨b, off, e, hb, hc⟩ := h.2.2.2 hn
  refine ⟨b, off, e, hb, fun j hj => ?_⟩
  have hat : ∀ r u, r < 3 → (encFa (fateAt l j))[r]? = some u → w.cell? ⟨b, off + j * 3 + r, none⟩ = some u := fun r u hr hu => by
    rw [Nat.add_assoc]
    exact hc _ u (by rw [flat_at encFa_len l j r (by rw [h.1]; exact hj) hr]; exact hu)
  exact ⟨hat 0 _ (by omega) rfl, hat 1 _ (by omega) rfl, hat 2 _ (by omega) rfl⟩
structure TripP where
  l : SlP
structure TripD where
  n : Int
  l : List FateD
def TripP.val (P : TripP) (D : TripD) : Value := .agg #[.int .i64 D.n, .slice P.l.A P.l.n P.l.c]
structure TripR (w : World) (P : TripP) (D : TripD) : Prop where
  l : FatesR w P.l.A P.l.n D.l
  lc : P.l.n ≤ P.l.c
  lm : P.l.c ≤ 9223372036854775807
theorem cells_fate : Try.prog.cellsOf 66 = 3 := by kernel_rfl
theorem cells_fates : Try.prog.cellsOf 59 = 1 := by kernel_rfl
theorem bytes_fate : Try.prog.bytesOf 66 = 24 := by kernel_rfl
theorem cells_trip : Try.prog.cellsOf 61 = 2 := by kernel_rfl
section
variable {H : Type} {enc : TypeId × Value → H} {w : World} {base : Nat} {spare : Nat → Bool} {held : Bool}
set_option maxRecDepth 20000 in
theorem open_FateS {fuel : Nat} {cs : List Value} {x : DataW H × List MemPlace} (h : DataW.trod enc Try.prog w base spare held fuel 66 cs = some x) (hw : Wok 66 x.1) : ∃ v, cs = encFa v ∧ True := by
  obtain ⟨xs, n, _, hx, hl, hlen, hf⟩ := DataW.trod_struct Try.underlying66 h
  rw [cells_fate] at hl
  obtain ⟨v0, v1, v2, rfl⟩ := list3 hl
  obtain ⟨y0, y1, y2, rfl⟩ := list3 hlen
  have f0 : DataW.trod enc Try.prog w base spare held n 3 [v0] = some y0 := by simpa [cells_int] using hf 0 _ rfl
  have f1 : DataW.trod enc Try.prog w base spare held n 3 [v1] = some y1 := by simpa [cells_int] using hf 1 _ rfl
  have f2 : DataW.trod enc Try.prog w base spare held n 3 [v2] = some y2 := by simpa [cells_int] using hf 2 _ rfl
  obtain ⟨z0, e0⟩ := open_Int f0
  obtain ⟨z1, e1⟩ := open_Int f1
  obtain ⟨z2, e2⟩ := open_Int f2
  injection e0 with e0; injection e1 with e1; injection e2 with e2
  subst e0; subst e1; subst e2
  exact ⟨⟨z0, z1, z2⟩, rfl, trivial⟩
set_option maxRecDepth 20000 in
theorem open_Trip {r : Reach} {b0 : Nat} {v : Value} {d : DataW H} {p : List MemPlace} (hv : Value.okWide Try.prog w r b0 61 v) (h : DataW.Trod enc Try.prog w base spare held 61 v d p) (hw : Wok 61 d) :
    ∃ (P : TripP) (D : TripD), v = P.val D ∧ TripR w P D := by
  obtain ⟨cs, rfl, hsz⟩ := okWide_struct Try.underlying61 hv
  obtain ⟨l⟩ := cs
  rw [cells_trip] at hsz
  obtain ⟨v0, v1, rfl⟩ := list2 hsz
  obtain ⟨fuel, hfu⟩ := h
  obtain ⟨xs, n, _, hx, hl, hlen, hf⟩ := DataW.trod_struct Try.underlying61 hfu
  have hx2 := congrArg Prod.fst hx
  dsimp only at hx2
  rw [hx2] at hw
  obtain ⟨y0, y1, rfl⟩ := list2 hlen
  have f0 : DataW.trod enc Try.prog w base spare held n 3 [v0] = some y0 := by simpa [cells_int, Value.cells] using hf 0 _ rfl
  have f1 : DataW.trod enc Try.prog w base spare held n 59 [v1] = some y1 := by simpa [cells_int, cells_fates, Value.cells] using hf 1 _ rfl
  have w1 := hw.field Try.underlying61 (i := 1) (f := 59) rfl rfl
  obtain ⟨z0, e0⟩ := open_Int f0
  obtain ⟨A1, n1, c1, l1, e1, b1, b2, b3, b4, b5, b6⟩ := open_flatS (e := encFa) (G := fun _ => True) encFa_len (by omega) Try.underlying59 cells_fate bytes_fate (fun _ _ _ h hw => open_FateS h hw) f1 w1
  simp only [List.cons.injEq, and_true] at e0 e1
  subst e0; subst e1
  exact ⟨⟨⟨A1, n1, c1⟩⟩, ⟨z0, l1⟩, rfl, ⟨⟨b1, b2⟩, b3, b4⟩⟩
end
def newI (id n : Int) : WorkD := ⟨id, n, 1, [], 0, 0, [], [], []⟩
theorem newI_may {id n : Int} (hn : isS n = true) (h1 : 1 ≤ id) (h2 : id ≤ n) : WMay (newI id n) :=
  ⟨hn, h1, h2, ⟨by show (1 : Int) ≤ 1; omega, by show (1 : Int) ≤ _; omega⟩, ⟨by show (0 : Int) ≤ 0; omega, by show (0 : Int) ≤ _; omega⟩, ⟨by show (0 : Int) ≤ 0; omega, by show (0 : Int) ≤ _; omega⟩, show 0 ≤ 64 by decide, show 0 ≤ 1024 by decide, fun x hx => (by cases hx), wtP_nil _, hdP_nil, seen_nil⟩
theorem newI_R (w : World) (id n : Int) : WorkR w nilP (newI id n) :=
  ⟨⟨rfl, by simp [flat, newI, nilP], by show 0 ≤ _; omega, fun h => absurd h (by show ¬ 0 < 0; omega)⟩, ⟨rfl, by show 0 ≤ _; omega, fun h => absurd h (by show ¬ 0 < 0; omega)⟩, ⟨rfl, by show 0 ≤ _; omega, fun h => absurd h (by show ¬ 0 < 0; omega)⟩, ⟨rfl, by show 0 ≤ _; omega, fun h => absurd h (by show ¬ 0 < 0; omega)⟩, Nat.le_refl _, by show 0 ≤ _; omega, Nat.le_refl _⟩
set_option maxRecDepth 100000 in
set_option maxHeartbeats 1000000 in
theorem worker_NewI (id n : Int) (w : World) (hn : isS n = true) (h1 : 1 ≤ id) (h2 : id ≤ n) : Calls Try.prog 6 #[.int .i64 id, .int .i64 n] w fun e w' => e = .returned (.tuple #[.agg #[.int .i64 id, .int .i64 n, .int .i64 1, .slice none 0 0, .int .i64 0, .int .i64 0, .slice none 0 0, .slice none 0 0, .slice none 0 0], .int .i64 0]) ∧ Below w.heap.size w w' := by
  have HMY := Lib.hid (wmay_iff.2 (newI_may hn h1 h2))
  clear hn h1 h2
  go_enter Try.func6, Try.ntmps6
  go_wp2_with fail
  refine (worker_May nilP (newI id n) true _ (newI_R _ id n) HMY.out).mono ?_
  rintro e w1 ⟨rfl, hb1⟩
  have hz_w1 : w.heap.size + 2 ≤ w1.heap.size := (by have hq := (hb1).size; (try simp at hq); omega); have hc0_w1 := fun o => (bcell hb1).1 (w.heap.size) o (by first | (simp; done) | (simp; omega) | omega); have hc1_w1 := fun o => (bcell hb1).1 (w.heap.size + 1) o (by first | (simp; done) | (simp; omega) | omega); have hf0_w1 := fun o => (bcell hb1).2 (w.heap.size) o (by first | (simp; done) | (simp; omega) | omega); have hf1_w1 := fun o => (bcell hb1).2 (w.heap.size + 1) o (by first | (simp; done) | (simp; omega) | omega)
  go_wp2_with fail
  exact bodyPost_ret (v := .tuple #[.agg #[.int .i64 id, .int .i64 n, .int .i64 1, .slice none 0 0, .int .i64 0, .int .i64 0, .slice none 0 0, .slice none 0 0, .slice none 0 0], .int .i64 0]) (by simp [results, Try.results6, go_sem, *]) rfl ⟨rfl, belB⟩
def newW (n : Int) : Nat → List WorkD
  | 0 => []
  | i + 1 => newW n i ++ [newI ((i : Int) + 1) n]
theorem newW_len (n : Int) (i : Nat) : (newW n i).length = i := by induction i with | zero => rfl | succ i ih => simp [newW, ih]
theorem newW_at (n : Int) {i k : Nat} (hk : k < i) : wk (newW n i) k = newI ((k : Int) + 1) n := by
  induction i with
  | zero => omega
  | succ i ih =>
    unfold wk newW
    simp only [List.getD_eq_getElem?_getD]
    rcases Nat.lt_or_ge k i with h | h
    · rw [List.getElem?_append_left (by rw [newW_len]; exact h)]
      have := ih h
      unfold wk at this
      simpa only [List.getD_eq_getElem?_getD] using this
    · obtain rfl : k = i := by omega
      rw [List.getElem?_append_right (by rw [newW_len]; exact Nat.le_refl _), newW_len, Nat.sub_self]; rfl
theorem newW_inv {n : Nat} (hn : isS (n : Int) = true) : WorldI n (newW n n) [] [] :=
  ⟨hn, newW_len _ _, fun k hk => by
    rw [newW_at _ hk]
    exact ⟨newI_may hn (by omega) (by omega), rfl, rfl, fun x hx => (by cases hx), fun x hx => (by cases hx), fun x hx => (by cases hx)⟩, fun m hm => (by cases hm), fun b hb => (by cases hb)⟩
theorem cntK_leW (l : List Int) (k : Nat) : cntK l k ≤ k := by
  induction k with
  | zero => exact Nat.le_refl _
  | succ k ih => rw [cntK]; split <;> omega
theorem nodup_lenW {l : List Int} {m : Nat} (hd : l.Nodup) (h : ∀ x ∈ l, 1 ≤ x ∧ x ≤ m) : l.length ≤ m := by
  have h1 := cntK_filter hd (fun x hx => (h x hx).1) m
  rw [List.filter_eq_self.2 (fun x hx => by have := (h x hx).2; simpa using this)] at h1
  have := cntK_leW l m
  omega
theorem OkW.lens {n k : Nat} {ws : List WorkD} {book : List BatchD} {D : WorkD} (h : OkW n ws book k D) : D.wa.length ≤ book.length ∧ D.re.length ≤ book.length ∧ ∀ x ∈ D.wa, x.ak.length ≤ 16 := by
  refine ⟨?_, nodup_lenW h.may.re.2 (fun x hx => ⟨(h.re x hx).1, (h.re x hx).2.1⟩), fun x hx => ?_⟩
  · have hd : (D.wa.map (·.di)).Nodup := by
      rw [List.nodup_iff_pairwise_ne, List.pairwise_map]
      exact h.may.wa.2.imp (fun hab => by omega)
    have := nodup_lenW (m := book.length) hd (fun x hx => by
      obtain ⟨y, hy, rfl⟩ := List.mem_map.1 hx
      exact ⟨(h.wa y hy).1, (h.wa y hy).2.1⟩)
    simpa using this
  · have hr := (h.may.wa.1 x hx).2
    have hb := isS_bd h.may.nodes
    have h1 := hr.cnt (by omega)
    have h2 := cntK_leW x.ak D.nodes.toNat
    omega
theorem OkW.big {n k : Nat} {ws : List WorkD} {book : List BatchD} {D : WorkD} (h : OkW n ws book k D) (hb : book.length ≤ 300) : BigD D :=
  big_of h.may ⟨by have := h.lens.1; omega, fun x hx => by have := h.lens.2.2 x hx; omega⟩ (by have := h.lens.2.1; omega)
theorem uint_mod (x n : Int) (h1 : 1 ≤ n) (h2 : n ≤ 1000000) : ∃ k : Nat, (k : Int) < n ∧ IntKind.u64.wrap x = x % 18446744073709551616 ∧ IntKind.u64.wrap n = n ∧ (x % 18446744073709551616).tmod n = (k : Int) ∧ IntKind.i64.wrap (k : Int) = (k : Int) := by
  have hb := Int.emod_nonneg (x % 18446744073709551616) (show n ≠ 0 by omega)
  have hl := Int.emod_lt_of_pos (x % 18446744073709551616) (show 0 < n by omega)
  refine ⟨(x % 18446744073709551616 % n).toNat, by omega, by rw [IntKind.wrap_u64], by rw [IntKind.wrap_u64]; omega, ?_, IntWalk.i64_in _ (by omega)⟩
  rw [Int.tmod_eq_emod_of_nonneg (by omega)]; omega
/-- A message on its way is small, and read. -/
theorem OkMsg.mil {n : Nat} {ws : List WorkD} {way : List MsgD} {book : List BatchD} (hi : WorldI n ws way book) {m : MsgD} (h : OkMsg n ws book m) : BigM m ∧ (m.ki = 1 ∨ m.ki = 2) ∧ 1 ≤ m.tt ∧ m.tt ≤ n := by
  obtain ⟨fr, tt, h1, h2, h3, h4, h5, h6⟩ := h
  rcases h6 with ⟨d, b, rfl, hb⟩ | ⟨d, rfl, g1, g2, g3⟩
  · have := (bmT_iff.1 (bth_bm hi hb).1).2.2.2.2.2.1
    exact ⟨⟨by show b.tx.length ≤ _; omega, by show 0 ≤ _; omega, by show 0 ≤ _; omega, by show 0 ≤ _; omega, by show 0 ≤ _; omega, by show 0 ≤ _; omega, by show 0 ≤ _; omega⟩, .inl rfl, h3, h4⟩
  · exact ⟨⟨by show 0 ≤ _; omega, by show 0 ≤ _; omega, by show 0 ≤ _; omega, by show 0 ≤ _; omega, by show 0 ≤ _; omega, by show 0 ≤ _; omega, by show 0 ≤ _; omega⟩, .inr rfl, h3, h4⟩
end Go.Proofs.Ytgfakefcmbpboaa
