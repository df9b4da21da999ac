/- Held batches copied, the same; numbers, what was executed, written over. -/
import Derived.Test.YtbakkpabiknlmaaGreatSyQe
import Derived.Test.YtbakkpabiknlmaaGreatSyEs2
namespace Go.Proofs.YtbakkpabiknlmaaGreat
open Go.RowKit
set_option linter.unusedSimpArgs false
set_option linter.unusedVariables false


/-- How an element lies (k cells; β: where its lists lie), and what it is to own its lists from block B on. -/
structure DeepT (α β : Type) where
  t : TypeId
  k : Nat
  enc : α → β → List Value
  inner : World → Nat → β → α → Prop
  k0 : 0 < k
  len : ∀ x p, (enc x p).length = k
  one : ∀ {w B p x}, inner w B p x → ∀ u ∈ enc x p, u.oneCell' = true
  up : ∀ {w w' B p x}, inner w B p x → Below w.heap.size w w' → inner w' B p x
  mono : ∀ {w B B' p x}, inner w B p x → B' ≤ B → inner w B' p x
  low : ∀ {w B p x} {b o : Nat} {u : Value}, inner w B p x → b < B → inner (w.setCell ⟨b, o, none⟩ u) B p x
  grown : ∀ {w w' B B' p x} {v : Value} {n : Nat} {xs : List Value}, inner w B p x → w.ownsRow B' t k v n xs → w.grownBy w' v.ownBlock → inner w' B p x
theorem flatK {k : Nat} : ∀ (ll : List (List Value)), (∀ x ∈ ll, x.length = k) → ∀ (j r : Nat), r < k → ll.flatten[j * k + r]? = (ll[j]?).bind (·[r]?)
  | [], _, j, r, _ => by simp
  | x :: ll, h, 0, r, hr => by
    have hx := h x (by simp)
    simp [List.getElem?_append, hx, hr]
  | x :: ll, h, j + 1, r, hr => by
    have hx := h x (by simp)
    have ih := flatK ll (fun y hy => h y (by simp [hy])) j r hr
    simp only [List.flatten_cons, List.getElem?_cons_succ]
    rw [List.getElem?_append_right (by rw [hx, Nat.succ_mul]; omega), show (j + 1) * k + r - x.length = j * k + r by rw [hx, Nat.succ_mul]; omega, ih]
section
variable {α β : Type} (T : DeepT α β)
def dcells (l : List α) (ps : List β) : List Value := (List.zipWith T.enc l ps).flatten
theorem dcells_snoc {l : List α} {ps : List β} (h : ps.length = l.length) (x : α) (p : β) : dcells T (l ++ [x]) (ps ++ [p]) = dcells T l ps ++ T.enc x p := by
  unfold dcells
  rw [List.zipWith_append h.symm]; simp
end
section
variable {α β : Type} [Inhabited α] [Inhabited β] (T : DeepT α β)
theorem dcells_at {l : List α} {ps : List β} (h : ps.length = l.length) {j r : Nat} (hj : j < l.length) (hr : r < T.k) : (dcells T l ps)[j * T.k + r]? = (T.enc (l.getD j default) (ps.getD j default))[r]? := by
  unfold dcells
  rw [flatK _ (by intro x hx; obtain ⟨i, hi, rfl⟩ := List.getElem_of_mem hx; simp [T.len]) j r hr]
  simp [List.getElem?_zipWith, show j < ps.length by omega, hj]
/-- The slice value v owns, in blocks from B on, these elements and their lists. -/
def OwnT (w : World) (B : Nat) (v : Value) (ps : List β) (l : List α) : Prop :=
  w.ownsRow B T.t T.k v l.length (dcells T l ps) ∧ ps.length = l.length ∧ ∀ j, j < l.length → T.inner w B (ps.getD j default) (l.getD j default)
variable {T}
theorem OwnT.nil (w : World) (B : Nat) : OwnT T w B (.slice none 0 0) [] [] := ⟨World.ownsRow_nil w B _ _, rfl, fun j hj => absurd hj (by simp)⟩
theorem OwnT.up {w w' : World} {B : Nat} {v : Value} {ps : List β} {l : List α} (h : OwnT T w B v ps l) (hb : Below w.heap.size w w') : OwnT T w' B v ps l := ⟨own_up h.1 hb, h.2.1, fun j hj => T.up (h.2.2 j hj) hb⟩
theorem OwnT.low {w : World} {B b o : Nat} {v u : Value} {ps : List β} {l : List α} (h : OwnT T w B v ps l) (hp : b < B) : OwnT T (w.setCell ⟨b, o, none⟩ u) B v ps l := ⟨own_set3 h.1 hp u, h.2.1, fun j hj => T.low (h.2.2 j hj) hp⟩
theorem OwnT.snoc {w w' : World} {B : Nat} {v v' : Value} {ps : List β} {l : List α} {x : α} {p : β} (h : OwnT T w B v ps l) (hin : T.inner w B p x) (hown : w'.ownsRow B T.t T.k v' (l.length + 1) (dcells T l ps ++ T.enc x p)) (hg : w.grownBy w' v.ownBlock) : OwnT T w' B v' (ps ++ [p]) (l ++ [x]) := by
  refine ⟨by rw [dcells_snoc T h.2.1]; simpa using hown, by simp [h.2.1], fun j hj => ?_⟩
  rcases Nat.lt_or_ge j l.length with hj' | hj'
  · have e1 : (ps ++ [p]).getD j default = ps.getD j default := by simp [List.getElem?_append, h.2.1, hj']
    have e2 : (l ++ [x]).getD j default = l.getD j default := by simp [List.getElem?_append, hj']
    rw [e1, e2]
    exact T.grown (h.2.2 j hj') h.1 hg
  · obtain rfl : j = l.length := by simp at hj; omega
    have e1 : (ps ++ [p]).getD l.length default = p := by rw [← h.2.1]; simp
    have e2 : (l ++ [x]).getD l.length default = x := by simp
    rw [e1, e2]
    exact T.grown hin h.1 hg
/-- What is read of such a row. -/
theorem OwnT.read {w : World} {B : Nat} {v : Value} {ps : List β} {l : List α} (h : OwnT T w B v ps l) : ∃ A c, v = .slice A l.length c ∧ l.length ≤ c ∧ c ≤ maxLen ∧ (0 < l.length → ∃ b, A = some ⟨b, 0, none⟩ ∧ B ≤ b ∧ b < w.heap.size ∧ ∀ j, j < l.length → ∀ r u, (T.enc (l.getD j default) (ps.getD j default))[r]? = some u → w.cell? ⟨b, 0 + j * T.k + r, none⟩ = some u) := by
  rcases h.1.2 with ⟨rfl, hn⟩ | ⟨g, cap, cur, rfl, hb, hgg, h1, h2, h3⟩
  · exact ⟨_, _, by rw [hn], by omega, by simp [maxLen], fun h0 => by omega⟩
  · refine ⟨_, _, rfl, h1, h2, fun h0 => ⟨g, rfl, hb, (Array.getElem?_eq_some_iff.1 hgg).1, fun j hj r u hu => ?_⟩⟩
    have hr : r < T.k := by have := (List.getElem?_eq_some_iff.1 hu).1; rw [T.len] at this; exact this
    have := World.ownsRow.cells h.1 (g := g) rfl (j * T.k + r) u (by rw [dcells_at T h.2.1 hj hr]; exact hu)
    rw [Nat.zero_add]
    simpa [Addr.add_lit] using this
end
theorem OwnX.shape {w : World} {B : Nat} {v : Value} {l : List TxD} (h : OwnX w B v l) : v.oneCell' = true := by
  rcases own_shape h with ⟨rfl, _⟩ | ⟨g, c, rfl, _⟩ <;> rfl
theorem own_typeB {w : World} {B k n : Nat} {t : TypeId} {v : Value} {xs : List Value} (h : w.ownsRow B t k v n xs) : ∀ g, v.ownBlock = some g → g < w.heap.size ∧ ∃ cur, w.heap[g]? = some (.cells cur t (0, 0)) := by
  intro g hg
  rcases h.2 with ⟨rfl, _⟩ | ⟨g', cap, cur, rfl, hb, hgg, rest⟩
  · cases hg
  · simp only [Value.ownBlock, Option.map_some] at hg
    injection hg with hg
    subst hg
    exact ⟨(Array.getElem?_eq_some_iff.1 hgg).1, cur, hgg⟩
theorem own_farT {w w' : World} {B B' k k' n n' : Nat} {t t' : TypeId} {u v : Value} {xs ys : List Value} (h : w.ownsRow B t k u n xs) (hv : w.ownsRow B' t' k' v n' ys) (hne : t ≠ t') (hg : w.grownBy w' v.ownBlock) : w'.ownsRow B t k u n xs := by
  refine ⟨h.1, ?_⟩
  rcases h.2 with hn | ⟨g, cap, cur, rfl, hb, hgg, rest⟩
  · exact .inl hn
  · refine .inr ⟨g, cap, cur, rfl, hb, ?_, rest⟩
    rw [hg.block g (Array.getElem?_eq_some_iff.1 hgg).1 (fun e => ?_)]
    · exact hgg
    · obtain ⟨_, c2, e2⟩ := own_typeB hv g e.symm
      rw [hgg] at e2
      injection e2 with e2
      injection e2 with _ e3 _
      exact hne e3
def dHeld : DeepT HeldD Value where
  t := 73
  k := 4
  enc := fun x p => [.int .i64 x.di, .int .i64 x.b.au, .int .i64 x.b.n, p]
  inner := fun w B p x => OwnX w B p x.b.tx
  k0 := by omega
  len := fun _ _ => rfl
  one := fun h u hu => by
    simp only [List.mem_cons, List.not_mem_nil, or_false] at hu
    rcases hu with rfl | rfl | rfl | rfl
    · rfl
    · rfl
    · rfl
    · exact h.shape
  up := fun h hb => h.up hb
  mono := fun h hB => h.mono hB
  low := fun h hp => h.set3 hp _
  grown := fun h hv hg => own_farT h hv (by decide) hg
instance : Inhabited Value := ⟨.slice none 0 0⟩
def OwnHs (w : World) (B : Nat) (v : Value) (l : List HeldD) : Prop := ∃ ps, OwnT dHeld w B v ps l
theorem OwnHs.up {w w' : World} {B : Nat} {v : Value} {l : List HeldD} (h : OwnHs w B v l) (hb : Below w.heap.size w w') : OwnHs w' B v l := let ⟨ps, h⟩ := h; ⟨ps, h.up hb⟩
theorem OwnHs.low {w : World} {B b o : Nat} {v u : Value} {l : List HeldD} (h : OwnHs w B v l) (hp : b < B) : OwnHs (w.setCell ⟨b, o, none⟩ u) B v l := let ⟨ps, h⟩ := h; ⟨ps, h.low hp⟩
def BigH (l : List HeldD) : Prop := l.length ≤ 800000000 ∧ ∀ x ∈ l, x.b.tx.length ≤ 800000000
theorem getD_mem {α : Type} [Inhabited α] {l : List α} {j : Nat} (h : j < l.length) : l.getD j default ∈ l := by simp [h]
theorem OwnHs.helds {w : World} {B : Nat} {v : Value} {l : List HeldD} (h : OwnHs w B v l) (hs : BigH l) : ∃ A c, v = .slice A l.length c ∧ HeldsR w A l.length l ∧ l.length ≤ c ∧ c ≤ 9223372036854775807 := by
  obtain ⟨ps, h⟩ := h
  obtain ⟨A, c, e, h1, h2, h3⟩ := h.read
  refine ⟨A, c, e, ⟨rfl, by have := hs.1; omega, fun h0 => ?_⟩, h1, by simpa [maxLen] using h2⟩
  obtain ⟨b, eA, hB, hb, hc⟩ := h3 h0
  refine ⟨b, 0, eA, hb, fun j hj => ?_⟩
  have hin : OwnX w B (ps.getD j default) (l.getD j default).b.tx := h.2.2 j hj
  obtain ⟨A', c', e', hx, _⟩ := hin.txs (by have := hs.2 _ (getD_mem hj); omega)
  have hq := hc j hj
  rw [e'] at hq
  exact ⟨A', _, c', ⟨hq 0 _ rfl, hq 1 _ rfl, hq 2 _ rfl, hq 3 _ rfl⟩, hx⟩

theorem info_Held : (Tryz.prog.info? 73).map (fun i => (i.zero, i.size, i.bytes)) = some (some (.agg #[.int .i64 0, .int .i64 0, .int .i64 0, .slice none 0 0]), 4, 48) := by kernel_rfl
theorem run_app_Held (w : World) (B : Nat) (v : Value) (n : Nat) (xs : List Value) (hown : w.ownsRow B 73 4 v n xs) (vb off m c : Nat) (e : List Value) (hm : e.length = m * 4) (hv : ∀ j u, e[j]? = some u → w.cell? ⟨vb, off + j, none⟩ = some u) (h1e : ∀ u ∈ e, u.oneCell' = true) (hn : n + m ≤ 1000000000) (hB : B ≤ w.heap.size) :
    ∃ v' w', (Builtin.append_ #[38, 38] 38 #[v, .slice (some ⟨vb, off, none⟩) m c]).run Tryz.prog w = .ok v' w' ∧ w'.ownsRow B 73 4 v' (n + m) (xs ++ e) ∧ w.grownBy w' v.ownBlock ∧ Below B w w' ∧ (v'.ownBlock = v.ownBlock ∨ v'.ownBlock = some w.heap.size) := by
  obtain ⟨i0, hi, hz, hz1, hz2⟩ := info_parts info_Held
  obtain ⟨v', w', hrun, h2, h3, _, h5⟩ := run_append_own_at (P := Tryz.prog) w B 38 38 73 i0 _ 4 48 Tryz.underlying38 hi hz hz1 hz2 rfl (by omega) v n xs hown ⟨vb, off, none⟩ m c e hm
    (by intro j u hu; rw [Addr.add_lit]; exact hv j u hu) h1e (by simp only [maxLen]; omega) (by omega) hB
  exact ⟨v', w', hrun, h2, h3, ⟨h3.os, h3.tape, h3.output, h3.size, fun k hk => h3.block k (by omega) (fun e => by have := (own_lt hown k e.symm).1; omega)⟩, h5⟩
set_option maxRecDepth 100000 in
set_option maxHeartbeats 1000000 in
theorem ref0_CopyBatchO (b : BatchD) (A : Option Addr) (n c : Nat) (w : World) (hl : TxsR w A n b.tx) (hn : n ≤ 800000000) :
    Calls Tryz.prog 58 #[.agg #[.int .i64 b.au, .int .i64 b.n, .slice A n c]] w fun e w' => ∃ v, e = .returned (.agg #[.int .i64 b.au, .int .i64 b.n, v]) ∧ OwnX w' w.heap.size v b.tx ∧ Below w.heap.size w w' := by
  have HL := Lib.hid hl
  have HN := Lib.hid hl.1
  clear hl
  go_enter Tryz.func58, Tryz.ntmps58
  go_wp2_with fail
  refine (ref0_CopyTxs A n c b.tx _ (HL.out.up (by (repeat (first | (with_reducible exact Below.refl _ _) | (with_reducible assumption) | (with_reducible apply bel_alloc) | (with_reducible apply bel_drew) | (with_reducible apply bel_drewN) | (with_reducible refine bel_trans ?_ (by with_reducible assumption)) | (with_reducible refine bel_trans ?_ (HF.out _)) | ((with_reducible refine bel_set3 ?_ ?_); rotate_left; omega))))) hn).mono ?_
  rintro e w1 ⟨v, rfl, hown, hb1⟩
  obtain ⟨A1, c1, rfl, hx, _⟩ := hown.txs (by rw [HN.out]; omega)
  rw [HN.out] at hx hown ⊢
  have hown' := hown.mono (B' := w.heap.size + 3) (by simp)
  have HO := Lib.hid hown'
  clear hown hown' hx
  have hz_w1 : w.heap.size + 3 ≤ w1.heap.size := (by have hq := (hb1).size; (try simp at hq); omega); have hc0_w1 := fun o => (bcell hb1).1 (w.heap.size) o (by first | (simp; done) | (simp; omega) | omega); have hc1_w1 := fun o => (bcell hb1).1 (w.heap.size + 1) o (by first | (simp; done) | (simp; omega) | omega); have hc2_w1 := fun o => (bcell hb1).1 (w.heap.size + 2) o (by first | (simp; done) | (simp; omega) | omega); have hf0_w1 := fun o => (bcell hb1).2 (w.heap.size) o (by first | (simp; done) | (simp; omega) | omega); have hf1_w1 := fun o => (bcell hb1).2 (w.heap.size + 1) o (by first | (simp; done) | (simp; omega) | omega); have hf2_w1 := fun o => (bcell hb1).2 (w.heap.size + 2) o (by first | (simp; done) | (simp; omega) | omega)
  go_wp2_with fail
  have ho2 := (((HO.out.set3 (b := w.heap.size + 1 + 1) (o := 2) (by omega) (.slice A1 n c1)).set3 (b := w.heap.size + 1) (o := 0) (by omega) (.int .i64 b.au)).set3 (b := w.heap.size + 1) (o := 1) (by omega) (.int .i64 b.n)).set3 (b := w.heap.size + 1) (o := 2) (by omega) (.slice A1 n c1)
  exact bodyPost_ret (v := .agg #[.int .i64 b.au, .int .i64 b.n, .slice A1 n c1]) (by simp [results, Tryz.results58, go_sem, hc0_w1, hc1_w1, hc2_w1]) rfl ⟨_, rfl, ho2.mono (by omega), by (repeat (first | (with_reducible exact Below.refl _ _) | (with_reducible assumption) | (with_reducible apply bel_alloc) | (with_reducible apply bel_drew) | (with_reducible apply bel_drewN) | (with_reducible refine bel_trans ?_ (by with_reducible assumption)) | (with_reducible refine bel_trans ?_ (HF.out _)) | ((with_reducible refine bel_set3 ?_ ?_); rotate_left; omega)))⟩
set_option maxRecDepth 100000 in
set_option maxHeartbeats 1000000 in
theorem ref0_CopyHeld (x : HeldD) (A : Option Addr) (n c : Nat) (w : World) (hl : TxsR w A n x.b.tx) (hn : n ≤ 800000000) :
    Calls Tryz.prog 36 #[.agg #[.int .i64 x.di, .int .i64 x.b.au, .int .i64 x.b.n, .slice A n c]] w fun e w' => ∃ v, e = .returned (.agg #[.int .i64 x.di, .int .i64 x.b.au, .int .i64 x.b.n, v]) ∧ OwnX w' w.heap.size v x.b.tx ∧ Below w.heap.size w w' := by
  have HL := Lib.hid hl
  have HN := Lib.hid hl.1
  clear hl
  go_enter Tryz.func36, Tryz.ntmps36
  go_wp2_with fail
  refine (ref0_CopyBatchO x.b A n c _ (HL.out.up (by (repeat (first | (with_reducible exact Below.refl _ _) | (with_reducible assumption) | (with_reducible apply bel_alloc) | (with_reducible apply bel_drew) | (with_reducible apply bel_drewN) | (with_reducible refine bel_trans ?_ (by with_reducible assumption)) | (with_reducible refine bel_trans ?_ (HF.out _)) | ((with_reducible refine bel_set3 ?_ ?_); rotate_left; omega))))) hn).mono ?_
  rintro e w1 ⟨v, rfl, hown, hb1⟩
  obtain ⟨A1, c1, rfl, hx, _⟩ := hown.txs (by rw [HN.out]; omega)
  rw [HN.out] at hx hown ⊢
  have hown' := hown.mono (B' := w.heap.size + 3) (by simp)
  have HO := Lib.hid hown'
  clear hown hown' hx
  have hz_w1 : w.heap.size + 3 ≤ w1.heap.size := (by have hq := (hb1).size; (try simp at hq); omega); have hc0_w1 := fun o => (bcell hb1).1 (w.heap.size) o (by first | (simp; done) | (simp; omega) | omega); have hc1_w1 := fun o => (bcell hb1).1 (w.heap.size + 1) o (by first | (simp; done) | (simp; omega) | omega); have hc2_w1 := fun o => (bcell hb1).1 (w.heap.size + 2) o (by first | (simp; done) | (simp; omega) | omega); have hf0_w1 := fun o => (bcell hb1).2 (w.heap.size) o (by first | (simp; done) | (simp; omega) | omega); have hf1_w1 := fun o => (bcell hb1).2 (w.heap.size + 1) o (by first | (simp; done) | (simp; omega) | omega); have hf2_w1 := fun o => (bcell hb1).2 (w.heap.size + 2) o (by first | (simp; done) | (simp; omega) | omega)
  go_wp2_with fail
  exact bodyPost_ret (v := .agg #[.int .i64 x.di, .int .i64 x.b.au, .int .i64 x.b.n, .slice A1 n c1]) (by simp [results, Tryz.results36, go_sem, hc0_w1, hc1_w1, hc2_w1]) rfl ⟨_, rfl, (by (refine OwnX.mono (B := w.heap.size + 3) ?_ (by omega)); (repeat (first | (with_reducible exact HO.out) | ((with_reducible refine OwnX.set3 ?_ ?_ _); rotate_left; (omega))))), by (repeat (first | (with_reducible exact Below.refl _ _) | (with_reducible assumption) | (with_reducible apply bel_alloc) | (with_reducible apply bel_drew) | (with_reducible apply bel_drewN) | (with_reducible refine bel_trans ?_ (by with_reducible assumption)) | (with_reducible refine bel_trans ?_ (HF.out _)) | ((with_reducible refine bel_set3 ?_ ?_); rotate_left; omega)))⟩
set_option maxRecDepth 100000 in
set_option maxHeartbeats 2000000 in
theorem ref0_CopyHelds (A : Option Addr) (n c : Nat) (l : List HeldD) (w : World) (hl : HeldsR w A n l) (hs : BigH l) :
    Calls Tryz.prog 12 #[.slice A n c] w fun e w' => ∃ v, e = .returned v ∧ OwnHs w' w.heap.size v l ∧ Below w.heap.size w w' := by
  have HL := Lib.hid hl
  have hN := hl.1
  have hn : n ≤ 800000000 := by rw [← hN]; exact hs.1
  have HN := Lib.hid hN
  have HS := Lib.hid hs
  clear hl hN hs
  suffices h : Calls Tryz.prog 12 #[.slice A n c] w fun e w' => ∃ v ps, e = .returned v ∧ OwnT dHeld w' w.heap.size v ps l ∧ Below w.heap.size w w' from h.mono fun e w' ⟨v, ps, h1, h2, h3⟩ => ⟨v, h1, ⟨ps, h2⟩, h3⟩
  go_enter Tryz.func12, Tryz.ntmps12
  go_wp2_with fail
  go_loopw [3, 4] (fun v i wr => ∃ (j : Nat) (ps : List Value), j ≤ n ∧ i = .int .i64 j ∧ OwnT dHeld wr w.heap.size v ps (l.take j) ∧ Below w.heap.size w wr) (fun _ i _ => n - (intOf i).toNat)
  case atStart => exact ⟨0, [], Nat.zero_le _, rfl, OwnT.nil _ _, Below.refl _ _⟩
  case round =>
    obtain ⟨j, ps, hj, rfl, hown, hbw⟩ := hrel
    (obtain ⟨wk, hwk⟩ : ∃ x, x = wr := ⟨_, rfl⟩); subst hwk
    by_cases hlt : j < n
    · obtain ⟨b, off, rfl, hb, hc⟩ := (HL.out.up hbw).2.2 (by omega)
      obtain ⟨B, m, d, ⟨c0, c1, c2, c3⟩, hin⟩ := hc j hlt
      have hm : m ≤ 800000000 := by rw [← hin.1]; exact HS.out.2 _ (getD_mem (by rw [HN.out]; exact hlt))
      have htk : l.take (j + 1) = l.take j ++ [hth l j] := by rw [List.take_succ_eq_append_getElem (by rw [HN.out]; exact hlt)]; simp [hth, show j < l.length by rw [HN.out]; exact hlt]
      have HTK := Lib.hid htk
      obtain ⟨x, hx⟩ : ∃ x, hth l j = x := ⟨_, rfl⟩
      rw [hx] at hin c0 c1 c2
      have HX := Lib.hid hx
      have HIN := Lib.hid hin
      have hlenj : (l.take j).length ≤ j := by simp; omega
      have hsz := hbw.size
      have HO := Lib.hid hown
      clear hc hin hx htk hown
      go_wp2_with fail
      refine (ref0_CopyHeld x B m d _ HIN.out hm).mono ?_
      rintro e w1 ⟨v1, rfl, ho1, hb1⟩
      have HO1 := Lib.hid (HO.out.up hb1)
      have HI1 := Lib.hid ho1
      have hbx := BoxR.new w1 [.int .i64 x.di, .int .i64 x.b.au, .int .i64 x.b.n, v1] 73
      have hba : Below w1.heap.size w1 (w1.alloc (.cells #[.int .i64 x.di, .int .i64 x.b.au, .int .i64 x.b.n, v1] 73)) := by (repeat (first | (with_reducible exact Below.refl _ _) | (with_reducible assumption) | (with_reducible apply bel_alloc) | (with_reducible apply bel_drew) | (with_reducible apply bel_drewN) | (with_reducible refine bel_trans ?_ (by with_reducible assumption)) | (with_reducible refine bel_trans ?_ (HF.out _)) | ((with_reducible refine bel_set3 ?_ ?_); rotate_left; omega)))
      have HBX := Lib.hid hbx
      have hsz1 : w.heap.size ≤ w1.heap.size := Nat.le_trans hsz hb1.size
      have hsz2 : w.heap.size ≤ (w1.alloc (.cells #[.int .i64 x.di, .int .i64 x.b.au, .int .i64 x.b.n, v1] 73)).heap.size := Nat.le_trans hsz1 hba.size
      have HSZ := Lib.hid hsz2
      clear ho1 hbx hsz2
      obtain ⟨v2, w2, hrun, h2, h3, h4, h5⟩ := run_app_Held (w1.alloc (.cells #[.int .i64 x.di, .int .i64 x.b.au, .int .i64 x.b.n, v1] 73)) w.heap.size u3 (l.take j).length (dcells dHeld (l.take j) ps) ((HO1.out.up hba).1) w1.heap.size 0 1 1 [.int .i64 x.di, .int .i64 x.b.au, .int .i64 x.b.n, v1] rfl (fun r u hu => by rw [Nat.zero_add]; exact HBX.out.2 r u hu) (dHeld.one (w := w1) (B := wk.heap.size) (p := v1) (x := x) HI1.out) (by omega) HSZ.out
      have hnew : OwnT dHeld w2 w.heap.size v2 (ps ++ [v1]) (l.take (j + 1)) := by
        rw [HTK.out, HX.out]
        exact (HO1.out.up hba).snoc (dHeld.up (dHeld.mono HI1.out hsz) hba) h2 h3
      have HNEW := Lib.hid hnew
      have HRUN := Lib.hid hrun
      clear hrun h2 h3 h5 hnew
      go_wp2_with (at_builtin; refine Lib.wpList_append_run _ rfl (.tmp 11) (.tmp 17) _ _ rfl _ _ rfl rfl _ _ HRUN.out ?_)
      (first | (go_round; (case rel => exact ⟨j + 1, ps ++ [v1], by omega, by go_num, HNEW.out, Below.trans (bel_trans (bel_trans hbw hb1) hba) h4⟩); (case measure => (simp [intOf] <;> omega))) | (go_roundw; (case rel => exact ⟨j + 1, ps ++ [v1], by omega, by go_num, HNEW.out, Below.trans (bel_trans (bel_trans hbw hb1) hba) h4⟩); (case measure => (simp [intOf] <;> omega))) | (refine ⟨?_, by simp [intOf] <;> omega⟩; (repeat apply Exists.intro); refine ⟨?rel, ?fr⟩; (case fr => ((repeat' apply And.intro) <;> rfl)); (case rel => exact ⟨j + 1, ps ++ [v1], by omega, by go_num, HNEW.out, Below.trans (bel_trans (bel_trans hbw hb1) hba) h4⟩)))
    · go_wp2_with fail
      go_ret
      have e : l.take j = l := List.take_of_length_le (by rw [HN.out]; omega)
      rw [e] at hown
      exact ⟨_, _, rfl, hown, hbw⟩

set_option maxRecDepth 100000 in
set_option maxHeartbeats 1000000 in
theorem ref0_EqHeld (x : HeldD) (A : Option Addr) (n c : Nat) (A' : Option Addr) (n' c' : Nat) (w : World) (hl : TxsR w A n x.b.tx) (hl' : TxsR w A' n' x.b.tx) :
    Calls Tryz.prog 40 #[.agg #[.int .i64 x.di, .int .i64 x.b.au, .int .i64 x.b.n, .slice A n c], .agg #[.int .i64 x.di, .int .i64 x.b.au, .int .i64 x.b.n, .slice A' n' c']] w fun e w' => e = .returned (.bool true) ∧ Below w.heap.size w w' := by
  have HL := Lib.hid hl
  have HL' := Lib.hid hl'
  clear hl hl'
  go_enter Tryz.func40, Tryz.ntmps40
  go_wp2_with fail
  refine (ref0_EqBatch x.b _ _ _ _ _ _ _ (HL.out.up (by (repeat (first | (with_reducible exact Below.refl _ _) | (with_reducible assumption) | (with_reducible apply bel_alloc) | (with_reducible apply bel_drew) | (with_reducible apply bel_drewN) | (with_reducible refine bel_trans ?_ (by with_reducible assumption)) | (with_reducible refine bel_trans ?_ (HF.out _)) | ((with_reducible refine bel_set3 ?_ ?_); rotate_left; omega))))) (HL'.out.up (by (repeat (first | (with_reducible exact Below.refl _ _) | (with_reducible assumption) | (with_reducible apply bel_alloc) | (with_reducible apply bel_drew) | (with_reducible apply bel_drewN) | (with_reducible refine bel_trans ?_ (by with_reducible assumption)) | (with_reducible refine bel_trans ?_ (HF.out _)) | ((with_reducible refine bel_set3 ?_ ?_); rotate_left; omega)))))).mono ?_
  rintro e w1 ⟨rfl, hb1⟩
  go_wp2_with fail
  go_ret
  exact ⟨rfl, by (repeat (first | (with_reducible exact Below.refl _ _) | (with_reducible assumption) | (with_reducible apply bel_alloc) | (with_reducible apply bel_drew) | (with_reducible apply bel_drewN) | (with_reducible refine bel_trans ?_ (by with_reducible assumption)) | (with_reducible refine bel_trans ?_ (HF.out _)) | ((with_reducible refine bel_set3 ?_ ?_); rotate_left; omega)))⟩
set_option maxRecDepth 100000 in
set_option maxHeartbeats 2000000 in
theorem ref0_EqHelds (A : Option Addr) (n c : Nat) (A' : Option Addr) (n' c' : Nat) (l : List HeldD) (w : World) (hl : HeldsR w A n l) (hl' : HeldsR w A' n' l) :
    Calls Tryz.prog 14 #[.slice A n c, .slice A' n' c'] w fun e w' => e = .returned (.bool true) ∧ Below w.heap.size w w' := by
  have hnn : n' = n := by rw [← hl.1, ← hl'.1]
  subst hnn
  have HL := Lib.hid hl
  have HL' := Lib.hid hl'
  have hn : n' ≤ 9223372036854775807 := hl.2.1
  clear hl hl'
  go_enter Tryz.func14, Tryz.ntmps14
  go_wp2_with fail
  go_loopw [5] (fun si wr => ∃ k : Nat, k ≤ n' ∧ si = .int .i64 k ∧ Below w.heap.size w wr) (fun si _ => n' - (intOf si).toNat)
  case atStart => exact ⟨0, Nat.zero_le _, rfl, Below.refl _ _⟩
  case round =>
    obtain ⟨k, hk, rfl, hbw⟩ := hrel
    (obtain ⟨wk, hwk⟩ : ∃ x, x = wr := ⟨_, rfl⟩); subst hwk
    by_cases hlt : k < n'
    · obtain ⟨b, off, rfl, hb, hc⟩ := (HL.out.up hbw).2.2 (by omega)
      obtain ⟨B, m, d, ⟨c0, c1, c2, c3⟩, hin⟩ := hc k hlt
      obtain ⟨b', off', rfl, hb', hc'⟩ := (HL'.out.up hbw).2.2 (by omega)
      obtain ⟨B', m', d', ⟨f0, f1, f2, f3⟩, hin'⟩ := hc' k hlt
      have HIN := Lib.hid hin
      have HIN' := Lib.hid hin'
      clear hc hc' hin hin'
      go_wp2_with fail
      refine wp_region_fam (by kernel_rfl) (by kernel_rfl) (fun ι F hne hF hcl => ?_)
      have hcF0 := fun n o => (bcell (hF n)).1 (b) o (by first | (simp; done) | (simp; omega) | omega)
      have hcF1 := fun n o => (bcell (hF n)).1 (b') o (by first | (simp; done) | (simp; omega) | omega)
      have HF := Lib.hid hF; clear hF
      have HC := Lib.hid hcl; clear hcl
      repeat (any_goals (first
       | go_big_quiet_step (first | (go_at_call 40; exact Calls.fam HC.out (ref0_EqHeld (hth l k) B m d B' m' d' _ (HIN.out.up (HF.out _)) (HIN'.out.up (HF.out _)))))
       | (refine wpQuiet_guard _ _ _ rfl rfl ?_; (fail_if_success (intro b' hb; have h2 := hb.symm; have : b' = true := h2.trans (by with_reducible rfl))); (fail_if_success (intro b' hb; have h2 := hb.symm; have : b' = false := h2.trans (by with_reducible rfl))); intro b' hb; simp only [hb]; cases b' <;> (try simp only [Bool.not_eq_true', Bool.not_eq_false', decide_eq_true_eq, decide_eq_false_iff_not, Int.not_lt, Int.not_le, Bool.and_eq_true, Bool.or_eq_true, Bool.or_eq_false_iff, beq_iff_eq, beq_eq_false_iff_ne, Int.natCast_pos] at hb))))
      all_goals (refine wpQuiet_nil ?_; intro nq)
      all_goals (try (exfalso; omega))
      have hFwf := HF.out nq
      clear HF HC hne
      generalize F nq = wf at *
      go_wp2_with fail
      (first | (go_round; (case rel => exact ⟨k + 1, by omega, by go_num, bel_trans hbw hFwf⟩); (case measure => (simp [intOf] <;> omega))) | (go_roundw; (case rel => exact ⟨k + 1, by omega, by go_num, bel_trans hbw hFwf⟩); (case measure => (simp [intOf] <;> omega))) | (refine ⟨?_, by simp [intOf] <;> omega⟩; (repeat apply Exists.intro); refine ⟨?rel, ?fr⟩; (case fr => ((repeat' apply And.intro) <;> rfl)); (case rel => exact ⟨k + 1, by omega, by go_num, bel_trans hbw hFwf⟩)))
    · go_wp2_with fail
      go_ret
      exact ⟨rfl, hbw⟩
theorem grown_tr {a b c : World} {row : Option Nat} (h : a.grownBy b row) (k : b.grownBy c row) : a.grownBy c row := ⟨k.os.trans h.os, k.tape.trans h.tape, k.output.trans h.output, Nat.le_trans h.size k.size, fun i hi hn => (k.block i (Nat.lt_of_lt_of_le hi h.size) hn).trans (h.block i hi hn)⟩
theorem grown_set {w x : World} {g o : Nat} {row : Option Nat} {u : Value} (h : w.grownBy x row) (hr : row = some g) : w.grownBy (x.setCell ⟨g, o, none⟩ u) row := by
  subst hr
  refine ⟨h.os, h.tape, h.output, ?_, fun i hi hn => (Below.heap_setCell _ _ _ i (fun e => hn (by rw [e]))).trans (h.block i hi hn)⟩
  have := h.size; simpa using this
theorem grown_all {w x : World} {row : Option Nat} (h : w.grownBy x row) (o : Obj) : w.grownBy (x.alloc o) row := grown_tr h (World.grownBy_alloc x o row)
set_option maxRecDepth 100000 in
set_option maxHeartbeats 1000000 in
theorem law0_NumbersG (v : Value) (l : List Int) (B : Nat) (w : World) (hown : OwnI w B v l) (hlen : l.length ≤ 1000000) (hB : B ≤ w.heap.size) :
    Calls Tryz.prog 19 #[v] w fun e w' => e = .returned (.tuple #[]) ∧ w.grownBy w' v.ownBlock ∧ Below B w w' := by
  rcases hown.shape with ⟨rfl, rfl⟩ | ⟨g, c, rfl, hgB⟩
  · have HO := Lib.hid hown; clear hown
    go_enter Tryz.func19, Tryz.ntmps19
    go_wp2_with fail
    go_loop [2] (fun i => i = .int .i64 0) (fun _ => 0)
    case atStart => rfl
    case round =>
      obtain rfl := hrel
      go_wp2_with (at_builtin; refine wpList_app1 rfl (.tmp 12) (.tmp 13) rfl B _ _ rfl (HO.out.alloc _) _ 5 rfl (cell0_alloc _ _ _) (by simp) (le_alloc hB) ?_; intro v1 w1 hown1 hg1 hbel1 hat1)
      go_end0
      exact ⟨rfl, grown_tr (grown_all (World.grownBy.refl _ _) _) hg1, Below.trans ((Below.refl _ _).alloc hB _) hbel1⟩
  · obtain ⟨n, hn⟩ : ∃ n, n = l.length := ⟨_, rfl⟩
    rw [← hn] at hown hlen ⊢
    have HN := Lib.hid hn; clear hn
    have hob : (Value.slice (some ⟨g, 0, none⟩) n c).ownBlock = some g := rfl
    have HOB := Lib.hid hob; clear hob
    go_enter Tryz.func19, Tryz.ntmps19
    go_wp2_with fail
    go_loopw [2] (fun i wr => ∃ (k : Nat) (cur : List Int), k ≤ n ∧ i = .int .i64 k ∧ Hid (cur.length = n) ∧ OwnI wr B (.slice (some ⟨g, 0, none⟩) n c) cur ∧ Hid (w.grownBy wr (Value.slice (some ⟨g, 0, none⟩) n c).ownBlock) ∧ Below B w wr) (fun i _ => n - (intOf i).toNat)
    case atStart => exact ⟨0, l, by omega, rfl, HN.out.symm, hown, Lib.hid (World.grownBy.refl _ _), Below.refl _ _⟩
    case round =>
      clear hown
      obtain ⟨k, cur, hk, rfl, hcl, hown, HG, hbw⟩ := hrel
      by_cases hlt : k < n
      · obtain ⟨c1, f1⟩ := hown.get (i := k) (by rw [hcl.out]; omega)
        go_wp2_with fail
        (first | (go_round; (case rel => exact ⟨k + 1, cur.set k (-99), by omega, by go_num, Lib.hid (by have q := hcl.out; simpa using q), hown.put (by rw [hcl.out]; omega), Lib.hid (grown_set HG.out HOB.out), hbw.setCell hgB _⟩); (case measure => (simp [intOf] <;> omega))) | (go_roundw; (case rel => exact ⟨k + 1, cur.set k (-99), by omega, by go_num, Lib.hid (by have q := hcl.out; simpa using q), hown.put (by rw [hcl.out]; omega), Lib.hid (grown_set HG.out HOB.out), hbw.setCell hgB _⟩); (case measure => (simp [intOf] <;> omega))) | (refine ⟨?_, by simp [intOf] <;> omega⟩; (repeat apply Exists.intro); refine ⟨?rel, ?fr⟩; (case fr => ((repeat' apply And.intro) <;> rfl)); (case rel => exact ⟨k + 1, cur.set k (-99), by omega, by go_num, Lib.hid (by have q := hcl.out; simpa using q), hown.put (by rw [hcl.out]; omega), Lib.hid (grown_set HG.out HOB.out), hbw.setCell hgB _⟩)))
      · have hsz := hbw.size
        go_wp2_with (at_builtin; refine wpList_app1 rfl (.tmp 12) (.tmp 13) rfl B _ cur rfl (hown.alloc _) _ 5 rfl (cell0_alloc _ _ _) (by rw [hcl.out]; omega) (le_alloc (Nat.le_trans hB hsz)) ?_; intro v1 w1 hown1 hg1 hbel1 hat1)
        go_end0
        exact ⟨rfl, grown_tr (grown_all HG.out _) hg1, Below.trans (hbw.alloc (Nat.le_trans hB hsz) _) hbel1⟩
/-- All but two blocks lie as they lay. -/
def But2 (u v : Value) (w w' : World) : Prop := ∀ k, k < w.heap.size → u.ownBlock ≠ some k → v.ownBlock ≠ some k → w'.heap[k]? = w.heap[k]?
theorem But2.refl (u v : Value) (w : World) : But2 u v w w := fun _ _ _ _ => rfl
theorem But2.all {u v : Value} {w x : World} (h : But2 u v w x) (hs : w.heap.size ≤ x.heap.size) (o : Obj) : But2 u v w (x.alloc o) := fun k hk h1 h2 => (Below.heap_alloc _ _ k (by omega)).trans (h k hk h1 h2)
theorem But2.set1 {u v : Value} {w x : World} {g o : Nat} {y : Value} (h : But2 u v w x) (hu : u.ownBlock = some g) : But2 u v w (x.setCell ⟨g, o, none⟩ y) := fun k hk h1 h2 => (Below.heap_setCell _ _ _ k (fun e => h1 (by rw [e]; exact hu))).trans (h k hk h1 h2)
theorem But2.set2 {u v : Value} {w x : World} {g o : Nat} {y : Value} (h : But2 u v w x) (hv : v.ownBlock = some g) : But2 u v w (x.setCell ⟨g, o, none⟩ y) := fun k hk h1 h2 => (Below.heap_setCell _ _ _ k (fun e => h2 (by rw [e]; exact hv))).trans (h k hk h1 h2)
set_option maxRecDepth 100000 in
set_option maxHeartbeats 2000000 in
theorem law0_TableB (vp va : Value) (l : List PairD) (q : List AcctD) (B : Nat) (w : World) (hp : OwnP w B vp l) (ha : OwnA w B va q) (hD : Disj vp va) (hB : B ≤ w.heap.size) (hlp : l.length ≤ 1000000) (hlq : q.length ≤ 1000000) :
    Calls Tryz.prog 48 #[.agg #[vp, va]] w fun e w' => e = .returned (.tuple #[]) ∧ But2 vp va w w' ∧ Below B w w' := by
  obtain ⟨Ap, cp, rfl, _⟩ := hp.pairs (by omega)
  obtain ⟨Aa, ca, rfl, _⟩ := ha.accts (by omega)
  obtain ⟨n, hn⟩ : ∃ n, l.length = n := ⟨_, rfl⟩
  obtain ⟨m, hm⟩ : ∃ m, q.length = m := ⟨_, rfl⟩
  unfold OwnP at hp
  unfold OwnA at ha
  rw [hn] at hp hlp hD ⊢
  rw [hm] at ha hlq hD ⊢
  have nzp : 0 < n → ∃ g, Ap = some ⟨g, 0, none⟩ ∧ B ≤ g ∧ g < w.heap.size := own_nz hp
  have nza : 0 < m → ∃ g, Aa = some ⟨g, 0, none⟩ ∧ B ≤ g ∧ g < w.heap.size := own_nz ha
  have HP := Lib.hid hp
  have HA := Lib.hid ha
  have HD := Lib.hid hD
  have NZP := Lib.hid nzp
  have NZA := Lib.hid nza
  clear hp ha hD nzp nza hn hm
  go_enter Tryz.func48, Tryz.ntmps48
  go_wp2_with fail
  go_loopw [2] (fun si wr => ∃ (k : Nat) (xs : List Value), k ≤ n ∧ si = .int .i64 k ∧ Hid (wr.ownsRow B 91 2 (.slice Ap n cp) n xs) ∧ Hid (wr.ownsRow B 93 2 (.slice Aa m ca) m (flat encA q)) ∧ Hid (Blk wr w.heap.size 25 [.slice Ap n cp, .slice Aa m ca]) ∧ Hid (But2 (.slice Ap n cp) (.slice Aa m ca) w wr) ∧ Below B w wr) (fun si _ => n - (intOf si).toNat)
  case atStart => exact ⟨0, _, Nat.zero_le _, rfl, Lib.hid (own_alloc HP.out _), Lib.hid (own_alloc HA.out _), Lib.hid (Blk.new w 25 [.slice Ap n cp, .slice Aa m ca]), Lib.hid ((But2.refl _ _ _).all (Nat.le_refl _) _), (Below.refl _ _).alloc hB _⟩
  case round =>
    obtain ⟨k, xs, hk, rfl, HO, HA2, HT, HU, hbw⟩ := hrel
    (obtain ⟨wk, hwk⟩ : ∃ x, x = wr := ⟨_, rfl⟩); subst hwk
    have t_0 := (HT.out.box).2 0 _ rfl; have t_1 := (HT.out.box).2 1 _ rfl
    have hg0 := HT.out.lt
    by_cases hlt : k < n
    · obtain ⟨g, rfl, hgB, hgl⟩ := NZP.out (by omega)
      obtain ⟨g1, f1⟩ := own_get HO.out
      obtain ⟨u0, hu0⟩ := own_any HO.out (j := k * 2) (by omega)
      obtain ⟨u1, hu1⟩ := own_any HO.out (j := k * 2 + 1) (by omega)
      have c0 := g1 _ _ hu0
      have c1 := g1 _ _ hu1
      have hne : w.heap.size ≠ g := by omega
      have hda : (Value.slice Aa m ca).ownBlock ≠ some g := HD.out g rfl
      clear g1 hu0 hu1
      go_wp2_with fail
      (first | (go_round; (case rel => exact ⟨k + 1, _, by omega, by go_num, Lib.hid (own_put (own_put HO.out (by omega)) (by omega)), Lib.hid (own_setD (own_setD HA2.out hda _) hda _), Lib.hid ((HT.out.far (p := ⟨g, k * 2, none⟩) hne _).far (p := ⟨g, k * 2 + 1, none⟩) hne _), Lib.hid ((HU.out.set1 rfl).set1 rfl), (hbw.setCell (p := ⟨g, k * 2, none⟩) hgB _).setCell (p := ⟨g, k * 2 + 1, none⟩) hgB _⟩); (case measure => (simp [intOf] <;> omega))) | (go_roundw; (case rel => exact ⟨k + 1, _, by omega, by go_num, Lib.hid (own_put (own_put HO.out (by omega)) (by omega)), Lib.hid (own_setD (own_setD HA2.out hda _) hda _), Lib.hid ((HT.out.far (p := ⟨g, k * 2, none⟩) hne _).far (p := ⟨g, k * 2 + 1, none⟩) hne _), Lib.hid ((HU.out.set1 rfl).set1 rfl), (hbw.setCell (p := ⟨g, k * 2, none⟩) hgB _).setCell (p := ⟨g, k * 2 + 1, none⟩) hgB _⟩); (case measure => (simp [intOf] <;> omega))) | (refine ⟨?_, by simp [intOf] <;> omega⟩; (repeat apply Exists.intro); refine ⟨?rel, ?fr⟩; (case fr => ((repeat' apply And.intro) <;> rfl)); (case rel => exact ⟨k + 1, _, by omega, by go_num, Lib.hid (own_put (own_put HO.out (by omega)) (by omega)), Lib.hid (own_setD (own_setD HA2.out hda _) hda _), Lib.hid ((HT.out.far (p := ⟨g, k * 2, none⟩) hne _).far (p := ⟨g, k * 2 + 1, none⟩) hne _), Lib.hid ((HU.out.set1 rfl).set1 rfl), (hbw.setCell (p := ⟨g, k * 2, none⟩) hgB _).setCell (p := ⟨g, k * 2 + 1, none⟩) hgB _⟩)))
    · go_wp2_with fail
      go_loopw [3] (fun si wr => ∃ (k : Nat) (xs : List Value), k ≤ m ∧ si = .int .i64 k ∧ Hid (wr.ownsRow B 93 2 (.slice Aa m ca) m xs) ∧ Hid (Blk wr w.heap.size 25 [.slice Ap n cp, .slice Aa m ca]) ∧ Hid (But2 (.slice Ap n cp) (.slice Aa m ca) w wr) ∧ Below B w wr) (fun si _ => m - (intOf si).toNat)
      case atStart => exact ⟨0, _, Nat.zero_le _, rfl, HA2, HT, HU, hbw⟩
      case round =>
        clear t_0 t_1 hg0 HT HU HA2 HO hbw hlt hk
        obtain ⟨k, xs, hk, rfl, HO, HT, HU, hbw⟩ := hrel
        (obtain ⟨wj, hwj⟩ : ∃ x, x = wr := ⟨_, rfl⟩); subst hwj
        have t_0 := (HT.out.box).2 0 _ rfl; have t_1 := (HT.out.box).2 1 _ rfl
        have hg0 := HT.out.lt
        by_cases hlt : k < m
        · obtain ⟨g, rfl, hgB, hgl⟩ := NZA.out (by omega)
          obtain ⟨g1, f1⟩ := own_get HO.out
          obtain ⟨u0, hu0⟩ := own_any HO.out (j := k * 2) (by omega)
          obtain ⟨u1, hu1⟩ := own_any HO.out (j := k * 2 + 1) (by omega)
          have c0 := g1 _ _ hu0
          have c1 := g1 _ _ hu1
          have hne : w.heap.size ≠ g := by omega
          clear g1 hu0 hu1
          go_wp2_with fail
          (first | (go_round; (case rel => exact ⟨k + 1, _, by omega, by go_num, Lib.hid (own_put (own_put HO.out (by omega)) (by omega)), Lib.hid ((HT.out.far (p := ⟨g, k * 2, none⟩) hne _).far (p := ⟨g, k * 2 + 1, none⟩) hne _), Lib.hid ((HU.out.set2 rfl).set2 rfl), (hbw.setCell (p := ⟨g, k * 2, none⟩) hgB _).setCell (p := ⟨g, k * 2 + 1, none⟩) hgB _⟩); (case measure => (simp [intOf] <;> omega))) | (go_roundw; (case rel => exact ⟨k + 1, _, by omega, by go_num, Lib.hid (own_put (own_put HO.out (by omega)) (by omega)), Lib.hid ((HT.out.far (p := ⟨g, k * 2, none⟩) hne _).far (p := ⟨g, k * 2 + 1, none⟩) hne _), Lib.hid ((HU.out.set2 rfl).set2 rfl), (hbw.setCell (p := ⟨g, k * 2, none⟩) hgB _).setCell (p := ⟨g, k * 2 + 1, none⟩) hgB _⟩); (case measure => (simp [intOf] <;> omega))) | (refine ⟨?_, by simp [intOf] <;> omega⟩; (repeat apply Exists.intro); refine ⟨?rel, ?fr⟩; (case fr => ((repeat' apply And.intro) <;> rfl)); (case rel => exact ⟨k + 1, _, by omega, by go_num, Lib.hid (own_put (own_put HO.out (by omega)) (by omega)), Lib.hid ((HT.out.far (p := ⟨g, k * 2, none⟩) hne _).far (p := ⟨g, k * 2 + 1, none⟩) hne _), Lib.hid ((HU.out.set2 rfl).set2 rfl), (hbw.setCell (p := ⟨g, k * 2, none⟩) hgB _).setCell (p := ⟨g, k * 2 + 1, none⟩) hgB _⟩)))
        · go_wp2_with fail
          go_end0
          exact ⟨rfl, HU.out, hbw⟩
set_option maxRecDepth 100000 in
set_option maxHeartbeats 2000000 in
theorem law0_Exec (vp va vs : Value) (c : Int) (l : List PairD) (q : List AcctD) (s : List Int) (B : Nat) (w : World) (h : ExO w B vp va vs l q s) (hB : B ≤ w.heap.size) (hlp : l.length ≤ 1000000) (hlq : q.length ≤ 1000000) (hls : s.length ≤ 1000000) :
    Calls Tryz.prog 24 #[.agg #[vp, va, vs, .int .i64 c]] w fun e w' => e = .returned (.tuple #[]) ∧ Below B w w' := by
  have H := Lib.hid h
  clear h
  obtain ⟨Ap, cp, rfl, -⟩ := H.out.p.pairs (by omega)
  obtain ⟨Aa, ca, rfl, -⟩ := H.out.a.accts (by omega)
  obtain ⟨As, cs, rfl, -⟩ := H.out.s.ints (by omega)
  obtain ⟨n, hn⟩ : ∃ n, l.length = n := ⟨_, rfl⟩
  obtain ⟨m, hm⟩ : ∃ m, q.length = m := ⟨_, rfl⟩
  obtain ⟨k, hk⟩ : ∃ k, s.length = k := ⟨_, rfl⟩
  have HN := Lib.hid (And.intro hlp (And.intro hlq hls))
  rw [hn, hm, hk] at H
  rw [hn, hm, hk]
  clear hlp hlq hls hn hm hk
  go_enter Tryz.func24, Tryz.ntmps24
  have hX : Blk (w.alloc (.cells #[.slice Ap n cp, .slice Aa m ca, .slice As k cs, .int .i64 c] 28)) w.heap.size 28 [.slice Ap n cp, .slice Aa m ca, .slice As k cs, .int .i64 c] := Blk.new w 28 [.slice Ap n cp, .slice Aa m ca, .slice As k cs, .int .i64 c]
  have hbX : Below w.heap.size w (w.alloc (.cells #[.slice Ap n cp, .slice Aa m ca, .slice As k cs, .int .i64 c] 28)) := by (repeat (first | (with_reducible exact Below.refl _ _) | (with_reducible assumption) | (with_reducible apply bel_alloc) | (with_reducible apply bel_drew) | (with_reducible apply bel_drewN) | (with_reducible refine bel_trans ?_ (by with_reducible assumption)) | (with_reducible refine bel_trans ?_ (HF.out _)) | (with_reducible refine bel_set ?_ (by simp) _) | (with_reducible refine bel_set ?_ (by simp; omega) _) | (with_reducible refine bel_set ?_ (by omega) _)))
  have HO := Lib.hid (H.out.up hbX)
  have hsz : B ≤ (w.alloc (.cells #[.slice Ap n cp, .slice Aa m ca, .slice As k cs, .int .i64 c] 28)).heap.size := by simp; omega
  have HX := Lib.hid hX
  have HBX := Lib.hid hbX
  have HSZ := Lib.hid hsz
  clear hX hbX hsz
  go_wp2_with (go_at_call 48; refine (law0_TableB (.slice Ap n cp) (.slice Aa m ca) l q B _ HO.out.p HO.out.a HO.out.pa HSZ.out HN.out.1 HN.out.2.1).mono ?_; rintro e w1 ⟨rfl, hu1, hb1⟩; have hX1 : Blk w1 w.heap.size 28 [.slice Ap n cp, .slice Aa m ca, .slice As k cs, .int .i64 c] := (HX.out.of_heap (hu1 w.heap.size HX.out.lt (fun e => by have := (own_lt H.out.p _ e).2; omega) (fun e => by have := (own_lt H.out.a _ e).2; omega))); have hS1 : OwnI w1 B (.slice As k cs) s := own_of_heap HO.out.s (fun g hgg => hu1 g (own_lt HO.out.s g hgg).2 (fun e => HO.out.ps g e hgg) (fun e => HO.out.qs g e hgg)); have hxl := hX1.lt; have x_0 := (hX1.box).2 0 _ rfl; have x_1 := (hX1.box).2 1 _ rfl; have x_2 := (hX1.box).2 2 _ rfl; have x_3 := (hX1.box).2 3 _ rfl; have HS1 := Lib.hid hS1; have HX1 := Lib.hid hX1; clear hX1 hS1 hu1)
  go_wp2_with (go_at_call 19; refine (law0_Numbers (.slice As k cs) s B _ HS1.out HN.out.2.2 (Nat.le_trans HSZ.out hb1.size)).mono ?_; rintro e w2 ⟨rfl, hb2⟩)
  go_end0
  exact ⟨rfl, Below.trans (Below.trans ((Below.refl _ _).alloc hB _) hb1) hb2⟩
theorem ExO.nil (w : World) (B : Nat) : ExO w B (.slice none 0 0) (.slice none 0 0) (.slice none 0 0) [] [] [] := ⟨OwnP.nil _ _, OwnA.nil _ _, OwnI.nil _ _, (fun g e => by cases e), (fun g e => by cases e), (fun g e => by cases e)⟩
/-- What exec.Push gives, behind a spoiling of its list of new ones. -/
theorem PushO.rest {w w' : World} {B : Nat} {vp va vs vf : Value} {p : List PairD} {q : List AcctD} {s F : List Int} (h : PushO w B vp va vs vf p q s F) (hg : w.grownBy w' vf.ownBlock) : ExO w' B vp va vs p q s :=
  { p := own_grown h.e.p hg h.pf, a := own_grown h.e.a hg h.qf, s := own_grown h.e.s hg h.sf, pa := h.e.pa, ps := h.e.ps, qs := h.e.qs }
theorem exec_Check (pA qA sA : Option Addr) (pn pc qn qc sn sc : Nat) (p : List PairD) (q : List AcctD) (s : List Int) (c : Int) (y : Bool) (z : Int) (w : World) (hp : PairsR w pA pn p) (hq : AcctsR w qA qn q) (hs : IntsR w sA sn s) (hy : exB p q s c = y) (hz : z = if y = true then 0 else 1) :
    Calls Tryz.prog 8 #[.agg #[.slice pA pn pc, .slice qA qn qc, .slice sA sn sc, .int .i64 c]] w fun e w' => e = .returned (.int .i64 z) ∧ Below w.heap.size w w' := by
  have HP := Lib.hid hp
  have HQ := Lib.hid hq
  have HS := Lib.hid hs
  have HY := Lib.hid hy
  clear hp hq hs hy
  cases y
  case false =>
    subst hz
    go_enter Tryz.func8, Tryz.ntmps8
    go_wp2_with (go_at_call 31; refine (exec_May pA qA sA pn pc qn qc sn sc p q s c false _ (HP.out.up (by (repeat (first | (with_reducible exact Below.refl _ _) | (with_reducible assumption) | (with_reducible apply bel_alloc) | (with_reducible apply bel_drew) | (with_reducible apply bel_drewN) | (with_reducible refine bel_trans ?_ (by with_reducible assumption)) | (with_reducible refine bel_trans ?_ (HF.out _)) | (with_reducible refine bel_set ?_ (by simp) _) | (with_reducible refine bel_set ?_ (by simp; omega) _) | (with_reducible refine bel_set ?_ (by omega) _))))) (HQ.out.up (by (repeat (first | (with_reducible exact Below.refl _ _) | (with_reducible assumption) | (with_reducible apply bel_alloc) | (with_reducible apply bel_drew) | (with_reducible apply bel_drewN) | (with_reducible refine bel_trans ?_ (by with_reducible assumption)) | (with_reducible refine bel_trans ?_ (HF.out _)) | (with_reducible refine bel_set ?_ (by simp) _) | (with_reducible refine bel_set ?_ (by simp; omega) _) | (with_reducible refine bel_set ?_ (by omega) _))))) (HS.out.up (by (repeat (first | (with_reducible exact Below.refl _ _) | (with_reducible assumption) | (with_reducible apply bel_alloc) | (with_reducible apply bel_drew) | (with_reducible apply bel_drewN) | (with_reducible refine bel_trans ?_ (by with_reducible assumption)) | (with_reducible refine bel_trans ?_ (HF.out _)) | (with_reducible refine bel_set ?_ (by simp) _) | (with_reducible refine bel_set ?_ (by simp; omega) _) | (with_reducible refine bel_set ?_ (by omega) _))))) HY.out).mono ?_; rintro e w1 ⟨rfl, hb1⟩)
    go_ret
    exact ⟨rfl, by (repeat (first | (with_reducible exact Below.refl _ _) | (with_reducible assumption) | (with_reducible apply bel_alloc) | (with_reducible apply bel_drew) | (with_reducible apply bel_drewN) | (with_reducible refine bel_trans ?_ (by with_reducible assumption)) | (with_reducible refine bel_trans ?_ (HF.out _)) | (with_reducible refine bel_set ?_ (by simp) _) | (with_reducible refine bel_set ?_ (by simp; omega) _) | (with_reducible refine bel_set ?_ (by omega) _)))⟩
  case true =>
    subst hz
    go_enter Tryz.func8, Tryz.ntmps8
    go_wp2_with (go_at_call 31; refine (exec_May pA qA sA pn pc qn qc sn sc p q s c true _ (HP.out.up (by (repeat (first | (with_reducible exact Below.refl _ _) | (with_reducible assumption) | (with_reducible apply bel_alloc) | (with_reducible apply bel_drew) | (with_reducible apply bel_drewN) | (with_reducible refine bel_trans ?_ (by with_reducible assumption)) | (with_reducible refine bel_trans ?_ (HF.out _)) | (with_reducible refine bel_set ?_ (by simp) _) | (with_reducible refine bel_set ?_ (by simp; omega) _) | (with_reducible refine bel_set ?_ (by omega) _))))) (HQ.out.up (by (repeat (first | (with_reducible exact Below.refl _ _) | (with_reducible assumption) | (with_reducible apply bel_alloc) | (with_reducible apply bel_drew) | (with_reducible apply bel_drewN) | (with_reducible refine bel_trans ?_ (by with_reducible assumption)) | (with_reducible refine bel_trans ?_ (HF.out _)) | (with_reducible refine bel_set ?_ (by simp) _) | (with_reducible refine bel_set ?_ (by simp; omega) _) | (with_reducible refine bel_set ?_ (by omega) _))))) (HS.out.up (by (repeat (first | (with_reducible exact Below.refl _ _) | (with_reducible assumption) | (with_reducible apply bel_alloc) | (with_reducible apply bel_drew) | (with_reducible apply bel_drewN) | (with_reducible refine bel_trans ?_ (by with_reducible assumption)) | (with_reducible refine bel_trans ?_ (HF.out _)) | (with_reducible refine bel_set ?_ (by simp) _) | (with_reducible refine bel_set ?_ (by simp; omega) _) | (with_reducible refine bel_set ?_ (by omega) _))))) HY.out).mono ?_; rintro e w1 ⟨rfl, hb1⟩)
    go_ret
    exact ⟨rfl, by (repeat (first | (with_reducible exact Below.refl _ _) | (with_reducible assumption) | (with_reducible apply bel_alloc) | (with_reducible apply bel_drew) | (with_reducible apply bel_drewN) | (with_reducible refine bel_trans ?_ (by with_reducible assumption)) | (with_reducible refine bel_trans ?_ (HF.out _)) | (with_reducible refine bel_set ?_ (by simp) _) | (with_reducible refine bel_set ?_ (by simp; omega) _) | (with_reducible refine bel_set ?_ (by omega) _)))⟩
end Go.Proofs.YtbakkpabiknlmaaGreat
