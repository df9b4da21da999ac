/- Held batches copied, the same; numbers, what was executed, written over. -/
import Derived.Test.YtbakkpabiknlmaaSzQe
import Derived.Test.YtbakkpabiknlmaaSzEo
namespace Go.Proofs.Ytbakkpabiknlmaa
open Go.RowKit
set_option linter.unusedSimpArgs false
set_option linter.unusedVariables false


/-- How an element lies (k cells; β: where its lists lie), and what it is to own its lists from block B on. -/
structure DeepT (α β : Type) where
  t : TypeId
  k : Nat
  enc : α → β → List Value
  inner : World → Nat → β → α → Prop
  k0 : 0 < k
  len : ∀ x p, (enc x p).length = k
  one : ∀ {w B p x}, inner w B p x → ∀ u ∈ enc x p, u.oneCell' = true
  up : ∀ {w w' B p x}, inner w B p x → Below w.heap.size w w' → inner w' B p x
  mono : ∀ {w B B' p x}, inner w B p x → B' ≤ B → inner w B' p x
  low : ∀ {w B p x} {b o : Nat} {u : Value}, inner w B p x → b < B → inner (w.setCell ⟨b, o, none⟩ u) B p x
  grown : ∀ {w w' B B' p x} {v : Value} {n : Nat} {xs : List Value}, inner w B p x → w.ownsRow B' t k v n xs → w.grownBy w' v.ownBlock → inner w' B p x
theorem flatK {k : Nat} : ∀ (ll : List (List Value)), (∀ x ∈ ll, x.length = k) → ∀ (j r : Nat), r < k → ll.flatten[j * k + r]? = (ll[j]?).bind (·[r]?)
  | [], _, j, r, _ => by simp
  | x :: ll, h, 0, r, hr => by
    have hx := h x (by simp)
    simp [List.getElem?_append, hx, hr]
  | x :: ll, h, j + 1, r, hr => by
    have hx := h x (by simp)
    have ih := flatK ll (fun y hy => h y (by simp [hy])) j r hr
    simp only [List.flatten_cons, List.getElem?_cons_succ]
    rw [List.getElem?_append_right (by rw [hx, Nat.succ_mul]; omega), show (j + 1) * k + r - x.length = j * k + r by rw [hx, Nat.succ_mul]; omega, ih]
section
variable {α β : Type} (T : DeepT α β)
def dcells (l : List α) (ps : List β) : List Value := (List.zipWith T.enc l ps).flatten
theorem dcells_len : ∀ {l : List α} {ps : List β}, ps.length = l.length → (dcells T l ps).length = l.length * T.k
  | [], [], _ => by simp [dcells]
  | x :: l, p :: ps, h => by
    have ih := dcells_len (l := l) (ps := ps) (by simpa using h)
    unfold dcells at ih ⊢
    rw [List.zipWith_cons_cons, List.flatten_cons, List.length_append, ih, T.len, List.length_cons, Nat.succ_mul]
    omega
theorem dcells_snoc {l : List α} {ps : List β} (h : ps.length = l.length) (x : α) (p : β) : dcells T (l ++ [x]) (ps ++ [p]) = dcells T l ps ++ T.enc x p := by
  unfold dcells
  rw [List.zipWith_append h.symm]; simp
end
section
variable {α β : Type} [Inhabited α] [Inhabited β] (T : DeepT α β)
theorem dcells_at {l : List α} {ps : List β} (h : ps.length = l.length) {j r : Nat} (hj : j < l.length) (hr : r < T.k) : (dcells T l ps)[j * T.k + r]? = (T.enc (l.getD j default) (ps.getD j default))[r]? := by
  unfold dcells
  rw [flatK _ (by intro x hx; obtain ⟨i, hi, rfl⟩ := List.getElem_of_mem hx; simp [T.len]) j r hr]
  simp [List.getElem?_zipWith, show j < ps.length by omega, hj]
/-- The slice value v owns, in blocks from B on, these elements and their lists. -/
def OwnT (w : World) (B : Nat) (v : Value) (ps : List β) (l : List α) : Prop :=
  w.ownsRow B T.t T.k v l.length (dcells T l ps) ∧ ps.length = l.length ∧ ∀ j, j < l.length → T.inner w B (ps.getD j default) (l.getD j default)
variable {T}
theorem OwnT.nil (w : World) (B : Nat) : OwnT T w B (.slice none 0 0) [] [] := ⟨World.ownsRow_nil w B _ _, rfl, fun j hj => absurd hj (by simp)⟩
theorem OwnT.up {w w' : World} {B : Nat} {v : Value} {ps : List β} {l : List α} (h : OwnT T w B v ps l) (hb : Below w.heap.size w w') : OwnT T w' B v ps l := ⟨own_up h.1 hb, h.2.1, fun j hj => T.up (h.2.2 j hj) hb⟩
theorem OwnT.snoc {w w' : World} {B : Nat} {v v' : Value} {ps : List β} {l : List α} {x : α} {p : β} (h : OwnT T w B v ps l) (hin : T.inner w B p x) (hown : w'.ownsRow B T.t T.k v' (l.length + 1) (dcells T l ps ++ T.enc x p)) (hg : w.grownBy w' v.ownBlock) : OwnT T w' B v' (ps ++ [p]) (l ++ [x]) := by
  refine ⟨by rw [dcells_snoc T h.2.1]; simpa using hown, by simp [h.2.1], fun j hj => ?_⟩
  rcases Nat.lt_or_ge j l.length with hj' | hj'
  · have e1 : (ps ++ [p]).getD j default = ps.getD j default := by simp [List.getElem?_append, h.2.1, hj']
    have e2 : (l ++ [x]).getD j default = l.getD j default := by simp [List.getElem?_append, hj']
    rw [e1, e2]
    exact T.grown (h.2.2 j hj') h.1 hg
  · obtain rfl : j = l.length := by simp at hj; omega
    have e1 : (ps ++ [p]).getD l.length default = p := by rw [← h.2.1]; simp
    have e2 : (l ++ [x]).getD l.length default = x := by simp
    rw [e1, e2]
    exact T.grown hin h.1 hg
end
theorem OwnX.shape {w : World} {B : Nat} {v : Value} {l : List TxD} (h : OwnX w B v l) : v.oneCell' = true := by
  rcases own_shape h with ⟨rfl, _⟩ | ⟨g, c, rfl, _⟩ <;> rfl
theorem own_typeB {w : World} {B k n : Nat} {t : TypeId} {v : Value} {xs : List Value} (h : w.ownsRow B t k v n xs) : ∀ g, v.ownBlock = some g → g < w.heap.size ∧ ∃ cur, w.heap[g]? = some (.cells cur t (0, 0)) := by
  intro g hg
  rcases h.2 with ⟨rfl, _⟩ | ⟨g', cap, cur, rfl, hb, hgg, rest⟩
  · cases hg
  · simp only [Value.ownBlock, Option.map_some] at hg
    injection hg with hg
    subst hg
    exact ⟨(Array.getElem?_eq_some_iff.1 hgg).1, cur, hgg⟩
theorem own_farT {w w' : World} {B B' k k' n n' : Nat} {t t' : TypeId} {u v : Value} {xs ys : List Value} (h : w.ownsRow B t k u n xs) (hv : w.ownsRow B' t' k' v n' ys) (hne : t ≠ t') (hg : w.grownBy w' v.ownBlock) : w'.ownsRow B t k u n xs := by
  refine ⟨h.1, ?_⟩
  rcases h.2 with hn | ⟨g, cap, cur, rfl, hb, hgg, rest⟩
  · exact .inl hn
  · refine .inr ⟨g, cap, cur, rfl, hb, ?_, rest⟩
    rw [hg.block g (Array.getElem?_eq_some_iff.1 hgg).1 (fun e => ?_)]
    · exact hgg
    · obtain ⟨_, c2, e2⟩ := own_typeB hv g e.symm
      rw [hgg] at e2
      injection e2 with e2
      injection e2 with _ e3 _
      exact hne e3
def dHeld : DeepT HeldD Value where
  t := 44
  k := 4
  enc := fun x p => [.int .i64 x.di, .int .i64 x.b.au, .int .i64 x.b.n, p]
  inner := fun w B p x => OwnX w B p x.b.tx
  k0 := by omega
  len := fun _ _ => rfl
  one := fun h u hu => by
    simp only [List.mem_cons, List.not_mem_nil, or_false] at hu
    rcases hu with rfl | rfl | rfl | rfl
    · rfl
    · rfl
    · rfl
    · exact h.shape
  up := fun h hb => h.up hb
  mono := fun h hB => h.mono hB
  low := fun h hp => h.set3 hp _
  grown := fun h hv hg => own_farT h hv (by decide) hg
instance : Inhabited Value := ⟨.slice none 0 0⟩
def OwnHs (w : World) (B : Nat) (v : Value) (l : List HeldD) : Prop := ∃ ps, OwnT dHeld w B v ps l
def BigH (l : List HeldD) : Prop := l.length ≤ 800000000 ∧ ∀ x ∈ l, x.b.tx.length ≤ 800000000
theorem getD_mem {α : Type} [Inhabited α] {l : List α} {j : Nat} (h : j < l.length) : l.getD j default ∈ l := by simp [h]
theorem info_Held : (Try.prog.info? 44).map (fun i => (i.zero, i.size, i.bytes)) = some (some (.agg #[.int .i64 0, .int .i64 0, .int .i64 0, .slice none 0 0]), 4, 48) := by kernel_rfl
theorem run_app_Held (w : World) (B : Nat) (v : Value) (n : Nat) (xs : List Value) (hown : w.ownsRow B 44 4 v n xs) (vb off m c : Nat) (e : List Value) (hm : e.length = m * 4) (hv : ∀ j u, e[j]? = some u → w.cell? ⟨vb, off + j, none⟩ = some u) (h1e : ∀ u ∈ e, u.oneCell' = true) (hn : n + m ≤ 1000000000) (hB : B ≤ w.heap.size) :
    ∃ v' w', (Builtin.append_ #[34, 34] 34 #[v, .slice (some ⟨vb, off, none⟩) m c]).run Try.prog w = .ok v' w' ∧ w'.ownsRow B 44 4 v' (n + m) (xs ++ e) ∧ w.grownBy w' v.ownBlock ∧ Below B w w' ∧ (v'.ownBlock = v.ownBlock ∨ v'.ownBlock = some w.heap.size) := by
  obtain ⟨i0, hi, hz, hz1, hz2⟩ := info_parts info_Held
  obtain ⟨v', w', hrun, h2, h3, _, h5⟩ := run_append_own_at (P := Try.prog) w B 34 34 44 i0 _ 4 48 Try.underlying34 hi hz hz1 hz2 rfl (by omega) v n xs hown ⟨vb, off, none⟩ m c e hm
    (by intro j u hu; rw [Addr.add_lit]; exact hv j u hu) h1e (by simp only [maxLen]; omega) (by omega) hB
  exact ⟨v', w', hrun, h2, h3, ⟨h3.os, h3.tape, h3.output, h3.size, fun k hk => h3.block k (by omega) (fun e => by have := (own_lt hown k e.symm).1; omega)⟩, h5⟩
set_option maxRecDepth 100000 in
set_option maxHeartbeats 1000000 in
theorem ref0_CopyBatchO (b : BatchD) (A : Option Addr) (n c : Nat) (w : World) (hl : TxsR w A n b.tx) (hn : n ≤ 800000000) :
    Calls Try.prog 50 #[.agg #[.int .i64 b.au, .int .i64 b.n, .slice A n c]] w fun e w' => ∃ v, e = .returned (.agg #[.int .i64 b.au, .int .i64 b.n, v]) ∧ OwnX w' w.heap.size v b.tx ∧ Below w.heap.size w w' := by
  have HL := Lib.hid hl
  have HN := Lib.hid hl.1
  clear hl
  go_enter Try.func50, Try.ntmps50
  go_wp2_with fail
  refine (ref0_CopyTxs A n c b.tx _ (HL.out.up (by (repeat (first | (with_reducible exact Below.refl _ _) | (with_reducible assumption) | (with_reducible apply bel_alloc) | (with_reducible apply bel_drew) | (with_reducible apply bel_drewN) | (with_reducible refine bel_trans ?_ (by with_reducible assumption)) | (with_reducible refine bel_trans ?_ (HF.out _)) | ((with_reducible refine bel_set3 ?_ ?_); rotate_left; omega))))) hn).mono ?_
  rintro e w1 ⟨v, rfl, hown, hb1⟩
  obtain ⟨A1, c1, rfl, hx, _⟩ := hown.txs (by rw [HN.out]; omega)
  rw [HN.out] at hx hown ⊢
  have hown' := hown.mono (B' := w.heap.size + 3) (by simp)
  have HO := Lib.hid hown'
  clear hown hown' hx
  have hz_w1 : w.heap.size + 3 ≤ w1.heap.size := (by have hq := (hb1).size; (try simp at hq); omega); have hc0_w1 := fun o => (bcell hb1).1 (w.heap.size) o (by first | (simp; done) | (simp; omega) | omega); have hc1_w1 := fun o => (bcell hb1).1 (w.heap.size + 1) o (by first | (simp; done) | (simp; omega) | omega); have hc2_w1 := fun o => (bcell hb1).1 (w.heap.size + 2) o (by first | (simp; done) | (simp; omega) | omega); have hf0_w1 := fun o => (bcell hb1).2 (w.heap.size) o (by first | (simp; done) | (simp; omega) | omega); have hf1_w1 := fun o => (bcell hb1).2 (w.heap.size + 1) o (by first | (simp; done) | (simp; omega) | omega); have hf2_w1 := fun o => (bcell hb1).2 (w.heap.size + 2) o (by first | (simp; done) | (simp; omega) | omega)
  go_wp2_with fail
  have ho2 := (((HO.out.set3 (b := w.heap.size + 1 + 1) (o := 2) (by omega) (.slice A1 n c1)).set3 (b := w.heap.size + 1) (o := 0) (by omega) (.int .i64 b.au)).set3 (b := w.heap.size + 1) (o := 1) (by omega) (.int .i64 b.n)).set3 (b := w.heap.size + 1) (o := 2) (by omega) (.slice A1 n c1)
  exact bodyPost_ret (v := .agg #[.int .i64 b.au, .int .i64 b.n, .slice A1 n c1]) (by simp [results, Try.results50, go_sem, hc0_w1, hc1_w1, hc2_w1]) rfl ⟨_, rfl, ho2.mono (by omega), by (repeat (first | (with_reducible exact Below.refl _ _) | (with_reducible assumption) | (with_reducible apply bel_alloc) | (with_reducible apply bel_drew) | (with_reducible apply bel_drewN) | (with_reducible refine bel_trans ?_ (by with_reducible assumption)) | (with_reducible refine bel_trans ?_ (HF.out _)) | ((with_reducible refine bel_set3 ?_ ?_); rotate_left; omega)))⟩
set_option maxRecDepth 100000 in
set_option maxHeartbeats 1000000 in
theorem ref0_CopyHeld (x : HeldD) (A : Option Addr) (n c : Nat) (w : World) (hl : TxsR w A n x.b.tx) (hn : n ≤ 800000000) :
    Calls Try.prog 27 #[.agg #[.int .i64 x.di, .int .i64 x.b.au, .int .i64 x.b.n, .slice A n c]] w fun e w' => ∃ v, e = .returned (.agg #[.int .i64 x.di, .int .i64 x.b.au, .int .i64 x.b.n, v]) ∧ OwnX w' w.heap.size v x.b.tx ∧ Below w.heap.size w w' := by
  have HL := Lib.hid hl
  have HN := Lib.hid hl.1
  clear hl
  go_enter Try.func27, Try.ntmps27
  go_wp2_with fail
  refine (ref0_CopyBatchO x.b A n c _ (HL.out.up (by (repeat (first | (with_reducible exact Below.refl _ _) | (with_reducible assumption) | (with_reducible apply bel_alloc) | (with_reducible apply bel_drew) | (with_reducible apply bel_drewN) | (with_reducible refine bel_trans ?_ (by with_reducible assumption)) | (with_reducible refine bel_trans ?_ (HF.out _)) | ((with_reducible refine bel_set3 ?_ ?_); rotate_left; omega))))) hn).mono ?_
  rintro e w1 ⟨v, rfl, hown, hb1⟩
  obtain ⟨A1, c1, rfl, hx, _⟩ := hown.txs (by rw [HN.out]; omega)
  rw [HN.out] at hx hown ⊢
  have hown' := hown.mono (B' := w.heap.size + 3) (by simp)
  have HO := Lib.hid hown'
  clear hown hown' hx
  have hz_w1 : w.heap.size + 3 ≤ w1.heap.size := (by have hq := (hb1).size; (try simp at hq); omega); have hc0_w1 := fun o => (bcell hb1).1 (w.heap.size) o (by first | (simp; done) | (simp; omega) | omega); have hc1_w1 := fun o => (bcell hb1).1 (w.heap.size + 1) o (by first | (simp; done) | (simp; omega) | omega); have hc2_w1 := fun o => (bcell hb1).1 (w.heap.size + 2) o (by first | (simp; done) | (simp; omega) | omega); have hf0_w1 := fun o => (bcell hb1).2 (w.heap.size) o (by first | (simp; done) | (simp; omega) | omega); have hf1_w1 := fun o => (bcell hb1).2 (w.heap.size + 1) o (by first | (simp; done) | (simp; omega) | omega); have hf2_w1 := fun o => (bcell hb1).2 (w.heap.size + 2) o (by first | (simp; done) | (simp; omega) | omega)
  go_wp2_with fail
  exact bodyPost_ret (v := .agg #[.int .i64 x.di, .int .i64 x.b.au, .int .i64 x.b.n, .slice A1 n c1]) (by simp [results, Try.results27, go_sem, hc0_w1, hc1_w1, hc2_w1]) rfl ⟨_, rfl, (by (refine OwnX.mono (B := w.heap.size + 3) ?_ (by omega)); (repeat (first | (with_reducible exact HO.out) | ((with_reducible refine OwnX.set3 ?_ ?_ _); rotate_left; (omega))))), by (repeat (first | (with_reducible exact Below.refl _ _) | (with_reducible assumption) | (with_reducible apply bel_alloc) | (with_reducible apply bel_drew) | (with_reducible apply bel_drewN) | (with_reducible refine bel_trans ?_ (by with_reducible assumption)) | (with_reducible refine bel_trans ?_ (HF.out _)) | ((with_reducible refine bel_set3 ?_ ?_); rotate_left; omega)))⟩
set_option maxRecDepth 100000 in
set_option maxHeartbeats 2000000 in
theorem ref0_CopyHelds (A : Option Addr) (n c : Nat) (l : List HeldD) (w : World) (hl : HeldsR w A n l) (hs : BigH l) :
    Calls Try.prog 9 #[.slice A n c] w fun e w' => ∃ v, e = .returned v ∧ OwnHs w' w.heap.size v l ∧ Below w.heap.size w w' := by
  have HL := Lib.hid hl
  have hN := hl.1
  have hn : n ≤ 800000000 := by rw [← hN]; exact hs.1
  have HN := Lib.hid hN
  have HS := Lib.hid hs
  clear hl hN hs
  suffices h : Calls Try.prog 9 #[.slice A n c] w fun e w' => ∃ v ps, e = .returned v ∧ OwnT dHeld w' w.heap.size v ps l ∧ Below w.heap.size w w' from h.mono fun e w' ⟨v, ps, h1, h2, h3⟩ => ⟨v, h1, ⟨ps, h2⟩, h3⟩
  go_enter Try.func9, Try.ntmps9
  go_wp2_with fail
  go_loopw [3, 4] (fun v i wr => ∃ (j : Nat) (ps : List Value), j ≤ n ∧ i = .int .i64 j ∧ OwnT dHeld wr w.heap.size v ps (l.take j) ∧ Below w.heap.size w wr) (fun _ i _ => n - (intOf i).toNat)
  case atStart => exact ⟨0, [], Nat.zero_le _, rfl, OwnT.nil _ _, Below.refl _ _⟩
  case round =>
    obtain ⟨j, ps, hj, rfl, hown, hbw⟩ := hrel
    (obtain ⟨wk, hwk⟩ : ∃ x, x = wr := ⟨_, rfl⟩); subst hwk
    by_cases hlt : j < n
    · obtain ⟨b, off, rfl, hb, hc⟩ := (HL.out.up hbw).2.2 (by omega)
      obtain ⟨B, m, d, ⟨c0, c1, c2, c3⟩, hin⟩ := hc j hlt
      have hm : m ≤ 800000000 := by rw [← hin.1]; exact HS.out.2 _ (getD_mem (by rw [HN.out]; exact hlt))
      have htk : l.take (j + 1) = l.take j ++ [hth l j] := by rw [List.take_succ_eq_append_getElem (by rw [HN.out]; exact hlt)]; simp [hth, show j < l.length by rw [HN.out]; exact hlt]
      have HTK := Lib.hid htk
      obtain ⟨x, hx⟩ : ∃ x, hth l j = x := ⟨_, rfl⟩
      rw [hx] at hin c0 c1 c2
      have HX := Lib.hid hx
      have HIN := Lib.hid hin
      have hlenj : (l.take j).length ≤ j := by simp; omega
      have hsz := hbw.size
      have HO := Lib.hid hown
      clear hc hin hx htk hown
      go_wp2_with fail
      refine (ref0_CopyHeld x B m d _ HIN.out hm).mono ?_
      rintro e w1 ⟨v1, rfl, ho1, hb1⟩
      have HO1 := Lib.hid (HO.out.up hb1)
      have HI1 := Lib.hid ho1
      have hbx := BoxR.new w1 [.int .i64 x.di, .int .i64 x.b.au, .int .i64 x.b.n, v1] 44
      have hba : Below w1.heap.size w1 (w1.alloc (.cells #[.int .i64 x.di, .int .i64 x.b.au, .int .i64 x.b.n, v1] 44)) := by (repeat (first | (with_reducible exact Below.refl _ _) | (with_reducible assumption) | (with_reducible apply bel_alloc) | (with_reducible apply bel_drew) | (with_reducible apply bel_drewN) | (with_reducible refine bel_trans ?_ (by with_reducible assumption)) | (with_reducible refine bel_trans ?_ (HF.out _)) | ((with_reducible refine bel_set3 ?_ ?_); rotate_left; omega)))
      have HBX := Lib.hid hbx
      have hsz1 : w.heap.size ≤ w1.heap.size := Nat.le_trans hsz hb1.size
      have hsz2 : w.heap.size ≤ (w1.alloc (.cells #[.int .i64 x.di, .int .i64 x.b.au, .int .i64 x.b.n, v1] 44)).heap.size := Nat.le_trans hsz1 hba.size
      have HSZ := Lib.hid hsz2
      clear ho1 hbx hsz2
      obtain ⟨v2, w2, hrun, h2, h3, h4, h5⟩ := run_app_Held (w1.alloc (.cells #[.int .i64 x.di, .int .i64 x.b.au, .int .i64 x.b.n, v1] 44)) w.heap.size u3 (l.take j).length (dcells dHeld (l.take j) ps) ((HO1.out.up hba).1) w1.heap.size 0 1 1 [.int .i64 x.di, .int .i64 x.b.au, .int .i64 x.b.n, v1] rfl (fun r u hu => by rw [Nat.zero_add]; exact HBX.out.2 r u hu) (dHeld.one (w := w1) (B := wk.heap.size) (p := v1) (x := x) HI1.out) (by omega) HSZ.out
      have hnew : OwnT dHeld w2 w.heap.size v2 (ps ++ [v1]) (l.take (j + 1)) := by
        rw [HTK.out, HX.out]
        exact (HO1.out.up hba).snoc (dHeld.up (dHeld.mono HI1.out hsz) hba) h2 h3
      have HNEW := Lib.hid hnew
      have HRUN := Lib.hid hrun
      clear hrun h2 h3 h5 hnew
      go_wp2_with (at_builtin; refine Lib.wpList_append_run _ rfl (.tmp 11) (.tmp 17) _ _ rfl _ _ rfl rfl _ _ HRUN.out ?_)
      (first | (go_round; (case rel => exact ⟨j + 1, ps ++ [v1], by omega, by go_num, HNEW.out, Below.trans (bel_trans (bel_trans hbw hb1) hba) h4⟩); (case measure => (simp [intOf] <;> omega))) | (go_roundw; (case rel => exact ⟨j + 1, ps ++ [v1], by omega, by go_num, HNEW.out, Below.trans (bel_trans (bel_trans hbw hb1) hba) h4⟩); (case measure => (simp [intOf] <;> omega))) | (refine ⟨?_, by simp [intOf] <;> omega⟩; (repeat apply Exists.intro); refine ⟨?rel, ?fr⟩; (case fr => ((repeat' apply And.intro) <;> rfl)); (case rel => exact ⟨j + 1, ps ++ [v1], by omega, by go_num, HNEW.out, Below.trans (bel_trans (bel_trans hbw hb1) hba) h4⟩)))
    · go_wp2_with fail
      go_ret
      have e : l.take j = l := List.take_of_length_le (by rw [HN.out]; omega)
      rw [e] at hown
      exact ⟨_, _, rfl, hown, hbw⟩

theorem grown_set {w x : World} {g o : Nat} {row : Option Nat} {u : Value} (h : w.grownBy x row) (hr : row = some g) : w.grownBy (x.setCell ⟨g, o, none⟩ u) row := by
  subst hr
  refine ⟨h.os, h.tape, h.output, ?_, fun i hi hn => (Below.heap_setCell _ _ _ i (fun e => hn (by rw [e]))).trans (h.block i hi hn)⟩
  have := h.size; simpa using this
end Go.Proofs.Ytbakkpabiknlmaa
