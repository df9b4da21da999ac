/- Joined: Na Nb Nc Nd Ne Nf Ng Nh Ni Nj0 Nk0 Nl Nm No Np Nr Ns Nv Nt Pb Pc Qe. -/
import Derived.Test.YtnngeaibdnnpoaaSkJ0
import Derived.Lib.Bytealg
import Derived.Deep.Cut
import Derived.Deep.CutRange
import Derived.ChangeArms
import Derived.SizedLaws
namespace Go.Proofs.Ytnngeaibdnnpoaa
set_option linter.unusedSimpArgs false
set_option linter.unusedVariables false

section
open Go.RowKit
set_option maxRecDepth 100000 in
set_option maxHeartbeats 1000000 in
theorem cmp_isNaN_int (x : Int) (w : World) : Calls Try.prog 90 #[.int .i64 x] w fun e w' => e = .returned (.bool false) ∧ w = w' := by
  go_enter Try.func90, Try.ntmps90
  go_wp2
  go_ret
  exact ⟨ret_bool (by simp), rfl⟩
set_option maxRecDepth 100000 in
set_option maxHeartbeats 1000000 in
theorem cmp_Compare_int (a b : Int) (w : World) : Calls Try.prog 75 #[.int .i64 a, .int .i64 b] w fun e w' => e = .returned (.int .i64 (cmp3 a b)) ∧ w = w' := by
  rcases Int.lt_trichotomy a b with h | h | h
  case' inl =>
    have hc : cmp3 a b = -1 := by unfold cmp3; rw [if_pos h]
    have d1 : decide (a < b) = true := by simpa using h
  case' inr.inl =>
    have hc : cmp3 a b = 0 := by unfold cmp3; rw [if_neg (by omega), if_neg (by omega)]
    have d1 : decide (a < b) = false := by simp; omega
    have d2 : decide (b < a) = false := by simp; omega
  case' inr.inr =>
    have hc : cmp3 a b = 1 := by unfold cmp3; rw [if_neg (by omega), if_pos h]
    have d1 : decide (a < b) = false := by simp; omega
    have d2 : decide (b < a) = true := by simpa using h
  all_goals
    have HC := Lib.hid hc
    clear hc h
    go_enter Try.func75, Try.ntmps75
    go_wp2_with (go_at_call 90; refine (cmp_isNaN_int _ _).mono ?_; rintro e w' ⟨rfl, rfl⟩)
    go_ret
    exact ⟨ret_int HC.out.symm, rfl⟩
structure PairD where
  k : ByteArray
  v : ByteArray
instance : Inhabited PairD := ⟨⟨⟨#[]⟩, ⟨#[]⟩⟩⟩
structure AcctD where
  se : Int
  sq : Int
deriving Inhabited
def encP (p : PairD) : List Value := [.string p.k, .string p.v]
theorem encP_one (p : PairD) : ∀ u ∈ encP p, u.oneCell' = true := by
  intro u hu
  simp only [encP, List.mem_cons, List.not_mem_nil, or_false] at hu
  rcases hu with rfl | rfl <;> rfl
end
section
open Go.RowKit
structure TxD where
  se : Int
  sq : Int
  k : ByteArray
  v : ByteArray
def idS (n : Int) : Bool := decide (1 ≤ n ∧ n ≤ 1099511627776)
theorem idS_iff {n : Int} : idS n = true ↔ (1 ≤ n ∧ n ≤ 1099511627776) := by simp [idS]
set_option maxRecDepth 100000 in
set_option maxHeartbeats 1000000 in
theorem ref4_id (n : Int) (y : Bool) (w : World) (hy : idS n = y) : Calls Try.prog 66 #[.int .i64 n] w fun e w' => e = .returned (.bool y) ∧ w = w' := by
  subst hy
  go_enter Try.func66, Try.ntmps66
  go_wp2
  all_goals (go_ret; refine ⟨ret_bool ?_, rfl⟩; rw [Bool.eq_iff_iff, idS_iff]; simp; try omega)
def txS (x : TxD) : Bool := decide (1 ≤ x.se ∧ x.se ≤ 1099511627776 ∧ 1 ≤ x.sq ∧ x.sq ≤ 1099511627776 ∧ 1 ≤ x.k.size ∧ x.k.size ≤ 16 ∧ x.v.size ≤ 32)
theorem txS_iff {x : TxD} : txS x = true ↔ (1 ≤ x.se ∧ x.se ≤ 1099511627776 ∧ 1 ≤ x.sq ∧ x.sq ≤ 1099511627776 ∧ 1 ≤ x.k.size ∧ x.k.size ≤ 16 ∧ x.v.size ≤ 32) := by simp [txS]
set_option maxRecDepth 100000 in
set_option maxHeartbeats 1000000 in
theorem ref4_Tx (x : TxD) (y : Bool) (w : World) (hy : txS x = y) : Calls Try.prog 88 #[.agg #[.int .i64 x.se, .int .i64 x.sq, .string x.k, .string x.v]] w fun e w' => e = .returned (.bool y) ∧ Below w.heap.size w w' := by
  subst hy
  go_enter Try.func88, Try.ntmps88
  go_wp2_with (go_at_call 66; refine (ref4_id _ _ _ rfl).mono ?_; rintro e w' ⟨rfl, rfl⟩)
  all_goals (go_ret; refine ⟨ret_bool ?_, by (repeat (first | (with_reducible exact Below.refl _ _) | (with_reducible assumption) | (with_reducible apply bel_alloc) | (with_reducible apply bel_drew) | (with_reducible apply bel_drewN) | (with_reducible refine bel_trans ?_ (by with_reducible assumption)) | (with_reducible refine bel_trans ?_ (HF.out _)) | (with_reducible refine bel_set ?_ (by simp) _) | (with_reducible refine bel_set ?_ (by simp; omega) _) | (with_reducible refine bel_set ?_ (by omega) _)))⟩; go_light; rw [Bool.eq_iff_iff, txS_iff]; simp_all [idS]; try omega)
end
section
open Go.RowKit
end
section
open Go.RowKit
end
section
open Go.RowKit
end
section
open Go.RowKit
end
section
open Go.RowKit
end
section
open Go.RowKit
theorem wp_app_runR {P : Program} (w : World) {o : Oper} {a : Act} {K : Act → World → Prop} {Q : Exit → Act → World → Prop} (s x : Operand) (t t' : TypeId)
    (ho : o.op = .call { callee := .builtin .append, args := #[s, x], argTypes := #[t, t'] }) (v u : Value) (hs : a.eval s = v) (hx : a.eval x = u) {v' : Value} {w' : World}
    (hr : (Builtin.append_ #[t, t'] o.type #[v, u]).run P w = .ok v' w') (h : K (a.put o.dst v') w') : o.wp P a w K Q := Lib.wp_append_run w s x t t' ho v u hs hx v' w' hr h
theorem step_app_runR {P : Program} {ops : Array Oper} {o : Oper} {a : Act} {w : World} {K : Act → World → Prop} {Q : Exit → Act → World → Prop} {E : Prop}
    (hg : o.guard = none) (s x : Operand) (t t' : TypeId) (hop : o.op = Op.call { callee := Callee.builtin Builtin.append, args := #[s, x], argTypes := #[t, t'] })
    (v u : Value) (hd : a.eval s = v) (hx : a.eval x = u) {v' : Value} {w' : World} (hr : (Builtin.append_ #[t, t'] o.type #[v, u]).run P w = .ok v' w') (hK : K (a.put o.dst v') w') :
    if Region.wanted o (yielded ops a.tmps) = true then Oper.wp P o a w K Q else E := by
  have hw : Region.wanted o (yielded ops a.tmps) = true := by simp [Region.wanted, hg]
  rw [if_pos hw]
  exact wp_app_runR w s x t t' hop v u hd hx hr hK
end
section
open Go.RowKit
end
section
open Go.RowKit
end
section
open Go.RowKit
variable {tb : TypeId} {rs : List Value}
theorem grown_below {w w' : World} {C : Nat} {v : Value} (h : w.grownBy w' v.ownBlock) (hv : ∀ g, v.ownBlock = some g → C ≤ g) (hC : C ≤ w.heap.size) : Below C w w' :=
  ⟨h.os, h.tape, h.output, h.size, fun k hk => h.block k (by omega) (fun e => by have := hv k e.symm; omega)⟩
theorem Below.set1 {w : World} {C b o : Nat} (hb : C ≤ b) (u : Value) : Below C w (w.setCell ⟨b, o, none⟩ u) := (Below.refl C w).setCell hb u
end
section
set_option linter.unusedSectionVars false

section
variable {α K : Type} [Inhabited α] {f : α → K} {lt : K → K → Bool}
end
end
section
open Go.RowKit
instance : Inhabited TxD := ⟨⟨0, 0, ⟨#[]⟩, ⟨#[]⟩⟩⟩
def encX (x : TxD) : List Value := [.int .i64 x.se, .int .i64 x.sq, .string x.k, .string x.v]
theorem encX_len (x : TxD) : (encX x).length = 4 := rfl
theorem encX_one (x : TxD) : ∀ u ∈ encX x, u.oneCell' = true := by
  intro u hu
  simp only [encX, List.mem_cons, List.not_mem_nil, or_false] at hu
  rcases hu with rfl | rfl | rfl | rfl <;> rfl
def xth (l : List TxD) (i : Nat) : TxD := l.getD i default
def TxsR (w : World) (A : Option Addr) (n : Nat) (l : List TxD) : Prop := l.length = n ∧ RowV w A n 4 (flat encX l)
theorem TxsR.up {w w' : World} {A n l} (h : TxsR w A n l) (hb : Below w.heap.size w w') : TxsR w' A n l := ⟨h.1, h.2.up hb⟩
theorem TxsR.at {w : World} {A n l} (h : TxsR w A n l) (hn : 0 < n) : ∃ b off, A = some ⟨b, off, none⟩ ∧ b < w.heap.size ∧ ∀ j, j < n → w.cell? ⟨b, off + j * 4, none⟩ = some (.int .i64 (xth l j).se) ∧ w.cell? ⟨b, off + j * 4 + 1, none⟩ = some (.int .i64 (xth l j).sq) ∧ w.cell? ⟨b, off + j * 4 + 2, none⟩ = some (.string (xth l j).k) ∧ w.cell? ⟨b, off + j * 4 + 3, none⟩ = some (.string (xth l j).v) := by
  obtain ⟨b, off, e, hb, hc⟩ := h.2.2.2 hn
  refine ⟨b, off, e, hb, fun j hj => ?_⟩
  have hat : ∀ r u, r < 4 → (encX (xth l j))[r]? = some u → w.cell? ⟨b, off + j * 4 + r, none⟩ = some u := fun r u hr hu => by
    rw [Nat.add_assoc]
    exact hc _ u (by rw [flat_at encX_len l j r (by rw [h.1]; exact hj) hr]; exact hu)
  exact ⟨hat 0 _ (by omega) rfl, hat 1 _ (by omega) rfl, hat 2 _ (by omega) rfl, hat 3 _ (by omega) rfl⟩
instance : Inhabited ByteArray := ⟨⟨#[]⟩⟩
structure BatchD where
  au : Int
  n : Int
  tx : List TxD
instance : Inhabited BatchD := ⟨⟨0, 0, []⟩⟩
structure AskP where
  p : SlP
  q : SlP
  x : SlP
  b : SlP
  k : SlP
structure AskD where
  p : List PairD
  q : List AcctD
  x : List TxD
  b : List BatchD
  k : List ByteArray
end
section
open Go.RowKit Go.ChangeShapes Go.WideShapes Go.ChangeAt
section
variable {H : Type} {enc : TypeId × Value → H} {w : World} {base : Nat} {spare : Nat → Bool} {held : Bool}
def Wok (t : TypeId) (d : DataW H) : Prop := ∀ b ∈ d.weights Try.prog t, b ≤ reachBytes
theorem Wok.field {t : TypeId} {fs : Array Field} {parts : List (DataW H)} (ht : Try.prog.underlying t = some (.struct fs)) (h : Wok t (.agg parts)) {i : Nat} {f : TypeId} {d : DataW H} (hf : (fs.toList.map (·.type))[i]? = some f) (hd : parts[i]? = some d) : Wok f d :=
  fun b hb => h b (by simp only [DataW.weights, ht]; exact DataW.weights_mem_each hf hd b hb)
theorem weightsAll_mem {e : TypeId} {d : DataW H} {b : Nat} (hb : b ∈ d.weights Try.prog e) : ∀ {l : List (DataW H)}, d ∈ l → b ∈ DataW.weightsAll Try.prog e l
  | [], h => by cases h
  | x :: l, h => by
    rw [DataW.weightsAll, List.mem_append]
    rcases List.mem_cons.1 h with rfl | h
    · exact .inl hb
    · exact .inr (weightsAll_mem hb h)
theorem Wok.elem {t e : TypeId} {elems sp : List (DataW H)} (ht : Try.prog.underlying t = some (.slice e)) (h : Wok t (.slice elems sp)) {d : DataW H} (hd : d ∈ elems) : Wok e d :=
  fun b hb => h b (by simp only [DataW.weights, ht]; exact List.mem_cons_of_mem _ (List.mem_append_left _ (weightsAll_mem hb hd)))
theorem Wok.len {t e : TypeId} {elems sp : List (DataW H)} (ht : Try.prog.underlying t = some (.slice e)) (h : Wok t (.slice elems sp)) : (elems.length + sp.length) * Try.prog.bytesOf e ≤ reachBytes :=
  h _ (by simp only [DataW.weights, ht]; exact List.mem_cons_self)
set_option maxRecDepth 20000 in
/-- A slice of flat elements, opened: how long it may be. -/
theorem open_flatS {α : Type} [Inhabited α] {e : α → List Value} {k kb : Nat} {G : α → Prop} {t te : TypeId} (hk : ∀ x, (e x).length = k) (hk0 : 0 < k) (ht : Try.prog.underlying t = some (.slice te)) (hc : Try.prog.cellsOf te = k) (hb0 : Try.prog.bytesOf te = kb)
    (hopen : ∀ (fuel : Nat) (cs : List Value) (x : DataW H × List MemPlace), DataW.trod enc Try.prog w base spare held fuel te cs = some x → Wok te x.1 → ∃ v, cs = e v ∧ G v)
    {fuel : Nat} {cs : List Value} {x : DataW H × List MemPlace} (h : DataW.trod enc Try.prog w base spare held fuel t cs = some x) (hw : Wok t x.1) : ∃ A n c l, cs = [.slice A n c] ∧ l.length = n ∧ RowV w A n k (flat e l) ∧ n ≤ c ∧ c ≤ 9223372036854775807 ∧ n * kb ≤ 140737488355328 ∧ ∀ v ∈ l, G v := by
  rcases Deep.open_slice ht h with ⟨hcs, _⟩ | ⟨a, len, cap, m, n, D, Pl, hcs, _, hl, hm, hmm, hxx, hx⟩
  · exact ⟨none, 0, 0, [], hcs, rfl, ⟨by simp [flat], by omega, fun h => absurd h (by omega)⟩, by omega, by omega, by omega, fun v hv => by cases hv⟩
  · have hlen : len ≤ m := by rw [hmm]; split <;> omega
    rw [hxx] at hw
    have hq : len * kb ≤ 140737488355328 := by
      have := hw.len ht
      rw [hb0] at this
      simp only [List.length_map, List.length_range, reachBytes] at this
      have h2 : len * kb ≤ (len + (m - len)) * kb := Nat.mul_le_mul_right _ (by omega)
      omega
    have hcell : ∀ i, i < len → ∃ v : α, G v ∧ ∀ j u, (e v)[j]? = some u → w.cell? (a.add (i * k + j)) = some u := by
      intro i hi
      obtain ⟨cs', h1, h2⟩ := hx i (by omega)
      rw [hc] at h1
      obtain ⟨v, rfl, hg⟩ := hopen _ _ _ h2 (hw.elem ht (List.mem_map.2 ⟨i, List.mem_range.2 hi, rfl⟩))
      refine ⟨v, hg, fun j u hj => ?_⟩
      obtain ⟨_, _, hat⟩ := World.cells?_some h1
      have hjk : j < k := by
        have := (List.getElem?_eq_some_iff.1 hj).1
        rw [hk] at this; exact this
      have := hat j hjk
      rw [Deep.add_add] at this
      rw [this]; exact hj
    obtain ⟨f, hf⟩ := Deep.choose_lt (α := α) hcell
    have hg : ∀ i, i < len → ((List.range len).map f).getD i default = f i := fun i hi => by simp [hi]
    refine ⟨some a, len, cap, (List.range len).map f, hcs, by simp, ⟨by rw [flat_len hk]; simp, by have : cap ≤ 9223372036854775807 := hm; omega, fun hn => ?_⟩, hl, hm, hq, fun v hv => ?_⟩
    · obtain ⟨b, off, spot⟩ := a
      have h0 := (hf 0 hn).2
      obtain ⟨u0, hu0⟩ : ∃ u, (e (f 0))[0]? = some u := by
        have : 0 < (e (f 0)).length := by rw [hk]; exact hk0
        exact ⟨_, List.getElem?_eq_getElem this⟩
      have hc0 := h0 0 u0 hu0
      have hspot : spot = none := by simpa [Addr.add] using World.cell?_spot hc0
      subst hspot
      refine ⟨b, off, rfl, by simpa [Addr.add] using World.block_lt_of_cell? w _ hc0, fun j u hj => ?_⟩
      have hjl : j < len * k := by
        have := (List.getElem?_eq_some_iff.1 hj).1
        rw [flat_len hk] at this; simpa using this
      have hq : j / k < len := by rw [Nat.div_lt_iff_lt_mul hk0]; exact hjl
      have hr : j % k < k := Nat.mod_lt _ hk0
      have hjj : j = j / k * k + j % k := by rw [Nat.mul_comm]; exact (Nat.div_add_mod j k).symm
      have h1 := flat_at hk ((List.range len).map f) (j / k) (j % k) (by simpa using hq) hr
      rw [← hjj, hg _ hq, hj] at h1
      have h2 := (hf (j / k) hq).2 (j % k) u h1.symm
      rw [← hjj] at h2
      rw [← h2]
      congr 1
      by_cases hz : j = 0
      · subst hz; rfl
      · simp [Addr.add, hz]
    · rw [List.mem_map] at hv
      obtain ⟨i, hi, rfl⟩ := hv
      exact (hf i (List.mem_range.1 hi)).1
end
end
section
open Go.RowKit
theorem bel_set3 {w x : World} (h : Below w.heap.size w x) {b o : Nat} {v : Value} (hp : w.heap.size ≤ b) : Below w.heap.size w (x.setCell ⟨b, o, none⟩ v) := h.setCell hp v
theorem own_set3 {w : World} {B k n : Nat} {t : TypeId} {v : Value} {xs : List Value} (h : w.ownsRow B t k v n xs) {b o : Nat} (hp : b < B) (u : Value) : (w.setCell ⟨b, o, none⟩ u).ownsRow B t k v n xs := own_set h (p := ⟨b, o, none⟩) hp u
end
section
open Go.RowKit
end
section
open Go.RowKit
/-- An asking that is played. -/
structure Light (P : AskP) (D : AskD) : Prop where
  p : P.p.n ≤ 6000
  q : P.q.n ≤ 6000
  x : P.x.n ≤ 100
  b : P.b.n ≤ 6000
  k : P.k.n ≤ 100
  t : ∀ v ∈ D.b, v.tx.length ≤ 6000
end
section
end
section
open Go.RowKit
end
section
open Go.RowKit
end
section
open Go.RowKit
variable {tb : TypeId} {rs : List Value}

set_option maxRecDepth 100000 in
set_option maxHeartbeats 2000000 in
theorem ref4_Txs (A : Option Addr) (n c : Nat) (l : List TxD) (w : World) (hl : TxsR w A n l) : Calls Try.prog 67 #[.slice A n c] w fun e w' => ∃ y, e = .returned (.bool y) ∧ (y = true ↔ ∀ j, j < n → txS (xth l j) = true) ∧ Below w.heap.size w w' := by
  have HL := Lib.hid hl
  have hnn : n ≤ 9223372036854775807 := hl.2.2.1
  clear hl
  obtain ⟨y, hy⟩ : ∃ y, y = dec (∀ j, j < n → txS (xth l j) = true) := ⟨_, rfl⟩
  have HY : Hid (y = true ↔ ∀ j, j < n → txS (xth l j) = true) := Lib.hid (by rw [hy]; exact dec_iff)
  clear hy
  suffices h : Calls Try.prog 67 #[.slice A n c] w fun e w' => e = .returned (.bool y) ∧ Below w.heap.size w w' from h.mono fun e w' ⟨h1, h2⟩ => ⟨y, h1, HY.out, h2⟩
  go_enter Try.func67, Try.ntmps67
  go_wp2_with fail
  go_loopw [3] (fun ix wr => ∃ k : Nat, k ≤ n ∧ ix = .int .i64 k ∧ Hid (∀ j, j < k → txS (xth l j) = true) ∧ Below w.heap.size w wr) (fun ix _ => n - (intOf ix).toNat)
  case atStart => exact ⟨0, Nat.zero_le _, rfl, Lib.hid (fun j hj => absurd hj (by omega)), Below.refl _ _⟩
  case round =>
    obtain ⟨k, hk, rfl, HG, hbw⟩ := hrel
    (obtain ⟨wk, hwk⟩ : ∃ x, x = wr := ⟨_, rfl⟩); subst hwk
    by_cases hlt : k < n
    · obtain ⟨b, off, rfl, hb, hc⟩ := (HL.out.up hbw).at (by omega)
      obtain ⟨c0, c1, c2, c3⟩ := hc k hlt
      clear hc
      cases hx : txS (xth l k)
      · have HX := Lib.hid hx
        clear hx
        go_wp2_with (go_at_call 88; refine (ref4_Tx (xth l k) false _ HX.out).mono ?_; rintro e w1 ⟨rfl, hb1⟩)
        go_ret
        refine ⟨ret_bool ?_, bel_trans hbw hb1⟩
        cases y
        · rfl
        · have := HY.out.1 rfl k hlt
          rw [HX.out] at this; cases this
      · have HX := Lib.hid hx
        clear hx
        go_wp2_with (go_at_call 88; refine (ref4_Tx (xth l k) true _ HX.out).mono ?_; rintro e w1 ⟨rfl, hb1⟩)
        (first | (go_round; (case rel => exact ⟨k + 1, by omega, by go_num, Lib.hid (fun j hj => by (rcases Nat.lt_or_ge j k with h | h; exact HG.out j h; (obtain rfl : j = k := by omega); exact HX.out)), bel_trans hbw hb1⟩); (case measure => (simp [intOf] <;> omega))) | (go_roundw; (case rel => exact ⟨k + 1, by omega, by go_num, Lib.hid (fun j hj => by (rcases Nat.lt_or_ge j k with h | h; exact HG.out j h; (obtain rfl : j = k := by omega); exact HX.out)), bel_trans hbw hb1⟩); (case measure => (simp [intOf] <;> omega))) | (refine ⟨?_, by simp [intOf] <;> omega⟩; (repeat apply Exists.intro); refine ⟨?rel, ?fr⟩; (case fr => ((repeat' apply And.intro) <;> rfl)); (case rel => exact ⟨k + 1, by omega, by go_num, Lib.hid (fun j hj => by (rcases Nat.lt_or_ge j k with h | h; exact HG.out j h; (obtain rfl : j = k := by omega); exact HX.out)), bel_trans hbw hb1⟩)))
    · obtain rfl : k = n := by omega
      go_wp2_with fail
      go_ret
      exact ⟨ret_bool (HY.out.2 HG.out).symm, hbw⟩
end
section
open Go.RowKit
theorem info_Tx : (Try.prog.info? 119).map (fun i => (i.zero, i.size, i.bytes)) = some (some (.agg #[.int .i64 0, .int .i64 0, .string ⟨#[]⟩, .string ⟨#[]⟩]), 4, 48) := by kernel_rfl
theorem run_app_Tx (w : World) (B : Nat) (v : Value) (n : Nat) (xs : List Value) (hown : w.ownsRow B 119 4 v n xs) (vb off m c : Nat) (e : List Value) (hm : e.length = m * 4) (hv : ∀ j u, e[j]? = some u → w.cell? ⟨vb, off + j, none⟩ = some u) (h1e : ∀ u ∈ e, u.oneCell' = true) (hn : n + m ≤ 1000000000) (hB : B ≤ w.heap.size) :
    ∃ v' w', (Builtin.append_ #[36, 36] 36 #[v, .slice (some ⟨vb, off, none⟩) m c]).run Try.prog w = .ok v' w' ∧ w'.ownsRow B 119 4 v' (n + m) (xs ++ e) ∧ w.grownBy w' v.ownBlock ∧ Below B w w' ∧ (v'.ownBlock = v.ownBlock ∨ v'.ownBlock = some w.heap.size) := by
  obtain ⟨i0, hi, hz, hz1, hz2⟩ := info_parts info_Tx
  obtain ⟨v', w', hrun, h2, h3, _, h5⟩ := run_append_own_at (P := Try.prog) w B 36 36 119 i0 _ 4 48 Try.underlying36 hi hz hz1 hz2 rfl (by omega) v n xs hown ⟨vb, off, none⟩ m c e hm
    (by intro j u hu; rw [Addr.add_lit]; exact hv j u hu) h1e (by simp only [maxLen]; omega) (by omega) hB
  exact ⟨v', w', hrun, h2, h3, ⟨h3.os, h3.tape, h3.output, h3.size, fun k hk => h3.block k (by omega) (fun e => by have := (own_lt hown k e.symm).1; omega)⟩, h5⟩
def OwnX (w : World) (B : Nat) (v : Value) (l : List TxD) : Prop := w.ownsRow B 119 4 v l.length (flat encX l)
theorem OwnX.nil (w : World) (B : Nat) : OwnX w B (.slice none 0 0) [] := own_nil w B 4 _
theorem OwnX.txs {w : World} {B : Nat} {v : Value} {l : List TxD} (h : OwnX w B v l) (hl : l.length ≤ 9223372036854775807) : ∃ A c, v = .slice A l.length c ∧ TxsR w A l.length l ∧ l.length ≤ c ∧ c ≤ 9223372036854775807 := by
  obtain ⟨A, c, e, hr, _, h1, h2⟩ := own_row h hl
  exact ⟨A, c, e, ⟨rfl, hr⟩, h1, h2⟩
theorem OwnX.up {w w' : World} {B : Nat} {v : Value} {l : List TxD} (h : OwnX w B v l) (hb : Below w.heap.size w w') : OwnX w' B v l := own_up h hb
theorem OwnX.mono {w : World} {B B' : Nat} {v : Value} {l : List TxD} (h : OwnX w B v l) (hB : B' ≤ B) : OwnX w B' v l := own_mono h hB
theorem OwnX.set3 {w : World} {B : Nat} {v : Value} {l : List TxD} (h : OwnX w B v l) {b o : Nat} (hp : b < B) (u : Value) : OwnX (w.setCell ⟨b, o, none⟩ u) B v l := own_set3 h hp u
theorem wpList_appX {w : World} {ops : Array Oper} {rest : List Oper} {o : Oper} {a : Act} {Q : Exit → Act → World → Prop} (hgd : o.guard = none) (s x : Operand)
    (ho : o.op = .call { callee := .builtin .append, args := #[s, x], argTypes := #[36, 36] }) (hty : o.type = 36)
    (B : Nat) (v : Value) (l : List TxD) (hs : a.eval s = v) (hown : OwnX w B v l) (vb off m c : Nat) (e : List TxD) (hx : a.eval x = .slice (some ⟨vb, off, none⟩) m c) (hm : e.length = m) (hv : ∀ j u, (flat encX e)[j]? = some u → w.cell? ⟨vb, off + j, none⟩ = some u)
    (hlen : l.length + m ≤ 900000000) (hB : B ≤ w.heap.size)
    (h : ∀ v' w', OwnX w' B v' (l ++ e) → w.grownBy w' v.ownBlock → Below B w w' → (v'.ownBlock = v.ownBlock ∨ v'.ownBlock = some w.heap.size) → wpList Try.prog ops Q rest (a.put o.dst v') w') : wpList Try.prog ops Q (o :: rest) a w := by
  obtain ⟨v', w', hrun, h2, h3, h4, h5⟩ := run_app_Tx w B v l.length (flat encX l) hown vb off m c (flat encX e) (by rw [flat_len encX_len, hm]) hv (flat_oneCell encX_one e) (by omega) hB
  have hown' : OwnX w' B v' (l ++ e) := by unfold OwnX; rw [List.length_append, hm, flat_app]; exact h2
  exact Lib.wpList_append_run w hgd s x _ _ ho v _ hs hx v' w' (by rw [hty]; exact hrun) (h v' w' hown' h3 h4 h5)
set_option maxRecDepth 100000 in
set_option maxHeartbeats 2000000 in
theorem ref0_EqTxs (A : Option Addr) (n c : Nat) (A' : Option Addr) (n' c' : Nat) (l : List TxD) (w : World) (hl : TxsR w A n l) (hl' : TxsR w A' n' l) : Calls Try.prog 89 #[.slice A n c, .slice A' n' c'] w fun e w' => e = .returned (.bool true) ∧ Below w.heap.size w w' := by
  have hnn : n' = n := by rw [← hl.1, ← hl'.1]
  subst hnn
  have HL := Lib.hid hl
  have HL' := Lib.hid hl'
  have hnn : n' ≤ 9223372036854775807 := hl.2.2.1
  clear hl hl'
  go_enter Try.func89, Try.ntmps89
  go_wp2_with fail
  go_loopw [5] (fun ix wr => ∃ k : Nat, k ≤ n' ∧ ix = .int .i64 k ∧ Below w.heap.size w wr) (fun ix _ => n' - (intOf ix).toNat)
  case atStart => exact ⟨0, Nat.zero_le _, rfl, Below.refl _ _⟩
  case round =>
    obtain ⟨k, hk, rfl, hbw⟩ := hrel
    (obtain ⟨wk, hwk⟩ : ∃ x, x = wr := ⟨_, rfl⟩); subst hwk
    by_cases hlt : k < n'
    · obtain ⟨b, off, rfl, hb, hc⟩ := (HL.out.up hbw).at (by omega)
      obtain ⟨b', off', rfl, hb', hc'⟩ := (HL'.out.up hbw).at (by omega)
      obtain ⟨c0, c1, c2, c3⟩ := hc k hlt
      obtain ⟨d0, d1, d2, d3⟩ := hc' k hlt
      clear hc hc'
      go_wp2_with fail
      refine wp_region_fam (by kernel_rfl) (by kernel_rfl) (fun ι F hne hF hcl => ?_)
      have hcF0 := fun n o => (bcell (hF n)).1 (b) o (by first | (simp; done) | (simp; omega) | omega)
      have hcF1 := fun n o => (bcell (hF n)).1 (b') o (by first | (simp; done) | (simp; omega) | omega)
      have HF := Lib.hid hF; clear hF
      have HC := Lib.hid hcl; clear hcl
      repeat (any_goals (first
       | go_big_quiet_step (first | (fail))
       | (refine wpQuiet_guard _ _ _ rfl rfl ?_; (fail_if_success (intro b' hb; have h2 := hb.symm; have : b' = true := h2.trans (by with_reducible rfl))); (fail_if_success (intro b' hb; have h2 := hb.symm; have : b' = false := h2.trans (by with_reducible rfl))); intro b' hb; simp only [hb]; cases b' <;> (try simp only [Bool.not_eq_true', Bool.not_eq_false', decide_eq_true_eq, decide_eq_false_iff_not, Int.not_lt, Int.not_le, Bool.and_eq_true, Bool.or_eq_true, Bool.or_eq_false_iff, beq_iff_eq, beq_eq_false_iff_ne, Int.natCast_pos] at hb))))
      all_goals (refine wpQuiet_nil ?_; intro nq)
      have hFwf := HF.out nq
      clear HF HC hne
      generalize F nq = wf at *
      go_wp2_with fail
      (first | (go_round; (case rel => exact ⟨k + 1, by omega, by go_num, bel_trans hbw hFwf⟩); (case measure => (simp [intOf] <;> omega))) | (go_roundw; (case rel => exact ⟨k + 1, by omega, by go_num, bel_trans hbw hFwf⟩); (case measure => (simp [intOf] <;> omega))) | (refine ⟨?_, by simp [intOf] <;> omega⟩; (repeat apply Exists.intro); refine ⟨?rel, ?fr⟩; (case fr => ((repeat' apply And.intro) <;> rfl)); (case rel => exact ⟨k + 1, by omega, by go_num, bel_trans hbw hFwf⟩)))
    · go_wp2_with fail
      go_ret
      exact ⟨rfl, hbw⟩
set_option maxRecDepth 100000 in
set_option maxHeartbeats 1000000 in
theorem ref0_EqBatch (b : BatchD) (A : Option Addr) (n c : Nat) (A' : Option Addr) (n' c' : Nat) (w : World) (hl : TxsR w A n b.tx) (hl' : TxsR w A' n' b.tx) :
    Calls Try.prog 71 #[.agg #[.int .i64 b.au, .int .i64 b.n, .slice A n c], .agg #[.int .i64 b.au, .int .i64 b.n, .slice A' n' c']] w fun e w' => e = .returned (.bool true) ∧ Below w.heap.size w w' := by
  have HL := Lib.hid hl
  have HL' := Lib.hid hl'
  clear hl hl'
  go_enter Try.func71, Try.ntmps71
  go_wp2_with fail
  refine (ref0_EqTxs _ _ _ _ _ _ b.tx _ (HL.out.up (by (repeat (first | (with_reducible exact Below.refl _ _) | (with_reducible assumption) | (with_reducible apply bel_alloc) | (with_reducible apply bel_drew) | (with_reducible apply bel_drewN) | (with_reducible refine bel_trans ?_ (by with_reducible assumption)) | (with_reducible refine bel_trans ?_ (HF.out _)) | ((with_reducible refine bel_set3 ?_ ?_); rotate_left; omega))))) (HL'.out.up (by (repeat (first | (with_reducible exact Below.refl _ _) | (with_reducible assumption) | (with_reducible apply bel_alloc) | (with_reducible apply bel_drew) | (with_reducible apply bel_drewN) | (with_reducible refine bel_trans ?_ (by with_reducible assumption)) | (with_reducible refine bel_trans ?_ (HF.out _)) | ((with_reducible refine bel_set3 ?_ ?_); rotate_left; omega)))))).mono ?_
  rintro e w1 ⟨rfl, hb1⟩
  go_wp2_with fail
  go_ret
  exact ⟨rfl, by (repeat (first | (with_reducible exact Below.refl _ _) | (with_reducible assumption) | (with_reducible apply bel_alloc) | (with_reducible apply bel_drew) | (with_reducible apply bel_drewN) | (with_reducible refine bel_trans ?_ (by with_reducible assumption)) | (with_reducible refine bel_trans ?_ (HF.out _)) | ((with_reducible refine bel_set3 ?_ ?_); rotate_left; omega)))⟩
end
end Go.Proofs.Ytnngeaibdnnpoaa
