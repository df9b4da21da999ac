/- Answers written over: numbers, headers, certificates, lists of them: no block that lay there before changes its kind or size; none below the bound changes at all. -/
import Derived.Test.YtfkbilbgndekkaaKg
namespace Go.Proofs.Ytfkbilbgndekkaa
open Go.RowKit
set_option linter.unusedSimpArgs false
set_option linter.unusedVariables false

/-- Blocks keep their types and sizes; those that hold no numbers keep their cells. -/
def KeepT (w w' : World) : Prop := ∀ (k : Nat) (cur : Array Value) (t : TypeId), w.heap[k]? = some (.cells cur t (0, 0)) → ∃ cur' : Array Value, w'.heap[k]? = some (.cells cur' t (0, 0)) ∧ cur'.size = cur.size ∧ (t ≠ 3 → cur' = cur)
theorem KeepT.refl (w : World) : KeepT w w := fun k cur t h => ⟨cur, h, rfl, fun _ => rfl⟩
theorem KeepT.trans {a b c : World} (h : KeepT a b) (k : KeepT b c) : KeepT a c := fun i cur t hc => by
  obtain ⟨c1, h1, h2, h3⟩ := h i cur t hc
  obtain ⟨c2, k1, k2, k3⟩ := k i c1 t h1
  exact ⟨c2, k1, by omega, fun ht => by rw [k3 ht, h3 ht]⟩
theorem KeepT.of_below {w w' : World} (h : Below w.heap.size w w') : KeepT w w' := fun k cur t hc => ⟨cur, (h.block k (Array.getElem?_eq_some_iff.1 hc).1).trans hc, rfl, fun _ => rfl⟩
theorem KeepT.setI {w : World} {g o : Nat} {cur : Array Value} {v : Value} (hg : w.heap[g]? = some (.cells cur 3 (0, 0))) : KeepT w (w.setCell ⟨g, o, none⟩ v) := fun k c t hc => by
  by_cases h : k = g
  · subst h
    rw [hg] at hc
    injection hc with hc
    injection hc with e1 e2 _
    subst e1; subst e2
    exact ⟨cur.setIfInBounds o v, by simp [World.setCell, Array.getElem?_modify, hg], by simp, fun ht => absurd rfl ht⟩
  · exact ⟨c, (Below.heap_setCell _ _ _ _ h).trans hc, rfl, fun _ => rfl⟩
/-- Only blocks from B on, below B2, are written; others, but new ones, stay as they are. -/
structure Mid (B B2 : Nat) (w w' : World) : Prop where
  os : w'.os = w.os
  tape : w'.tape = w.tape
  output : w'.output = w.output
  size : w.heap.size ≤ w'.heap.size
  block : ∀ k, k < w.heap.size → (k < B ∨ B2 ≤ k) → w'.heap[k]? = w.heap[k]?
theorem Mid.refl (B B2 : Nat) (w : World) : Mid B B2 w w := ⟨rfl, rfl, rfl, Nat.le_refl _, fun _ _ _ => rfl⟩
theorem Mid.trans {B B2 : Nat} {a b c : World} (h : Mid B B2 a b) (k : Mid B B2 b c) : Mid B B2 a c := ⟨k.os.trans h.os, k.tape.trans h.tape, k.output.trans h.output, Nat.le_trans h.size k.size, fun i h1 h2 => (k.block i (Nat.lt_of_lt_of_le h1 h.size) h2).trans (h.block i h1 h2)⟩
theorem Mid.of_below {B B2 : Nat} {w w' : World} (h : Below w.heap.size w w') : Mid B B2 w w' := ⟨h.os, h.tape, h.output, h.size, fun k hk _ => h.block k hk⟩
theorem Mid.below {B B2 : Nat} {w w' : World} (h : Mid B B2 w w') (hB : B ≤ w.heap.size) : Below B w w' := ⟨h.os, h.tape, h.output, h.size, fun k hk => h.block k (by omega) (.inl hk)⟩
theorem Mid.setCell {B B2 : Nat} {w w' : World} (h : Mid B B2 w w') {g o : Nat} (h1 : B ≤ g) (h2 : g < B2) (v : Value) : Mid B B2 w (w'.setCell ⟨g, o, none⟩ v) := ⟨h.os, h.tape, h.output, by simpa [World.setCell] using h.size, fun k hk hh => (Below.heap_setCell _ _ _ _ (by show k ≠ g; omega)).trans (h.block k hk hh)⟩
/-- A row of numbers that is one's own, whatever it holds. -/
def RowI (w : World) (B B2 : Nat) (s : SlP) : Prop := s.v = .slice none 0 0 ∨ ∃ g cur, s.A = some ⟨g, 0, none⟩ ∧ (B ≤ g ∧ g < B2) ∧ w.heap[g]? = some (.cells cur 3 (0, 0)) ∧ s.n ≤ s.c ∧ s.c ≤ maxLen ∧ cur.size = s.c
theorem OwnI.row {w : World} {B B2 : Nat} {s : SlP} {l : List Int} (h : OwnI w B s.v l) (hB2 : w.heap.size ≤ B2) : RowI w B B2 s := by
  rcases h.2 with ⟨e, _⟩ | ⟨g, cap, cur, e, hb, hg, h1, h2, h3, _⟩
  · exact .inl e
  · unfold SlP.v at e
    injection e with e1 e2 e3
    exact .inr ⟨g, cur, e1, ⟨hb, by have := (Array.getElem?_eq_some_iff.1 hg).1; omega⟩, hg, by omega, by omega, by rw [h3, e3]; omega⟩
theorem RowI.keep {w w' : World} {B B2 : Nat} {s : SlP} (h : RowI w B B2 s) (hk : KeepT w w') : RowI w' B B2 s := by
  rcases h with h | ⟨g, cur, e, hb, hg, h1, h2, h3⟩
  · exact .inl h
  · obtain ⟨c', k1, k2, _⟩ := hk g cur _ hg
    exact .inr ⟨g, c', e, hb, k1, h1, h2, by omega⟩
theorem RowI.up {w w' : World} {B B2 : Nat} {s : SlP} (h : RowI w B B2 s) (hb : Below w.heap.size w w') : RowI w' B B2 s := h.keep (.of_below hb)
theorem run_app_keep (w : World) (B B2 g n cap : Nat) (cur : Array Value) (ty : TypeId) (hg : w.heap[g]? = some (.cells cur 3 (0, 0))) (hcs : cur.size = cap) (hnc : n ≤ cap) (hcm : cap ≤ maxLen) (hB : B ≤ g) (hB2 : g < B2) (hn : n ≤ 1000000000) (vb : Nat) (x : Int) (hx : w.cell? ⟨vb, 0, none⟩ = some (.int .i64 x)) :
    ∃ v' w', (Builtin.append_ #[25, 25] ty #[.slice (some ⟨g, 0, none⟩) n cap, .slice (some ⟨vb, 0, none⟩) 1 1]).run Try.prog w = .ok v' w' ∧ Mid B B2 w w' ∧ KeepT w w' := by
  obtain ⟨i0, hi, hz, hz1, hz2⟩ := info_parts int_info
  have hnews : ∀ j u, [Value.int .i64 x][j]? = some u → w.cell? ((⟨vb, 0, none⟩ : Addr).add j) = some u := fun j u hu => by
    cases j with
    | zero => simp at hu; subst hu; simpa [Addr.add] using hx
    | succ j => simp at hu
  have hgl : g < w.heap.size := (Array.getElem?_eq_some_iff.1 hg).1
  by_cases hroom : n + 1 ≤ cap
  · have hr := run_append_room (P := Try.prog) w 25 ty 3 i0 Try.underlying25 hi g n cap cur hg ⟨vb, 0, none⟩ 1 1 [.int .i64 x] (by rw [hz1]; rfl) hnews (by simp [Value.oneCell']) hroom (by rw [hz1]; simp; omega)
    refine ⟨_, _, hr, ⟨rfl, rfl, rfl, by simp, fun k hk hh => setRow_other w g k _ (by omega)⟩, fun k c t hc => ?_⟩
    by_cases h : k = g
    · subst h
      rw [hg] at hc
      injection hc with hc
      injection hc with e1 e2 _
      subst e1; subst e2
      refine ⟨_, setRow_heap w k cur _ _ _ hg, ?_, fun ht => absurd rfl ht⟩
      rw [hz1]; simp; omega
    · exact ⟨c, (setRow_other w g k _ h).trans hc, rfl, fun _ => rfl⟩
  · have hnn : n = cap := by omega
    have hold : ∀ j v, (cur.toList.take n)[j]? = some v → w.cell? ((⟨g, 0, none⟩ : Addr).add j) = some v := fun j v hj => by
      rw [Addr.add_lit, Nat.zero_add]
      rw [List.getElem?_take] at hj
      split at hj
      · simp [World.cell?, hg]; simpa using hj
      · cases hj
    have hr := run_append_grow (P := Try.prog) w 25 ty 3 i0 _ Try.underlying25 hi hz ⟨g, 0, none⟩ n cap (cur.toList.take n) (by rw [hz1]; simp; omega) hold ⟨vb, 0, none⟩ 1 1 [.int .i64 x] (by rw [hz1]; rfl) hnews (by omega) (by simp only [maxLen] at hcm; omega) (by rw [hz2]; exact growslice_fits (by omega) (by omega))
    have hb : Below w.heap.size w (w.drew.alloc (.cells ((cur.toList.take n).toArray ++ [Value.int .i64 x].toArray ++ Builtin.zeroCells (Value.int .i64 0).cells (grownCap w (n + 1) cap 3 - (n + 1))) 3)) := bel_alloc (bel_drew (Below.refl _ _))
    exact ⟨_, _, hr, .of_below hb, .of_below hb⟩
theorem wpList_appK {w : World} {ops : Array Oper} {rest : List Oper} {o : Oper} {a : Act} {Q : Exit → Act → World → Prop} (hgd : o.guard = none) (s x : Operand)
    (ho : o.op = .call { callee := .builtin .append, args := #[s, x], argTypes := #[25, 25] })
    (B B2 g n cap : Nat) (cur : Array Value) (hs : a.eval s = .slice (some ⟨g, 0, none⟩) n cap) (hg : w.heap[g]? = some (.cells cur 3 (0, 0))) (hcs : cur.size = cap) (hnc : n ≤ cap) (hcm : cap ≤ maxLen) (hB : B ≤ g) (hB2 : g < B2) (hn : n ≤ 1000000000) (vb : Nat) (y : Int) (hx : a.eval x = .slice (some ⟨vb, 0, none⟩) 1 1) (hc : w.cell? ⟨vb, 0, none⟩ = some (.int .i64 y))
    (h : ∀ v' w', Mid B B2 w w' → KeepT w w' → wpList Try.prog ops Q rest (a.put o.dst v') w') : wpList Try.prog ops Q (o :: rest) a w := by
  obtain ⟨v', w', hrun, hb, hk⟩ := run_app_keep w B B2 g n cap cur o.type hg hcs hnc hcm hB hB2 hn vb y hc
  exact Lib.wpList_append_run w hgd s x _ _ ho _ _ hs hx _ _ hrun (h v' w' hb hk)
set_option maxRecDepth 100000 in
set_option maxHeartbeats 1000000 in
theorem law0_NumbersK (s : SlP) (B B2 : Nat) (w : World) (hr : RowI w B B2 s) (hn : s.n ≤ 1000000) (hB : B ≤ w.heap.size) :
    Calls Try.prog 24 #[.slice s.A s.n s.c] w fun e w' => e = .returned (.tuple #[]) ∧ Mid B B2 w w' ∧ KeepT w w' := by
  obtain ⟨A, n, c⟩ := s
  dsimp only at hn ⊢
  rcases hr with h | ⟨g, cur, h0, ⟨hgB, hgB2⟩, hg, h1, h2, h3⟩
  · unfold SlP.v at h
    injection h with e1 e2 e3
    subst e1; subst e2; subst e3
    go_enter Try.func24, Try.ntmps24
    go_wp2_with fail
    go_loop [2] (fun i => i = .int .i64 0) (fun _ => 0)
    case atStart => rfl
    case round =>
      obtain rfl := hrel
      go_wp2_with (at_builtin; refine wpList_app1 rfl (.tmp 12) (.tmp 13) rfl w.heap.size _ _ rfl (OwnI.nil _ _) _ 5 rfl (cell0_alloc _ _ _) (by simp) (le_alloc (Nat.le_refl _)) ?_; intro v1 w1 hown1 hg1 hbel1 hat1)
      go_end0
      have hb : Below w.heap.size w w1 := Below.trans ((Below.refl _ _).alloc (Nat.le_refl _) _) hbel1
      exact ⟨rfl, .of_below hb, .of_below hb⟩
  · dsimp only at h0 h1 h2 h3
    subst h0
    go_enter Try.func24, Try.ntmps24
    go_wp2_with fail
    go_loopw [2] (fun i wr => ∃ (k : Nat) (cr : Array Value), k ≤ n ∧ i = .int .i64 k ∧ wr.heap[g]? = some (.cells cr 3 (0, 0)) ∧ cr.size = c ∧ Mid B B2 w wr ∧ KeepT w wr) (fun i _ => n - (intOf i).toNat)
    case atStart => exact ⟨0, cur, by omega, rfl, hg, h3, Mid.refl _ _ _, .refl _⟩
    case round =>
      obtain ⟨k, cr, hk, rfl, hgr, hcr, hbw, hkw⟩ := hrel
      (obtain ⟨wk, hwk⟩ : ∃ x, x = wr := ⟨_, rfl⟩); subst hwk
      have HG := Lib.hid hgr
      have HK := Lib.hid hkw
      by_cases hlt : k < n
      · obtain ⟨u, hu⟩ : ∃ u, wk.cell? ⟨g, k, none⟩ = some u := ⟨cr[k]'(by omega), by simp [World.cell?, hgr, show k < cr.size by omega]⟩
        have hf : wk.frozen? ⟨g, k, none⟩ = false := by simp [World.frozen?, hgr]
        have hgl : g < wk.heap.size := (Array.getElem?_eq_some_iff.1 hgr).1
        clear hgr hkw
        go_wp2_with fail
        (first | (go_round; (case rel => exact ⟨k + 1, cr.setIfInBounds k (.int .i64 (-99)), by omega, by go_num, by have := HG.out; simp [World.setCell, Array.getElem?_modify, this], by simp; omega, hbw.setCell hgB hgB2 _, HK.out.trans (.setI HG.out)⟩); (case measure => (simp [intOf] <;> omega))) | (go_roundw; (case rel => exact ⟨k + 1, cr.setIfInBounds k (.int .i64 (-99)), by omega, by go_num, by have := HG.out; simp [World.setCell, Array.getElem?_modify, this], by simp; omega, hbw.setCell hgB hgB2 _, HK.out.trans (.setI HG.out)⟩); (case measure => (simp [intOf] <;> omega))) | (refine ⟨?_, by simp [intOf] <;> omega⟩; (repeat apply Exists.intro); refine ⟨?rel, ?fr⟩; (case fr => ((repeat' apply And.intro) <;> rfl)); (case rel => exact ⟨k + 1, cr.setIfInBounds k (.int .i64 (-99)), by omega, by go_num, by have := HG.out; simp [World.setCell, Array.getElem?_modify, this], by simp; omega, hbw.setCell hgB hgB2 _, HK.out.trans (.setI HG.out)⟩)))
      · have hsz := hbw.size
        have hgl : g < wk.heap.size := (Array.getElem?_eq_some_iff.1 hgr).1
        have hgr2 : (wk.alloc (.cells #[.int .i64 5] 3)).heap[g]? = some (.cells cr 3 (0, 0)) := (((Below.refl wk.heap.size wk).alloc (Nat.le_refl _) _).block g hgl).trans hgr
        have HG2 := Lib.hid hgr2
        clear hgr hgr2 hkw
        go_wp2_with (at_builtin; refine wpList_appK rfl (.tmp 12) (.tmp 13) rfl B B2 g n c cr rfl HG2.out hcr h1 h2 hgB hgB2 (by omega) _ 5 rfl (cell0_alloc _ _ _) ?_; intro v1 w1 hb1 hk1)
        go_end0
        exact ⟨rfl, Mid.trans (hbw.trans (.of_below (bel_alloc (Below.refl _ _)))) hb1, HK.out.trans (KeepT.trans (.of_below (bel_alloc (Below.refl _ _))) hk1)⟩
theorem own_put {w : World} {B k n c g j : Nat} {t : TypeId} {xs : List Value} {u : Value} (h : w.ownsRow B t k (.slice (some ⟨g, 0, none⟩) n c) n xs) (hj : j < n * k) : (w.setCell ⟨g, j, none⟩ u).ownsRow B t k (.slice (some ⟨g, 0, none⟩) n c) n (xs.set j u) := by
  obtain ⟨h1, h2⟩ := h
  refine ⟨by simpa using h1, ?_⟩
  rcases h2 with ⟨e, _⟩ | ⟨g', cap, cur, e, hb, hg, hc, hm, hs, ht⟩
  · cases e
  · injection e with e1 e2 e3
    injection e1 with e1; injection e1 with e1
    subst e1; subst e3
    refine .inr ⟨g, c, cur.setIfInBounds j u, rfl, hb, ?_, hc, hm, by simpa using hs, ?_⟩
    · simp [World.setCell, Array.getElem?_modify, hg]
    · rw [Array.toList_setIfInBounds, ← ht]
      apply List.ext_getElem?
      intro q
      simp only [List.getElem?_take, List.getElem?_set, List.length_take]
      by_cases hq : q < n * k
      · simp only [hq, if_true]
        by_cases hqj : j = q
        · subst hqj
          have hcl : cur.toList.length = c * k := by simpa using hs
          have : n * k ≤ c * k := Nat.mul_le_mul_right _ hc
          simp [show j < cur.size by omega, hj]
          omega
        · simp [hqj]
      · have hqj : ¬ j = q := by omega
        simp [hq, hqj]
theorem own_get {w : World} {B k n c g : Nat} {t : TypeId} {xs : List Value} (h : w.ownsRow B t k (.slice (some ⟨g, 0, none⟩) n c) n xs) : (∀ j u, xs[j]? = some u → w.cell? ⟨g, j, none⟩ = some u) ∧ ∀ j, w.frozen? ⟨g, j, none⟩ = false := by
  refine ⟨fun j u hj => ?_, fun j => ?_⟩
  · have := World.ownsRow.cells h (g := g) rfl j u hj
    simpa [Addr.add_lit] using this
  · rcases h.2 with ⟨e, _⟩ | ⟨g', cap, cur, e, hb, hg, _⟩
    · cases e
    · injection e with e1 e2 e3
      injection e1 with e1; injection e1 with e1
      subst e1
      simp [World.frozen?, hg]
theorem own_shape {w : World} {B k n : Nat} {t : TypeId} {v : Value} {xs : List Value} (h : w.ownsRow B t k v n xs) : (v = .slice none 0 0 ∧ n = 0) ∨ ∃ g c, v = .slice (some ⟨g, 0, none⟩) n c ∧ B ≤ g ∧ n ≤ c := by
  rcases h.2 with h | ⟨g, cap, cur, rfl, hb, _, hc, _⟩
  · exact .inl h
  · exact .inr ⟨g, cap, rfl, hb, hc⟩

theorem Blk.keep {w w' : World} {g : Nat} {t : TypeId} {cs : List Value} (h : Blk w g t cs) (hk : KeepT w w') (ht : t ≠ 3) : Blk w' g t cs := by
  obtain ⟨c', h1, _, h3⟩ := hk g cs.toArray t h
  unfold Blk
  rw [h1, h3 ht]
theorem own_keep {w w' : World} {B k n : Nat} {t : TypeId} {v : Value} {xs : List Value} (h : w.ownsRow B t k v n xs) (hk : KeepT w w') (ht : t ≠ 3) : w'.ownsRow B t k v n xs := by
  refine ⟨h.1, ?_⟩
  rcases h.2 with hn | ⟨g, cap, cur, rfl, hb, hgg, rest⟩
  · exact .inl hn
  · obtain ⟨c', h1, _, h3⟩ := hk g cur _ hgg
    have := h3 ht
    subst this
    exact .inr ⟨g, cap, c', rfl, hb, h1, rest⟩
set_option maxRecDepth 100000 in
set_option maxHeartbeats 1000000 in
theorem law0_HeaderK (v0 v1 : Value) (s1 s2 : SlP) (B B2 : Nat) (w : World) (h1 : RowI w B B2 s1) (h2 : RowI w B B2 s2) (hn1 : s1.n ≤ 1000000) (hn2 : s2.n ≤ 1000000) (hB : B ≤ w.heap.size) :
    Calls Try.prog 100 #[.agg #[v0, v1, .slice s1.A s1.n s1.c, .slice s2.A s2.n s2.c]] w fun e w' => e = .returned (.tuple #[]) ∧ Mid B B2 w w' ∧ KeepT w w' := by
  have H1 := Lib.hid h1
  have H2 := Lib.hid h2
  clear h1 h2
  go_enter Try.func100, Try.ntmps100
  go_wp2_with fail
  have hX : Blk (w.alloc (.cells #[v0, v1, .slice s1.A s1.n s1.c, .slice s2.A s2.n s2.c] 46)) w.heap.size 46 [v0, v1, .slice s1.A s1.n s1.c, .slice s2.A s2.n s2.c] := Blk.new w 46 [v0, v1, .slice s1.A s1.n s1.c, .slice s2.A s2.n s2.c]
  have hbX : Below w.heap.size w (w.alloc (.cells #[v0, v1, .slice s1.A s1.n s1.c, .slice s2.A s2.n s2.c] 46)) := by (repeat (first | (with_reducible exact Below.refl _ _) | (with_reducible assumption) | (with_reducible apply bel_alloc) | (with_reducible apply bel_drew) | (with_reducible apply bel_drewN) | (with_reducible refine bel_trans ?_ (by with_reducible assumption)) | (with_reducible refine bel_trans ?_ (HF.out _)) | (with_reducible refine bel_set ?_ (by simp) _) | (with_reducible refine bel_set ?_ (by simp; omega) _) | (with_reducible refine bel_set ?_ (by omega) _)))
  generalize (w.alloc (.cells #[v0, v1, .slice s1.A s1.n s1.c, .slice s2.A s2.n s2.c] 46)) = X at *
  have hBX : B ≤ X.heap.size := Nat.le_trans hB hbX.size
  refine (law0_NumbersK s1 B B2 _ (H1.out.up hbX) hn1 hBX).mono ?_
  rintro e w1 ⟨rfl, hb1, hk1⟩
  have hX1 := hX.keep hk1 (by decide)
  have x_0 := (hX1.box).2 0 _ rfl; have x_1 := (hX1.box).2 1 _ rfl; have x_2 := (hX1.box).2 2 _ rfl; have x_3 := (hX1.box).2 3 _ rfl
  have hx1l := hX1.lt
  have HR := Lib.hid ((H2.out.up hbX).keep hk1)
  have HK1 := Lib.hid hk1
  have hB1 : B ≤ w1.heap.size := Nat.le_trans hBX hb1.size
  clear hX1 hX hk1
  go_wp2_with fail
  refine (law0_NumbersK s2 B B2 _ HR.out hn2 hB1).mono ?_
  rintro e w2 ⟨rfl, hb2, hk2⟩
  have HK2 := Lib.hid hk2
  clear hk2
  go_wp2_with fail
  go_end0
  exact ⟨rfl, ((Mid.of_below hbX).trans hb1).trans hb2, (KeepT.of_below hbX).trans (HK1.out.trans HK2.out)⟩
def CertI (w : World) (B B2 : Nat) (p : CertP) : Prop := (RowI w B B2 p.h.b ∧ p.h.b.n ≤ 1000000) ∧ (RowI w B B2 p.h.p ∧ p.h.p.n ≤ 1000000) ∧ RowI w B B2 p.s ∧ p.s.n ≤ 1000000
theorem CertI.keep {w w' : World} {B B2 : Nat} {p : CertP} (h : CertI w B B2 p) (hk : KeepT w w') : CertI w' B B2 p := ⟨⟨h.1.1.keep hk, h.1.2⟩, ⟨h.2.1.1.keep hk, h.2.1.2⟩, h.2.2.1.keep hk, h.2.2.2⟩
theorem CertO.row {w : World} {B B2 : Nat} {p : CertP} {C : CertD} (h : CertO w B p C) (hB2 : w.heap.size ≤ B2) (h1 : C.h.ba.length ≤ 1000000) (h2 : C.h.pa.length ≤ 1000000) (h3 : C.si.length ≤ 1000000) : CertI w B B2 p :=
  ⟨⟨h.1.1.row hB2, by rw [(h.1.1.sl (by omega)).2.2]; exact h1⟩, ⟨h.1.2.row hB2, by rw [(h.1.2.sl (by omega)).2.2]; exact h2⟩, h.2.row hB2, by rw [(h.2.sl (by omega)).2.2]; exact h3⟩
set_option maxRecDepth 100000 in
set_option maxHeartbeats 1000000 in
theorem law0_CertK (v0 v1 v4 : Value) (p : CertP) (B B2 : Nat) (w : World) (h : CertI w B B2 p) (hB : B ≤ w.heap.size) :
    Calls Try.prog 65 #[.agg #[v0, v1, .slice p.h.b.A p.h.b.n p.h.b.c, .slice p.h.p.A p.h.p.n p.h.p.c, v4, .slice p.s.A p.s.n p.s.c]] w fun e w' => e = .returned (.tuple #[]) ∧ Mid B B2 w w' ∧ KeepT w w' := by
  obtain ⟨⟨s1, s2⟩, s3⟩ := p
  obtain ⟨⟨h1, hn1⟩, ⟨h2, hn2⟩, h3, hn3⟩ := h
  dsimp only at h1 h2 h3 hn1 hn2 hn3 ⊢
  have H1 := Lib.hid h1
  have H2 := Lib.hid h2
  have H3 := Lib.hid h3
  clear h1 h2 h3
  go_enter Try.func65, Try.ntmps65
  go_wp2_with fail
  have hX : Blk (w.alloc (.cells #[v0, v1, .slice s1.A s1.n s1.c, .slice s2.A s2.n s2.c, v4, .slice s3.A s3.n s3.c] 48)) w.heap.size 48 [v0, v1, .slice s1.A s1.n s1.c, .slice s2.A s2.n s2.c, v4, .slice s3.A s3.n s3.c] := Blk.new w 48 [v0, v1, .slice s1.A s1.n s1.c, .slice s2.A s2.n s2.c, v4, .slice s3.A s3.n s3.c]
  have hbX : Below w.heap.size w (w.alloc (.cells #[v0, v1, .slice s1.A s1.n s1.c, .slice s2.A s2.n s2.c, v4, .slice s3.A s3.n s3.c] 48)) := by (repeat (first | (with_reducible exact Below.refl _ _) | (with_reducible assumption) | (with_reducible apply bel_alloc) | (with_reducible apply bel_drew) | (with_reducible apply bel_drewN) | (with_reducible refine bel_trans ?_ (by with_reducible assumption)) | (with_reducible refine bel_trans ?_ (HF.out _)) | (with_reducible refine bel_set ?_ (by simp) _) | (with_reducible refine bel_set ?_ (by simp; omega) _) | (with_reducible refine bel_set ?_ (by omega) _)))
  generalize (w.alloc (.cells #[v0, v1, .slice s1.A s1.n s1.c, .slice s2.A s2.n s2.c, v4, .slice s3.A s3.n s3.c] 48)) = X at *
  have hBX : B ≤ X.heap.size := Nat.le_trans hB hbX.size
  refine (law0_HeaderK v0 v1 s1 s2 B B2 _ (H1.out.up hbX) (H2.out.up hbX) hn1 hn2 hBX).mono ?_
  rintro e w1 ⟨rfl, hb1, hk1⟩
  have hX1 := hX.keep hk1 (by decide)
  have x_0 := (hX1.box).2 0 _ rfl; have x_1 := (hX1.box).2 1 _ rfl; have x_2 := (hX1.box).2 2 _ rfl; have x_3 := (hX1.box).2 3 _ rfl; have x_4 := (hX1.box).2 4 _ rfl; have x_5 := (hX1.box).2 5 _ rfl
  have hx1l := hX1.lt
  have HR := Lib.hid ((H3.out.up hbX).keep hk1)
  have HK1 := Lib.hid hk1
  have hB1 : B ≤ w1.heap.size := Nat.le_trans hBX hb1.size
  clear hX1 hX hk1
  go_wp2_with fail
  refine (law0_NumbersK s3 B B2 _ HR.out hn3 hB1).mono ?_
  rintro e w2 ⟨rfl, hb2, hk2⟩
  have HK2 := Lib.hid hk2
  clear hk2
  go_wp2_with fail
  go_end0
  exact ⟨rfl, ((Mid.of_below hbX).trans hb1).trans hb2, (KeepT.of_below hbX).trans (HK1.out.trans HK2.out)⟩
/-- Certificate j of a row lies there, its lists one's own. -/
def RowAt (w : World) (B B2 : Nat) (xs : List Value) (j : Nat) : Prop := ∃ (p : CertP) (C : CertD), (∀ r u, (certCells p C)[r]? = some u → xs[j * 6 + r]? = some u) ∧ CertI w B B2 p
theorem RowAt.keep {w w' : World} {B B2 : Nat} {xs : List Value} {j : Nat} (h : RowAt w B B2 xs j) (hk : KeepT w w') : RowAt w' B B2 xs j := by
  obtain ⟨p, C, h1, h2⟩ := h
  exact ⟨p, C, h1, h2.keep hk⟩
theorem RowI.setC {w : World} {B B2 g o : Nat} {s : SlP} {u : Value} {cur : Array Value} (h : RowI w B B2 s) (hg : w.heap[g]? = some (.cells cur 48 (0, 0))) : RowI (w.setCell ⟨g, o, none⟩ u) B B2 s := by
  rcases h with h | ⟨g', c', e, hb, hg', r⟩
  · exact .inl h
  · refine .inr ⟨g', c', e, hb, (Below.heap_setCell _ _ _ _ ?_).trans hg', r⟩
    intro e'
    have e2 : g' = g := e'
    subst e2
    rw [hg] at hg'
    injection hg' with hg'
    injection hg' with _ e3 _
    exact absurd e3 (by decide)
theorem RowAt.setC {w : World} {B B2 g o j : Nat} {xs : List Value} {u : Value} {cur : Array Value} (h : RowAt w B B2 xs j) (hg : w.heap[g]? = some (.cells cur 48 (0, 0))) (ho : o < j * 6) : RowAt (w.setCell ⟨g, o, none⟩ u) B B2 (xs.set o u) j := by
  obtain ⟨p, C, h1, ⟨h2, n2⟩, ⟨h3, n3⟩, h4, n4⟩ := h
  refine ⟨p, C, fun r u' hu => ?_, ⟨h2.setC hg, n2⟩, ⟨h3.setC hg, n3⟩, h4.setC hg, n4⟩
  rw [List.getElem?_set, if_neg (by omega)]
  exact h1 r u' hu
set_option maxRecDepth 100000 in
set_option maxHeartbeats 4000000 in
theorem law0_Certs (v : Value) (n : Nat) (xs : List Value) (B B2 : Nat) (w : World) (hown : w.ownsRow B 48 6 v n xs) (hat : ∀ j, j < n → RowAt w B B2 xs j) (hn : n ≤ 1000000) (hB : B ≤ w.heap.size) (hB2 : ∀ g, v.ownBlock = some g → g < B2) :
    Calls Try.prog 46 #[v] w fun e w' => e = .returned (.tuple #[]) ∧ Mid B B2 w w' := by
  rcases own_shape hown with ⟨rfl, rfl⟩ | ⟨g, c, rfl, hgB, hnc⟩
  · have HO := Lib.hid hown
    clear hown hat hB2
    go_enter Try.func46, Try.ntmps46
    go_wp2_with fail
    go_loop [2] (fun i => i = .int .i64 0) (fun _ => 0)
    case atStart => rfl
    case round =>
      obtain rfl := hrel
      have hb1 : Below w.heap.size w (w.alloc (.cells #[.int .i64 0, .int .i64 0, .slice none 0 0, .slice none 0 0, .int .i64 0, .slice none 0 0] 48)) := by (repeat (first | (with_reducible exact Below.refl _ _) | (with_reducible assumption) | (with_reducible apply bel_alloc) | (with_reducible apply bel_drew) | (with_reducible apply bel_drewN) | (with_reducible refine bel_trans ?_ (by with_reducible assumption)) | (with_reducible refine bel_trans ?_ (HF.out _)) | (with_reducible refine bel_set ?_ (by simp) _) | (with_reducible refine bel_set ?_ (by simp; omega) _) | (with_reducible refine bel_set ?_ (by omega) _)))
      obtain ⟨v', w', hrun, h2, h3, h4, h5⟩ := run_app_Cert (w.alloc (.cells #[.int .i64 0, .int .i64 0, .slice none 0 0, .slice none 0 0, .int .i64 0, .slice none 0 0] 48)) B (.slice none 0 0) 0 xs (own_up HO.out hb1) w.heap.size 0 1 1 [.int .i64 0, .int .i64 0, .slice none 0 0, .slice none 0 0, .int .i64 0, .slice none 0 0] rfl (fun j u hu => by rw [Nat.zero_add]; exact (BoxR.new w [.int .i64 0, .int .i64 0, .slice none 0 0, .slice none 0 0, .int .i64 0, .slice none 0 0] 48).2 j u hu) (by intro u hu; simp only [List.mem_cons, List.not_mem_nil, or_false] at hu; rcases hu with rfl | rfl | rfl | rfl | rfl | rfl <;> rfl) (by omega) (Nat.le_trans hB hb1.size)
      have HR := Lib.hid hrun
      have H4 := Lib.hid h3
      clear hrun h2 h3 h4 h5
      go_wp2_with (at_builtin; refine Lib.wpList_append_run _ rfl _ _ _ _ rfl _ _ rfl rfl _ _ HR.out ?_)
      go_end0
      have h3 := H4.out
      exact ⟨rfl, (Mid.of_below hb1).trans ⟨h3.os, h3.tape, h3.output, h3.size, fun k hk _ => h3.block k hk (by simp [Value.ownBlock])⟩⟩
  · have hgB2 := hB2 g rfl
    clear hB2
    go_enter Try.func46, Try.ntmps46
    go_wp2_with fail
    go_loopw [2] (fun i wr => ∃ (k : Nat) (ys : List Value), k ≤ n ∧ i = .int .i64 k ∧ wr.ownsRow B 48 6 (.slice (some ⟨g, 0, none⟩) n c) n ys ∧ (∀ j, k ≤ j → j < n → RowAt wr B B2 ys j) ∧ Mid B B2 w wr) (fun i _ => n - (intOf i).toNat)
    case atStart => exact ⟨0, xs, Nat.zero_le _, rfl, hown, fun j _ hj => hat j hj, Mid.refl _ _ _⟩
    case round =>
      clear hown hat
      obtain ⟨k, ys, hk, rfl, hown, hat, hbw⟩ := hrel
      (obtain ⟨wk, hwk⟩ : ∃ x, x = wr := ⟨_, rfl⟩); subst hwk
      have hBk : B ≤ wk.heap.size := Nat.le_trans hB hbw.size
      have HO := Lib.hid hown
      by_cases hlt : k < n
      · obtain ⟨p, C, hc, hci⟩ := hat k (Nat.le_refl _) hlt
        obtain ⟨g1, f1⟩ := own_get hown
        have hgl := (own_lt hown g rfl).2
        have c0 : wk.cell? ⟨g, k * 6, none⟩ = some (.int .i64 C.h.au) := g1 _ _ (hc 0 _ rfl)
        have c1 : wk.cell? ⟨g, k * 6 + 1, none⟩ = some (.int .i64 C.h.ro) := g1 _ _ (hc 1 _ rfl)
        have c2 : wk.cell? ⟨g, k * 6 + 2, none⟩ = some (.slice p.h.b.A p.h.b.n p.h.b.c) := g1 _ _ (hc 2 _ rfl)
        have c3 : wk.cell? ⟨g, k * 6 + 3, none⟩ = some (.slice p.h.p.A p.h.p.n p.h.p.c) := g1 _ _ (hc 3 _ rfl)
        have c4 : wk.cell? ⟨g, k * 6 + 4, none⟩ = some (.int .i64 C.di) := g1 _ _ (hc 4 _ rfl)
        have c5 : wk.cell? ⟨g, k * 6 + 5, none⟩ = some (.slice p.s.A p.s.n p.s.c) := g1 _ _ (hc 5 _ rfl)
        have HCI := Lib.hid hci
        have HAT := Lib.hid hat
        clear g1 hc hci hat hown
        go_wp2_with fail
        refine (law0_CertK _ _ _ p B B2 _ HCI.out hBk).mono ?_
        rintro e w1 ⟨rfl, hb1, hk1⟩
        have ho1 := own_keep HO.out hk1 (by decide)
        obtain ⟨cur1, hcur1⟩ := own_type ho1 g rfl
        obtain ⟨g1, f2⟩ := own_get ho1
        have hyl := ho1.1
        have hcell : ∀ r, r < 6 → ∃ u, w1.cell? ⟨g, k * 6 + r, none⟩ = some u := fun r hr => ⟨ys[k * 6 + r]'(by omega), g1 _ _ (List.getElem?_eq_getElem _)⟩
        obtain ⟨d0, e0⟩ := hcell 0 (by omega)
        obtain ⟨d1, e1⟩ := hcell 1 (by omega)
        obtain ⟨d2, e2⟩ := hcell 2 (by omega)
        obtain ⟨d3, e3⟩ := hcell 3 (by omega)
        obtain ⟨d4, e4⟩ := hcell 4 (by omega)
        obtain ⟨d5, e5⟩ := hcell 5 (by omega)
        rw [Nat.add_zero] at e0
        have hgl1 := (own_lt ho1 g rfl).2
        have p1 := own_put (u := .int .i64 0) ho1 (j := k * 6) (by omega)
        have p2 := own_put (u := .int .i64 0) p1 (j := k * 6 + 1) (by omega)
        have p3 := own_put (u := .slice none 0 0) p2 (j := k * 6 + 2) (by omega)
        have p4 := own_put (u := .slice none 0 0) p3 (j := k * 6 + 3) (by omega)
        have p5 := own_put (u := .int .i64 (-9)) p4 (j := k * 6 + 4) (by omega)
        have p6 := own_put (u := .slice none 0 0) p5 (j := k * 6 + 5) (by omega)
        have hat6 : ∀ j, k + 1 ≤ j → j < n → RowAt ((((((w1.setCell ⟨g, k * 6, none⟩ (.int .i64 0)).setCell ⟨g, k * 6 + 1, none⟩ (.int .i64 0)).setCell ⟨g, k * 6 + 2, none⟩ (.slice none 0 0)).setCell ⟨g, k * 6 + 3, none⟩ (.slice none 0 0)).setCell ⟨g, k * 6 + 4, none⟩ (.int .i64 (-9))).setCell ⟨g, k * 6 + 5, none⟩ (.slice none 0 0)) B B2 ((((((ys.set (k * 6) (.int .i64 0)).set (k * 6 + 1) (.int .i64 0)).set (k * 6 + 2) (.slice none 0 0)).set (k * 6 + 3) (.slice none 0 0)).set (k * 6 + 4) (.int .i64 (-9))).set (k * 6 + 5) (.slice none 0 0)) j := fun j h1 h2 => by
          have h0 := (HAT.out j (by omega) h2).keep hk1
          obtain ⟨u1, q1⟩ := own_type p1 g rfl
          obtain ⟨u2, q2⟩ := own_type p2 g rfl
          obtain ⟨u3, q3⟩ := own_type p3 g rfl
          obtain ⟨u4, q4⟩ := own_type p4 g rfl
          obtain ⟨u5, q5⟩ := own_type p5 g rfl
          exact (((((h0.setC hcur1 (by omega)).setC q1 (by omega)).setC q2 (by omega)).setC q3 (by omega)).setC q4 (by omega)).setC q5 (by omega)
        have H6 := Lib.hid p6
        have HAT6 := Lib.hid hat6
        clear p1 p2 p3 p4 p5 p6 hat6 hcell hk1 ho1 hcur1 g1 c0 c1 c2 c3 c4 c5 f1 hyl
        go_wp2_with fail
        (first | (go_round; (case rel => exact ⟨k + 1, _, by omega, by go_num, H6.out, HAT6.out, ((((((hbw.trans hb1).setCell hgB hgB2 _).setCell hgB hgB2 _).setCell hgB hgB2 _).setCell hgB hgB2 _).setCell hgB hgB2 _).setCell hgB hgB2 _⟩); (case measure => (simp [intOf] <;> omega))) | (go_roundw; (case rel => exact ⟨k + 1, _, by omega, by go_num, H6.out, HAT6.out, ((((((hbw.trans hb1).setCell hgB hgB2 _).setCell hgB hgB2 _).setCell hgB hgB2 _).setCell hgB hgB2 _).setCell hgB hgB2 _).setCell hgB hgB2 _⟩); (case measure => (simp [intOf] <;> omega))) | (refine ⟨?_, by simp [intOf] <;> omega⟩; (repeat apply Exists.intro); refine ⟨?rel, ?fr⟩; (case fr => ((repeat' apply And.intro) <;> rfl)); (case rel => exact ⟨k + 1, _, by omega, by go_num, H6.out, HAT6.out, ((((((hbw.trans hb1).setCell hgB hgB2 _).setCell hgB hgB2 _).setCell hgB hgB2 _).setCell hgB hgB2 _).setCell hgB hgB2 _).setCell hgB hgB2 _⟩)))
      · have hb1 : Below wk.heap.size wk (wk.alloc (.cells #[.int .i64 0, .int .i64 0, .slice none 0 0, .slice none 0 0, .int .i64 0, .slice none 0 0] 48)) := by (repeat (first | (with_reducible exact Below.refl _ _) | (with_reducible assumption) | (with_reducible apply bel_alloc) | (with_reducible apply bel_drew) | (with_reducible apply bel_drewN) | (with_reducible refine bel_trans ?_ (by with_reducible assumption)) | (with_reducible refine bel_trans ?_ (HF.out _)) | (with_reducible refine bel_set ?_ (by simp) _) | (with_reducible refine bel_set ?_ (by simp; omega) _) | (with_reducible refine bel_set ?_ (by omega) _)))
        obtain ⟨v', w', hrun, h2, h3, h4, h5⟩ := run_app_Cert (wk.alloc (.cells #[.int .i64 0, .int .i64 0, .slice none 0 0, .slice none 0 0, .int .i64 0, .slice none 0 0] 48)) B (.slice (some ⟨g, 0, none⟩) n c) n ys (own_up HO.out hb1) wk.heap.size 0 1 1 [.int .i64 0, .int .i64 0, .slice none 0 0, .slice none 0 0, .int .i64 0, .slice none 0 0] rfl (fun j u hu => by rw [Nat.zero_add]; exact (BoxR.new wk [.int .i64 0, .int .i64 0, .slice none 0 0, .slice none 0 0, .int .i64 0, .slice none 0 0] 48).2 j u hu) (by intro u hu; simp only [List.mem_cons, List.not_mem_nil, or_false] at hu; rcases hu with rfl | rfl | rfl | rfl | rfl | rfl <;> rfl) (by omega) (Nat.le_trans hBk hb1.size)
        have HR := Lib.hid hrun
        have H4 := Lib.hid h3
        clear hrun h2 h3 h4 h5 hat hown
        go_wp2_with (at_builtin; refine Lib.wpList_append_run _ rfl _ _ _ _ rfl _ _ rfl rfl _ _ HR.out ?_)
        go_end0
        have h3 := H4.out
        exact ⟨rfl, hbw.trans ((Mid.of_below hb1).trans ⟨h3.os, h3.tape, h3.output, h3.size, fun k hk hh => h3.block k hk (by intro e; have e2 : some k = some g := e; injection e2 with e2; omega)⟩)⟩
theorem OwnD.rows {w : World} {B B2 : Nat} {v : Value} {ps l} (h : OwnD w B v ps l) (hB2 : w.heap.size ≤ B2) (hs : ∀ k, k < l.length → (cth l k).h.ba.length ≤ 1000000 ∧ (cth l k).h.pa.length ≤ 1000000 ∧ (cth l k).si.length ≤ 1000000) : ∀ j, j < l.length → RowAt w B B2 (rowCells ps l) j := fun j hj => by
  obtain ⟨h1, h2, h3⟩ := hs j hj
  exact ⟨ps.getD j default, cth l j, fun r u hu => by
    have hr : r < 6 := by
      have := (List.getElem?_eq_some_iff.1 hu).1
      rwa [certCells_len] at this
    rw [rowCells_at h.2.1 hj hr]; exact hu, (h.2.2 j hj).row hB2 h1 h2 h3⟩
theorem OwnC.mid {w w' : World} {B B2 : Nat} {v : Value} {ps l} (h : OwnC w B2 v ps l) (hm : Mid B B2 w w') : OwnC w' B2 v ps l := by
  have hi : ∀ (A : Option Addr) (n : Nat) (l : List Int), NewS B2 A → IntsA v.ownBlock w A n l → IntsA v.ownBlock w' A n l := fun A n l hN hA => by
    by_cases hn : 0 < n
    · obtain ⟨b, off, rfl, hb, _⟩ := hA.1.2.2 hn
      exact ⟨hA.1.of_heap hm.size (fun b' off' sp' e => by
        injection e with e; injection e with e1 e2 e3
        subst e1
        exact hm.block b hb (.inr (hN b off none rfl))), hA.2⟩
    · exact ⟨⟨hA.1.1, hA.1.2.1, fun h' => absurd h' hn⟩, fun h' => absurd h' hn⟩
  refine ⟨own_of_heap h.1 (fun g hg => hm.block g (h.lt g hg).2 (.inr (h.lt g hg).1)), h.2.1, fun j hj => ?_⟩
  obtain ⟨⟨h1, h2, h3⟩, h4⟩ := h.2.2 j hj
  exact ⟨⟨hi _ _ _ h4.1.1 h1, hi _ _ _ h4.1.2 h2, hi _ _ _ h4.2 h3⟩, h4⟩
theorem BoxR.mid {w w' : World} {B B2 g : Nat} {cs : List Value} (h : BoxR w g cs) (hm : Mid B B2 w w') (hg : B2 ≤ g) : BoxR w' g cs :=
  ⟨Nat.lt_of_lt_of_le h.1 hm.size, fun j u hu => (World.cell?_of_block (w := w) (a := ⟨g, j, none⟩) (hm.block g h.1 (.inr hg))).trans (h.2 j u hu)⟩
set_option maxRecDepth 100000 in
set_option maxHeartbeats 1000000 in
theorem ref0_CopyDagO (A : Option Addr) (n c : Nat) (D : DagD) (w : World) (hl : CertsR w A n D.certs) (hli : Light D.certs) :
    Calls Try.prog 17 #[.agg #[.int .i64 D.nodes, .int .i64 D.low, .slice A n c]] w fun e w' => ∃ A' c' ps, e = .returned (.agg #[.int .i64 D.nodes, .int .i64 D.low, .slice A' n c']) ∧ OwnC w' w.heap.size (.slice A' n c') ps D.certs ∧ Below w.heap.size w w' := by
  have HL := Lib.hid hl
  have hn : n ≤ 80 := by rw [← hl.1]; exact hli.1
  have HN := Lib.hid hl.1
  have HLI := Lib.hid hli
  clear hl hli
  go_enter Try.func17, Try.ntmps17
  go_wp2_with fail
  refine (ref0_CopyCerts A n c D.certs _ (HL.out.up (by (repeat (first | (with_reducible exact Below.refl _ _) | (with_reducible assumption) | (with_reducible apply bel_alloc) | (with_reducible apply bel_drew) | (with_reducible apply bel_drewN) | (with_reducible refine bel_trans ?_ (by with_reducible assumption)) | (with_reducible refine bel_trans ?_ (HF.out _)) | ((with_reducible refine bel_set3 ?_ ?_); rotate_left; omega))))) HLI.out).mono ?_
  rintro e w1 ⟨v, ps, rfl, hown, hb1⟩
  obtain ⟨A1, c1, rfl, _, _⟩ := hown.certs (by rw [HN.out]; omega)
  have hown' := hown.mono (B' := w.heap.size + 3) (by simp)
  clear hown
  rw [HN.out] at hown' ⊢
  have HO := Lib.hid hown'
  clear hown'
  have hz_w1 : w.heap.size + 3 ≤ w1.heap.size := (by have hq := (hb1).size; (try simp at hq); omega); have hc0_w1 := fun o => (bcell hb1).1 (w.heap.size) o (by first | (simp; done) | (simp; omega) | omega); have hc1_w1 := fun o => (bcell hb1).1 (w.heap.size + 1) o (by first | (simp; done) | (simp; omega) | omega); have hc2_w1 := fun o => (bcell hb1).1 (w.heap.size + 2) o (by first | (simp; done) | (simp; omega) | omega); have hf0_w1 := fun o => (bcell hb1).2 (w.heap.size) o (by first | (simp; done) | (simp; omega) | omega); have hf1_w1 := fun o => (bcell hb1).2 (w.heap.size + 1) o (by first | (simp; done) | (simp; omega) | omega); have hf2_w1 := fun o => (bcell hb1).2 (w.heap.size + 2) o (by first | (simp; done) | (simp; omega) | omega)
  go_wp2_with fail
  have hfin := (((HO.out.setLow (b := w.heap.size + 1 + 1) (o := 2) (u := .slice A1 n c1) (by omega)).setLow (b := w.heap.size + 1) (o := 0) (u := .int .i64 D.nodes) (by omega)).setLow (b := w.heap.size + 1) (o := 1) (u := .int .i64 D.low) (by omega)).setLow (b := w.heap.size + 1) (o := 2) (u := .slice A1 n c1) (by omega)
  exact bodyPost_ret (v := .agg #[.int .i64 D.nodes, .int .i64 D.low, .slice A1 n c1]) (by simp [results, Try.results17, go_sem, hc0_w1, hc1_w1, hc2_w1]) rfl ⟨A1, c1, ps, rfl, hfin.mono (by omega), by (repeat (first | (with_reducible exact Below.refl _ _) | (with_reducible assumption) | (with_reducible apply bel_alloc) | (with_reducible apply bel_drew) | (with_reducible apply bel_drewN) | (with_reducible refine bel_trans ?_ (by with_reducible assumption)) | (with_reducible refine bel_trans ?_ (HF.out _)) | ((with_reducible refine bel_set3 ?_ ?_); rotate_left; omega)))⟩
end Go.Proofs.Ytfkbilbgndekkaa
