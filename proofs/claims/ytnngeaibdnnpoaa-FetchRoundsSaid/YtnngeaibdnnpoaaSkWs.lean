/- Answers written over: numbers, transactions, waits, held batches, workers: no block that lay there before changes its kind or size. -/
import Derived.Test.YtnngeaibdnnpoaaSkWx
namespace Go.Proofs.Ytnngeaibdnnpoaa
open Go.RowKit
set_option linter.unusedSimpArgs false
set_option linter.unusedVariables false

/-- Blocks keep their types and sizes; those of no type in S keep their cells. -/
def KeepS (S : TypeId → Prop) (w w' : World) : Prop := ∀ (k : Nat) (cur : Array Value) (t : TypeId), w.heap[k]? = some (.cells cur t (0, 0)) → ∃ cur' : Array Value, w'.heap[k]? = some (.cells cur' t (0, 0)) ∧ cur'.size = cur.size ∧ (¬ S t → cur' = cur)
theorem KeepS.refl (S : TypeId → Prop) (w : World) : KeepS S w w := fun k cur t h => ⟨cur, h, rfl, fun _ => rfl⟩
theorem KeepS.trans {S : TypeId → Prop} {a b c : World} (h : KeepS S a b) (k : KeepS S b c) : KeepS S a c := fun i cur t hc => by
  obtain ⟨c1, h1, h2, h3⟩ := h i cur t hc
  obtain ⟨c2, k1, k2, k3⟩ := k i c1 t h1
  exact ⟨c2, k1, by omega, fun ht => by rw [k3 ht, h3 ht]⟩
theorem KeepS.weak {S S' : TypeId → Prop} {a b : World} (h : KeepS S a b) (hs : ∀ t, S t → S' t) : KeepS S' a b := fun i cur t hc => by
  obtain ⟨c1, h1, h2, h3⟩ := h i cur t hc
  exact ⟨c1, h1, h2, fun ht => h3 (fun hh => ht (hs t hh))⟩
theorem KeepS.of_below {S : TypeId → Prop} {w w' : World} (h : Below w.heap.size w w') : KeepS S w w' := fun k cur t hc => ⟨cur, (h.block k (Array.getElem?_eq_some_iff.1 hc).1).trans hc, rfl, fun _ => rfl⟩
theorem belB_set {B : Nat} {w x : World} {b o : Nat} {v : Value} (h : Below B w x) (hp : B ≤ b) : Below B w (x.setCell ⟨b, o, none⟩ v) := h.setCell hp v
theorem heap_put {w : World} {g o : Nat} {cur : Array Value} {t : TypeId} {v : Value} (hg : w.heap[g]? = some (.cells cur t (0, 0))) : (w.setCell ⟨g, o, none⟩ v).heap[g]? = some (.cells (cur.setIfInBounds o v) t (0, 0)) := by simp [World.setCell, Array.getElem?_modify, hg]
theorem KeepS.set {S : TypeId → Prop} {w : World} {g o : Nat} {cur : Array Value} {T : TypeId} {v : Value} (hg : w.heap[g]? = some (.cells cur T (0, 0))) (hS : S T) : KeepS S w (w.setCell ⟨g, o, none⟩ v) := fun k c t hc => by
  by_cases h : k = g
  · subst h
    rw [hg] at hc
    injection hc with hc
    injection hc with e1 e2 _
    subst e1; subst e2
    exact ⟨cur.setIfInBounds o v, heap_put hg, by simp, fun ht => absurd hS ht⟩
  · exact ⟨c, (Below.heap_setCell _ _ _ _ h).trans hc, rfl, fun _ => rfl⟩
/-- A row of one's own, whatever it holds. -/
def RowT (w : World) (B : Nat) (t : TypeId) (k : Nat) (s : SlP) : Prop := s.v = .slice none 0 0 ∨ ∃ g cur, s.A = some ⟨g, 0, none⟩ ∧ B ≤ g ∧ w.heap[g]? = some (.cells cur t (0, 0)) ∧ s.n ≤ s.c ∧ s.c ≤ maxLen ∧ cur.size = s.c * k
theorem own_rowT {w : World} {B k n : Nat} {t : TypeId} {s : SlP} {xs : List Value} (h : w.ownsRow B t k s.v n xs) : RowT w B t k s := by
  rcases h.2 with ⟨e, _⟩ | ⟨g, cap, cur, e, hb, hg, h1, h2, h3, _⟩
  · exact .inl e
  · unfold SlP.v at e
    injection e with e1 e2 e3
    exact .inr ⟨g, cur, e1, hb, hg, by omega, by omega, by rw [h3, e3]⟩
theorem RowT.keep {S : TypeId → Prop} {w w' : World} {B k : Nat} {t : TypeId} {s : SlP} (h : RowT w B t k s) (hk : KeepS S w w') : RowT w' B t k s := by
  rcases h with h | ⟨g, cur, e, hb, hg, h1, h2, h3⟩
  · exact .inl h
  · obtain ⟨c', k1, k2, _⟩ := hk g cur _ hg
    exact .inr ⟨g, c', e, hb, k1, h1, h2, by omega⟩
theorem infoK_Int : (Try.prog.info? 3).map (fun i => (i.zero, i.size, i.bytes)) = some (some (.int .i64 0), 1, 8) := by kernel_rfl
theorem run_appK_Int (w : World) (B g n cap : Nat) (cur : Array Value) (ty : TypeId) (hg : w.heap[g]? = some (.cells cur 3 (0, 0))) (hcs : cur.size = cap * 1) (hnc : n ≤ cap) (hcm : cap ≤ maxLen) (hB : B ≤ g) (hn : n ≤ 1000000000) (vb : Nat) (e : List Value) (he : e.length = 1) (h1e : ∀ u ∈ e, u.oneCell' = true) (hx : ∀ j u, e[j]? = some u → w.cell? ⟨vb, j, none⟩ = some u) :
    ∃ v' w', (Builtin.append_ #[31, 31] ty #[.slice (some ⟨g, 0, none⟩) n cap, .slice (some ⟨vb, 0, none⟩) 1 1]).run Try.prog w = .ok v' w' ∧ Below B w w' ∧ KeepS (· = 3) w w' := by
  obtain ⟨i0, hi, hz, hz1, hz2⟩ := info_parts infoK_Int
  have hnews : ∀ j u, e[j]? = some u → w.cell? ((⟨vb, 0, none⟩ : Addr).add j) = some u := fun j u hu => by
    rw [Addr.add_lit, Nat.zero_add]; exact hx j u hu
  have hgl : g < w.heap.size := (Array.getElem?_eq_some_iff.1 hg).1
  by_cases hroom : n + 1 ≤ cap
  · have hr := run_append_room (P := Try.prog) w 31 ty 3 i0 Try.underlying31 hi g n cap cur hg ⟨vb, 0, none⟩ 1 1 e (by rw [hz1]; omega) hnews h1e hroom (by rw [hz1]; omega)
    refine ⟨_, _, hr, ⟨rfl, rfl, rfl, by simp, fun k hk => setRow_other w g k _ (by omega)⟩, fun k c t hc => ?_⟩
    by_cases h : k = g
    · subst h
      rw [hg] at hc
      injection hc with hc
      injection hc with e1 e2 _
      subst e1; subst e2
      refine ⟨_, setRow_heap w k cur _ _ _ hg, ?_, fun ht => absurd rfl ht⟩
      rw [hz1]; simp only [List.size_toArray, List.length_append, List.length_take, List.length_drop, he, Array.length_toList]; omega
    · exact ⟨c, (setRow_other w g k _ h).trans hc, rfl, fun _ => rfl⟩
  · have hnn : n = cap := by omega
    have hold : ∀ j v, (cur.toList.take (n * 1))[j]? = some v → w.cell? ((⟨g, 0, none⟩ : Addr).add j) = some v := fun j v hj => by
      rw [Addr.add_lit, Nat.zero_add]
      rw [List.getElem?_take] at hj
      split at hj
      · simp [World.cell?, hg]; simpa using hj
      · cases hj
    have hr := run_append_grow (P := Try.prog) w 31 ty 3 i0 _ Try.underlying31 hi hz ⟨g, 0, none⟩ n cap (cur.toList.take (n * 1)) (by rw [hz1]; simp; omega) hold ⟨vb, 0, none⟩ 1 1 e (by rw [hz1]; omega) hnews (by omega) (by simp only [maxLen] at hcm; omega) (by rw [hz2]; exact growslice_fits (by omega) (by omega))
    have hb : Below w.heap.size w (w.drew.alloc (.cells ((cur.toList.take (n * 1)).toArray ++ e.toArray ++ Builtin.zeroCells (.int .i64 0 : Value).cells (grownCap w (n + 1) cap 3 - (n + 1))) 3)) := bel_alloc (bel_drew (Below.refl _ _))
    exact ⟨_, _, hr, hb.mono (by omega), .of_below hb⟩
theorem wpList_appK_Int {w : World} {ops : Array Oper} {rest : List Oper} {o : Oper} {a : Act} {Q : Exit → Act → World → Prop} (hgd : o.guard = none) (s x : Operand)
    (ho : o.op = .call { callee := .builtin .append, args := #[s, x], argTypes := #[31, 31] })
    (B g n cap : Nat) (cur : Array Value) (hs : a.eval s = .slice (some ⟨g, 0, none⟩) n cap) (hg : w.heap[g]? = some (.cells cur 3 (0, 0))) (hcs : cur.size = cap * 1) (hnc : n ≤ cap) (hcm : cap ≤ maxLen) (hB : B ≤ g) (hn : n ≤ 1000000000) (vb : Nat) (e : List Value) (he : e.length = 1) (h1e : ∀ u ∈ e, u.oneCell' = true) (hx : a.eval x = .slice (some ⟨vb, 0, none⟩) 1 1) (hc : ∀ j u, e[j]? = some u → w.cell? ⟨vb, j, none⟩ = some u)
    (h : ∀ v' w', Below B w w' → KeepS (· = 3) w w' → wpList Try.prog ops Q rest (a.put o.dst v') w') : wpList Try.prog ops Q (o :: rest) a w := by
  obtain ⟨v', w', hrun, hb, hk⟩ := run_appK_Int w B g n cap cur o.type hg hcs hnc hcm hB hn vb e he h1e hc
  exact Lib.wpList_append_run w hgd s x _ _ ho _ _ hs hx _ _ hrun (h v' w' hb hk)
theorem infoK_Tx : (Try.prog.info? 119).map (fun i => (i.zero, i.size, i.bytes)) = some (some (.agg #[.int .i64 0, .int .i64 0, .string ⟨#[]⟩, .string ⟨#[]⟩]), 4, 48) := by kernel_rfl
theorem run_appK_Tx (w : World) (B g n cap : Nat) (cur : Array Value) (ty : TypeId) (hg : w.heap[g]? = some (.cells cur 119 (0, 0))) (hcs : cur.size = cap * 4) (hnc : n ≤ cap) (hcm : cap ≤ maxLen) (hB : B ≤ g) (hn : n ≤ 1000000000) (vb : Nat) (e : List Value) (he : e.length = 4) (h1e : ∀ u ∈ e, u.oneCell' = true) (hx : ∀ j u, e[j]? = some u → w.cell? ⟨vb, j, none⟩ = some u) :
    ∃ v' w', (Builtin.append_ #[36, 36] ty #[.slice (some ⟨g, 0, none⟩) n cap, .slice (some ⟨vb, 0, none⟩) 1 1]).run Try.prog w = .ok v' w' ∧ Below B w w' ∧ KeepS (· = 119) w w' := by
  obtain ⟨i0, hi, hz, hz1, hz2⟩ := info_parts infoK_Tx
  have hnews : ∀ j u, e[j]? = some u → w.cell? ((⟨vb, 0, none⟩ : Addr).add j) = some u := fun j u hu => by
    rw [Addr.add_lit, Nat.zero_add]; exact hx j u hu
  have hgl : g < w.heap.size := (Array.getElem?_eq_some_iff.1 hg).1
  by_cases hroom : n + 1 ≤ cap
  · have hr := run_append_room (P := Try.prog) w 36 ty 119 i0 Try.underlying36 hi g n cap cur hg ⟨vb, 0, none⟩ 1 1 e (by rw [hz1]; omega) hnews h1e hroom (by rw [hz1]; omega)
    refine ⟨_, _, hr, ⟨rfl, rfl, rfl, by simp, fun k hk => setRow_other w g k _ (by omega)⟩, fun k c t hc => ?_⟩
    by_cases h : k = g
    · subst h
      rw [hg] at hc
      injection hc with hc
      injection hc with e1 e2 _
      subst e1; subst e2
      refine ⟨_, setRow_heap w k cur _ _ _ hg, ?_, fun ht => absurd rfl ht⟩
      rw [hz1]; simp only [List.size_toArray, List.length_append, List.length_take, List.length_drop, he, Array.length_toList]; omega
    · exact ⟨c, (setRow_other w g k _ h).trans hc, rfl, fun _ => rfl⟩
  · have hnn : n = cap := by omega
    have hold : ∀ j v, (cur.toList.take (n * 4))[j]? = some v → w.cell? ((⟨g, 0, none⟩ : Addr).add j) = some v := fun j v hj => by
      rw [Addr.add_lit, Nat.zero_add]
      rw [List.getElem?_take] at hj
      split at hj
      · simp [World.cell?, hg]; simpa using hj
      · cases hj
    have hr := run_append_grow (P := Try.prog) w 36 ty 119 i0 _ Try.underlying36 hi hz ⟨g, 0, none⟩ n cap (cur.toList.take (n * 4)) (by rw [hz1]; simp; omega) hold ⟨vb, 0, none⟩ 1 1 e (by rw [hz1]; omega) hnews (by omega) (by simp only [maxLen] at hcm; omega) (by rw [hz2]; exact growslice_fits (by omega) (by omega))
    have hb : Below w.heap.size w (w.drew.alloc (.cells ((cur.toList.take (n * 4)).toArray ++ e.toArray ++ Builtin.zeroCells (.agg #[.int .i64 0, .int .i64 0, .string ⟨#[]⟩, .string ⟨#[]⟩] : Value).cells (grownCap w (n + 1) cap 119 - (n + 1))) 119)) := bel_alloc (bel_drew (Below.refl _ _))
    exact ⟨_, _, hr, hb.mono (by omega), .of_below hb⟩
theorem wpList_appK_Tx {w : World} {ops : Array Oper} {rest : List Oper} {o : Oper} {a : Act} {Q : Exit → Act → World → Prop} (hgd : o.guard = none) (s x : Operand)
    (ho : o.op = .call { callee := .builtin .append, args := #[s, x], argTypes := #[36, 36] })
    (B g n cap : Nat) (cur : Array Value) (hs : a.eval s = .slice (some ⟨g, 0, none⟩) n cap) (hg : w.heap[g]? = some (.cells cur 119 (0, 0))) (hcs : cur.size = cap * 4) (hnc : n ≤ cap) (hcm : cap ≤ maxLen) (hB : B ≤ g) (hn : n ≤ 1000000000) (vb : Nat) (e : List Value) (he : e.length = 4) (h1e : ∀ u ∈ e, u.oneCell' = true) (hx : a.eval x = .slice (some ⟨vb, 0, none⟩) 1 1) (hc : ∀ j u, e[j]? = some u → w.cell? ⟨vb, j, none⟩ = some u)
    (h : ∀ v' w', Below B w w' → KeepS (· = 119) w w' → wpList Try.prog ops Q rest (a.put o.dst v') w') : wpList Try.prog ops Q (o :: rest) a w := by
  obtain ⟨v', w', hrun, hb, hk⟩ := run_appK_Tx w B g n cap cur o.type hg hcs hnc hcm hB hn vb e he h1e hc
  exact Lib.wpList_append_run w hgd s x _ _ ho _ _ hs hx _ _ hrun (h v' w' hb hk)

set_option maxRecDepth 100000 in
set_option maxHeartbeats 4000000 in
theorem law0_NumbersS (s : SlP) (B : Nat) (w : World) (hr : RowT w B 3 1 s) (hn : s.n ≤ 1000000) (hB : B ≤ w.heap.size) :
    Calls Try.prog 81 #[.slice s.A s.n s.c] w fun e w' => e = .returned (.tuple #[]) ∧ Below B w w' ∧ KeepS (· = 3) w w' := by
  obtain ⟨A, n, c⟩ := s
  dsimp only at hn ⊢
  rcases hr with h | ⟨g, cur, h0, hgB, hg, h1, h2, h3⟩
  · unfold SlP.v at h
    injection h with e1 e2 e3
    subst e1; subst e2; subst e3
    go_enter Try.func81, Try.ntmps81
    go_wp2_with fail
    go_loop [2] (fun i => i = .int .i64 0) (fun _ => 0)
    case atStart => rfl
    case round =>
      obtain rfl := hrel
      go_wp2_with (at_builtin; refine wpList_app1 rfl (.tmp 12) (.tmp 13) rfl w.heap.size _ _ rfl (OwnI.nil _ _) _ 5 rfl (cell0_alloc _ _ _) (by simp) (le_alloc (Nat.le_refl _)) ?_; intro v1 w1 hown1 hg1 hbel1 hat1)
      go_end0
      have hb : Below w.heap.size w w1 := Below.trans ((Below.refl _ _).alloc (Nat.le_refl _) _) hbel1
      exact ⟨rfl, hb.mono hB, .of_below hb⟩
  · dsimp only at h0 h1 h2 h3
    subst h0
    go_enter Try.func81, Try.ntmps81
    go_wp2_with fail
    go_loopw [2] (fun i wr => ∃ (k : Nat) (cr : Array Value), k ≤ n ∧ i = .int .i64 k ∧ wr.heap[g]? = some (.cells cr 3 (0, 0)) ∧ cr.size = c * 1 ∧ Below B w wr ∧ KeepS (· = 3) w wr) (fun i _ => n - (intOf i).toNat)
    case atStart => exact ⟨0, cur, by omega, rfl, hg, h3, Below.refl _ _, .refl _ _⟩
    case round =>
      obtain ⟨k, cr, hk, rfl, hgr, hcr, hbw, hkw⟩ := hrel
      (obtain ⟨wk, hwk⟩ : ∃ x, x = wr := ⟨_, rfl⟩); subst hwk
      have HG := Lib.hid hgr
      have HK := Lib.hid hkw
      have HB := Lib.hid hbw
      by_cases hlt : k < n
      · obtain ⟨u, hu⟩ : ∃ u, wk.cell? ⟨g, k, none⟩ = some u := ⟨cr[k]'(by omega), by simp [World.cell?, hgr, show k < cr.size by omega]⟩
        have hf : wk.frozen? ⟨g, k, none⟩ = false := by simp [World.frozen?, hgr]
        have hgl : g < wk.heap.size := (Array.getElem?_eq_some_iff.1 hgr).1
        clear hgr hkw hbw
        go_wp2_with fail
        (first | (go_round; (case rel => exact ⟨k + 1, cr.setIfInBounds k (.int .i64 (-99)), by omega, by go_num, heap_put HG.out, by simp; omega, belB_set HB.out hgB, HK.out.trans (.set HG.out rfl)⟩); (case measure => (simp [intOf] <;> omega))) | (go_roundw; (case rel => exact ⟨k + 1, cr.setIfInBounds k (.int .i64 (-99)), by omega, by go_num, heap_put HG.out, by simp; omega, belB_set HB.out hgB, HK.out.trans (.set HG.out rfl)⟩); (case measure => (simp [intOf] <;> omega))) | (refine ⟨?_, by simp [intOf] <;> omega⟩; (repeat apply Exists.intro); refine ⟨?rel, ?fr⟩; (case fr => ((repeat' apply And.intro) <;> rfl)); (case rel => exact ⟨k + 1, cr.setIfInBounds k (.int .i64 (-99)), by omega, by go_num, heap_put HG.out, by simp; omega, belB_set HB.out hgB, HK.out.trans (.set HG.out rfl)⟩)))
      · have hsz := hbw.size
        have hgl : g < wk.heap.size := (Array.getElem?_eq_some_iff.1 hgr).1
        have hgr2 : (wk.alloc (.cells #[.int .i64 5] 3)).heap[g]? = some (.cells cr 3 (0, 0)) := (((Below.refl wk.heap.size wk).alloc (Nat.le_refl _) _).block g hgl).trans hgr
        have HG2 := Lib.hid hgr2
        clear hgr hgr2 hkw hbw
        go_wp2_with (at_builtin; refine wpList_appK_Int rfl (.tmp 12) (.tmp 13) rfl B g n c cr rfl HG2.out hcr h1 h2 hgB (by omega) _ [.int .i64 5] rfl (by simp [Value.oneCell']) rfl (fun j u hu => (by cases j with | zero => (simp at hu; subst hu; exact cell0_alloc _ _ _) | succ j => simp at hu)) ?_; intro v1 w1 hb1 hk1)
        go_end0
        exact ⟨rfl, Below.trans (HB.out.trans (Below.mono (bel_alloc (Below.refl _ _)) (by omega))) hb1, HK.out.trans (KeepS.trans (.of_below (bel_alloc (Below.refl _ _))) hk1)⟩
theorem keep_put4 {B : Nat} {w0 w : World} {g : Nat} {cur : Array Value} {t : TypeId} (hg : w.heap[g]? = some (.cells cur t (0, 0))) (hB : Below B w0 w) (hp : B ≤ g) (o0 o1 o2 o3 : Nat) (v0 v1 v2 v3 : Value) : ∃ c' : Array Value, ((((w.setCell ⟨g, o0, none⟩ v0).setCell ⟨g, o1, none⟩ v1).setCell ⟨g, o2, none⟩ v2).setCell ⟨g, o3, none⟩ v3).heap[g]? = some (.cells c' t (0, 0)) ∧ c'.size = cur.size ∧ KeepS (· = t) w ((((w.setCell ⟨g, o0, none⟩ v0).setCell ⟨g, o1, none⟩ v1).setCell ⟨g, o2, none⟩ v2).setCell ⟨g, o3, none⟩ v3) ∧ Below B w0 ((((w.setCell ⟨g, o0, none⟩ v0).setCell ⟨g, o1, none⟩ v1).setCell ⟨g, o2, none⟩ v2).setCell ⟨g, o3, none⟩ v3) :=
  ⟨_, (heap_put (heap_put (heap_put (heap_put hg)))), by simp, ((KeepS.set (S := (· = t)) hg rfl).trans ((KeepS.set (S := (· = t)) (heap_put hg) rfl).trans ((KeepS.set (S := (· = t)) (heap_put (heap_put hg)) rfl).trans (KeepS.set (S := (· = t)) (heap_put (heap_put (heap_put hg))) rfl)))), (belB_set (belB_set (belB_set (belB_set hB hp) hp) hp) hp)⟩
set_option maxRecDepth 100000 in
set_option maxHeartbeats 4000000 in
theorem law0_TxsS (s : SlP) (B : Nat) (w : World) (hr : RowT w B 119 4 s) (hn : s.n ≤ 1000000) (hB : B ≤ w.heap.size) :
    Calls Try.prog 78 #[.slice s.A s.n s.c] w fun e w' => e = .returned (.tuple #[]) ∧ Below B w w' ∧ KeepS (· = 119) w w' := by
  obtain ⟨A, n, c⟩ := s
  dsimp only at hn ⊢
  rcases hr with h | ⟨g, cur, h0, hgB, hg, h1, h2, h3⟩
  · unfold SlP.v at h
    injection h with e1 e2 e3
    subst e1; subst e2; subst e3
    go_enter Try.func78, Try.ntmps78
    go_wp2_with fail
    go_loop [2] (fun i => i = .int .i64 0) (fun _ => 0)
    case atStart => rfl
    case round =>
      obtain rfl := hrel
      go_wp2_with (at_builtin; refine wpList_appX rfl (.tmp 13) (.tmp 15) rfl rfl w.heap.size _ _ rfl (OwnX.nil _ _) w.heap.size 0 1 1 [⟨0, 0, ⟨#[]⟩, ⟨#[]⟩⟩] rfl rfl (fun j u hu => (by rw [Nat.zero_add]; exact (BoxR.new w [.int .i64 0, .int .i64 0, .string ⟨#[]⟩, .string ⟨#[]⟩] 119).2 j u (by simpa [flat, encX] using hu))) (by simp) (le_alloc (Nat.le_refl _)) ?_; intro v1 w1 hown1 hg1 hbel1 hat1)
      go_end0
      have hb : Below w.heap.size w w1 := Below.trans ((Below.refl _ _).alloc (Nat.le_refl _) _) hbel1
      exact ⟨rfl, hb.mono hB, .of_below hb⟩
  · dsimp only at h0 h1 h2 h3
    subst h0
    go_enter Try.func78, Try.ntmps78
    go_wp2_with fail
    go_loopw [2] (fun i wr => ∃ (k : Nat) (cr : Array Value), k ≤ n ∧ i = .int .i64 k ∧ wr.heap[g]? = some (.cells cr 119 (0, 0)) ∧ cr.size = c * 4 ∧ Below B w wr ∧ KeepS (· = 119) w wr) (fun i _ => n - (intOf i).toNat)
    case atStart => exact ⟨0, cur, by omega, rfl, hg, h3, Below.refl _ _, .refl _ _⟩
    case round =>
      obtain ⟨k, cr, hk, rfl, hgr, hcr, hbw, hkw⟩ := hrel
      (obtain ⟨wk, hwk⟩ : ∃ x, x = wr := ⟨_, rfl⟩); subst hwk
      have HG := Lib.hid hgr
      have HK := Lib.hid hkw
      have HB := Lib.hid hbw
      by_cases hlt : k < n
      · obtain ⟨u0, hu0⟩ : ∃ u, wk.cell? ⟨g, k * 4, none⟩ = some u := ⟨cr[k * 4]'(by omega), by simp [World.cell?, hgr, show k * 4 < cr.size by omega]⟩; obtain ⟨u1, hu1⟩ : ∃ u, wk.cell? ⟨g, k * 4 + 1, none⟩ = some u := ⟨cr[k * 4 + 1]'(by omega), by simp [World.cell?, hgr, show k * 4 + 1 < cr.size by omega]⟩; obtain ⟨u2, hu2⟩ : ∃ u, wk.cell? ⟨g, k * 4 + 2, none⟩ = some u := ⟨cr[k * 4 + 2]'(by omega), by simp [World.cell?, hgr, show k * 4 + 2 < cr.size by omega]⟩; obtain ⟨u3, hu3⟩ : ∃ u, wk.cell? ⟨g, k * 4 + 3, none⟩ = some u := ⟨cr[k * 4 + 3]'(by omega), by simp [World.cell?, hgr, show k * 4 + 3 < cr.size by omega]⟩
        have hf : ∀ o, wk.frozen? ⟨g, o, none⟩ = false := fun o => by simp [World.frozen?, hgr]
        have hgl : g < wk.heap.size := (Array.getElem?_eq_some_iff.1 hgr).1
        obtain ⟨c', hc1, hc2, hc3, hc4⟩ := keep_put4 HG.out HB.out hgB (k * 4) (k * 4 + 1) (k * 4 + 2) (k * 4 + 3) (.int .i64 (-9)) (.int .i64 0) (.string ⟨#[]⟩) (.string ⟨#[]⟩)
        have H1 := Lib.hid hc1
        have H2 := Lib.hid hc2
        have H3 := Lib.hid hc3
        have H4 := Lib.hid hc4
        clear hgr hkw hbw hc1 hc2 hc3 hc4
        go_wp2_with fail
        (first | (go_round; (case rel => exact ⟨k + 1, c', by omega, by go_num, H1.out, by (rw [H2.out]; exact hcr), H4.out, HK.out.trans H3.out⟩); (case measure => (simp [intOf] <;> omega))) | (go_roundw; (case rel => exact ⟨k + 1, c', by omega, by go_num, H1.out, by (rw [H2.out]; exact hcr), H4.out, HK.out.trans H3.out⟩); (case measure => (simp [intOf] <;> omega))) | (refine ⟨?_, by simp [intOf] <;> omega⟩; (repeat apply Exists.intro); refine ⟨?rel, ?fr⟩; (case fr => ((repeat' apply And.intro) <;> rfl)); (case rel => exact ⟨k + 1, c', by omega, by go_num, H1.out, by (rw [H2.out]; exact hcr), H4.out, HK.out.trans H3.out⟩)))
      · have hsz := hbw.size
        have hgl : g < wk.heap.size := (Array.getElem?_eq_some_iff.1 hgr).1
        have hgr2 : (wk.alloc (.cells #[.int .i64 0, .int .i64 0, .string ⟨#[]⟩, .string ⟨#[]⟩] 119)).heap[g]? = some (.cells cr 119 (0, 0)) := (((Below.refl wk.heap.size wk).alloc (Nat.le_refl _) _).block g hgl).trans hgr
        have HG2 := Lib.hid hgr2
        have HBX := Lib.hid (BoxR.new wk [.int .i64 0, .int .i64 0, .string ⟨#[]⟩, .string ⟨#[]⟩] 119)
        clear hgr hgr2 hkw hbw
        go_wp2_with (at_builtin; refine wpList_appK_Tx rfl (.tmp 13) (.tmp 15) rfl B g n c cr rfl HG2.out hcr h1 h2 hgB (by omega) _ [.int .i64 0, .int .i64 0, .string ⟨#[]⟩, .string ⟨#[]⟩] rfl (by simp [Value.oneCell']) rfl (fun j u hu => HBX.out.2 j u hu) ?_; intro v1 w1 hb1 hk1)
        go_end0
        exact ⟨rfl, Below.trans (HB.out.trans (Below.mono (bel_alloc (Below.refl _ _)) (by omega))) hb1, HK.out.trans (KeepS.trans (.of_below (bel_alloc (Below.refl _ _))) hk1)⟩
end Go.Proofs.Ytnngeaibdnnpoaa
