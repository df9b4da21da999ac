/- Answers written over: of the blocks that are written alone. -/
import Derived.Test.YtgfakefcmbpboaaGreatSuWsn
import Derived.Test.YtgfakefcmbpboaaGreatSuWec
import Derived.Test.YtgfakefcmbpboaaGreatSuWx2
namespace Go.Proofs.YtgfakefcmbpboaaGreat
set_option linter.all false
set_option maxRecDepth 100000
open Go.RowKit

/-- Old blocks for which p holds are as they were. -/
structure Prot (p : Nat → Prop) (w w' : World) : Prop where
 os : w'.os = w.os
 tape : w'.tape = w.tape
 output : w'.output = w.output
 size : w.heap.size ≤ w'.heap.size
 block : ∀ k, k < w.heap.size → p k → w'.heap[k]? = w.heap[k]?
theorem Prot.refl (p : Nat → Prop) (w : World) : Prot p w w := ⟨rfl, rfl, rfl, Nat.le_refl _, fun _ _ _ => rfl⟩
theorem Prot.trans {p : Nat → Prop} {a b c : World} (h : Prot p a b) (k : Prot p b c) : Prot p a c := ⟨k.os.trans h.os, k.tape.trans h.tape, k.output.trans h.output, Nat.le_trans h.size k.size, fun i h1 h2 => (k.block i (Nat.lt_of_lt_of_le h1 h.size) h2).trans (h.block i h1 h2)⟩
theorem Prot.of_below {p : Nat → Prop} {w w' : World} (h : Below w.heap.size w w') : Prot p w w' := ⟨h.os, h.tape, h.output, h.size, fun k hk _ => h.block k hk⟩
theorem Prot.set {p : Nat → Prop} {w x : World} {g o : Nat} {v : Value} (h : Prot p w x) (hp : ¬ p g) : Prot p w (x.setCell ⟨g, o, none⟩ v) := ⟨h.os, h.tape, h.output, by simpa [World.setCell] using h.size, fun k h1 h2 => (Below.heap_setCell _ _ _ _ (fun e => hp (by have e' : k = g := e; rwa [e'] at h2))).trans (h.block k h1 h2)⟩
theorem Prot.setCells {p : Nat → Prop} {b : Nat} (hb : ¬ p b) : ∀ (vs : List Value) (o : Nat) (w x : World), Prot p w x → Prot p w (x.setCells b o vs)
 | [], _, _, _, h => h
 | v :: r, o, w, x, h => by
  rw [World.setCells]
  exact Prot.setCells hb r (o + 1) _ _ (h.set hb)
def RowP (w : World) (p : Nat → Prop) (t : TypeId) (k : Nat) (s : SlP) : Prop := s.v = .slice none 0 0 ∨ ∃ g cur, s.A = some ⟨g, 0, none⟩ ∧ ¬ p g ∧ w.heap[g]? = some (.cells cur t (0, 0)) ∧ s.n ≤ s.c ∧ s.c ≤ maxLen ∧ cur.size = s.c * k
theorem RowP.keep {S : TypeId → Prop} {w w' : World} {p : Nat → Prop} {k : Nat} {t : TypeId} {s : SlP} (h : RowP w p t k s) (hk : KeepS S w w') : RowP w' p t k s := by
 rcases h with h | ⟨g, cur, e, hb, hg, h1, h2, h3⟩
 ·exact .inl h
 ·obtain ⟨c', k1, k2, _⟩ := hk g cur _ hg
  exact .inr ⟨g, c', e, hb, k1, h1, h2, by omega⟩
theorem RowT.prot {w : World} {B k : Nat} {t : TypeId} {s : SlP} {p : Nat → Prop} (h : RowT w B t k s) (hp : ∀ g, B ≤ g → g < w.heap.size → ¬ p g) : RowP w p t k s := by
 rcases h with h | ⟨g, cur, e, hb, hg, h1, h2, h3⟩
 ·exact .inl h
 ·exact .inr ⟨g, cur, e, hp g hb (Array.getElem?_eq_some_iff.1 hg).1, hg, h1, h2, h3⟩
theorem run_appP_Int (w : World) (p : Nat → Prop) (g n cap : Nat) (cur : Array Value) (ty : TypeId) (hg : w.heap[g]? = some (.cells cur 3 (0, 0))) (hcs : cur.size = cap * 1) (hnc : n ≤ cap) (hcm : cap ≤ maxLen) (hB : ¬ p g) (hn : n ≤ 1000000000) (vb : Nat) (e : List Value) (he : e.length = 1) (h1e : ∀ u ∈ e, u.oneCell' = true) (hx : ∀ j u, e[j]? = some u → w.cell? ⟨vb, j, none⟩ = some u) :
  ∃ v' w', (Builtin.append_ #[25, 25] ty #[.slice (some ⟨g, 0, none⟩) n cap, .slice (some ⟨vb, 0, none⟩) 1 1]).run Tryz.prog w = .ok v' w' ∧ Prot p w w' ∧ KeepS (· = 3) w w' := by
 obtain ⟨i0, hi, hz, hz1, hz2⟩ := info_parts infoK_Int
 have hnews : ∀ j u, e[j]? = some u → w.cell? ((⟨vb, 0, none⟩ : Addr).add j) = some u := fun j u hu => by
  rw [Addr.add_lit, Nat.zero_add]; exact hx j u hu
 have hgl : g < w.heap.size := (Array.getElem?_eq_some_iff.1 hg).1
 by_cases hroom : n + 1 ≤ cap
 ·have hr := run_append_room (P := Tryz.prog) w 25 ty 3 i0 Tryz.underlying25 hi g n cap cur hg ⟨vb, 0, none⟩ 1 1 e (by rw [hz1]; omega) hnews h1e hroom (by rw [hz1]; omega)
  refine ⟨_, _, hr, ⟨rfl, rfl, rfl, by simp, fun k hk hpk => setRow_other w g k _ (fun e => hB (e ▸ hpk))⟩, fun k c t hc => ?_⟩
  by_cases h : k = g
  ·subst h
   rw [hg] at hc
   injection hc with hc
   injection hc with e1 e2 _
   subst e1; subst e2
   refine ⟨_, setRow_heap w k cur _ _ _ hg, ?_, fun ht => absurd rfl ht⟩
   rw [hz1]; simp only [List.size_toArray, List.length_append, List.length_take, List.length_drop, he, Array.length_toList]; omega
  ·exact ⟨c, (setRow_other w g k _ h).trans hc, rfl, fun _ => rfl⟩
 ·have hnn : n = cap := by omega
  have hold : ∀ j v, (cur.toList.take (n * 1))[j]? = some v → w.cell? ((⟨g, 0, none⟩ : Addr).add j) = some v := fun j v hj => by
   rw [Addr.add_lit, Nat.zero_add]
   rw [List.getElem?_take] at hj
   split at hj
   ·simp [World.cell?, hg]; simpa using hj
   ·cases hj
  have hr := run_append_grow (P := Tryz.prog) w 25 ty 3 i0 _ Tryz.underlying25 hi hz ⟨g, 0, none⟩ n cap (cur.toList.take (n * 1)) (by rw [hz1]; simp; omega) hold ⟨vb, 0, none⟩ 1 1 e (by rw [hz1]; omega) hnews (by omega) (by simp only [maxLen] at hcm; omega) (by rw [hz2]; exact growslice_fits (by omega) (by omega))
  have hb : Below w.heap.size w (w.drew.alloc (.cells ((cur.toList.take (n * 1)).toArray ++ e.toArray ++ Builtin.zeroCells (.int .i64 0 : Value).cells (grownCap w (n + 1) cap 3 - (n + 1))) 3)) := bel_alloc (bel_drew (Below.refl _ _))
  exact ⟨_, _, hr, .of_below hb, .of_below hb⟩
theorem wpList_appP_Int {w : World} {ops : Array Oper} {rest : List Oper} {o : Oper} {a : Act} {Q : Exit → Act → World → Prop} (hgd : o.guard = none) (s x : Operand)
  (ho : o.op = .call { callee := .builtin .append, args := #[s, x], argTypes := #[25, 25] })
  (p : Nat → Prop) (g n cap : Nat) (cur : Array Value) (hs : a.eval s = .slice (some ⟨g, 0, none⟩) n cap) (hg : w.heap[g]? = some (.cells cur 3 (0, 0))) (hcs : cur.size = cap * 1) (hnc : n ≤ cap) (hcm : cap ≤ maxLen) (hB : ¬ p g) (hn : n ≤ 1000000000) (vb : Nat) (e : List Value) (he : e.length = 1) (h1e : ∀ u ∈ e, u.oneCell' = true) (hx : a.eval x = .slice (some ⟨vb, 0, none⟩) 1 1) (hc : ∀ j u, e[j]? = some u → w.cell? ⟨vb, j, none⟩ = some u)
  (h : ∀ v' w', Prot p w w' → KeepS (· = 3) w w' → wpList Tryz.prog ops Q rest (a.put o.dst v') w') : wpList Tryz.prog ops Q (o :: rest) a w := by
 obtain ⟨v', w', hrun, hb, hk⟩ := run_appP_Int w p g n cap cur o.type hg hcs hnc hcm hB hn vb e he h1e hc
 exact Lib.wpList_append_run w hgd s x _ _ ho _ _ hs hx _ _ hrun (h v' w' hb hk)
theorem run_appP_Tx (w : World) (p : Nat → Prop) (g n cap : Nat) (cur : Array Value) (ty : TypeId) (hg : w.heap[g]? = some (.cells cur 41 (0, 0))) (hcs : cur.size = cap * 4) (hnc : n ≤ cap) (hcm : cap ≤ maxLen) (hB : ¬ p g) (hn : n ≤ 1000000000) (vb : Nat) (e : List Value) (he : e.length = 4) (h1e : ∀ u ∈ e, u.oneCell' = true) (hx : ∀ j u, e[j]? = some u → w.cell? ⟨vb, j, none⟩ = some u) :
  ∃ v' w', (Builtin.append_ #[22, 22] ty #[.slice (some ⟨g, 0, none⟩) n cap, .slice (some ⟨vb, 0, none⟩) 1 1]).run Tryz.prog w = .ok v' w' ∧ Prot p w w' ∧ KeepS (· = 41) w w' := by
 obtain ⟨i0, hi, hz, hz1, hz2⟩ := info_parts infoK_Tx
 have hnews : ∀ j u, e[j]? = some u → w.cell? ((⟨vb, 0, none⟩ : Addr).add j) = some u := fun j u hu => by
  rw [Addr.add_lit, Nat.zero_add]; exact hx j u hu
 have hgl : g < w.heap.size := (Array.getElem?_eq_some_iff.1 hg).1
 by_cases hroom : n + 1 ≤ cap
 ·have hr := run_append_room (P := Tryz.prog) w 22 ty 41 i0 Tryz.underlying22 hi g n cap cur hg ⟨vb, 0, none⟩ 1 1 e (by rw [hz1]; omega) hnews h1e hroom (by rw [hz1]; omega)
  refine ⟨_, _, hr, ⟨rfl, rfl, rfl, by simp, fun k hk hpk => setRow_other w g k _ (fun e => hB (e ▸ hpk))⟩, fun k c t hc => ?_⟩
  by_cases h : k = g
  ·subst h
   rw [hg] at hc
   injection hc with hc
   injection hc with e1 e2 _
   subst e1; subst e2
   refine ⟨_, setRow_heap w k cur _ _ _ hg, ?_, fun ht => absurd rfl ht⟩
   rw [hz1]; simp only [List.size_toArray, List.length_append, List.length_take, List.length_drop, he, Array.length_toList]; omega
  ·exact ⟨c, (setRow_other w g k _ h).trans hc, rfl, fun _ => rfl⟩
 ·have hnn : n = cap := by omega
  have hold : ∀ j v, (cur.toList.take (n * 4))[j]? = some v → w.cell? ((⟨g, 0, none⟩ : Addr).add j) = some v := fun j v hj => by
   rw [Addr.add_lit, Nat.zero_add]
   rw [List.getElem?_take] at hj
   split at hj
   ·simp [World.cell?, hg]; simpa using hj
   ·cases hj
  have hr := run_append_grow (P := Tryz.prog) w 22 ty 41 i0 _ Tryz.underlying22 hi hz ⟨g, 0, none⟩ n cap (cur.toList.take (n * 4)) (by rw [hz1]; simp; omega) hold ⟨vb, 0, none⟩ 1 1 e (by rw [hz1]; omega) hnews (by omega) (by simp only [maxLen] at hcm; omega) (by rw [hz2]; exact growslice_fits (by omega) (by omega))
  have hb : Below w.heap.size w (w.drew.alloc (.cells ((cur.toList.take (n * 4)).toArray ++ e.toArray ++ Builtin.zeroCells (.agg #[.int .i64 0, .int .i64 0, .string ⟨#[]⟩, .string ⟨#[]⟩] : Value).cells (grownCap w (n + 1) cap 41 - (n + 1))) 41)) := bel_alloc (bel_drew (Below.refl _ _))
  exact ⟨_, _, hr, .of_below hb, .of_below hb⟩
theorem wpList_appP_Tx {w : World} {ops : Array Oper} {rest : List Oper} {o : Oper} {a : Act} {Q : Exit → Act → World → Prop} (hgd : o.guard = none) (s x : Operand)
  (ho : o.op = .call { callee := .builtin .append, args := #[s, x], argTypes := #[22, 22] })
  (p : Nat → Prop) (g n cap : Nat) (cur : Array Value) (hs : a.eval s = .slice (some ⟨g, 0, none⟩) n cap) (hg : w.heap[g]? = some (.cells cur 41 (0, 0))) (hcs : cur.size = cap * 4) (hnc : n ≤ cap) (hcm : cap ≤ maxLen) (hB : ¬ p g) (hn : n ≤ 1000000000) (vb : Nat) (e : List Value) (he : e.length = 4) (h1e : ∀ u ∈ e, u.oneCell' = true) (hx : a.eval x = .slice (some ⟨vb, 0, none⟩) 1 1) (hc : ∀ j u, e[j]? = some u → w.cell? ⟨vb, j, none⟩ = some u)
  (h : ∀ v' w', Prot p w w' → KeepS (· = 41) w w' → wpList Tryz.prog ops Q rest (a.put o.dst v') w') : wpList Tryz.prog ops Q (o :: rest) a w := by
 obtain ⟨v', w', hrun, hb, hk⟩ := run_appP_Tx w p g n cap cur o.type hg hcs hnc hcm hB hn vb e he h1e hc
 exact Lib.wpList_append_run w hgd s x _ _ ho _ _ hs hx _ _ hrun (h v' w' hb hk)

set_option maxHeartbeats 4000000 in
theorem law0_NumbersP (s : SlP) (p : Nat → Prop) (w : World) (hr : RowP w p 3 1 s) (hn : s.n ≤ 1000000) :
  Calls Tryz.prog 101 #[.slice s.A s.n s.c] w fun e w' => e = .returned (.tuple #[]) ∧ Prot p w w' ∧ KeepS (· = 3) w w' := by
 obtain ⟨A, n, c⟩ := s
 dsimp only at hn ⊢
 rcases hr with h | ⟨g, cur, h0, hgB, hg, h1, h2, h3⟩
 ·unfold SlP.v at h
  injection h with e1 e2 e3
  subst e1; subst e2; subst e3
  go_enter Tryz.func101, Tryz.ntmps101
  go_wp2_with fail
  go_loop [2] (fun i => i = .int .i64 0) (fun _ => 0)
  case atStart => rfl
  case round =>
   obtain rfl := hrel
   go_wp2_with (at_builtin; refine wpList_app1 rfl (.tmp 12) (.tmp 13) rfl w.heap.size _ _ rfl (OwnI.nil _ _) _ 5 rfl (cell0_alloc _ _ _) (by simp) (le_alloc (Nat.le_refl _)) ?_; intro v1 w1 hown1 hg1 hbel1 hat1)
   go_end0
   have hb : Below w.heap.size w w1 := Below.trans ((Below.refl _ _).alloc (Nat.le_refl _) _) hbel1
   exact ⟨rfl, .of_below hb, .of_below hb⟩
 ·dsimp only at h0 h1 h2 h3
  subst h0
  go_enter Tryz.func101, Tryz.ntmps101
  go_wp2_with fail
  go_loopw [2] (fun i wr => ∃ (k : Nat) (cr : Array Value), k ≤ n ∧ i = .int .i64 k ∧ wr.heap[g]? = some (.cells cr 3 (0, 0)) ∧ cr.size = c * 1 ∧ Prot p w wr ∧ KeepS (· = 3) w wr) (fun i _ => n - (intOf i).toNat)
  case atStart => exact ⟨0, cur, by omega, rfl, hg, h3, Prot.refl _ _, .refl _ _⟩
  case round =>
   obtain ⟨k, cr, hk, rfl, hgr, hcr, hbw, hkw⟩ := hrel
   (obtain ⟨wk, hwk⟩ : ∃ x, x = wr := ⟨_, rfl⟩); subst hwk
   have HG := ħ hgr
   have HK := ħ hkw
   have HB := ħ hbw
   by_cases hlt : k < n
   ·obtain ⟨u, hu⟩ : ∃ u, wk.cell? ⟨g, k, none⟩ = some u := ⟨cr[k]'(by omega), by simp [World.cell?, hgr, show k < cr.size by omega]⟩
    have hf : wk.frozen? ⟨g, k, none⟩ = false := by simp [World.frozen?, hgr]
    have hgl : g < wk.heap.size := (Array.getElem?_eq_some_iff.1 hgr).1
    clear hgr hkw hbw
    go_wp2_with fail
    (first | (go_round; (case rel => exact ⟨k + 1, cr.setIfInBounds k (.int .i64 (-99)), by omega, by go_num, heap_put HG.out, by simp; omega, HB.out.set hgB, HK.out.trans (.set HG.out rfl)⟩); (case measure => (simp [intOf] <;> omega))) | (go_roundw; (case rel => exact ⟨k + 1, cr.setIfInBounds k (.int .i64 (-99)), by omega, by go_num, heap_put HG.out, by simp; omega, HB.out.set hgB, HK.out.trans (.set HG.out rfl)⟩); (case measure => (simp [intOf] <;> omega))) | (refine ⟨?_, by simp [intOf] <;> omega⟩; (repeat apply Exists.intro); refine ⟨?rel, ?fr⟩; (case fr => ((repeat' apply And.intro) <;> rfl)); (case rel => exact ⟨k + 1, cr.setIfInBounds k (.int .i64 (-99)), by omega, by go_num, heap_put HG.out, by simp; omega, HB.out.set hgB, HK.out.trans (.set HG.out rfl)⟩)))
   ·have hsz := hbw.size
    have hgl : g < wk.heap.size := (Array.getElem?_eq_some_iff.1 hgr).1
    have hgr2 : (wk.alloc (.cells #[.int .i64 5] 3)).heap[g]? = some (.cells cr 3 (0, 0)) := (((Below.refl wk.heap.size wk).alloc (Nat.le_refl _) _).block g hgl).trans hgr
    have HG2 := ħ hgr2
    clear hgr hgr2 hkw hbw
    go_wp2_with (at_builtin; refine wpList_appP_Int rfl (.tmp 12) (.tmp 13) rfl p g n c cr rfl HG2.out hcr h1 h2 hgB (by omega) _ [.int .i64 5] rfl (by simp [Value.oneCell']) rfl (fun j u hu => (by cases j with | zero => (simp at hu; subst hu; exact cell0_alloc _ _ _) | succ j => simp at hu)) ?_; intro v1 w1 hb1 hk1)
    go_end0
    exact ⟨rfl, (HB.out.trans (.of_below (bel_alloc (Below.refl _ _)))).trans hb1, HK.out.trans (KeepS.trans (.of_below (bel_alloc (Below.refl _ _))) hk1)⟩
theorem keep_put4P {p : Nat → Prop} {w0 w : World} {g : Nat} {cur : Array Value} {t : TypeId} (hg : w.heap[g]? = some (.cells cur t (0, 0))) (hB : Prot p w0 w) (hp : ¬ p g) (o0 o1 o2 o3 : Nat) (v0 v1 v2 v3 : Value) : ∃ c' : Array Value, ((((w.setCell ⟨g, o0, none⟩ v0).setCell ⟨g, o1, none⟩ v1).setCell ⟨g, o2, none⟩ v2).setCell ⟨g, o3, none⟩ v3).heap[g]? = some (.cells c' t (0, 0)) ∧ c'.size = cur.size ∧ KeepS (· = t) w ((((w.setCell ⟨g, o0, none⟩ v0).setCell ⟨g, o1, none⟩ v1).setCell ⟨g, o2, none⟩ v2).setCell ⟨g, o3, none⟩ v3) ∧ Prot p w0 ((((w.setCell ⟨g, o0, none⟩ v0).setCell ⟨g, o1, none⟩ v1).setCell ⟨g, o2, none⟩ v2).setCell ⟨g, o3, none⟩ v3) :=
 ⟨_, (heap_put (heap_put (heap_put (heap_put hg)))), by simp, ((KeepS.set (S := (· = t)) hg rfl).trans ((KeepS.set (S := (· = t)) (heap_put hg) rfl).trans ((KeepS.set (S := (· = t)) (heap_put (heap_put hg)) rfl).trans (KeepS.set (S := (· = t)) (heap_put (heap_put (heap_put hg))) rfl)))), ((((hB.set hp).set hp).set hp).set hp)⟩
set_option maxHeartbeats 4000000 in
theorem law0_TxsP (s : SlP) (p : Nat → Prop) (w : World) (hr : RowP w p 41 4 s) (hn : s.n ≤ 1000000) :
  Calls Tryz.prog 45 #[.slice s.A s.n s.c] w fun e w' => e = .returned (.tuple #[]) ∧ Prot p w w' ∧ KeepS (· = 41) w w' := by
 obtain ⟨A, n, c⟩ := s
 dsimp only at hn ⊢
 rcases hr with h | ⟨g, cur, h0, hgB, hg, h1, h2, h3⟩
 ·unfold SlP.v at h
  injection h with e1 e2 e3
  subst e1; subst e2; subst e3
  go_enter Tryz.func45, Tryz.ntmps45
  go_wp2_with fail
  go_loop [2] (fun i => i = .int .i64 0) (fun _ => 0)
  case atStart => rfl
  case round =>
   obtain rfl := hrel
   go_wp2_with (at_builtin; refine wpList_appX rfl (.tmp 13) (.tmp 15) rfl rfl w.heap.size _ _ rfl (OwnX.nil _ _) w.heap.size 0 1 1 [⟨0, 0, ⟨#[]⟩, ⟨#[]⟩⟩] rfl rfl (fun j u hu => (by rw [Nat.zero_add]; exact (BoxR.new w [.int .i64 0, .int .i64 0, .string ⟨#[]⟩, .string ⟨#[]⟩] 41).2 j u (by simpa [flat, encX] using hu))) (by simp) (le_alloc (Nat.le_refl _)) ?_; intro v1 w1 hown1 hg1 hbel1 hat1)
   go_end0
   have hb : Below w.heap.size w w1 := Below.trans ((Below.refl _ _).alloc (Nat.le_refl _) _) hbel1
   exact ⟨rfl, .of_below hb, .of_below hb⟩
 ·dsimp only at h0 h1 h2 h3
  subst h0
  go_enter Tryz.func45, Tryz.ntmps45
  go_wp2_with fail
  go_loopw [2] (fun i wr => ∃ (k : Nat) (cr : Array Value), k ≤ n ∧ i = .int .i64 k ∧ wr.heap[g]? = some (.cells cr 41 (0, 0)) ∧ cr.size = c * 4 ∧ Prot p w wr ∧ KeepS (· = 41) w wr) (fun i _ => n - (intOf i).toNat)
  case atStart => exact ⟨0, cur, by omega, rfl, hg, h3, Prot.refl _ _, .refl _ _⟩
  case round =>
   obtain ⟨k, cr, hk, rfl, hgr, hcr, hbw, hkw⟩ := hrel
   (obtain ⟨wk, hwk⟩ : ∃ x, x = wr := ⟨_, rfl⟩); subst hwk
   have HG := ħ hgr
   have HK := ħ hkw
   have HB := ħ hbw
   by_cases hlt : k < n
   ·obtain ⟨u0, hu0⟩ : ∃ u, wk.cell? ⟨g, k * 4, none⟩ = some u := ⟨cr[k * 4]'(by omega), by simp [World.cell?, hgr, show k * 4 < cr.size by omega]⟩; obtain ⟨u1, hu1⟩ : ∃ u, wk.cell? ⟨g, k * 4 + 1, none⟩ = some u := ⟨cr[k * 4 + 1]'(by omega), by simp [World.cell?, hgr, show k * 4 + 1 < cr.size by omega]⟩; obtain ⟨u2, hu2⟩ : ∃ u, wk.cell? ⟨g, k * 4 + 2, none⟩ = some u := ⟨cr[k * 4 + 2]'(by omega), by simp [World.cell?, hgr, show k * 4 + 2 < cr.size by omega]⟩; obtain ⟨u3, hu3⟩ : ∃ u, wk.cell? ⟨g, k * 4 + 3, none⟩ = some u := ⟨cr[k * 4 + 3]'(by omega), by simp [World.cell?, hgr, show k * 4 + 3 < cr.size by omega]⟩
    have hf : ∀ o, wk.frozen? ⟨g, o, none⟩ = false := fun o => by simp [World.frozen?, hgr]
    have hgl : g < wk.heap.size := (Array.getElem?_eq_some_iff.1 hgr).1
    obtain ⟨c', hc1, hc2, hc3, hc4⟩ := keep_put4P HG.out HB.out hgB (k * 4) (k * 4 + 1) (k * 4 + 2) (k * 4 + 3) (.int .i64 (-9)) (.int .i64 0) (.string ⟨#[]⟩) (.string ⟨#[]⟩)
    have H1 := ħ hc1
    have H2 := ħ hc2
    have H3 := ħ hc3
    have H4 := ħ hc4
    clear hgr hkw hbw hc1 hc2 hc3 hc4
    go_wp2_with fail
    (first | (go_round; (case rel => exact ⟨k + 1, c', by omega, by go_num, H1.out, by (rw [H2.out]; exact hcr), H4.out, HK.out.trans H3.out⟩); (case measure => (simp [intOf] <;> omega))) | (go_roundw; (case rel => exact ⟨k + 1, c', by omega, by go_num, H1.out, by (rw [H2.out]; exact hcr), H4.out, HK.out.trans H3.out⟩); (case measure => (simp [intOf] <;> omega))) | (refine ⟨?_, by simp [intOf] <;> omega⟩; (repeat apply Exists.intro); refine ⟨?rel, ?fr⟩; (case fr => ((repeat' apply And.intro) <;> rfl)); (case rel => exact ⟨k + 1, c', by omega, by go_num, H1.out, by (rw [H2.out]; exact hcr), H4.out, HK.out.trans H3.out⟩)))
   ·have hsz := hbw.size
    have hgl : g < wk.heap.size := (Array.getElem?_eq_some_iff.1 hgr).1
    have hgr2 : (wk.alloc (.cells #[.int .i64 0, .int .i64 0, .string ⟨#[]⟩, .string ⟨#[]⟩] 41)).heap[g]? = some (.cells cr 41 (0, 0)) := (((Below.refl wk.heap.size wk).alloc (Nat.le_refl _) _).block g hgl).trans hgr
    have HG2 := ħ hgr2
    have HBX := ħ (BoxR.new wk [.int .i64 0, .int .i64 0, .string ⟨#[]⟩, .string ⟨#[]⟩] 41)
    clear hgr hgr2 hkw hbw
    go_wp2_with (at_builtin; refine wpList_appP_Tx rfl (.tmp 13) (.tmp 15) rfl p g n c cr rfl HG2.out hcr h1 h2 hgB (by omega) _ [.int .i64 0, .int .i64 0, .string ⟨#[]⟩, .string ⟨#[]⟩] rfl (by simp [Value.oneCell']) rfl (fun j u hu => HBX.out.2 j u hu) ?_; intro v1 w1 hb1 hk1)
    go_end0
    exact ⟨rfl, (HB.out.trans (.of_below (bel_alloc (Below.refl _ _)))).trans hb1, HK.out.trans (KeepS.trans (.of_below (bel_alloc (Below.refl _ _))) hk1)⟩
/-- The lists of a message are one's own, whatever they hold. -/
structure RowsP (w : World) (p : Nat → Prop) (P : MsgP) : Prop where
 b : RowP w p 41 4 P.b
 bn : P.b.n ≤ 1000000
 h1 : RowP w p 3 1 P.h.b
 h1n : P.h.b.n ≤ 1000000
 h2 : RowP w p 3 1 P.h.p
 h2n : P.h.p.n ≤ 1000000
 c1 : RowP w p 3 1 P.c.h.b
 c1n : P.c.h.b.n ≤ 1000000
 c2 : RowP w p 3 1 P.c.h.p
 c2n : P.c.h.p.n ≤ 1000000
 c3 : RowP w p 3 1 P.c.s
 c3n : P.c.s.n ≤ 1000000
 ds : RowP w p 3 1 P.ds
 dsn : P.ds.n ≤ 1000000
theorem RowsP.keep {S : TypeId → Prop} {w w' : World} {p : Nat → Prop} {P : MsgP} (h : RowsP w p P) (hk : KeepS S w w') : RowsP w' p P := ⟨h.b.keep hk, h.bn, h.h1.keep hk, h.h1n, h.h2.keep hk, h.h2n, h.c1.keep hk, h.c1n, h.c2.keep hk, h.c2n, h.c3.keep hk, h.c3n, h.ds.keep hk, h.dsn⟩
def InP (w : World) (p : Nat → Prop) (g j : Nat) : Prop := ∃ (P : MsgP) (M : MsgD), (∀ r u, (msgCells P M)[r]? = some u → w.cell? ⟨g, j * 18 + r, none⟩ = some u) ∧ RowsP w p P
theorem InP.other {S : TypeId → Prop} {w w' : World} {p : Nat → Prop} {g j : Nat} (h : InP w p g j) (hk : KeepS S w w') (hc : ∀ r, r < 18 → w'.cell? ⟨g, j * 18 + r, none⟩ = w.cell? ⟨g, j * 18 + r, none⟩) : InP w' p g j := by
 obtain ⟨P, M, h1, h2⟩ := h
 exact ⟨P, M, fun r u hu => (hc r (List.getElem?_eq_some_iff.1 hu).1).trans (h1 r u hu), h2.keep hk⟩
/-- A row of messages of one's own, whatever it holds. -/
def RowMP (w : World) (p : Nat → Prop) (s : SlP) : Prop := (s.v = .slice none 0 0) ∨ ∃ g cur, s.A = some ⟨g, 0, none⟩ ∧ ¬ p g ∧ w.heap[g]? = some (.cells cur 49 (0, 0)) ∧ s.n ≤ s.c ∧ s.c ≤ maxLen ∧ cur.size = s.c * 18 ∧ ∀ j, j < s.n → InP w p g j
set_option maxHeartbeats 4000000 in
theorem law0_HeaderP (x y : SlP) (u v : Int) (p : Nat → Prop) (w : World) (hx : RowP w p 3 1 x) (hy : RowP w p 3 1 y) (hxn : x.n ≤ 1000000) (hyn : y.n ≤ 1000000) :
  Calls Tryz.prog 99 #[.agg #[.int .i64 u, .int .i64 v, .slice x.A x.n x.c, .slice y.A y.n y.c]] w fun e w' => e = .returned (.tuple #[]) ∧ Prot p w w' ∧ KeepS (· = 3) w w' := by
 have HX := ħ hx
 have HY := ħ hy
 clear hx hy
 go_enter Tryz.func99, Tryz.ntmps99
 have hbX : Below w.heap.size w (w.alloc (.cells #[.int .i64 u, .int .i64 v, .slice x.A x.n x.c, .slice y.A y.n y.c] 45)) := belA
 have hX : Blk (w.alloc (.cells #[.int .i64 u, .int .i64 v, .slice x.A x.n x.c, .slice y.A y.n y.c] 45)) w.heap.size 45 [.int .i64 u, .int .i64 v, .slice x.A x.n x.c, .slice y.A y.n y.c] := Blk.new w 45 [.int .i64 u, .int .i64 v, .slice x.A x.n x.c, .slice y.A y.n y.c]
 go_wp2_with fail
 generalize (w.alloc (.cells #[.int .i64 u, .int .i64 v, .slice x.A x.n x.c, .slice y.A y.n y.c] 45)) = X at *
 obtain ⟨N, hN⟩ : ∃ N, N = w.heap.size := ⟨_, rfl⟩
 rw [← hN] at hX ⊢
 clear hN
 have HKX : Hid (KeepS (· = 3) w X) := ħ (.of_below hbX)
 have HXX := ħ hX
 have HBX := ħ (Prot.of_below (p := p) hbX)
 clear hX
 refine (law0_NumbersP x p _ (HX.out.keep HKX.out) hxn).mono ?_
 rintro e w1 ⟨rfl, hb1, hk1⟩
 have hX1 := HXX.out.keepS hk1 (by decide)
 have hX1l := hX1.lt
 have HK1 := ħ (HKX.out.trans hk1)
 have HB1 := ħ (HBX.out.trans hb1)
 have a_0 := (hX1.box).2 0 _ rfl; have a_1 := (hX1.box).2 1 _ rfl; have a_2 := (hX1.box).2 2 _ rfl; have a_3 := (hX1.box).2 3 _ rfl
 clear hX1 hb1 hk1
 go_wp2_with fail
 refine (law0_NumbersP y p _ (HY.out.keep HK1.out) hyn).mono ?_
 rintro e w2 ⟨rfl, hb2, hk2⟩
 clear a_0 a_1 a_2 a_3
 go_wp2_with fail
 go_end0
 exact ⟨rfl, HB1.out.trans hb2, HK1.out.trans hk2⟩
set_option maxHeartbeats 4000000 in
theorem law0_CertPr (x y z : SlP) (u v d : Int) (p : Nat → Prop) (w : World) (hx : RowP w p 3 1 x) (hy : RowP w p 3 1 y) (hz : RowP w p 3 1 z) (hxn : x.n ≤ 1000000) (hyn : y.n ≤ 1000000) (hzn : z.n ≤ 1000000) :
  Calls Tryz.prog 100 #[.agg #[.int .i64 u, .int .i64 v, .slice x.A x.n x.c, .slice y.A y.n y.c, .int .i64 d, .slice z.A z.n z.c]] w fun e w' => e = .returned (.tuple #[]) ∧ Prot p w w' ∧ KeepS (· = 3) w w' := by
 have HX := ħ hx
 have HY := ħ hy
 have HZ := ħ hz
 clear hx hy hz
 go_enter Tryz.func100, Tryz.ntmps100
 have hbX : Below w.heap.size w (w.alloc (.cells #[.int .i64 u, .int .i64 v, .slice x.A x.n x.c, .slice y.A y.n y.c, .int .i64 d, .slice z.A z.n z.c] 47)) := belA
 have hX : Blk (w.alloc (.cells #[.int .i64 u, .int .i64 v, .slice x.A x.n x.c, .slice y.A y.n y.c, .int .i64 d, .slice z.A z.n z.c] 47)) w.heap.size 47 [.int .i64 u, .int .i64 v, .slice x.A x.n x.c, .slice y.A y.n y.c, .int .i64 d, .slice z.A z.n z.c] := Blk.new w 47 [.int .i64 u, .int .i64 v, .slice x.A x.n x.c, .slice y.A y.n y.c, .int .i64 d, .slice z.A z.n z.c]
 go_wp2_with fail
 generalize (w.alloc (.cells #[.int .i64 u, .int .i64 v, .slice x.A x.n x.c, .slice y.A y.n y.c, .int .i64 d, .slice z.A z.n z.c] 47)) = X at *
 obtain ⟨N, hN⟩ : ∃ N, N = w.heap.size := ⟨_, rfl⟩
 rw [← hN] at hX ⊢
 clear hN
 have HKX : Hid (KeepS (· = 3) w X) := ħ (.of_below hbX)
 have HXX := ħ hX
 have HBX := ħ (Prot.of_below (p := p) hbX)
 clear hX
 refine (law0_HeaderP x y u v p _ (HX.out.keep HKX.out) (HY.out.keep HKX.out) hxn hyn).mono ?_
 rintro e w1 ⟨rfl, hb1, hk1⟩
 have hX1 := HXX.out.keepS hk1 (by decide)
 have hX1l := hX1.lt
 have HK1 := ħ (HKX.out.trans hk1)
 have HB1 := ħ (HBX.out.trans hb1)
 have a_0 := (hX1.box).2 0 _ rfl; have a_1 := (hX1.box).2 1 _ rfl; have a_2 := (hX1.box).2 2 _ rfl; have a_3 := (hX1.box).2 3 _ rfl; have a_4 := (hX1.box).2 4 _ rfl; have a_5 := (hX1.box).2 5 _ rfl
 clear hX1 hb1 hk1
 go_wp2_with fail
 refine (law0_NumbersP z p _ (HZ.out.keep HK1.out) hzn).mono ?_
 rintro e w2 ⟨rfl, hb2, hk2⟩
 clear a_0 a_1 a_2 a_3 a_4 a_5
 go_wp2_with fail
 go_end0
 exact ⟨rfl, HB1.out.trans hb2, HK1.out.trans hk2⟩
theorem run_appP_Message (w : World) (p : Nat → Prop) (g n cap : Nat) (cur : Array Value) (ty : TypeId) (hg : w.heap[g]? = some (.cells cur 49 (0, 0))) (hcs : cur.size = cap * 18) (hnc : n ≤ cap) (hcm : cap ≤ maxLen) (hB : ¬ p g) (hn : n ≤ 1000000000) (vb : Nat) (e : List Value) (he : e.length = 18) (h1e : ∀ u ∈ e, u.oneCell' = true) (hx : ∀ j u, e[j]? = some u → w.cell? ⟨vb, j, none⟩ = some u) :
  ∃ v' w', (Builtin.append_ #[68, 68] ty #[.slice (some ⟨g, 0, none⟩) n cap, .slice (some ⟨vb, 0, none⟩) 1 1]).run Tryz.prog w = .ok v' w' ∧ Prot p w w' ∧ KeepS (· = 49) w w' := by
 obtain ⟨i0, hi, hz, hz1, hz2⟩ := info_parts infoK_Message
 have hnews : ∀ j u, e[j]? = some u → w.cell? ((⟨vb, 0, none⟩ : Addr).add j) = some u := fun j u hu => by
  rw [Addr.add_lit, Nat.zero_add]; exact hx j u hu
 have hgl : g < w.heap.size := (Array.getElem?_eq_some_iff.1 hg).1
 by_cases hroom : n + 1 ≤ cap
 ·have hr := run_append_room (P := Tryz.prog) w 68 ty 49 i0 Tryz.underlying68 hi g n cap cur hg ⟨vb, 0, none⟩ 1 1 e (by rw [hz1]; omega) hnews h1e hroom (by rw [hz1]; omega)
  refine ⟨_, _, hr, ⟨rfl, rfl, rfl, by simp, fun k hk hpk => setRow_other w g k _ (fun e => hB (e ▸ hpk))⟩, fun k c t hc => ?_⟩
  by_cases h : k = g
  ·subst h
   rw [hg] at hc
   injection hc with hc
   injection hc with e1 e2 _
   subst e1; subst e2
   refine ⟨_, setRow_heap w k cur _ _ _ hg, ?_, fun ht => absurd rfl ht⟩
   rw [hz1]; simp only [List.size_toArray, List.length_append, List.length_take, List.length_drop, he, Array.length_toList]; omega
  ·exact ⟨c, (setRow_other w g k _ h).trans hc, rfl, fun _ => rfl⟩
 ·have hnn : n = cap := by omega
  have hold : ∀ j v, (cur.toList.take (n * 18))[j]? = some v → w.cell? ((⟨g, 0, none⟩ : Addr).add j) = some v := fun j v hj => by
   rw [Addr.add_lit, Nat.zero_add]
   rw [List.getElem?_take] at hj
   split at hj
   ·simp [World.cell?, hg]; simpa using hj
   ·cases hj
  have hr := run_append_grow (P := Tryz.prog) w 68 ty 49 i0 _ Tryz.underlying68 hi hz ⟨g, 0, none⟩ n cap (cur.toList.take (n * 18)) (by rw [hz1]; simp; omega) hold ⟨vb, 0, none⟩ 1 1 e (by rw [hz1]; omega) hnews (by omega) (by simp only [maxLen] at hcm; omega) (by rw [hz2]; exact growslice_fits (by omega) (by omega))
  have hb : Below w.heap.size w (w.drew.alloc (.cells ((cur.toList.take (n * 18)).toArray ++ e.toArray ++ Builtin.zeroCells (.agg #[.int .i64 0, .int .i64 0, .int .i64 0, .int .i64 0, .int .i64 0, .int .i64 0, .slice none 0 0, .int .i64 0, .int .i64 0, .slice none 0 0, .slice none 0 0, .int .i64 0, .int .i64 0, .slice none 0 0, .slice none 0 0, .int .i64 0, .slice none 0 0, .slice none 0 0] : Value).cells (grownCap w (n + 1) cap 49 - (n + 1))) 49)) := bel_alloc (bel_drew (Below.refl _ _))
  exact ⟨_, _, hr, .of_below hb, .of_below hb⟩
theorem wpList_appP_Message {w : World} {ops : Array Oper} {rest : List Oper} {o : Oper} {a : Act} {Q : Exit → Act → World → Prop} (hgd : o.guard = none) (s x : Operand)
  (ho : o.op = .call { callee := .builtin .append, args := #[s, x], argTypes := #[68, 68] })
  (p : Nat → Prop) (g n cap : Nat) (cur : Array Value) (hs : a.eval s = .slice (some ⟨g, 0, none⟩) n cap) (hg : w.heap[g]? = some (.cells cur 49 (0, 0))) (hcs : cur.size = cap * 18) (hnc : n ≤ cap) (hcm : cap ≤ maxLen) (hB : ¬ p g) (hn : n ≤ 1000000000) (vb : Nat) (e : List Value) (he : e.length = 18) (h1e : ∀ u ∈ e, u.oneCell' = true) (hx : a.eval x = .slice (some ⟨vb, 0, none⟩) 1 1) (hc : ∀ j u, e[j]? = some u → w.cell? ⟨vb, j, none⟩ = some u)
  (h : ∀ v' w', Prot p w w' → KeepS (· = 49) w w' → wpList Tryz.prog ops Q rest (a.put o.dst v') w') : wpList Tryz.prog ops Q (o :: rest) a w := by
 obtain ⟨v', w', hrun, hb, hk⟩ := run_appP_Message w p g n cap cur o.type hg hcs hnc hcm hB hn vb e he h1e hc
 exact Lib.wpList_append_run w hgd s x _ _ ho _ _ hs hx _ _ hrun (h v' w' hb hk)

set_option maxHeartbeats 8000000 in
theorem law0_MessagesP (s : SlP) (p : Nat → Prop) (w : World) (hr : RowMP w p s) (hn : s.n ≤ 1000000) :
  Calls Tryz.prog 53 #[.slice s.A s.n s.c] w fun e w' => e = .returned (.tuple #[]) ∧ Prot p w w' ∧ KeepS SMsg w w' := by
 obtain ⟨A, n, c⟩ := s
 dsimp only at hn ⊢
 rcases hr with h | ⟨g, cur, h0, hgB, hg, h1, h2, h3, h4⟩
 ·unfold SlP.v at h
  injection h with e1 e2 e3
  subst e1; subst e2; subst e3
  go_enter Tryz.func53, Tryz.ntmps53
  go_wp2_with fail
  go_loop [2] (fun i => i = .int .i64 0) (fun _ => 0)
  case atStart => rfl
  case round =>
   obtain rfl := hrel
   go_wp2_with (at_builtin; refine wpList_appM rfl (.tmp 38) (.tmp 40) rfl rfl w.heap.size _ [] [] rfl (OwnT.nil _ _) w.heap.size ⟨0, 0, 0, 0, ⟨0, 0, []⟩, ⟨0, 0, [], []⟩, ⟨⟨0, 0, [], []⟩, 0, []⟩, []⟩ ⟨⟨none, 0, 0⟩, ⟨⟨none, 0, 0⟩, ⟨none, 0, 0⟩⟩, ⟨⟨⟨none, 0, 0⟩, ⟨none, 0, 0⟩⟩, ⟨none, 0, 0⟩⟩, ⟨none, 0, 0⟩⟩ rfl (BoxR.new w (msgCells ⟨⟨none, 0, 0⟩, ⟨⟨none, 0, 0⟩, ⟨none, 0, 0⟩⟩, ⟨⟨⟨none, 0, 0⟩, ⟨none, 0, 0⟩⟩, ⟨none, 0, 0⟩⟩, ⟨none, 0, 0⟩⟩ ⟨0, 0, 0, 0, ⟨0, 0, []⟩, ⟨0, 0, [], []⟩, ⟨⟨0, 0, [], []⟩, 0, []⟩, []⟩) 49) ⟨OwnX.nil _ _, OwnI.nil _ _, OwnI.nil _ _, OwnI.nil _ _, OwnI.nil _ _, OwnI.nil _ _, OwnI.nil _ _⟩ (by simp) (le_alloc (Nat.le_refl _)) ?_; intro v1 w1 hown1 hg1 hbel1)
   go_end0
   have hb : Below w.heap.size w w1 := Below.trans ((Below.refl _ _).alloc (Nat.le_refl _) _) hbel1
   exact ⟨rfl, .of_below hb, .of_below hb⟩
 ·dsimp only at h0 h1 h2 h3 h4
  subst h0
  go_enter Tryz.func53, Tryz.ntmps53
  go_wp2_with fail
  go_loopw [2] (fun i wr => ∃ (k : Nat) (cr : Array Value), k ≤ n ∧ i = .int .i64 k ∧ wr.heap[g]? = some (.cells cr 49 (0, 0)) ∧ cr.size = c * 18 ∧ Hid (∀ j, k ≤ j → j < n → InP wr p g j) ∧ Prot p w wr ∧ KeepS SMsg w wr) (fun i _ => n - (intOf i).toNat)
  case atStart => exact ⟨0, cur, by omega, rfl, hg, h3, ħ (fun j _ hj => h4 j hj), Prot.refl _ _, .refl _ _⟩
  case round =>
   obtain ⟨k, cr, hk, rfl, hgr, hcr, HIN, hbw, hkw⟩ := hrel
   (obtain ⟨wk, hwk⟩ : ∃ x, x = wr := ⟨_, rfl⟩); subst hwk
   have HK := ħ hkw
   have HB := ħ hbw
   by_cases hlt : k < n
   ·obtain ⟨⟨bP, ⟨h1P, h2P⟩, ⟨⟨c1P, c2P⟩, c3P⟩, dP⟩, M, hc, hrw⟩ := HIN.out k (Nat.le_refl _) hlt
    have hgl : g < wk.heap.size := (Array.getElem?_eq_some_iff.1 hgr).1
    have HG := ħ hgr
    have HR := ħ hrw
    have HC := ħ hc
    have c6 := hc 6 _ rfl
    clear hgr hkw hbw hrw hc
    go_wp2_with fail
    refine (law0_TxsP bP p _ HR.out.b HR.out.bn).mono ?_
    rintro e w5 ⟨rfl, hb5, hk5⟩
    have HK5 : Hid (KeepS SMsg wk w5) := ħ (hk5.weak (fun t h => .inl h))
    have HG5 := ħ (blk_keep hk5 HG.out (by decide))
    have HC5 : Hid (∀ o, w5.cell? ⟨g, o, none⟩ = wk.cell? ⟨g, o, none⟩) := ħ (fun o => cell_keep hk5 HG.out (by decide))
    have hl5 : g < w5.heap.size := (Array.getElem?_eq_some_iff.1 HG5.out).1
    have HB5 := ħ (HB.out.trans hb5)
    have c7 := (HC5.out _).trans (HC.out 7 _ rfl)
    have c8 := (HC5.out _).trans (HC.out 8 _ rfl)
    have c9 := (HC5.out _).trans (HC.out 9 _ rfl)
    have c10 := (HC5.out _).trans (HC.out 10 _ rfl)
    clear c6 hb5 hk5
    go_wp2_with fail
    refine (law0_HeaderP h1P h2P _ _ p _ (HR.out.h1.keep HK5.out) (HR.out.h2.keep HK5.out) HR.out.h1n HR.out.h2n).mono ?_
    rintro e w6 ⟨rfl, hb6, hk6⟩
    have HK6 : Hid (KeepS SMsg wk w6) := ħ (HK5.out.trans (hk6.weak (fun t h => .inr (.inl h))))
    have HG6 := ħ (blk_keep hk6 HG5.out (by decide))
    have HC6 : Hid (∀ o, w6.cell? ⟨g, o, none⟩ = wk.cell? ⟨g, o, none⟩) := ħ (fun o => (cell_keep hk6 HG5.out (by decide)).trans (HC5.out o))
    have hl6 : g < w6.heap.size := (Array.getElem?_eq_some_iff.1 HG6.out).1
    have HB6 := ħ (HB5.out.trans hb6)
    have c11 := (HC6.out _).trans (HC.out 11 _ rfl)
    have c12 := (HC6.out _).trans (HC.out 12 _ rfl)
    have c13 := (HC6.out _).trans (HC.out 13 _ rfl)
    have c14 := (HC6.out _).trans (HC.out 14 _ rfl)
    have c15 := (HC6.out _).trans (HC.out 15 _ rfl)
    have c16 := (HC6.out _).trans (HC.out 16 _ rfl)
    clear c7 c8 c9 c10 hb6 hk6
    go_wp2_with fail
    refine (law0_CertPr c1P c2P c3P _ _ _ p _ (HR.out.c1.keep HK6.out) (HR.out.c2.keep HK6.out) (HR.out.c3.keep HK6.out) HR.out.c1n HR.out.c2n HR.out.c3n).mono ?_
    rintro e w7 ⟨rfl, hb7, hk7⟩
    have HK7 : Hid (KeepS SMsg wk w7) := ħ (HK6.out.trans (hk7.weak (fun t h => .inr (.inl h))))
    have HG7 := ħ (blk_keep hk7 HG6.out (by decide))
    have HC7 : Hid (∀ o, w7.cell? ⟨g, o, none⟩ = wk.cell? ⟨g, o, none⟩) := ħ (fun o => (cell_keep hk7 HG6.out (by decide)).trans (HC6.out o))
    have hl7 : g < w7.heap.size := (Array.getElem?_eq_some_iff.1 HG7.out).1
    have HB7 := ħ (HB6.out.trans hb7)
    have c17 := (HC7.out _).trans (HC.out 17 _ rfl)
    clear c11 c12 c13 c14 c15 c16 hb7 hk7
    go_wp2_with fail
    refine (law0_NumbersP dP p _ (HR.out.ds.keep HK7.out) HR.out.dsn).mono ?_
    rintro e w8 ⟨rfl, hb8, hk8⟩
    have hk8' : KeepS SMsg wk w8 := HK7.out.trans (hk8.weak (fun t h => .inr (.inl h)))
    have hg8 := blk_keep hk8 HG7.out (by decide)
    have hc8 : ∀ o, w8.cell? ⟨g, o, none⟩ = wk.cell? ⟨g, o, none⟩ := fun o => (cell_keep hk8 HG7.out (by decide)).trans (HC7.out o)
    have hl8 : g < w8.heap.size := (Array.getElem?_eq_some_iff.1 hg8).1
    have hb8' := HB7.out.trans hb8
    have hth : w8.there g (k * 18) 18 := fun j hj => by
     refine ⟨by simp [World.cell?, hg8, show k * 18 + j < cr.size by omega], by simp [World.frozen?, hg8]⟩
    have HTH := ħ hth
    obtain ⟨c', e1, e2⟩ := setCells_heap [.int .i64 (-9), .int .i64 0, .int .i64 0, .int .i64 0, .int .i64 0, .int .i64 0, .slice none 0 0, .int .i64 0, .int .i64 0, .slice none 0 0, .slice none 0 0, .int .i64 0, .int .i64 0, .slice none 0 0, .slice none 0 0, .int .i64 0, .slice none 0 0, .slice none 0 0] (k * 18) w8 cr hg8
    have hk9 := setCells_keep [.int .i64 (-9), .int .i64 0, .int .i64 0, .int .i64 0, .int .i64 0, .int .i64 0, .slice none 0 0, .int .i64 0, .int .i64 0, .slice none 0 0, .slice none 0 0, .int .i64 0, .int .i64 0, .slice none 0 0, .slice none 0 0, .int .i64 0, .slice none 0 0, .slice none 0 0] (k * 18) w8 cr hg8
    have hin : ∀ j, k + 1 ≤ j → j < n → InP (w8.setCells g (k * 18) [.int .i64 (-9), .int .i64 0, .int .i64 0, .int .i64 0, .int .i64 0, .int .i64 0, .slice none 0 0, .int .i64 0, .int .i64 0, .slice none 0 0, .slice none 0 0, .int .i64 0, .int .i64 0, .slice none 0 0, .slice none 0 0, .int .i64 0, .slice none 0 0, .slice none 0 0]) p g j := fun j hj1 hj2 => by
     refine (HIN.out j (by omega) hj2).other (hk8'.trans (hk9.weak (fun t h => .inr (.inr h)))) (fun r hr => ?_)
     rw [setCells_apart _ _ _ (.inr (by simp only [List.length_cons, List.length_nil]; omega))]
     exact hc8 _
    have hb9 := Prot.setCells (b := g) hgB [.int .i64 (-9), .int .i64 0, .int .i64 0, .int .i64 0, .int .i64 0, .int .i64 0, .slice none 0 0, .int .i64 0, .int .i64 0, .slice none 0 0, .slice none 0 0, .int .i64 0, .int .i64 0, .slice none 0 0, .slice none 0 0, .int .i64 0, .slice none 0 0, .slice none 0 0] (k * 18) _ _ hb8'
    obtain ⟨W9, hW9⟩ : ∃ Z, Z = w8.setCells g (k * 18) [.int .i64 (-9), .int .i64 0, .int .i64 0, .int .i64 0, .int .i64 0, .int .i64 0, .slice none 0 0, .int .i64 0, .int .i64 0, .slice none 0 0, .slice none 0 0, .int .i64 0, .int .i64 0, .slice none 0 0, .slice none 0 0, .int .i64 0, .slice none 0 0, .slice none 0 0] := ⟨_, rfl⟩
    have HW9 := ħ hW9
    rw [← hW9] at e1 hk9 hin hb9
    have HE1 := ħ e1
    have HE2 := ħ e2
    have HK9 := ħ (HK.out.trans (hk8'.trans (hk9.weak (fun t h => .inr (.inr h)))))
    have HI9 := ħ hin
    have HB9 := ħ hb9
    clear c17 hb8 hk8 hk8' hg8 hc8 hb8' hth e1 e2 hk9 hin hb9 hW9 HG HR HC HK5 HG5 HC5 HK6 HG6 HC6 HK7 HG7 HC7 HB5 HB6 HB7 hl5 hl6 hl7
    go_upto_region 7 with fail
    refine wp_region_list ?_
    simp only [List.toList_toArray]
    iterate 4 ((refine wpList_plain rfl (fun K hK => ?_)); go_simp; refine hK _ _ ?_; clear hK K; (try simp only [lz]))
    refine wpList_store_mid rfl 49 _ _ rfl g (k * 18) #[.int .i64 (-9), .int .i64 0, .int .i64 0, .int .i64 0, .int .i64 0, .int .i64 0, .slice none 0 0, .int .i64 0, .int .i64 0, .slice none 0 0, .slice none 0 0, .int .i64 0, .int .i64 0, .slice none 0 0, .slice none 0 0, .int .i64 0, .slice none 0 0, .slice none 0 0] (by simp [Act.eval, Act.put]) (by simp [Act.eval, Act.put]) HTH.out (by kernel_rfl) (by simp [Value.oneCell']) ?_
    (try simp only [lz])
    refine wpList_nil ?_
    try simp only [List.toList_toArray]
    rw [← HW9.out]
    go_wp2_with fail
    (first | (go_round; (case rel => exact ⟨k + 1, c', by omega, by go_num, HE1.out, by (rw [HE2.out]; exact hcr), HI9, HB9.out, HK9.out⟩); (case measure => (simp [intOf] <;> omega))) | (go_roundw; (case rel => exact ⟨k + 1, c', by omega, by go_num, HE1.out, by (rw [HE2.out]; exact hcr), HI9, HB9.out, HK9.out⟩); (case measure => (simp [intOf] <;> omega))) | (refine ⟨?_, by simp [intOf] <;> omega⟩; (repeat apply Exists.intro); refine ⟨?rel, ?fr⟩; (case fr => ((repeat' apply And.intro) <;> rfl)); (case rel => exact ⟨k + 1, c', by omega, by go_num, HE1.out, by (rw [HE2.out]; exact hcr), HI9, HB9.out, HK9.out⟩)))
   ·have hsz := hbw.size
    have hgl : g < wk.heap.size := (Array.getElem?_eq_some_iff.1 hgr).1
    have hgr2 : (wk.alloc (.cells #[.int .i64 0, .int .i64 0, .int .i64 0, .int .i64 0, .int .i64 0, .int .i64 0, .slice none 0 0, .int .i64 0, .int .i64 0, .slice none 0 0, .slice none 0 0, .int .i64 0, .int .i64 0, .slice none 0 0, .slice none 0 0, .int .i64 0, .slice none 0 0, .slice none 0 0] 49)).heap[g]? = some (.cells cr 49 (0, 0)) := (((Below.refl wk.heap.size wk).alloc (Nat.le_refl _) _).block g hgl).trans hgr
    have HG2 := ħ hgr2
    have HBX := ħ (BoxR.new wk [.int .i64 0, .int .i64 0, .int .i64 0, .int .i64 0, .int .i64 0, .int .i64 0, .slice none 0 0, .int .i64 0, .int .i64 0, .slice none 0 0, .slice none 0 0, .int .i64 0, .int .i64 0, .slice none 0 0, .slice none 0 0, .int .i64 0, .slice none 0 0, .slice none 0 0] 49)
    clear hgr hgr2 hkw hbw
    go_wp2_with (at_builtin; refine wpList_appP_Message rfl (.tmp 38) (.tmp 40) rfl p g n c cr rfl HG2.out hcr h1 h2 hgB (by omega) _ [.int .i64 0, .int .i64 0, .int .i64 0, .int .i64 0, .int .i64 0, .int .i64 0, .slice none 0 0, .int .i64 0, .int .i64 0, .slice none 0 0, .slice none 0 0, .int .i64 0, .int .i64 0, .slice none 0 0, .slice none 0 0, .int .i64 0, .slice none 0 0, .slice none 0 0] rfl (by decide) rfl (fun j u hu => HBX.out.2 j u hu) ?_; intro v1 w1 hb1 hk1)
    go_end0
    exact ⟨rfl, (HB.out.trans (.of_below (bel_alloc (Below.refl _ _)))).trans hb1, HK.out.trans (KeepS.trans (.of_below (bel_alloc (Below.refl _ _))) (hk1.weak (fun t h => .inr (.inr h))))⟩
theorem RowsM.prot {w : World} {B : Nat} {P : MsgP} {p : Nat → Prop} (h : RowsM w B P) (hp : ∀ g, B ≤ g → g < w.heap.size → ¬ p g) : RowsP w p P :=
 ⟨h.b.prot hp, h.bn, h.h1.prot hp, h.h1n, h.h2.prot hp, h.h2n, h.c1.prot hp, h.c1n, h.c2.prot hp, h.c2n, h.c3.prot hp, h.c3n, h.ds.prot hp, h.dsn⟩
end Go.Proofs.YtgfakefcmbpboaaGreat
