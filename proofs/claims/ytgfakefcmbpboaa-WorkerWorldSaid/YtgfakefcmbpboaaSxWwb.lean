/- Rows put together at the page: a part in front, one element, the rest behind. -/
import Derived.Test.YtgfakefcmbpboaaSxWmi
import Derived.Test.YtgfakefcmbpboaaSxWp
import Derived.Test.YtgfakefcmbpboaaSxWwa
namespace Go.Proofs.Ytgfakefcmbpboaa
open Go.RowKit
set_option linter.unusedSimpArgs false
set_option linter.unusedVariables false

theorem RowV.dropK {w : World} {b n k i : Nat} {xs : List Value} (h : RowV w (some ⟨b, 0, none⟩) n k xs) (hi : i ≤ n) : RowV w (some ⟨b, i * k, none⟩) (n - i) k (xs.drop (i * k)) := by
  obtain ⟨h1, h2, h3⟩ := h
  refine ⟨by rw [List.length_drop, h1, Nat.sub_mul], by omega, fun h0 => ?_⟩
  obtain ⟨b', off, e, hb, hc⟩ := h3 (by omega)
  injection e with e
  injection e with e1 e2 e3
  subst e1; subst e2
  exact ⟨b, i * k, rfl, hb, fun j u hu => by (have := hc (i * k + j) u (by rw [List.getElem?_drop] at hu; exact hu)); rw [Nat.zero_add] at this; exact this⟩
theorem RowV.nilA {w : World} (A : Option Addr) (k : Nat) : RowV w A 0 k [] := ⟨by simp, by omega, fun h => absurd h (by omega)⟩
theorem dcells_oneK {α β : Type} [Inhabited α] [Inhabited β] (T : DeepT α β) {w : World} {B : Nat} {l : List α} {ps : List β} (hps : ps.length = l.length) (h : ∀ j, j < l.length → T.inner w B (ps.getD j default) (l.getD j default)) : ∀ u ∈ dcells T l ps, u.oneCell' = true := by
  intro u hu
  obtain ⟨i, hi, rfl⟩ := List.getElem_of_mem hu
  rw [dcells_len T hps] at hi
  have hk := T.k0
  have hj : i / T.k < l.length := Nat.div_lt_of_lt_mul (by rw [Nat.mul_comm]; exact hi)
  have e := dcells_at T hps hj (r := i % T.k) (Nat.mod_lt _ hk)
  rw [Nat.div_add_mod'] at e
  have e2 : (dcells T l ps)[i]? = some ((dcells T l ps)[i]'(by rw [dcells_len T hps]; exact hi)) := List.getElem?_eq_getElem _
  rw [e2] at e
  exact T.one (h _ hj) _ (List.mem_of_getElem? e.symm)
end Go.Proofs.Ytgfakefcmbpboaa
namespace Go.Proofs.Ytgfakefcmbpboaa
open Go.RowKit
set_option linter.unusedSimpArgs false
set_option linter.unusedVariables false

theorem info_Worker : (Try.prog.info? 27).map (fun i => (i.zero, i.size, i.bytes)) = some (some (.agg #[.int .i64 0, .int .i64 0, .int .i64 0, .slice none 0 0, .int .i64 0, .int .i64 0, .slice none 0 0, .slice none 0 0, .slice none 0 0]), 9, 136) := by kernel_rfl
theorem run_app_Worker (w : World) (B : Nat) (v : Value) (n : Nat) (xs : List Value) (hown : w.ownsRow B 27 9 v n xs) (vb off m c : Nat) (e : List Value) (hm : e.length = m * 9) (hv : ∀ j u, e[j]? = some u → w.cell? ⟨vb, off + j, none⟩ = some u) (h1e : ∀ u ∈ e, u.oneCell' = true) (hn : n + m ≤ 1000000000) (hB : B ≤ w.heap.size) :
    ∃ v' w', (Builtin.append_ #[63, 63] 63 #[v, .slice (some ⟨vb, off, none⟩) m c]).run Try.prog w = .ok v' w' ∧ w'.ownsRow B 27 9 v' (n + m) (xs ++ e) ∧ w.grownBy w' v.ownBlock ∧ Below B w w' ∧ (v'.ownBlock = v.ownBlock ∨ v'.ownBlock = some w.heap.size) := by
  obtain ⟨i0, hi, hz, hz1, hz2⟩ := info_parts info_Worker
  obtain ⟨v', w', hrun, h2, h3, _, h5⟩ := run_append_own_at (P := Try.prog) w B 63 63 27 i0 _ 9 136 Try.underlying63 hi hz hz1 hz2 rfl (by omega) v n xs hown ⟨vb, off, none⟩ m c e hm
    (by intro j u hu; rw [Addr.add_lit]; exact hv j u hu) h1e (by simp only [maxLen]; omega) (by omega) hB
  exact ⟨v', w', hrun, h2, h3, ⟨h3.os, h3.tape, h3.output, h3.size, fun k hk => h3.block k (by omega) (fun e => by have := (own_lt hown k e.symm).1; omega)⟩, h5⟩
theorem info_Batch : (Try.prog.info? 40).map (fun i => (i.zero, i.size, i.bytes)) = some (some (.agg #[.int .i64 0, .int .i64 0, .slice none 0 0]), 3, 40) := by kernel_rfl
theorem run_app_Batch (w : World) (B : Nat) (v : Value) (n : Nat) (xs : List Value) (hown : w.ownsRow B 40 3 v n xs) (vb off m c : Nat) (e : List Value) (hm : e.length = m * 3) (hv : ∀ j u, e[j]? = some u → w.cell? ⟨vb, off + j, none⟩ = some u) (h1e : ∀ u ∈ e, u.oneCell' = true) (hn : n + m ≤ 1000000000) (hB : B ≤ w.heap.size) :
    ∃ v' w', (Builtin.append_ #[64, 64] 64 #[v, .slice (some ⟨vb, off, none⟩) m c]).run Try.prog w = .ok v' w' ∧ w'.ownsRow B 40 3 v' (n + m) (xs ++ e) ∧ w.grownBy w' v.ownBlock ∧ Below B w w' ∧ (v'.ownBlock = v.ownBlock ∨ v'.ownBlock = some w.heap.size) := by
  obtain ⟨i0, hi, hz, hz1, hz2⟩ := info_parts info_Batch
  obtain ⟨v', w', hrun, h2, h3, _, h5⟩ := run_append_own_at (P := Try.prog) w B 64 64 40 i0 _ 3 40 Try.underlying64 hi hz hz1 hz2 rfl (by omega) v n xs hown ⟨vb, off, none⟩ m c e hm
    (by intro j u hu; rw [Addr.add_lit]; exact hv j u hu) h1e (by simp only [maxLen]; omega) (by omega) hB
  exact ⟨v', w', hrun, h2, h3, ⟨h3.os, h3.tape, h3.output, h3.size, fun k hk => h3.block k (by omega) (fun e => by have := (own_lt hown k e.symm).1; omega)⟩, h5⟩
instance : Inhabited WorkP := ⟨nilP⟩
instance : Inhabited WorkD := ⟨nilWD⟩
/-- What only turns blocks of these types leaves what a worker, a message, a batch owns. -/
def tAll (T : TypeId) : Prop := T = 27 ∨ T = 54 ∨ T = 40
theorem tA1 : tAll 27 := .inl rfl
theorem tA2 : tAll 54 := .inr (.inl rfl)
theorem tA3 : tAll 40 := .inr (.inr rfl)
theorem own_tkA {T : TypeId} {w w' : World} {B k n : Nat} {t : TypeId} {v : Value} {xs : List Value} (h : w.ownsRow B t k v n xs) (hk : TKeep T w w') (hT : tAll T) (h1 : t ≠ 27) (h2 : t ≠ 54) (h3 : t ≠ 40) : w'.ownsRow B t k v n xs := own_tk h hk (by rcases hT with rfl | rfl | rfl; exact h1; exact h2; exact h3)
theorem tk_grown {T : TypeId} {w w' : World} {B k n : Nat} {v : Value} {xs : List Value} (h : w.ownsRow B T k v n xs) (hg : w.grownBy w' v.ownBlock) : TKeep T w w' := fun q cur t ht hq => (hg.block q (Array.getElem?_eq_some_iff.1 hq).1 (fun e => by
  obtain ⟨_, c2, e2⟩ := own_typeB h q e.symm
  rw [hq] at e2
  injection e2 with e2
  injection e2 with _ e3 _
  exact ht e3)).trans hq
theorem OwnHs.tkA {T : TypeId} {w w' : World} {B : Nat} {v : Value} {l : List HeldD} (h : OwnHs w B v l) (hk : TKeep T w w') (hT : tAll T) : OwnHs w' B v l := by
  obtain ⟨ps, h1, h2, h3⟩ := h
  exact ⟨ps, own_tkA h1 hk hT (by decide) (by decide) (by decide), h2, fun j hj => own_tkA (h3 j hj) hk hT (by decide) (by decide) (by decide)⟩
theorem OwnWs.tkA {T : TypeId} {w w' : World} {B : Nat} {v : Value} {l : List WaitD} (h : OwnWs w B v l) (hk : TKeep T w w') (hT : tAll T) : OwnWs w' B v l := by
  obtain ⟨ps, h1, h2, h3⟩ := h
  exact ⟨ps, own_tkA h1 hk hT (by decide) (by decide) (by decide), h2, fun j hj => own_tkA (h3 j hj) hk hT (by decide) (by decide) (by decide)⟩
theorem WorkO.tkA {T : TypeId} {w w' : World} {B : Nat} {P : WorkP} {D : WorkD} (h : WorkO w B P D) (hk : TKeep T w w') (hT : tAll T) : WorkO w' B P D := ⟨own_tkA h.op hk hT (by decide) (by decide) (by decide), h.wa.tkA hk hT, h.he.tkA hk hT, own_tkA h.re hk hT (by decide) (by decide) (by decide)⟩
theorem OwnM.tkA {T : TypeId} {w w' : World} {B : Nat} {P M} (h : OwnM w B P M) (hk : TKeep T w w') (hT : tAll T) : OwnM w' B P M :=
  ⟨own_tkA h.b hk hT (by decide) (by decide) (by decide), own_tkA h.h1 hk hT (by decide) (by decide) (by decide), own_tkA h.h2 hk hT (by decide) (by decide) (by decide), own_tkA h.c1 hk hT (by decide) (by decide) (by decide), own_tkA h.c2 hk hT (by decide) (by decide) (by decide), own_tkA h.c3 hk hT (by decide) (by decide) (by decide), own_tkA h.ds hk hT (by decide) (by decide) (by decide)⟩
def dWrk : DeepT WorkD WorkP where
  t := 27
  k := 9
  enc := fun D P => [.int .i64 D.id, .int .i64 D.nodes, .int .i64 D.next, .slice P.op.A P.op.n P.op.c, .int .i64 D.age, .int .i64 D.clock, .slice P.wa.A P.wa.n P.wa.c, .slice P.he.A P.he.n P.he.c, .slice P.re.A P.re.n P.re.c]
  inner := fun w B P D => WorkO w B P D
  k0 := by omega
  len := fun _ _ => rfl
  one := fun h u hu => by
    simp only [List.mem_cons, List.not_mem_nil, or_false] at hu
    rcases hu with rfl | rfl | rfl | rfl | rfl | rfl | rfl | rfl | rfl <;> rfl
  up := fun h hb => h.up hb
  mono := fun h hB => h.mono hB
  low := fun h hp => h.low hp
  grown := fun h hv hg => h.tkA (tk_grown hv hg) tA1
def dBat : DeepT BatchD SlP where
  t := 40
  k := 3
  enc := fun b s => [.int .i64 b.au, .int .i64 b.n, .slice s.A s.n s.c]
  inner := fun w B s b => OwnX w B s.v b.tx
  k0 := by omega
  len := fun _ _ => rfl
  one := fun h u hu => by
    simp only [List.mem_cons, List.not_mem_nil, or_false] at hu
    rcases hu with rfl | rfl | rfl <;> rfl
  up := fun h hb => h.up hb
  mono := fun h hB => h.mono hB
  low := fun h hp => h.set3 hp _
  grown := fun h hv hg => own_farT h hv (by decide) hg
theorem OwnT.tkW {T : TypeId} {w w' : World} {B : Nat} {v : Value} {ps : List WorkP} {l : List WorkD} (h : OwnT dWrk w B v ps l) (hk : TKeep T w w') (hT : tAll T) (hne : T ≠ 27) : OwnT dWrk w' B v ps l := ⟨own_tk h.1 hk (fun e => hne e.symm), h.2.1, fun j hj => WorkO.tkA (h.2.2 j hj) hk hT⟩
theorem OwnT.tkY {T : TypeId} {w w' : World} {B : Nat} {v : Value} {ps : List MsgP} {l : List MsgD} (h : OwnT dMsg w B v ps l) (hk : TKeep T w w') (hT : tAll T) (hne : T ≠ 54) : OwnT dMsg w' B v ps l := ⟨own_tk h.1 hk (fun e => hne e.symm), h.2.1, fun j hj => OwnM.tkA (h.2.2 j hj) hk hT⟩
theorem OwnT.tkB {T : TypeId} {w w' : World} {B : Nat} {v : Value} {ps : List SlP} {l : List BatchD} (h : OwnT dBat w B v ps l) (hk : TKeep T w w') (hT : tAll T) (hne : T ≠ 40) : OwnT dBat w' B v ps l := ⟨own_tk h.1 hk (fun e => hne e.symm), h.2.1, fun j hj => own_tkA (h.2.2 j hj) hk hT (by decide) (by decide) (by decide)⟩
theorem list_put9 {xs : List Value} {i : Nat} (h : i * 9 + 9 ≤ xs.length) (a0 a1 a2 a3 a4 a5 a6 a7 a8 : Value) :
    ((((((((xs.set (i * 9) a0).set (i * 9 + 1) a1).set (i * 9 + 2) a2).set (i * 9 + 3) a3).set (i * 9 + 4) a4).set (i * 9 + 5) a5).set (i * 9 + 6) a6).set (i * 9 + 7) a7).set (i * 9 + 8) a8 = xs.take (i * 9) ++ [a0, a1, a2, a3, a4, a5, a6, a7, a8] ++ xs.drop (i * 9 + 9) := by
  obtain ⟨n, hn⟩ : ∃ n, i * 9 = n := ⟨_, rfl⟩
  rw [hn] at h ⊢
  have hl : (xs.take n).length = n := by rw [List.length_take]; omega
  apply List.ext_getElem?
  intro j
  rw [List.append_assoc]
  by_cases c1 : j < n
  · rw [List.getElem?_append_left (by omega), List.getElem?_take, if_pos c1]
    repeat rw [List.getElem?_set_ne (by omega)]
  · rw [List.getElem?_append_right (by omega), hl]
    by_cases c2 : j < n + 9
    · rw [List.getElem?_append_left (by simp; omega)]
      have q : n + 8 < xs.length := by omega
      have hj : j = n ∨ j = n + 1 ∨ j = n + 2 ∨ j = n + 3 ∨ j = n + 4 ∨ j = n + 5 ∨ j = n + 6 ∨ j = n + 7 ∨ j = n + 8 := by omega
      rcases hj with rfl | rfl | rfl | rfl | rfl | rfl | rfl | rfl | rfl <;>
        (repeat rw [List.getElem?_set_ne (by omega)]) <;> (rw [List.getElem?_set_self (by first | omega | (simp only [List.length_set]; omega))]) <;> simp
    · rw [List.getElem?_append_right (by simp; omega), List.getElem?_drop]
      repeat rw [List.getElem?_set_ne (by omega)]
      congr 1
      simp; omega
theorem dcells_put {α β : Type} [Inhabited α] [Inhabited β] (T : DeepT α β) {l : List α} {ps : List β} {i : Nat} (h : ps.length = l.length) (hi : i < l.length) (x : α) (p : β) : dcells T (l.set i x) (ps.set i p) = (dcells T l ps).take (i * T.k) ++ T.enc x p ++ (dcells T l ps).drop (i * T.k + T.k) := by
  rw [List.set_eq_take_append_cons_drop, List.set_eq_take_append_cons_drop, if_pos hi, if_pos (by omega)]
  have h1 : (ps.take i).length = (l.take i).length := by simp; omega
  rw [dcells_app T h1, (dcells_take T h (by omega)).1, show x :: l.drop (i + 1) = [x] ++ l.drop (i + 1) from rfl, show p :: ps.drop (i + 1) = [p] ++ ps.drop (i + 1) from rfl, dcells_app T rfl, (dcells_take T h (i := i + 1) (by omega)).2, Nat.succ_mul, List.append_assoc]
  simp [dcells]
/-- A row of workers, one of which is another one now. -/
theorem workers_put {w : World} {B g n c i : Nat} {Ps : List WorkP} {ws : List WorkD} {P : WorkP} {D : WorkD} (h : OwnT dWrk w B (.slice (some ⟨g, 0, none⟩) n c) Ps ws) (hn : ws.length = n) (hi : i < n) (hin : WorkO w B P D) :
    OwnT dWrk (((((((((w.setCell ⟨g, i * 9, none⟩ (.int .i64 D.id)).setCell ⟨g, i * 9 + 1, none⟩ (.int .i64 D.nodes)).setCell ⟨g, i * 9 + 2, none⟩ (.int .i64 D.next)).setCell ⟨g, i * 9 + 3, none⟩ (.slice P.op.A P.op.n P.op.c)).setCell ⟨g, i * 9 + 4, none⟩ (.int .i64 D.age)).setCell ⟨g, i * 9 + 5, none⟩ (.int .i64 D.clock)).setCell ⟨g, i * 9 + 6, none⟩ (.slice P.wa.A P.wa.n P.wa.c)).setCell ⟨g, i * 9 + 7, none⟩ (.slice P.he.A P.he.n P.he.c)).setCell ⟨g, i * 9 + 8, none⟩ (.slice P.re.A P.re.n P.re.c)) B (.slice (some ⟨g, 0, none⟩) n c) (Ps.set i P) (ws.set i D) ∧
      TKeep 27 w (((((((((w.setCell ⟨g, i * 9, none⟩ (.int .i64 D.id)).setCell ⟨g, i * 9 + 1, none⟩ (.int .i64 D.nodes)).setCell ⟨g, i * 9 + 2, none⟩ (.int .i64 D.next)).setCell ⟨g, i * 9 + 3, none⟩ (.slice P.op.A P.op.n P.op.c)).setCell ⟨g, i * 9 + 4, none⟩ (.int .i64 D.age)).setCell ⟨g, i * 9 + 5, none⟩ (.int .i64 D.clock)).setCell ⟨g, i * 9 + 6, none⟩ (.slice P.wa.A P.wa.n P.wa.c)).setCell ⟨g, i * 9 + 7, none⟩ (.slice P.he.A P.he.n P.he.c)).setCell ⟨g, i * 9 + 8, none⟩ (.slice P.re.A P.re.n P.re.c)) := by
  obtain ⟨h1, h2, h3⟩ := h
  rw [hn] at h1
  have h0 : w.ownsRow B 27 9 (.slice (some ⟨g, 0, none⟩) n c) n (dcells dWrk ws Ps) := h1
  have hb : ∀ j, j < 9 → i * 9 + j < n * 9 := fun j hj => by have : i + 1 ≤ n := hi; omega
  have tk : ∀ {x : World} {xs : List Value} (o : Nat) (u : Value), x.ownsRow B 27 9 (.slice (some ⟨g, 0, none⟩) n c) n xs → TKeep 27 x (x.setCell ⟨g, o, none⟩ u) := fun {x xs} o u hx q cur t ht hq => (Below.heap_setCell _ _ _ _ (fun e => by
    have e' : q = g := e
    subst e'
    obtain ⟨_, c2, e2⟩ := own_typeB hx q rfl
    rw [hq] at e2
    injection e2 with e2
    injection e2 with _ e3 _
    exact ht e3)).trans hq
  have a0 := own_put (u := .int .i64 D.id) h0 (j := i * 9) (by have := hb 0 (by omega); omega)
  have a1 := own_put (u := .int .i64 D.nodes) a0 (j := i * 9 + 1) (hb 1 (by omega))
  have a2 := own_put (u := .int .i64 D.next) a1 (j := i * 9 + 2) (hb 2 (by omega))
  have a3 := own_put (u := .slice P.op.A P.op.n P.op.c) a2 (j := i * 9 + 3) (hb 3 (by omega))
  have a4 := own_put (u := .int .i64 D.age) a3 (j := i * 9 + 4) (hb 4 (by omega))
  have a5 := own_put (u := .int .i64 D.clock) a4 (j := i * 9 + 5) (hb 5 (by omega))
  have a6 := own_put (u := .slice P.wa.A P.wa.n P.wa.c) a5 (j := i * 9 + 6) (hb 6 (by omega))
  have a7 := own_put (u := .slice P.he.A P.he.n P.he.c) a6 (j := i * 9 + 7) (hb 7 (by omega))
  have a8 := own_put (u := .slice P.re.A P.re.n P.re.c) a7 (j := i * 9 + 8) (hb 8 (by omega))
  have tk9 := (((((((tk (i * 9) (.int .i64 D.id) h0).trans (tk (i * 9 + 1) (.int .i64 D.nodes) a0)).trans (tk (i * 9 + 2) (.int .i64 D.next) a1)).trans (tk (i * 9 + 3) (.slice P.op.A P.op.n P.op.c) a2)).trans (tk (i * 9 + 4) (.int .i64 D.age) a3)).trans (tk (i * 9 + 5) (.int .i64 D.clock) a4)).trans (tk (i * 9 + 6) (.slice P.wa.A P.wa.n P.wa.c) a5)).trans ((tk (i * 9 + 7) (.slice P.he.A P.he.n P.he.c) a6).trans (tk (i * 9 + 8) (.slice P.re.A P.re.n P.re.c) a7))
  refine ⟨?_, tk9⟩
  have hlen : (dcells dWrk ws Ps).length = n * 9 := by rw [dcells_len dWrk h2, hn]; rfl
  rw [list_put9 (by have := hb 8 (by omega); omega)] at a8
  have e := dcells_put dWrk h2 (show i < ws.length by omega) D P
  have e' : dcells dWrk (ws.set i D) (Ps.set i P) = (dcells dWrk ws Ps).take (i * 9) ++ [.int .i64 D.id, .int .i64 D.nodes, .int .i64 D.next, .slice P.op.A P.op.n P.op.c, .int .i64 D.age, .int .i64 D.clock, .slice P.wa.A P.wa.n P.wa.c, .slice P.he.A P.he.n P.he.c, .slice P.re.A P.re.n P.re.c] ++ (dcells dWrk ws Ps).drop (i * 9 + 9) := e
  rw [← e'] at a8
  refine ⟨by rw [List.length_set, hn]; exact a8, by simp [h2], fun j hj => ?_⟩
  rw [List.length_set] at hj
  by_cases hji : j = i
  · subst hji
    have g1 : (ws.set j D).getD j default = D := by simp [hj]
    have g2 : (Ps.set j P).getD j default = P := by simp [show j < Ps.length by omega]
    rw [g1, g2]; exact hin.tkA tk9 tA1
  · have g1 : (ws.set i D).getD j default = ws.getD j default := by simp only [List.getD_eq_getElem?_getD]; rw [List.getElem?_set, if_neg (fun e => hji e.symm)]
    have g2 : (Ps.set i P).getD j default = Ps.getD j default := by simp only [List.getD_eq_getElem?_getD]; rw [List.getElem?_set, if_neg (fun e => hji e.symm)]
    rw [g1, g2]; exact WorkO.tkA (h3 j hj) tk9 tA1
theorem run_appRow_Message (w : World) (B : Nat) (v : Value) (n : Nat) (xs : List Value) (hown : w.ownsRow B 54 18 v n xs) (A : Option Addr) (m c : Nat) (e : List Value) (he : RowV w A m 18 e) (h1e : ∀ u ∈ e, u.oneCell' = true) (hn : n + m ≤ 900000000) (hB : B ≤ w.heap.size) :
    ∃ v' w', (Builtin.append_ #[43, 43] 43 #[v, .slice A m c]).run Try.prog w = .ok v' w' ∧ w'.ownsRow B 54 18 v' (n + m) (xs ++ e) ∧ w.grownBy w' v.ownBlock ∧ Below B w w' ∧ (∀ q, v'.ownBlock = some q → v.ownBlock = some q ∨ w.heap.size ≤ q) := by
  rcases Nat.eq_zero_or_pos m with h0 | h0
  · subst h0
    have e0 : e = [] := List.length_eq_zero_iff.1 (by rw [he.1, Nat.zero_mul])
    subst e0
    obtain ⟨i0, hi, hz, hz1, hz2⟩ := info_parts info_Message
    refine ⟨v, w, ?_, by simpa using hown, World.grownBy.refl _ _, Below.refl _ _, fun q h => .inl h⟩
    rcases hown.2 with ⟨rfl, _⟩ | ⟨g, cap, cur, rfl, _, _, hnc, _⟩
    · cases A <;> simp [Builtin.append_, run_underlying Try.underlying43, sizeOf, typeInfo, hi, Builtin.lenOf, Builtin.firstCells, loadCells, loadCellsFrom, storeCells]
    · cases A <;> simp [Builtin.append_, run_underlying Try.underlying43, sizeOf, typeInfo, hi, Builtin.lenOf, Builtin.firstCells, loadCells, loadCellsFrom, hnc, storeCells]
  · obtain ⟨b, off, rfl, hb, hc⟩ := he.2.2 h0
    obtain ⟨v', w', hrun, h2, h3, h4, h5⟩ := run_app_Message w B v n xs hown b off m c e he.1 hc h1e (by omega) hB
    exact ⟨v', w', hrun, h2, h3, h4, fun q hq => by
      rcases h5 with h5 | h5
      · rw [h5] at hq; exact .inl hq
      · rw [h5] at hq; injection hq with hq; exact .inr (by omega)⟩
theorem OwnT.app {α β : Type} [Inhabited α] [Inhabited β] {T : DeepT α β} {w w' : World} {B : Nat} {v v' : Value} {ps qs : List β} {l m : List α} (h : OwnT T w B v ps l) (hq : qs.length = m.length) (hin : ∀ j, j < m.length → T.inner w B (qs.getD j default) (m.getD j default)) (hown : w'.ownsRow B T.t T.k v' (l.length + m.length) (dcells T l ps ++ dcells T m qs)) (hg : w.grownBy w' v.ownBlock) : OwnT T w' B v' (ps ++ qs) (l ++ m) := by
  refine ⟨by rw [dcells_app T h.2.1, List.length_append]; exact hown, by simp [h.2.1, hq], fun j hj => ?_⟩
  rw [List.length_append] at hj
  rcases Nat.lt_or_ge j l.length with hj' | hj'
  · have e1 : (ps ++ qs).getD j default = ps.getD j default := by simp [List.getElem?_append, h.2.1, hj']
    have e2 : (l ++ m).getD j default = l.getD j default := by simp [List.getElem?_append, hj']
    rw [e1, e2]
    exact T.grown (h.2.2 j hj') h.1 hg
  · have e1 : (ps ++ qs).getD j default = qs.getD (j - l.length) default := by
      simp only [List.getD_eq_getElem?_getD]; rw [List.getElem?_append_right (by rw [h.2.1]; exact hj'), h.2.1]
    have e2 : (l ++ m).getD j default = m.getD (j - l.length) default := by
      simp only [List.getD_eq_getElem?_getD]; rw [List.getElem?_append_right hj']
    rw [e1, e2]
    exact T.grown (hin _ (by omega)) h.1 hg
theorem OwnT.rowV {α β : Type} [Inhabited α] [Inhabited β] {T : DeepT α β} {w : World} {B n c : Nat} {A : Option Addr} {ps : List β} {l : List α} (h : OwnT T w B (.slice A n c) ps l) (hl : l.length = n) (hn : n ≤ 900000000) : RowV w A n T.k (dcells T l ps) := by
  obtain ⟨A2, c2, e2, hrv, _⟩ := own_row h.1 (by omega)
  injection e2 with e3 e4 e5
  rw [hl] at hrv
  rw [e3]; exact hrv
/-- append of messages to the messages on their way. -/
theorem wpList_appWay {w : World} {ops : Array Oper} {rest : List Oper} {o : Oper} {a : Act} {Q : Exit → Act → World → Prop} (hgd : o.guard = none) (s x : Operand)
    (ho : o.op = .call { callee := .builtin .append, args := #[s, x], argTypes := #[43, 43] }) (hty : o.type = 43) (B : Nat) (v : Value) (ps : List MsgP) (l : List MsgD) (hs : a.eval s = v) (hown : OwnT dMsg w B v ps l) (A : Option Addr) (m c : Nat) (qs : List MsgP) (e : List MsgD) (hx : a.eval x = .slice A m c)
    (he : OwnT dMsg w B (.slice A m c) qs e) (hm : e.length = m) (hn : l.length + m ≤ 900000000) (hB : B ≤ w.heap.size)
    (h : ∀ v' w', OwnT dMsg w' B v' (ps ++ qs) (l ++ e) → TKeep 54 w w' → Below B w w' → wpList Try.prog ops Q rest (a.put o.dst v') w') : wpList Try.prog ops Q (o :: rest) a w := by
  obtain ⟨v', w', hrun, h2, h3, h4, -⟩ := run_appRow_Message w B v l.length (dcells dMsg l ps) hown.1 A m c (dcells dMsg e qs) (he.rowV hm (by omega)) he.one hn hB
  exact Lib.wpList_append_run w hgd s x _ _ ho _ _ hs hx _ _ (by rw [hty]; exact hrun) (h v' w' (hown.app he.2.1 he.2.2 (by rw [hm]; exact h2) h3) (tk_grown hown.1 h3) h4)
theorem wpList_appBook {w : World} {ops : Array Oper} {rest : List Oper} {o : Oper} {a : Act} {Q : Exit → Act → World → Prop} (hgd : o.guard = none) (s x : Operand)
    (ho : o.op = .call { callee := .builtin .append, args := #[s, x], argTypes := #[64, 64] }) (hty : o.type = 64) (B : Nat) (v : Value) (ps : List SlP) (l : List BatchD) (hs : a.eval s = v) (hown : OwnT dBat w B v ps l) (g : Nat) (y : BatchD) (p : SlP) (hx : a.eval x = .slice (some ⟨g, 0, none⟩) 1 1)
    (hbx : BoxR w g [.int .i64 y.au, .int .i64 y.n, .slice p.A p.n p.c]) (hin : OwnX w B p.v y.tx) (hlen : l.length ≤ 800000000) (hB : B ≤ w.heap.size)
    (h : ∀ v' w', OwnT dBat w' B v' (ps ++ [p]) (l ++ [y]) → TKeep 40 w w' → Below B w w' → wpList Try.prog ops Q rest (a.put o.dst v') w') : wpList Try.prog ops Q (o :: rest) a w := by
  obtain ⟨v', w', hrun, h2, h3, h4, h5⟩ := run_app_Batch w B v l.length (dcells dBat l ps) hown.1 g 0 1 1 [.int .i64 y.au, .int .i64 y.n, .slice p.A p.n p.c] rfl (fun r u hu => by rw [Nat.zero_add]; exact hbx.2 r u hu) (dBat.one (w := w) (B := B) (p := p) (x := y) hin) (by omega) hB
  exact Lib.wpList_append_run w hgd s x _ _ ho _ _ hs hx _ _ (by rw [hty]; exact hrun) (h v' w' (hown.snoc hin h2 h3) (tk_grown hown.1 h3) h4)
theorem wpList_appWrk {w : World} {ops : Array Oper} {rest : List Oper} {o : Oper} {a : Act} {Q : Exit → Act → World → Prop} (hgd : o.guard = none) (s x : Operand)
    (ho : o.op = .call { callee := .builtin .append, args := #[s, x], argTypes := #[63, 63] }) (hty : o.type = 63) (B : Nat) (v : Value) (ps : List WorkP) (l : List WorkD) (hs : a.eval s = v) (hown : OwnT dWrk w B v ps l) (g : Nat) (y : WorkD) (p : WorkP) (hx : a.eval x = .slice (some ⟨g, 0, none⟩) 1 1)
    (hbx : BoxR w g (dWrk.enc y p)) (hin : WorkO w B p y) (hlen : l.length ≤ 800000000) (hB : B ≤ w.heap.size)
    (h : ∀ v' w', OwnT dWrk w' B v' (ps ++ [p]) (l ++ [y]) → TKeep 27 w w' → Below B w w' → wpList Try.prog ops Q rest (a.put o.dst v') w') : wpList Try.prog ops Q (o :: rest) a w := by
  obtain ⟨v', w', hrun, h2, h3, h4, h5⟩ := run_app_Worker w B v l.length (dcells dWrk l ps) hown.1 g 0 1 1 (dWrk.enc y p) rfl (fun r u hu => by rw [Nat.zero_add]; exact hbx.2 r u hu) (dWrk.one (w := w) (B := B) (p := p) (x := y) hin) (by omega) hB
  exact Lib.wpList_append_run w hgd s x _ _ ho _ _ hs hx _ _ (by rw [hty]; exact hrun) (h v' w' (hown.snoc hin h2 h3) (tk_grown hown.1 h3) h4)
end Go.Proofs.Ytgfakefcmbpboaa
