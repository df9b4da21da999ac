/- Answers written over: messages. -/
import Derived.Test.YtnngeaibdnnpoaaSkWsd
import Derived.Test.YtnngeaibdnnpoaaSkWx2
import Derived.Deep.MidRow
namespace Go.Proofs.Ytnngeaibdnnpoaa
open Go.RowKit
set_option linter.unusedSimpArgs false
set_option linter.unusedVariables false

theorem blk_keep {S : TypeId → Prop} {w w' : World} {g : Nat} {cur : Array Value} {t : TypeId} (hk : KeepS S w w') (hg : w.heap[g]? = some (.cells cur t (0, 0))) (hS : ¬ S t) : w'.heap[g]? = some (.cells cur t (0, 0)) := by
  obtain ⟨c', h1, h2, h3⟩ := hk g cur t hg
  rw [h3 hS] at h1; exact h1
theorem cell_keep {S : TypeId → Prop} {w w' : World} {g o : Nat} {cur : Array Value} {t : TypeId} (hk : KeepS S w w') (hg : w.heap[g]? = some (.cells cur t (0, 0))) (hS : ¬ S t) : w'.cell? ⟨g, o, none⟩ = w.cell? ⟨g, o, none⟩ := by
  have h1 := blk_keep hk hg hS
  unfold World.cell?
  simp only [hg, h1]
theorem Blk.keepS {S : TypeId → Prop} {w w' : World} {g : Nat} {t : TypeId} {cs : List Value} (h : Blk w g t cs) (hk : KeepS S w w') (hS : ¬ S t) : Blk w' g t cs := blk_keep hk h hS
/-- The lists of a message are one's own, whatever they hold. -/
structure RowsM (w : World) (B : Nat) (P : MsgP) : Prop where
  b : RowT w B 119 4 P.b
  bn : P.b.n ≤ 1000000
  h1 : RowT w B 3 1 P.h.b
  h1n : P.h.b.n ≤ 1000000
  h2 : RowT w B 3 1 P.h.p
  h2n : P.h.p.n ≤ 1000000
  c1 : RowT w B 3 1 P.c.h.b
  c1n : P.c.h.b.n ≤ 1000000
  c2 : RowT w B 3 1 P.c.h.p
  c2n : P.c.h.p.n ≤ 1000000
  c3 : RowT w B 3 1 P.c.s
  c3n : P.c.s.n ≤ 1000000
  ds : RowT w B 3 1 P.ds
  dsn : P.ds.n ≤ 1000000
theorem RowsM.keep {S : TypeId → Prop} {w w' : World} {B : Nat} {P : MsgP} (h : RowsM w B P) (hk : KeepS S w w') : RowsM w' B P := ⟨h.b.keep hk, h.bn, h.h1.keep hk, h.h1n, h.h2.keep hk, h.h2n, h.c1.keep hk, h.c1n, h.c2.keep hk, h.c2n, h.c3.keep hk, h.c3n, h.ds.keep hk, h.dsn⟩
def InM (w : World) (B g j : Nat) : Prop := ∃ (P : MsgP) (M : MsgD), (∀ r u, (msgCells P M)[r]? = some u → w.cell? ⟨g, j * 18 + r, none⟩ = some u) ∧ RowsM w B P
theorem InM.keep {S : TypeId → Prop} {w w' : World} {B g j : Nat} {tr : TypeId} {cur : Array Value} (h : InM w B g j) (hk : KeepS S w w') (hg : w.heap[g]? = some (.cells cur tr (0, 0))) (hS : ¬ S tr) : InM w' B g j := by
  obtain ⟨P, M, h1, h2⟩ := h
  exact ⟨P, M, fun r u hu => (cell_keep hk hg hS).trans (h1 r u hu), h2.keep hk⟩
theorem InM.other {S : TypeId → Prop} {w w' : World} {B g j : Nat} (h : InM w B g j) (hk : KeepS S w w') (hc : ∀ r, r < 18 → w'.cell? ⟨g, j * 18 + r, none⟩ = w.cell? ⟨g, j * 18 + r, none⟩) : InM w' B g j := by
  obtain ⟨P, M, h1, h2⟩ := h
  exact ⟨P, M, fun r u hu => (hc r (List.getElem?_eq_some_iff.1 hu).1).trans (h1 r u hu), h2.keep hk⟩
/-- A row of messages of one's own, whatever it holds. -/
def RowM (w : World) (B : Nat) (s : SlP) : Prop := (s.v = .slice none 0 0) ∨ ∃ g cur, s.A = some ⟨g, 0, none⟩ ∧ B ≤ g ∧ w.heap[g]? = some (.cells cur 44 (0, 0)) ∧ s.n ≤ s.c ∧ s.c ≤ maxLen ∧ cur.size = s.c * 18 ∧ ∀ j, j < s.n → InM w B g j
structure MilM (M : MsgD) : Prop where
  b : M.b.tx.length ≤ 1000000
  h1 : M.h.ba.length ≤ 1000000
  h2 : M.h.pa.length ≤ 1000000
  c1 : M.c.h.ba.length ≤ 1000000
  c2 : M.c.h.pa.length ≤ 1000000
  c3 : M.c.si.length ≤ 1000000
  ds : M.ds.length ≤ 1000000
theorem own_nlen {w : World} {B k n : Nat} {t : TypeId} {s : SlP} {xs : List Value} (h : w.ownsRow B t k s.v n xs) : s.n = n := by
  rcases h.2 with ⟨e, e2⟩ | ⟨g, cap, cur, e, hb, hg, h1, h2, h3, _⟩
  · unfold SlP.v at e; injection e with e1 e2' e3; omega
  · unfold SlP.v at e; injection e with e1 e2' e3
theorem OwnM.rowsM {w : World} {B : Nat} {P : MsgP} {M : MsgD} (h : OwnM w B P M) (hs : MilM M) : RowsM w B P :=
  ⟨own_rowT h.b, by rw [own_nlen (show World.ownsRow _ _ _ _ (SlP.v P.b) _ _ from h.b)]; exact hs.b, own_rowT h.h1, by rw [own_nlen (show World.ownsRow _ _ _ _ (SlP.v P.h.b) _ _ from h.h1)]; exact hs.h1, own_rowT h.h2, by rw [own_nlen (show World.ownsRow _ _ _ _ (SlP.v P.h.p) _ _ from h.h2)]; exact hs.h2, own_rowT h.c1, by rw [own_nlen (show World.ownsRow _ _ _ _ (SlP.v P.c.h.b) _ _ from h.c1)]; exact hs.c1, own_rowT h.c2, by rw [own_nlen (show World.ownsRow _ _ _ _ (SlP.v P.c.h.p) _ _ from h.c2)]; exact hs.c2, own_rowT h.c3, by rw [own_nlen (show World.ownsRow _ _ _ _ (SlP.v P.c.s) _ _ from h.c3)]; exact hs.c3, own_rowT h.ds, by rw [own_nlen (show World.ownsRow _ _ _ _ (SlP.v P.ds) _ _ from h.ds)]; exact hs.ds⟩
theorem msgs_rowM {w : World} {B : Nat} {s : SlP} {ps : List MsgP} {l : List MsgD} (h : OwnT dMsg w B s.v ps l) (hs : ∀ x ∈ l, MilM x) : RowM w B s := by
  obtain ⟨h1, h2, h3⟩ := h
  rcases h1.2 with ⟨e, _⟩ | ⟨g, cap, cur, e, hb, hg, a1, a2, a3, a4⟩
  · exact .inl e
  · unfold SlP.v at e
    injection e with e1 e2 e3
    refine .inr ⟨g, cur, e1, hb, hg, by omega, by omega, by rw [a3, e3]; rfl, fun j hj => ?_⟩
    have hjl : j < l.length := by omega
    have hin : OwnM w B (ps.getD j default) (l.getD j default) := h3 j hjl
    refine ⟨ps.getD j default, l.getD j default, fun r u hu => ?_, hin.rowsM (hs _ (getD_mem hjl))⟩
    have hr : r < 18 := (List.getElem?_eq_some_iff.1 hu).1
    have := World.ownsRow.cells h1 (g := g) (by unfold SlP.v; rw [e1]; rfl) (j * 18 + r) u (by have h9 := dcells_at dMsg h2 hjl (r := r) hr; rw [show j * 18 + r = j * dMsg.k + r from rfl, h9]; exact hu)
    simpa [Addr.add_lit] using this
set_option maxRecDepth 100000 in
set_option maxHeartbeats 4000000 in
theorem law0_HeaderS (x y : SlP) (u v : Int) (B : Nat) (w : World) (hx : RowT w B 3 1 x) (hy : RowT w B 3 1 y) (hxn : x.n ≤ 1000000) (hyn : y.n ≤ 1000000) (hB : B ≤ w.heap.size) :
    Calls Try.prog 79 #[.agg #[.int .i64 u, .int .i64 v, .slice x.A x.n x.c, .slice y.A y.n y.c]] w fun e w' => e = .returned (.tuple #[]) ∧ Below B w w' ∧ KeepS (· = 3) w w' := by
  have HX := Lib.hid hx
  have HY := Lib.hid hy
  clear hx hy
  go_enter Try.func79, Try.ntmps79
  have hbX : Below w.heap.size w (w.alloc (.cells #[.int .i64 u, .int .i64 v, .slice x.A x.n x.c, .slice y.A y.n y.c] 40)) := by (repeat (first | (with_reducible exact Below.refl _ _) | (with_reducible assumption) | (with_reducible apply bel_alloc) | (with_reducible apply bel_drew) | (with_reducible apply bel_drewN) | (with_reducible refine bel_trans ?_ (by with_reducible assumption)) | (with_reducible refine bel_trans ?_ (HF.out _)) | (with_reducible refine bel_set ?_ (by simp) _) | (with_reducible refine bel_set ?_ (by simp; omega) _) | (with_reducible refine bel_set ?_ (by omega) _)))
  have hX : Blk (w.alloc (.cells #[.int .i64 u, .int .i64 v, .slice x.A x.n x.c, .slice y.A y.n y.c] 40)) w.heap.size 40 [.int .i64 u, .int .i64 v, .slice x.A x.n x.c, .slice y.A y.n y.c] := Blk.new w 40 [.int .i64 u, .int .i64 v, .slice x.A x.n x.c, .slice y.A y.n y.c]
  go_wp2_with fail
  generalize (w.alloc (.cells #[.int .i64 u, .int .i64 v, .slice x.A x.n x.c, .slice y.A y.n y.c] 40)) = X at *
  obtain ⟨N, hN⟩ : ∃ N, N = w.heap.size := ⟨_, rfl⟩
  rw [← hN] at hX ⊢
  clear hN
  have HKX : Hid (KeepS (· = 3) w X) := Lib.hid (.of_below hbX)
  have HXX := Lib.hid hX
  have HBX := Lib.hid (hbX.mono hB)
  have hBX : B ≤ X.heap.size := Nat.le_trans hB hbX.size
  clear hX
  refine (law0_NumbersS x B _ (HX.out.keep HKX.out) hxn hBX).mono ?_
  rintro e w1 ⟨rfl, hb1, hk1⟩
  have hX1 := HXX.out.keepS hk1 (by decide)
  have hX1l := hX1.lt
  have HK1 := Lib.hid (HKX.out.trans hk1)
  have HB1 := Lib.hid (HBX.out.trans hb1)
  have hB1 : B ≤ w1.heap.size := Nat.le_trans hB HB1.out.size
  have a_0 := (hX1.box).2 0 _ rfl; have a_1 := (hX1.box).2 1 _ rfl; have a_2 := (hX1.box).2 2 _ rfl; have a_3 := (hX1.box).2 3 _ rfl
  clear hX1 hb1 hk1
  go_wp2_with fail
  refine (law0_NumbersS y B _ (HY.out.keep HK1.out) hyn hB1).mono ?_
  rintro e w2 ⟨rfl, hb2, hk2⟩
  clear a_0 a_1 a_2 a_3
  go_wp2_with fail
  go_end0
  exact ⟨rfl, HB1.out.trans hb2, HK1.out.trans hk2⟩
set_option maxRecDepth 100000 in
set_option maxHeartbeats 4000000 in
theorem law0_CertS (x y z : SlP) (u v d : Int) (B : Nat) (w : World) (hx : RowT w B 3 1 x) (hy : RowT w B 3 1 y) (hz : RowT w B 3 1 z) (hxn : x.n ≤ 1000000) (hyn : y.n ≤ 1000000) (hzn : z.n ≤ 1000000) (hB : B ≤ w.heap.size) :
    Calls Try.prog 80 #[.agg #[.int .i64 u, .int .i64 v, .slice x.A x.n x.c, .slice y.A y.n y.c, .int .i64 d, .slice z.A z.n z.c]] w fun e w' => e = .returned (.tuple #[]) ∧ Below B w w' ∧ KeepS (· = 3) w w' := by
  have HX := Lib.hid hx
  have HY := Lib.hid hy
  have HZ := Lib.hid hz
  clear hx hy hz
  go_enter Try.func80, Try.ntmps80
  have hbX : Below w.heap.size w (w.alloc (.cells #[.int .i64 u, .int .i64 v, .slice x.A x.n x.c, .slice y.A y.n y.c, .int .i64 d, .slice z.A z.n z.c] 42)) := by (repeat (first | (with_reducible exact Below.refl _ _) | (with_reducible assumption) | (with_reducible apply bel_alloc) | (with_reducible apply bel_drew) | (with_reducible apply bel_drewN) | (with_reducible refine bel_trans ?_ (by with_reducible assumption)) | (with_reducible refine bel_trans ?_ (HF.out _)) | (with_reducible refine bel_set ?_ (by simp) _) | (with_reducible refine bel_set ?_ (by simp; omega) _) | (with_reducible refine bel_set ?_ (by omega) _)))
  have hX : Blk (w.alloc (.cells #[.int .i64 u, .int .i64 v, .slice x.A x.n x.c, .slice y.A y.n y.c, .int .i64 d, .slice z.A z.n z.c] 42)) w.heap.size 42 [.int .i64 u, .int .i64 v, .slice x.A x.n x.c, .slice y.A y.n y.c, .int .i64 d, .slice z.A z.n z.c] := Blk.new w 42 [.int .i64 u, .int .i64 v, .slice x.A x.n x.c, .slice y.A y.n y.c, .int .i64 d, .slice z.A z.n z.c]
  go_wp2_with fail
  generalize (w.alloc (.cells #[.int .i64 u, .int .i64 v, .slice x.A x.n x.c, .slice y.A y.n y.c, .int .i64 d, .slice z.A z.n z.c] 42)) = X at *
  obtain ⟨N, hN⟩ : ∃ N, N = w.heap.size := ⟨_, rfl⟩
  rw [← hN] at hX ⊢
  clear hN
  have HKX : Hid (KeepS (· = 3) w X) := Lib.hid (.of_below hbX)
  have HXX := Lib.hid hX
  have HBX := Lib.hid (hbX.mono hB)
  have hBX : B ≤ X.heap.size := Nat.le_trans hB hbX.size
  clear hX
  refine (law0_HeaderS x y u v B _ (HX.out.keep HKX.out) (HY.out.keep HKX.out) hxn hyn hBX).mono ?_
  rintro e w1 ⟨rfl, hb1, hk1⟩
  have hX1 := HXX.out.keepS hk1 (by decide)
  have hX1l := hX1.lt
  have HK1 := Lib.hid (HKX.out.trans hk1)
  have HB1 := Lib.hid (HBX.out.trans hb1)
  have hB1 : B ≤ w1.heap.size := Nat.le_trans hB HB1.out.size
  have a_0 := (hX1.box).2 0 _ rfl; have a_1 := (hX1.box).2 1 _ rfl; have a_2 := (hX1.box).2 2 _ rfl; have a_3 := (hX1.box).2 3 _ rfl; have a_4 := (hX1.box).2 4 _ rfl; have a_5 := (hX1.box).2 5 _ rfl
  clear hX1 hb1 hk1
  go_wp2_with fail
  refine (law0_NumbersS z B _ (HZ.out.keep HK1.out) hzn hB1).mono ?_
  rintro e w2 ⟨rfl, hb2, hk2⟩
  clear a_0 a_1 a_2 a_3 a_4 a_5
  go_wp2_with fail
  go_end0
  exact ⟨rfl, HB1.out.trans hb2, HK1.out.trans hk2⟩
theorem infoK_Message : (Try.prog.info? 44).map (fun i => (i.zero, i.size, i.bytes)) = some (some (.agg #[.int .i64 0, .int .i64 0, .int .i64 0, .int .i64 0, .int .i64 0, .int .i64 0, .slice none 0 0, .int .i64 0, .int .i64 0, .slice none 0 0, .slice none 0 0, .int .i64 0, .int .i64 0, .slice none 0 0, .slice none 0 0, .int .i64 0, .slice none 0 0, .slice none 0 0]), 18, 256) := by kernel_rfl
theorem run_appK_Message (w : World) (B g n cap : Nat) (cur : Array Value) (ty : TypeId) (hg : w.heap[g]? = some (.cells cur 44 (0, 0))) (hcs : cur.size = cap * 18) (hnc : n ≤ cap) (hcm : cap ≤ maxLen) (hB : B ≤ g) (hn : n ≤ 1000000000) (vb : Nat) (e : List Value) (he : e.length = 18) (h1e : ∀ u ∈ e, u.oneCell' = true) (hx : ∀ j u, e[j]? = some u → w.cell? ⟨vb, j, none⟩ = some u) :
    ∃ v' w', (Builtin.append_ #[32, 32] ty #[.slice (some ⟨g, 0, none⟩) n cap, .slice (some ⟨vb, 0, none⟩) 1 1]).run Try.prog w = .ok v' w' ∧ Below B w w' ∧ KeepS (· = 44) w w' := by
  obtain ⟨i0, hi, hz, hz1, hz2⟩ := info_parts infoK_Message
  have hnews : ∀ j u, e[j]? = some u → w.cell? ((⟨vb, 0, none⟩ : Addr).add j) = some u := fun j u hu => by
    rw [Addr.add_lit, Nat.zero_add]; exact hx j u hu
  have hgl : g < w.heap.size := (Array.getElem?_eq_some_iff.1 hg).1
  by_cases hroom : n + 1 ≤ cap
  · have hr := run_append_room (P := Try.prog) w 32 ty 44 i0 Try.underlying32 hi g n cap cur hg ⟨vb, 0, none⟩ 1 1 e (by rw [hz1]; omega) hnews h1e hroom (by rw [hz1]; omega)
    refine ⟨_, _, hr, ⟨rfl, rfl, rfl, by simp, fun k hk => setRow_other w g k _ (by omega)⟩, fun k c t hc => ?_⟩
    by_cases h : k = g
    · subst h
      rw [hg] at hc
      injection hc with hc
      injection hc with e1 e2 _
      subst e1; subst e2
      refine ⟨_, setRow_heap w k cur _ _ _ hg, ?_, fun ht => absurd rfl ht⟩
      rw [hz1]; simp only [List.size_toArray, List.length_append, List.length_take, List.length_drop, he, Array.length_toList]; omega
    · exact ⟨c, (setRow_other w g k _ h).trans hc, rfl, fun _ => rfl⟩
  · have hnn : n = cap := by omega
    have hold : ∀ j v, (cur.toList.take (n * 18))[j]? = some v → w.cell? ((⟨g, 0, none⟩ : Addr).add j) = some v := fun j v hj => by
      rw [Addr.add_lit, Nat.zero_add]
      rw [List.getElem?_take] at hj
      split at hj
      · simp [World.cell?, hg]; simpa using hj
      · cases hj
    have hr := run_append_grow (P := Try.prog) w 32 ty 44 i0 _ Try.underlying32 hi hz ⟨g, 0, none⟩ n cap (cur.toList.take (n * 18)) (by rw [hz1]; simp; omega) hold ⟨vb, 0, none⟩ 1 1 e (by rw [hz1]; omega) hnews (by omega) (by simp only [maxLen] at hcm; omega) (by rw [hz2]; exact growslice_fits (by omega) (by omega))
    have hb : Below w.heap.size w (w.drew.alloc (.cells ((cur.toList.take (n * 18)).toArray ++ e.toArray ++ Builtin.zeroCells (.agg #[.int .i64 0, .int .i64 0, .int .i64 0, .int .i64 0, .int .i64 0, .int .i64 0, .slice none 0 0, .int .i64 0, .int .i64 0, .slice none 0 0, .slice none 0 0, .int .i64 0, .int .i64 0, .slice none 0 0, .slice none 0 0, .int .i64 0, .slice none 0 0, .slice none 0 0] : Value).cells (grownCap w (n + 1) cap 44 - (n + 1))) 44)) := bel_alloc (bel_drew (Below.refl _ _))
    exact ⟨_, _, hr, hb.mono (by omega), .of_below hb⟩
theorem wpList_appK_Message {w : World} {ops : Array Oper} {rest : List Oper} {o : Oper} {a : Act} {Q : Exit → Act → World → Prop} (hgd : o.guard = none) (s x : Operand)
    (ho : o.op = .call { callee := .builtin .append, args := #[s, x], argTypes := #[32, 32] })
    (B g n cap : Nat) (cur : Array Value) (hs : a.eval s = .slice (some ⟨g, 0, none⟩) n cap) (hg : w.heap[g]? = some (.cells cur 44 (0, 0))) (hcs : cur.size = cap * 18) (hnc : n ≤ cap) (hcm : cap ≤ maxLen) (hB : B ≤ g) (hn : n ≤ 1000000000) (vb : Nat) (e : List Value) (he : e.length = 18) (h1e : ∀ u ∈ e, u.oneCell' = true) (hx : a.eval x = .slice (some ⟨vb, 0, none⟩) 1 1) (hc : ∀ j u, e[j]? = some u → w.cell? ⟨vb, j, none⟩ = some u)
    (h : ∀ v' w', Below B w w' → KeepS (· = 44) w w' → wpList Try.prog ops Q rest (a.put o.dst v') w') : wpList Try.prog ops Q (o :: rest) a w := by
  obtain ⟨v', w', hrun, hb, hk⟩ := run_appK_Message w B g n cap cur o.type hg hcs hnc hcm hB hn vb e he h1e hc
  exact Lib.wpList_append_run w hgd s x _ _ ho _ _ hs hx _ _ hrun (h v' w' hb hk)

/-- What messages written over may turn. -/
def SMsg (t : TypeId) : Prop := t = 119 ∨ t = 3 ∨ t = 44
theorem setCells_heap {g : Nat} {t : TypeId} : ∀ (vs : List Value) (o : Nat) (w : World) (cur : Array Value), w.heap[g]? = some (.cells cur t (0, 0)) → ∃ c' : Array Value, (w.setCells g o vs).heap[g]? = some (.cells c' t (0, 0)) ∧ c'.size = cur.size
  | [], o, w, cur, h => ⟨cur, h, rfl⟩
  | v :: r, o, w, cur, h => by
    rw [World.setCells]
    obtain ⟨c', h1, h2⟩ := setCells_heap r (o + 1) _ _ (heap_put (o := o) (v := v) h)
    exact ⟨c', h1, by simpa using h2⟩
theorem setCells_keep {g : Nat} {t : TypeId} : ∀ (vs : List Value) (o : Nat) (w : World) (cur : Array Value), w.heap[g]? = some (.cells cur t (0, 0)) → KeepS (· = t) w (w.setCells g o vs)
  | [], o, w, cur, h => .refl _ _
  | v :: r, o, w, cur, h => by
    rw [World.setCells]
    exact (KeepS.set (S := (· = t)) h rfl).trans (setCells_keep r (o + 1) _ _ (heap_put (o := o) (v := v) h))
theorem belB_setCells {n : Nat} {b : Nat} (hb : n ≤ b) : ∀ (vs : List Value) (o : Nat) (w x : World), Below n w x → Below n w (x.setCells b o vs)
  | [], _, _, _, h => h
  | v :: r, o, w, x, h => by
    rw [World.setCells]
    exact belB_setCells hb r (o + 1) _ _ (h.setCell (p := ⟨b, o, none⟩) hb v)
theorem setCells_apart {g p : Nat} : ∀ (vs : List Value) (o : Nat) (w : World), (p < o ∨ o + vs.length ≤ p) → (w.setCells g o vs).cell? ⟨g, p, none⟩ = w.cell? ⟨g, p, none⟩
  | [], _, _, _ => rfl
  | v :: r, o, w, h => by
    rw [World.setCells, setCells_apart r (o + 1) _ (by rw [List.length_cons] at h; omega)]
    have h2 := h
    rw [List.length_cons] at h2
    exact World.cell?_setCell_other _ _ _ _ (by intro e; simp only [Addr.mk.injEq] at e; omega)
set_option maxRecDepth 100000 in
set_option maxHeartbeats 8000000 in
theorem law0_MessagesS (s : SlP) (B : Nat) (w : World) (hr : RowM w B s) (hn : s.n ≤ 1000000) (hB : B ≤ w.heap.size) :
    Calls Try.prog 56 #[.slice s.A s.n s.c] w fun e w' => e = .returned (.tuple #[]) ∧ Below B w w' ∧ KeepS SMsg w w' := by
  obtain ⟨A, n, c⟩ := s
  dsimp only at hn ⊢
  rcases hr with h | ⟨g, cur, h0, hgB, hg, h1, h2, h3, h4⟩
  · unfold SlP.v at h
    injection h with e1 e2 e3
    subst e1; subst e2; subst e3
    go_enter Try.func56, Try.ntmps56
    go_wp2_with fail
    go_loop [2] (fun i => i = .int .i64 0) (fun _ => 0)
    case atStart => rfl
    case round =>
      obtain rfl := hrel
      go_wp2_with (at_builtin; refine wpList_appM rfl (.tmp 38) (.tmp 40) rfl rfl w.heap.size _ [] [] rfl (OwnT.nil _ _) w.heap.size ⟨0, 0, 0, 0, ⟨0, 0, []⟩, ⟨0, 0, [], []⟩, ⟨⟨0, 0, [], []⟩, 0, []⟩, []⟩ ⟨⟨none, 0, 0⟩, ⟨⟨none, 0, 0⟩, ⟨none, 0, 0⟩⟩, ⟨⟨⟨none, 0, 0⟩, ⟨none, 0, 0⟩⟩, ⟨none, 0, 0⟩⟩, ⟨none, 0, 0⟩⟩ rfl (BoxR.new w (msgCells ⟨⟨none, 0, 0⟩, ⟨⟨none, 0, 0⟩, ⟨none, 0, 0⟩⟩, ⟨⟨⟨none, 0, 0⟩, ⟨none, 0, 0⟩⟩, ⟨none, 0, 0⟩⟩, ⟨none, 0, 0⟩⟩ ⟨0, 0, 0, 0, ⟨0, 0, []⟩, ⟨0, 0, [], []⟩, ⟨⟨0, 0, [], []⟩, 0, []⟩, []⟩) 44) ⟨OwnX.nil _ _, OwnI.nil _ _, OwnI.nil _ _, OwnI.nil _ _, OwnI.nil _ _, OwnI.nil _ _, OwnI.nil _ _⟩ (by simp) (le_alloc (Nat.le_refl _)) ?_; intro v1 w1 hown1 hg1 hbel1)
      go_end0
      have hb : Below w.heap.size w w1 := Below.trans ((Below.refl _ _).alloc (Nat.le_refl _) _) hbel1
      exact ⟨rfl, hb.mono hB, .of_below hb⟩
  · dsimp only at h0 h1 h2 h3 h4
    subst h0
    go_enter Try.func56, Try.ntmps56
    go_wp2_with fail
    go_loopw [2] (fun i wr => ∃ (k : Nat) (cr : Array Value), k ≤ n ∧ i = .int .i64 k ∧ wr.heap[g]? = some (.cells cr 44 (0, 0)) ∧ cr.size = c * 18 ∧ Hid (∀ j, k ≤ j → j < n → InM wr B g j) ∧ Below B w wr ∧ KeepS SMsg w wr) (fun i _ => n - (intOf i).toNat)
    case atStart => exact ⟨0, cur, by omega, rfl, hg, h3, Lib.hid (fun j _ hj => h4 j hj), Below.refl _ _, .refl _ _⟩
    case round =>
      obtain ⟨k, cr, hk, rfl, hgr, hcr, HIN, hbw, hkw⟩ := hrel
      (obtain ⟨wk, hwk⟩ : ∃ x, x = wr := ⟨_, rfl⟩); subst hwk
      have HK := Lib.hid hkw
      have HB := Lib.hid hbw
      have hBk : B ≤ wk.heap.size := Nat.le_trans hB hbw.size
      by_cases hlt : k < n
      · obtain ⟨⟨bP, ⟨h1P, h2P⟩, ⟨⟨c1P, c2P⟩, c3P⟩, dP⟩, M, hc, hrw⟩ := HIN.out k (Nat.le_refl _) hlt
        have hgl : g < wk.heap.size := (Array.getElem?_eq_some_iff.1 hgr).1
        have HG := Lib.hid hgr
        have HR := Lib.hid hrw
        have HC := Lib.hid hc
        have c6 := hc 6 _ rfl
        clear hgr hkw hbw hrw hc
        go_wp2_with fail
        refine (law0_TxsS bP B _ HR.out.b HR.out.bn hBk).mono ?_
        rintro e w5 ⟨rfl, hb5, hk5⟩
        have HK5 : Hid (KeepS SMsg wk w5) := Lib.hid (hk5.weak (fun t h => .inl h))
        have HG5 := Lib.hid (blk_keep hk5 HG.out (by decide))
        have HC5 : Hid (∀ o, w5.cell? ⟨g, o, none⟩ = wk.cell? ⟨g, o, none⟩) := Lib.hid (fun o => cell_keep hk5 HG.out (by decide))
        have hl5 : g < w5.heap.size := (Array.getElem?_eq_some_iff.1 HG5.out).1
        have HB5 := Lib.hid (HB.out.trans hb5)
        have hs5 : B ≤ w5.heap.size := Nat.le_trans hBk hb5.size
        have c7 := (HC5.out _).trans (HC.out 7 _ rfl)
        have c8 := (HC5.out _).trans (HC.out 8 _ rfl)
        have c9 := (HC5.out _).trans (HC.out 9 _ rfl)
        have c10 := (HC5.out _).trans (HC.out 10 _ rfl)
        clear c6 hb5 hk5
        go_wp2_with fail
        refine (law0_HeaderS h1P h2P _ _ B _ (HR.out.h1.keep HK5.out) (HR.out.h2.keep HK5.out) HR.out.h1n HR.out.h2n hs5).mono ?_
        rintro e w6 ⟨rfl, hb6, hk6⟩
        have HK6 : Hid (KeepS SMsg wk w6) := Lib.hid (HK5.out.trans (hk6.weak (fun t h => .inr (.inl h))))
        have HG6 := Lib.hid (blk_keep hk6 HG5.out (by decide))
        have HC6 : Hid (∀ o, w6.cell? ⟨g, o, none⟩ = wk.cell? ⟨g, o, none⟩) := Lib.hid (fun o => (cell_keep hk6 HG5.out (by decide)).trans (HC5.out o))
        have hl6 : g < w6.heap.size := (Array.getElem?_eq_some_iff.1 HG6.out).1
        have HB6 := Lib.hid (HB5.out.trans hb6)
        have hs6 : B ≤ w6.heap.size := Nat.le_trans hs5 hb6.size
        have c11 := (HC6.out _).trans (HC.out 11 _ rfl)
        have c12 := (HC6.out _).trans (HC.out 12 _ rfl)
        have c13 := (HC6.out _).trans (HC.out 13 _ rfl)
        have c14 := (HC6.out _).trans (HC.out 14 _ rfl)
        have c15 := (HC6.out _).trans (HC.out 15 _ rfl)
        have c16 := (HC6.out _).trans (HC.out 16 _ rfl)
        clear c7 c8 c9 c10 hb6 hk6
        go_wp2_with fail
        refine (law0_CertS c1P c2P c3P _ _ _ B _ (HR.out.c1.keep HK6.out) (HR.out.c2.keep HK6.out) (HR.out.c3.keep HK6.out) HR.out.c1n HR.out.c2n HR.out.c3n hs6).mono ?_
        rintro e w7 ⟨rfl, hb7, hk7⟩
        have HK7 : Hid (KeepS SMsg wk w7) := Lib.hid (HK6.out.trans (hk7.weak (fun t h => .inr (.inl h))))
        have HG7 := Lib.hid (blk_keep hk7 HG6.out (by decide))
        have HC7 : Hid (∀ o, w7.cell? ⟨g, o, none⟩ = wk.cell? ⟨g, o, none⟩) := Lib.hid (fun o => (cell_keep hk7 HG6.out (by decide)).trans (HC6.out o))
        have hl7 : g < w7.heap.size := (Array.getElem?_eq_some_iff.1 HG7.out).1
        have HB7 := Lib.hid (HB6.out.trans hb7)
        have hs7 : B ≤ w7.heap.size := Nat.le_trans hs6 hb7.size
        have c17 := (HC7.out _).trans (HC.out 17 _ rfl)
        clear c11 c12 c13 c14 c15 c16 hb7 hk7
        go_wp2_with fail
        refine (law0_NumbersS dP B _ (HR.out.ds.keep HK7.out) HR.out.dsn hs7).mono ?_
        rintro e w8 ⟨rfl, hb8, hk8⟩
        have hk8' : KeepS SMsg wk w8 := HK7.out.trans (hk8.weak (fun t h => .inr (.inl h)))
        have hg8 := blk_keep hk8 HG7.out (by decide)
        have hc8 : ∀ o, w8.cell? ⟨g, o, none⟩ = wk.cell? ⟨g, o, none⟩ := fun o => (cell_keep hk8 HG7.out (by decide)).trans (HC7.out o)
        have hl8 : g < w8.heap.size := (Array.getElem?_eq_some_iff.1 hg8).1
        have hb8' := HB7.out.trans hb8
        have hth : w8.there g (k * 18) 18 := fun j hj => by
          refine ⟨by simp [World.cell?, hg8, show k * 18 + j < cr.size by omega], by simp [World.frozen?, hg8]⟩
        have HTH := Lib.hid hth
        obtain ⟨c', e1, e2⟩ := setCells_heap [.int .i64 (-9), .int .i64 0, .int .i64 0, .int .i64 0, .int .i64 0, .int .i64 0, .slice none 0 0, .int .i64 0, .int .i64 0, .slice none 0 0, .slice none 0 0, .int .i64 0, .int .i64 0, .slice none 0 0, .slice none 0 0, .int .i64 0, .slice none 0 0, .slice none 0 0] (k * 18) w8 cr hg8
        have hk9 := setCells_keep [.int .i64 (-9), .int .i64 0, .int .i64 0, .int .i64 0, .int .i64 0, .int .i64 0, .slice none 0 0, .int .i64 0, .int .i64 0, .slice none 0 0, .slice none 0 0, .int .i64 0, .int .i64 0, .slice none 0 0, .slice none 0 0, .int .i64 0, .slice none 0 0, .slice none 0 0] (k * 18) w8 cr hg8
        have hin : ∀ j, k + 1 ≤ j → j < n → InM (w8.setCells g (k * 18) [.int .i64 (-9), .int .i64 0, .int .i64 0, .int .i64 0, .int .i64 0, .int .i64 0, .slice none 0 0, .int .i64 0, .int .i64 0, .slice none 0 0, .slice none 0 0, .int .i64 0, .int .i64 0, .slice none 0 0, .slice none 0 0, .int .i64 0, .slice none 0 0, .slice none 0 0]) B g j := fun j hj1 hj2 => by
          refine (HIN.out j (by omega) hj2).other (hk8'.trans (hk9.weak (fun t h => .inr (.inr h)))) (fun r hr => ?_)
          rw [setCells_apart _ _ _ (.inr (by simp only [List.length_cons, List.length_nil]; omega))]
          exact hc8 _
        have hb9 := belB_setCells (b := g) hgB [.int .i64 (-9), .int .i64 0, .int .i64 0, .int .i64 0, .int .i64 0, .int .i64 0, .slice none 0 0, .int .i64 0, .int .i64 0, .slice none 0 0, .slice none 0 0, .int .i64 0, .int .i64 0, .slice none 0 0, .slice none 0 0, .int .i64 0, .slice none 0 0, .slice none 0 0] (k * 18) _ _ hb8'
        obtain ⟨W9, hW9⟩ : ∃ Z, Z = w8.setCells g (k * 18) [.int .i64 (-9), .int .i64 0, .int .i64 0, .int .i64 0, .int .i64 0, .int .i64 0, .slice none 0 0, .int .i64 0, .int .i64 0, .slice none 0 0, .slice none 0 0, .int .i64 0, .int .i64 0, .slice none 0 0, .slice none 0 0, .int .i64 0, .slice none 0 0, .slice none 0 0] := ⟨_, rfl⟩
        have HW9 := Lib.hid hW9
        rw [← hW9] at e1 hk9 hin hb9
        have HE1 := Lib.hid e1
        have HE2 := Lib.hid e2
        have HK9 := Lib.hid (HK.out.trans (hk8'.trans (hk9.weak (fun t h => .inr (.inr h)))))
        have HI9 := Lib.hid hin
        have HB9 := Lib.hid hb9
        clear c17 hb8 hk8 hk8' hg8 hc8 hb8' hth e1 e2 hk9 hin hb9 hW9 HG HR HC HK5 HG5 HC5 HK6 HG6 HC6 HK7 HG7 HC7 HB5 HB6 HB7 hl5 hl6 hl7 hs5 hs6 hs7
        go_upto_region 7 with fail
        refine wp_region_list ?_
        simp only [List.toList_toArray]
        refine wpList_plain rfl (fun K hK => ?_)
        go_simp
        refine hK _ _ ?_
        clear hK K
        (try simp only [Act.put, List.setIfInBounds_toArray, List.set_cons_zero, List.set_cons_succ])
        refine wpList_plain rfl (fun K hK => ?_)
        go_simp
        refine hK _ _ ?_
        clear hK K
        (try simp only [Act.put, List.setIfInBounds_toArray, List.set_cons_zero, List.set_cons_succ])
        refine wpList_plain rfl (fun K hK => ?_)
        go_simp
        refine hK _ _ ?_
        clear hK K
        (try simp only [Act.put, List.setIfInBounds_toArray, List.set_cons_zero, List.set_cons_succ])
        refine wpList_plain rfl (fun K hK => ?_)
        go_simp
        refine hK _ _ ?_
        clear hK K
        (try simp only [Act.put, List.setIfInBounds_toArray, List.set_cons_zero, List.set_cons_succ])
        refine wpList_store_mid rfl 44 _ _ rfl g (k * 18) #[.int .i64 (-9), .int .i64 0, .int .i64 0, .int .i64 0, .int .i64 0, .int .i64 0, .slice none 0 0, .int .i64 0, .int .i64 0, .slice none 0 0, .slice none 0 0, .int .i64 0, .int .i64 0, .slice none 0 0, .slice none 0 0, .int .i64 0, .slice none 0 0, .slice none 0 0] (by simp [Act.eval, Act.put]) (by simp [Act.eval, Act.put]) HTH.out (by kernel_rfl) (by simp [Value.oneCell']) ?_
        (try simp only [Act.put, List.setIfInBounds_toArray, List.set_cons_zero, List.set_cons_succ])
        refine wpList_nil ?_
        try simp only [List.toList_toArray]
        rw [← HW9.out]
        go_wp2_with fail
        (first | (go_round; (case rel => exact ⟨k + 1, c', by omega, by go_num, HE1.out, by (rw [HE2.out]; exact hcr), HI9, HB9.out, HK9.out⟩); (case measure => (simp [intOf] <;> omega))) | (go_roundw; (case rel => exact ⟨k + 1, c', by omega, by go_num, HE1.out, by (rw [HE2.out]; exact hcr), HI9, HB9.out, HK9.out⟩); (case measure => (simp [intOf] <;> omega))) | (refine ⟨?_, by simp [intOf] <;> omega⟩; (repeat apply Exists.intro); refine ⟨?rel, ?fr⟩; (case fr => ((repeat' apply And.intro) <;> rfl)); (case rel => exact ⟨k + 1, c', by omega, by go_num, HE1.out, by (rw [HE2.out]; exact hcr), HI9, HB9.out, HK9.out⟩)))
      · have hsz := hbw.size
        have hgl : g < wk.heap.size := (Array.getElem?_eq_some_iff.1 hgr).1
        have hgr2 : (wk.alloc (.cells #[.int .i64 0, .int .i64 0, .int .i64 0, .int .i64 0, .int .i64 0, .int .i64 0, .slice none 0 0, .int .i64 0, .int .i64 0, .slice none 0 0, .slice none 0 0, .int .i64 0, .int .i64 0, .slice none 0 0, .slice none 0 0, .int .i64 0, .slice none 0 0, .slice none 0 0] 44)).heap[g]? = some (.cells cr 44 (0, 0)) := (((Below.refl wk.heap.size wk).alloc (Nat.le_refl _) _).block g hgl).trans hgr
        have HG2 := Lib.hid hgr2
        have HBX := Lib.hid (BoxR.new wk [.int .i64 0, .int .i64 0, .int .i64 0, .int .i64 0, .int .i64 0, .int .i64 0, .slice none 0 0, .int .i64 0, .int .i64 0, .slice none 0 0, .slice none 0 0, .int .i64 0, .int .i64 0, .slice none 0 0, .slice none 0 0, .int .i64 0, .slice none 0 0, .slice none 0 0] 44)
        clear hgr hgr2 hkw hbw
        go_wp2_with (at_builtin; refine wpList_appK_Message rfl (.tmp 38) (.tmp 40) rfl B g n c cr rfl HG2.out hcr h1 h2 hgB (by omega) _ [.int .i64 0, .int .i64 0, .int .i64 0, .int .i64 0, .int .i64 0, .int .i64 0, .slice none 0 0, .int .i64 0, .int .i64 0, .slice none 0 0, .slice none 0 0, .int .i64 0, .int .i64 0, .slice none 0 0, .slice none 0 0, .int .i64 0, .slice none 0 0, .slice none 0 0] rfl (by decide) rfl (fun j u hu => HBX.out.2 j u hu) ?_; intro v1 w1 hb1 hk1)
        go_end0
        exact ⟨rfl, Below.trans (HB.out.trans (Below.mono (bel_alloc (Below.refl _ _)) (by omega))) hb1, HK.out.trans (KeepS.trans (.of_below (bel_alloc (Below.refl _ _))) (hk1.weak (fun t h => .inr (.inr h))))⟩
end Go.Proofs.Ytnngeaibdnnpoaa
