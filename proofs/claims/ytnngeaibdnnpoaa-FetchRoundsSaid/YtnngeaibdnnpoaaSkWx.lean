/- Messages: rows of one's own, copied, the same. -/
import Derived.Test.YtnngeaibdnnpoaaSkWi
import Derived.Test.YtnngeaibdnnpoaaSkWc
namespace Go.Proofs.Ytnngeaibdnnpoaa
open Go.RowKit
set_option linter.unusedSimpArgs false
set_option linter.unusedVariables false

theorem info_Message : (Try.prog.info? 44).map (fun i => (i.zero, i.size, i.bytes)) = some (some (.agg #[.int .i64 0, .int .i64 0, .int .i64 0, .int .i64 0, .int .i64 0, .int .i64 0, .slice none 0 0, .int .i64 0, .int .i64 0, .slice none 0 0, .slice none 0 0, .int .i64 0, .int .i64 0, .slice none 0 0, .slice none 0 0, .int .i64 0, .slice none 0 0, .slice none 0 0]), 18, 256) := by kernel_rfl
theorem run_app_Message (w : World) (B : Nat) (v : Value) (n : Nat) (xs : List Value) (hown : w.ownsRow B 44 18 v n xs) (vb off m c : Nat) (e : List Value) (hm : e.length = m * 18) (hv : ∀ j u, e[j]? = some u → w.cell? ⟨vb, off + j, none⟩ = some u) (h1e : ∀ u ∈ e, u.oneCell' = true) (hn : n + m ≤ 1000000000) (hB : B ≤ w.heap.size) :
    ∃ v' w', (Builtin.append_ #[32, 32] 32 #[v, .slice (some ⟨vb, off, none⟩) m c]).run Try.prog w = .ok v' w' ∧ w'.ownsRow B 44 18 v' (n + m) (xs ++ e) ∧ w.grownBy w' v.ownBlock ∧ Below B w w' ∧ (v'.ownBlock = v.ownBlock ∨ v'.ownBlock = some w.heap.size) := by
  obtain ⟨i0, hi, hz, hz1, hz2⟩ := info_parts info_Message
  obtain ⟨v', w', hrun, h2, h3, _, h5⟩ := run_append_own_at (P := Try.prog) w B 32 32 44 i0 _ 18 256 Try.underlying32 hi hz hz1 hz2 rfl (by omega) v n xs hown ⟨vb, off, none⟩ m c e hm
    (by intro j u hu; rw [Addr.add_lit]; exact hv j u hu) h1e (by simp only [maxLen]; omega) (by omega) hB
  exact ⟨v', w', hrun, h2, h3, ⟨h3.os, h3.tape, h3.output, h3.size, fun k hk => h3.block k (by omega) (fun e => by have := (own_lt hown k e.symm).1; omega)⟩, h5⟩
/-- A message whose lists are one's own, from block B on. -/
structure OwnM (w : World) (B : Nat) (P : MsgP) (M : MsgD) : Prop where
  b : OwnX w B P.b.v M.b.tx
  h1 : OwnI w B P.h.b.v M.h.ba
  h2 : OwnI w B P.h.p.v M.h.pa
  c1 : OwnI w B P.c.h.b.v M.c.h.ba
  c2 : OwnI w B P.c.h.p.v M.c.h.pa
  c3 : OwnI w B P.c.s.v M.c.si
  ds : OwnI w B P.ds.v M.ds
theorem OwnM.up {w w' : World} {B : Nat} {P M} (h : OwnM w B P M) (hb : Below w.heap.size w w') : OwnM w' B P M := ⟨h.b.up hb, h.h1.up hb, h.h2.up hb, h.c1.up hb, h.c2.up hb, h.c3.up hb, h.ds.up hb⟩
theorem OwnM.mono {w : World} {B B' : Nat} {P M} (h : OwnM w B P M) (hB : B' ≤ B) : OwnM w B' P M := ⟨h.b.mono hB, h.h1.mono hB, h.h2.mono hB, h.c1.mono hB, h.c2.mono hB, h.c3.mono hB, h.ds.mono hB⟩
theorem OwnM.low {w : World} {B b o : Nat} {u : Value} {P M} (h : OwnM w B P M) (hp : b < B) : OwnM (w.setCell ⟨b, o, none⟩ u) B P M := ⟨h.b.set3 hp u, h.h1.low hp u, h.h2.low hp u, h.c1.low hp u, h.c2.low hp u, h.c3.low hp u, h.ds.low hp u⟩
theorem OwnM.grownT {w w' : World} {B B' n : Nat} {v : Value} {xs : List Value} {P M} (h : OwnM w B P M) (hv : w.ownsRow B' 44 18 v n xs) (hg : w.grownBy w' v.ownBlock) : OwnM w' B P M := ⟨own_farT h.b hv (by decide) hg, own_farT h.h1 hv (by decide) hg, own_farT h.h2 hv (by decide) hg, own_farT h.c1 hv (by decide) hg, own_farT h.c2 hv (by decide) hg, own_farT h.c3 hv (by decide) hg, own_farT h.ds hv (by decide) hg⟩
def dMsg : DeepT MsgD MsgP where
  t := 44
  k := 18
  enc := fun M P => msgCells P M
  inner := fun w B P M => OwnM w B P M
  k0 := by omega
  len := fun _ _ => rfl
  one := fun h u hu => by
    simp only [msgCells, List.mem_cons, List.not_mem_nil, or_false] at hu
    rcases hu with rfl | rfl | rfl | rfl | rfl | rfl | rfl | rfl | rfl | rfl | rfl | rfl | rfl | rfl | rfl | rfl | rfl | rfl <;> rfl
  up := fun h hb => h.up hb
  mono := fun h hB => h.mono hB
  low := fun h hp => h.low hp
  grown := fun h hv hg => h.grownT hv hg
def OwnMs (w : World) (B : Nat) (v : Value) (l : List MsgD) : Prop := ∃ ps, OwnT dMsg w B v ps l
theorem OwnMs.up {w w' : World} {B : Nat} {v : Value} {l : List MsgD} (h : OwnMs w B v l) (hb : Below w.heap.size w w') : OwnMs w' B v l := let ⟨ps, h⟩ := h; ⟨ps, h.up hb⟩
theorem OwnMs.mono {w : World} {B B' : Nat} {v : Value} {l : List MsgD} (h : OwnMs w B v l) (hB : B' ≤ B) : OwnMs w B' v l := let ⟨ps, h⟩ := h; ⟨ps, h.mono hB⟩
theorem OwnMs.low {w : World} {B b o : Nat} {v u : Value} {l : List MsgD} (h : OwnMs w B v l) (hp : b < B) : OwnMs (w.setCell ⟨b, o, none⟩ u) B v l := let ⟨ps, h⟩ := h; ⟨ps, h.low hp⟩
theorem OwnMs.nil (w : World) (B : Nat) : OwnMs w B (.slice none 0 0) [] := ⟨[], OwnT.nil _ _⟩
structure BigM (M : MsgD) : Prop where
  b : M.b.tx.length ≤ 800000000
  h1 : M.h.ba.length ≤ 800000000
  h2 : M.h.pa.length ≤ 800000000
  c1 : M.c.h.ba.length ≤ 800000000
  c2 : M.c.h.pa.length ≤ 800000000
  c3 : M.c.si.length ≤ 800000000
  ds : M.ds.length ≤ 800000000
def BigMs (l : List MsgD) : Prop := l.length ≤ 800000000 ∧ ∀ x ∈ l, BigM x
theorem OwnI.slR {w : World} {B : Nat} {s : SlP} {l : List Int} (h : OwnI w B s.v l) (hl : l.length ≤ 800000000) : IntsR w s.A s.n l := by
  obtain ⟨A, c, e, hi, _⟩ := h.ints (by omega)
  unfold SlP.v at e
  injection e with e1 e2 e3
  rw [e1, e2]; exact hi
theorem OwnX.slR {w : World} {B : Nat} {s : SlP} {l : List TxD} (h : OwnX w B s.v l) (hl : l.length ≤ 800000000) : TxsR w s.A s.n l := by
  obtain ⟨A, c, e, hi, _⟩ := h.txs (by omega)
  unfold SlP.v at e
  injection e with e1 e2 e3
  rw [e1, e2]; exact hi
theorem OwnM.msg {w : World} {B : Nat} {P M} (h : OwnM w B P M) (hs : BigM M) : MsgR w P M :=
  ⟨h.b.slR hs.b, ⟨h.h1.slR hs.h1, h.h2.slR hs.h2⟩, ⟨⟨h.c1.slR hs.c1, h.c2.slR hs.c2⟩, h.c3.slR hs.c3⟩, h.ds.slR hs.ds⟩
def mth (l : List MsgD) (i : Nat) : MsgD := l.getD i default
def MsgsR (w : World) (A : Option Addr) (n : Nat) (l : List MsgD) : Prop :=
  l.length = n ∧ n ≤ 9223372036854775807 ∧ (0 < n → ∃ b off, A = some ⟨b, off, none⟩ ∧ b < w.heap.size ∧ ∀ j, j < n → ∃ P : MsgP, (∀ r u, (msgCells P (mth l j))[r]? = some u → w.cell? ⟨b, off + j * 18 + r, none⟩ = some u) ∧ MsgR w P (mth l j))
theorem MsgsR.up {w w' : World} {A n l} (h : MsgsR w A n l) (hb : Below w.heap.size w w') : MsgsR w' A n l := by
  obtain ⟨h1, h2, h3⟩ := h
  refine ⟨h1, h2, fun hn => ?_⟩
  obtain ⟨b, off, e, hlt, hc⟩ := h3 hn
  refine ⟨b, off, e, Nat.lt_of_lt_of_le hlt hb.size, fun j hj => ?_⟩
  obtain ⟨P, g0, g1⟩ := hc j hj
  exact ⟨P, fun r u hu => ((bcell hb).1 _ _ hlt).trans (g0 r u hu), g1.up hb⟩
theorem MsgsR.nil (w : World) : MsgsR w none 0 [] := ⟨rfl, by omega, fun h => absurd h (by omega)⟩
theorem OwnMs.msgs {w : World} {B : Nat} {v : Value} {l : List MsgD} (h : OwnMs w B v l) (hs : BigMs l) : ∃ A c, v = .slice A l.length c ∧ MsgsR w A l.length l ∧ l.length ≤ c ∧ c ≤ 9223372036854775807 := by
  obtain ⟨ps, h⟩ := h
  obtain ⟨A, c, e, h1, h2, h3⟩ := h.read
  refine ⟨A, c, e, ⟨rfl, by have := hs.1; omega, fun h0 => ?_⟩, h1, by simpa [maxLen] using h2⟩
  obtain ⟨b, eA, hB, hb, hc⟩ := h3 h0
  refine ⟨b, 0, eA, hb, fun j hj => ⟨ps.getD j default, fun r u hu => hc j hj r u hu, ?_⟩⟩
  have hin : OwnM w B (ps.getD j default) (l.getD j default) := h.2.2 j hj
  exact hin.msg (hs.2 _ (getD_mem hj))
theorem run_appM (w : World) (B : Nat) (v : Value) (ps : List MsgP) (l : List MsgD) (hown : OwnT dMsg w B v ps l) (g : Nat) (x : MsgD) (p : MsgP) (hbx : BoxR w g (msgCells p x)) (hin : OwnM w B p x) (hlen : l.length ≤ 800000000) (hB : B ≤ w.heap.size) :
    ∃ v' w', (Builtin.append_ #[32, 32] 32 #[v, .slice (some ⟨g, 0, none⟩) 1 1]).run Try.prog w = .ok v' w' ∧ OwnT dMsg w' B v' (ps ++ [p]) (l ++ [x]) ∧ w.grownBy w' v.ownBlock ∧ Below B w w' := by
  obtain ⟨v', w', hrun, h2, h3, h4, h5⟩ := run_app_Message w B v l.length (dcells dMsg l ps) hown.1 g 0 1 1 (msgCells p x) rfl (fun r u hu => by rw [Nat.zero_add]; exact hbx.2 r u hu) (dMsg.one (w := w) (B := B) (p := p) (x := x) hin) (by omega) hB
  exact ⟨v', w', hrun, hown.snoc hin h2 h3, h3, h4⟩
theorem wpList_appM {w : World} {ops : Array Oper} {rest : List Oper} {o : Oper} {a : Act} {Q : Exit → Act → World → Prop} (hgd : o.guard = none) (s x : Operand)
    (ho : o.op = .call { callee := .builtin .append, args := #[s, x], argTypes := #[32, 32] }) (hty : o.type = 32) (B : Nat) (v : Value) (ps : List MsgP) (l : List MsgD) (hs : a.eval s = v) (hown : OwnT dMsg w B v ps l) (g : Nat) (y : MsgD) (p : MsgP) (hx : a.eval x = .slice (some ⟨g, 0, none⟩) 1 1)
    (hbx : BoxR w g (msgCells p y)) (hin : OwnM w B p y) (hlen : l.length ≤ 800000000) (hB : B ≤ w.heap.size)
    (h : ∀ v' w', OwnT dMsg w' B v' (ps ++ [p]) (l ++ [y]) → w.grownBy w' v.ownBlock → Below B w w' → wpList Try.prog ops Q rest (a.put o.dst v') w') : wpList Try.prog ops Q (o :: rest) a w := by
  obtain ⟨v', w', hrun, h2, h3, h4⟩ := run_appM w B v ps l hown g y p hbx hin hlen hB
  exact Lib.wpList_append_run w hgd s x _ _ ho _ _ hs hx _ _ (by rw [hty]; exact hrun) (h v' w' h2 h3 h4)
theorem step_appM {ops : Array Oper} {o : Oper} {a : Act} {w : World} {K : Act → World → Prop} {Q : Exit → Act → World → Prop} {E : Prop} (hg : o.guard = none) (s x : Operand)
    (ho : o.op = .call { callee := .builtin .append, args := #[s, x], argTypes := #[32, 32] }) (hty : o.type = 32) (B : Nat) (v : Value) (ps : List MsgP) (l : List MsgD) (hs : a.eval s = v) (hown : OwnT dMsg w B v ps l) (g : Nat) (y : MsgD) (p : MsgP) (hx : a.eval x = .slice (some ⟨g, 0, none⟩) 1 1)
    (hbx : BoxR w g (msgCells p y)) (hin : OwnM w B p y) (hlen : l.length ≤ 800000000) (hB : B ≤ w.heap.size)
    (h : ∀ v' w', OwnT dMsg w' B v' (ps ++ [p]) (l ++ [y]) → w.grownBy w' v.ownBlock → Below B w w' → K (a.put o.dst v') w') : if Region.wanted o (yielded ops a.tmps) = true then Oper.wp Try.prog o a w K Q else E := by
  obtain ⟨v', w', hrun, h2, h3, h4⟩ := run_appM w B v ps l hown g y p hbx hin hlen hB
  exact step_run hg s x _ _ ho v _ hs hx v' w' (by rw [hty]; exact hrun) (h v' w' h2 h3 h4)
end Go.Proofs.Ytnngeaibdnnpoaa
