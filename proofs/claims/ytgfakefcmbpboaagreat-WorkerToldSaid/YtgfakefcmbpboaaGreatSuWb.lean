/- Workers, waits, messages, acts, scripts of droverlaw13: how they lie; opened, with the bound that the form sets. -/
import Derived.Test.YtgfakefcmbpboaaGreatSuJ2
namespace Go.Proofs.YtgfakefcmbpboaaGreat
set_option linter.all false
set_option maxRecDepth 100000
open Go.RowKit Go.ChangeShapes Go.WideShapes Go.ChangeAt

structure WaitD where
  di : Int
  ak : List Int
deriving Inhabited
def wth (l : List WaitD) (i : Nat) : WaitD := l.getD i default
def WaitsR (w : World) (A : Option Addr) (n : Nat) (l : List WaitD) : Prop :=
  l.length = n ∧ n ≤ 9223372036854775807 ∧ (0 < n → ∃ b off, A = some ⟨b, off, none⟩ ∧ b < w.heap.size ∧ ∀ j, j < n → ∃ (B : Option Addr) (m d : Nat), (w.cell? ⟨b, off + j * 2, none⟩ = some (.int .i64 (wth l j).di) ∧ w.cell? ⟨b, off + j * 2 + 1, none⟩ = some (.slice B m d)) ∧ IntsR w B m (wth l j).ak)
theorem WaitsR.up {w w' : World} {A n l} (h : WaitsR w A n l) (hb : Below w.heap.size w w') : WaitsR w' A n l := by
  obtain ⟨h1, h2, h3⟩ := h
  refine ⟨h1, h2, fun hn => ?_⟩
  obtain ⟨b, off, e, hlt, hc⟩ := h3 hn
  refine ⟨b, off, e, Nat.lt_of_lt_of_le hlt hb.size, fun j hj => ?_⟩
  obtain ⟨B, m, d, ⟨g0, g1⟩, g4⟩ := hc j hj
  have g := (bcell hb).1
  exact ⟨B, m, d, ⟨(g _ _ hlt).trans g0, (g _ _ hlt).trans g1⟩, g4.up hb⟩
structure WorkD where
  id : Int
  nodes : Int
  next : Int
  op : List TxD
  age : Int
  clock : Int
  wa : List WaitD
  he : List HeldD
  re : List Int
structure WorkP where
  op : SlP
  wa : SlP
  he : SlP
  re : SlP
def WorkP.val (P : WorkP) (D : WorkD) : Value := .agg #[.int .i64 D.id, .int .i64 D.nodes, .int .i64 D.next, .slice P.op.A P.op.n P.op.c, .int .i64 D.age, .int .i64 D.clock, .slice P.wa.A P.wa.n P.wa.c, .slice P.he.A P.he.n P.he.c, .slice P.re.A P.re.n P.re.c]
structure WorkR (w : World) (P : WorkP) (D : WorkD) : Prop where
  op : TxsR w P.op.A P.op.n D.op
  wa : WaitsR w P.wa.A P.wa.n D.wa
  he : HeldsR w P.he.A P.he.n D.he
  re : IntsR w P.re.A P.re.n D.re
  oc : P.op.n ≤ P.op.c
  om : P.op.c ≤ 9223372036854775807
  rc : P.re.n ≤ P.re.c
theorem WorkR.up {w w' : World} {P D} (h : WorkR w P D) (hb : Below w.heap.size w w') : WorkR w' P D := { h with op := h.op.up hb, wa := h.wa.up hb, he := h.he.up hb, re := h.re.up hb }
structure MsgD where
  ki : Int
  fr : Int
  tt : Int
  di : Int
  b : BatchD
  h : HeaderD
  c : CertD
  ds : List Int
instance : Inhabited MsgD := ⟨⟨0, 0, 0, 0, default, default, default, []⟩⟩
structure MsgP where
  b : SlP
  h : HeaderP
  c : CertP
  ds : SlP
instance : Inhabited MsgP := ⟨⟨default, default, default, default⟩⟩
def msgCells (P : MsgP) (M : MsgD) : List Value := [.int .i64 M.ki, .int .i64 M.fr, .int .i64 M.tt, .int .i64 M.di, .int .i64 M.b.au, .int .i64 M.b.n, .slice P.b.A P.b.n P.b.c, .int .i64 M.h.au, .int .i64 M.h.ro, .slice P.h.b.A P.h.b.n P.h.b.c, .slice P.h.p.A P.h.p.n P.h.p.c, .int .i64 M.c.h.au, .int .i64 M.c.h.ro, .slice P.c.h.b.A P.c.h.b.n P.c.h.b.c, .slice P.c.h.p.A P.c.h.p.n P.c.h.p.c, .int .i64 M.c.di, .slice P.c.s.A P.c.s.n P.c.s.c, .slice P.ds.A P.ds.n P.ds.c]
structure MsgR (w : World) (P : MsgP) (M : MsgD) : Prop where
  tx : TxsR w P.b.A P.b.n M.b.tx
  h : HeaderR w P.h M.h
  c : CertR w P.c M.c
  ds : IntsR w P.ds.A P.ds.n M.ds
theorem MsgR.up {w w' : World} {P M} (h : MsgR w P M) (hb : Below w.heap.size w w') : MsgR w' P M := ⟨h.tx.up hb, h.h.up hb, h.c.up hb, h.ds.up hb⟩
structure JobD where
  doo : Int
  d : Int
  t : TxD
  m : MsgD
  fit : Bool
  l : List Int
instance : Inhabited JobD := ⟨⟨0, 0, default, default, false, []⟩⟩
def jth (l : List JobD) (i : Nat) : JobD := l.getD i default
def jobCells (P : MsgP) (S : SlP) (a : JobD) : List Value := [.int .i64 a.doo, .int .i64 a.d, .int .i64 a.t.se, .int .i64 a.t.sq, .string a.t.k, .string a.t.v,
  .int .i64 a.m.ki, .int .i64 a.m.fr, .int .i64 a.m.tt, .int .i64 a.m.di, .int .i64 a.m.b.au, .int .i64 a.m.b.n, .slice P.b.A P.b.n P.b.c, .int .i64 a.m.h.au, .int .i64 a.m.h.ro, .slice P.h.b.A P.h.b.n P.h.b.c, .slice P.h.p.A P.h.p.n P.h.p.c, .int .i64 a.m.c.h.au, .int .i64 a.m.c.h.ro, .slice P.c.h.b.A P.c.h.b.n P.c.h.b.c, .slice P.c.h.p.A P.c.h.p.n P.c.h.p.c, .int .i64 a.m.c.di, .slice P.c.s.A P.c.s.n P.c.s.c, .slice P.ds.A P.ds.n P.ds.c,
  .bool a.fit, .slice S.A S.n S.c]
theorem jobCells_eq (P : MsgP) (S : SlP) (a : JobD) : jobCells P S a = .int .i64 a.doo :: .int .i64 a.d :: (encX a.t ++ msgCells P a.m ++ [.bool a.fit, .slice S.A S.n S.c]) := rfl
def JobsR (w : World) (A : Option Addr) (n : Nat) (l : List JobD) : Prop :=
  l.length = n ∧ n ≤ 9223372036854775807 ∧ (0 < n → ∃ b off, A = some ⟨b, off, none⟩ ∧ b < w.heap.size ∧ ∀ j, j < n → ∃ (P : MsgP) (S : SlP), (∀ r u, (jobCells P S (jth l j))[r]? = some u → w.cell? ⟨b, off + j * 26 + r, none⟩ = some u) ∧ MsgR w P (jth l j).m ∧ IntsR w S.A S.n (jth l j).l)
theorem JobsR.up {w w' : World} {A n l} (h : JobsR w A n l) (hb : Below w.heap.size w w') : JobsR w' A n l := by
  obtain ⟨h1, h2, h3⟩ := h
  refine ⟨h1, h2, fun hn => ?_⟩
  obtain ⟨b, off, e, hlt, hc⟩ := h3 hn
  refine ⟨b, off, e, Nat.lt_of_lt_of_le hlt hb.size, fun j hj => ?_⟩
  obtain ⟨P, S, g0, g1, g2⟩ := hc j hj
  exact ⟨P, S, fun r u hu => ((bcell hb).1 _ _ hlt).trans (g0 r u hu), g1.up hb, g2.up hb⟩
structure SmM (M : MsgD) : Prop where
  b : SmB M.b
  h1 : M.h.ba.length ≤ 17592186044416
  h2 : M.h.pa.length ≤ 17592186044416
  c1 : M.c.h.ba.length ≤ 17592186044416
  c2 : M.c.h.pa.length ≤ 17592186044416
  c3 : M.c.si.length ≤ 17592186044416
  ds : M.ds.length ≤ 17592186044416
structure SmJ (a : JobD) : Prop where
  t : SmX a.t
  m : SmM a.m
  l : a.l.length ≤ 17592186044416
def SmW (x : WaitD) : Prop := x.ak.length ≤ 17592186044416
structure JScrP where
  w : WorkP
  l : SlP
structure JScrD where
  w : WorkD
  l : List JobD
def JScrP.val (P : JScrP) (D : JScrD) : Value := .agg #[.int .i64 D.w.id, .int .i64 D.w.nodes, .int .i64 D.w.next, .slice P.w.op.A P.w.op.n P.w.op.c, .int .i64 D.w.age, .int .i64 D.w.clock, .slice P.w.wa.A P.w.wa.n P.w.wa.c, .slice P.w.he.A P.w.he.n P.w.he.c, .slice P.w.re.A P.w.re.n P.w.re.c, .slice P.l.A P.l.n P.l.c]
structure JScrR (w : World) (P : JScrP) (D : JScrD) : Prop where
  wk : WorkR w P.w D.w
  l : JobsR w P.l.A P.l.n D.l
  so : P.w.op.n ≤ 17592186044416
  sw : P.w.wa.n ≤ 17592186044416
  sh : P.w.he.n ≤ 17592186044416
  sr : P.w.re.n ≤ 17592186044416
  sl : P.l.n ≤ 17592186044416
  go : ∀ v ∈ D.w.op, SmX v
  gw : ∀ v ∈ D.w.wa, SmW v
  gh : ∀ v ∈ D.w.he, SmH v
  gl : ∀ v ∈ D.l, SmJ v
theorem JScrR.up {w w' : World} {P : JScrP} {D : JScrD} (h : JScrR w P D) (hb : Below w.heap.size w w') : JScrR w' P D := { h with wk := h.wk.up hb, l := h.l.up hb }

section
variable {H : Type} {enc : TypeId × Value → H} {w : World} {base : Nat} {spare : Nat → Bool} {held : Bool}
theorem cells_wait : Tryz.prog.cellsOf 56 = 2 := by kernel_rfl
theorem cells_waits : Tryz.prog.cellsOf 23 = 1 := by kernel_rfl
theorem cells_worker : Tryz.prog.cellsOf 27 = 9 := by kernel_rfl
theorem cells_header : Tryz.prog.cellsOf 45 = 4 := by kernel_rfl
theorem cells_cert : Tryz.prog.cellsOf 47 = 6 := by kernel_rfl
theorem cells_msg : Tryz.prog.cellsOf 49 = 18 := by kernel_rfl
theorem cells_bool : Tryz.prog.cellsOf 4 = 1 := by kernel_rfl
theorem cells_job : Tryz.prog.cellsOf 51 = 26 := by kernel_rfl
theorem cells_jobs : Tryz.prog.cellsOf 28 = 1 := by kernel_rfl
theorem cells_jscr : Tryz.prog.cellsOf 30 = 10 := by kernel_rfl
theorem bytes_wait : Tryz.prog.bytesOf 56 = 32 := by kernel_rfl
theorem bytes_job : Tryz.prog.bytesOf 51 = 352 := by kernel_rfl
theorem trod_bool {P : Program} {t : TypeId} {fuel : Nat} {cs : List Value} {x : DataW H × List MemPlace} (ht : P.underlying t = some .bool) (h : DataW.trod enc P w base spare held fuel t cs = some x) : ∃ z, cs = [.bool z] := by
  cases fuel with
  | zero => simp [DataW.trod] at h
  | succ n =>
    simp only [DataW.trod, ht] at h
    split at h <;> simp_all
theorem list6 {α : Type} {l : List α} (h : l.length = 6) : ∃ a0 a1 a2 a3 a4 a5, l = [a0, a1, a2, a3, a4, a5] := by
  match l, h with
  | [a0, a1, a2, a3, a4, a5], _ => exact ⟨a0, a1, a2, a3, a4, a5, rfl⟩
theorem list8 {α : Type} {l : List α} (h : l.length = 8) : ∃ a0 a1 a2 a3 a4 a5 a6 a7, l = [a0, a1, a2, a3, a4, a5, a6, a7] := by
  match l, h with
  | [a0, a1, a2, a3, a4, a5, a6, a7], _ => exact ⟨a0, a1, a2, a3, a4, a5, a6, a7, rfl⟩
theorem list9 {α : Type} {l : List α} (h : l.length = 9) : ∃ a0 a1 a2 a3 a4 a5 a6 a7 a8, l = [a0, a1, a2, a3, a4, a5, a6, a7, a8] := by
  match l, h with
  | [a0, a1, a2, a3, a4, a5, a6, a7, a8], _ => exact ⟨a0, a1, a2, a3, a4, a5, a6, a7, a8, rfl⟩
theorem list10 {α : Type} {l : List α} (h : l.length = 10) : ∃ a0 a1 a2 a3 a4 a5 a6 a7 a8 a9, l = [a0, a1, a2, a3, a4, a5, a6, a7, a8, a9] := by
  match l, h with
  | [a0, a1, a2, a3, a4, a5, a6, a7, a8, a9], _ => exact ⟨a0, a1, a2, a3, a4, a5, a6, a7, a8, a9, rfl⟩
theorem list18 {α : Type} {l : List α} (h : l.length = 18) : ∃ a0 a1 a2 a3 a4 a5 a6 a7 a8 a9 b0 b1 b2 b3 b4 b5 b6 b7, l = [a0, a1, a2, a3, a4, a5, a6, a7, a8, a9, b0, b1, b2, b3, b4, b5, b6, b7] := by
  match l, h with
  | [a0, a1, a2, a3, a4, a5, a6, a7, a8, a9, b0, b1, b2, b3, b4, b5, b6, b7], _ => exact ⟨_, _, _, _, _, _, _, _, _, _, _, _, _, _, _, _, _, _, rfl⟩
theorem list26 {α : Type} {l : List α} (h : l.length = 26) : ∃ a0 a1 a2 a3 a4 a5 a6 a7 a8 a9 b0 b1 b2 b3 b4 b5 b6 b7 b8 b9 c0 c1 c2 c3 c4 c5, l = [a0, a1, a2, a3, a4, a5, a6, a7, a8, a9, b0, b1, b2, b3, b4, b5, b6, b7, b8, b9, c0, c1, c2, c3, c4, c5] := by
  match l, h with
  | [a0, a1, a2, a3, a4, a5, a6, a7, a8, a9, b0, b1, b2, b3, b4, b5, b6, b7, b8, b9, c0, c1, c2, c3, c4, c5], _ => exact ⟨_, _, _, _, _, _, _, _, _, _, _, _, _, _, _, _, _, _, _, _, _, _, _, _, _, _, rfl⟩
theorem open_HeaderS {fuel : Nat} {cs : List Value} {x : DataW H × List MemPlace} (h : DataW.trod enc Tryz.prog w base spare held fuel 45 cs = some x) (hw : Wok 45 x.1) :
    ∃ (p : HeaderP) (D : HeaderD), cs = [.int .i64 D.au, .int .i64 D.ro, .slice p.b.A p.b.n p.b.c, .slice p.p.A p.p.n p.p.c] ∧ HeaderR w p D ∧ D.ba.length ≤ 17592186044416 ∧ D.pa.length ≤ 17592186044416 := by
  obtain ⟨xs, n, _, hx, hl, hlen, hf⟩ := DataW.trod_struct Tryz.underlying45 h
  rw [hx] at hw
  rw [cells_header] at hl
  obtain ⟨v0, v1, v2, v3, rfl⟩ := list4 hl
  obtain ⟨y0, y1, y2, y3, rfl⟩ := list4 hlen
  have f0 : DataW.trod enc Tryz.prog w base spare held n 3 [v0] = some y0 := by simpa [cells_int] using hf 0 _ rfl
  have f1 : DataW.trod enc Tryz.prog w base spare held n 3 [v1] = some y1 := by simpa [cells_int] using hf 1 _ rfl
  have f2 : DataW.trod enc Tryz.prog w base spare held n 25 [v2] = some y2 := by simpa [cells_ints] using hf 2 _ rfl
  have f3 : DataW.trod enc Tryz.prog w base spare held n 25 [v3] = some y3 := by simpa [cells_ints] using hf 3 _ rfl
  obtain ⟨z0, e0⟩ := open_Int f0
  obtain ⟨z1, e1⟩ := open_Int f1
  obtain ⟨A2, n2, c2, l2, e2, r2, s2, -⟩ := open_IntsS f2 (hw.field Tryz.underlying45 (i := 2) rfl rfl)
  obtain ⟨A3, n3, c3, l3, e3, r3, s3, -⟩ := open_IntsS f3 (hw.field Tryz.underlying45 (i := 3) rfl rfl)
  injection e0 with e0; injection e1 with e1; injection e2 with e2; injection e3 with e3
  subst e0; subst e1; subst e2; subst e3
  exact ⟨⟨⟨A2, n2, c2⟩, ⟨A3, n3, c3⟩⟩, ⟨z0, z1, l2, l3⟩, rfl, ⟨r2, r3⟩, by show l2.length ≤ _; rw [r2.1]; exact s2, by show l3.length ≤ _; rw [r3.1]; exact s3⟩
theorem open_CertS {fuel : Nat} {cs : List Value} {x : DataW H × List MemPlace} (h : DataW.trod enc Tryz.prog w base spare held fuel 47 cs = some x) (hw : Wok 47 x.1) :
    ∃ (p : CertP) (D : CertD), cs = [.int .i64 D.h.au, .int .i64 D.h.ro, .slice p.h.b.A p.h.b.n p.h.b.c, .slice p.h.p.A p.h.p.n p.h.p.c, .int .i64 D.di, .slice p.s.A p.s.n p.s.c] ∧ CertR w p D ∧ D.h.ba.length ≤ 17592186044416 ∧ D.h.pa.length ≤ 17592186044416 ∧ D.si.length ≤ 17592186044416 := by
  obtain ⟨xs, n, _, hx, hl, hlen, hf⟩ := DataW.trod_struct Tryz.underlying47 h
  rw [hx] at hw
  rw [cells_cert] at hl
  obtain ⟨v0, v1, v2, v3, v4, v5, rfl⟩ := list6 hl
  obtain ⟨y0, y1, y2, rfl⟩ := list3 hlen
  have f0 : DataW.trod enc Tryz.prog w base spare held n 45 [v0, v1, v2, v3] = some y0 := by simpa [cells_header] using hf 0 _ rfl
  have f1 : DataW.trod enc Tryz.prog w base spare held n 3 [v4] = some y1 := by simpa [cells_int, cells_header] using hf 1 _ rfl
  have f2 : DataW.trod enc Tryz.prog w base spare held n 25 [v5] = some y2 := by simpa [cells_ints, cells_int, cells_header] using hf 2 _ rfl
  obtain ⟨p0, d0, e0, r0, s01, s02⟩ := open_HeaderS f0 (hw.field Tryz.underlying47 (i := 0) rfl rfl)
  obtain ⟨z1, e1⟩ := open_Int f1
  obtain ⟨A2, n2, c2, l2, e2, r2, s2, -⟩ := open_IntsS f2 (hw.field Tryz.underlying47 (i := 2) rfl rfl)
  injection e1 with e1; injection e2 with e2
  subst e1; subst e2
  simp only [List.cons.injEq, and_true] at e0
  obtain ⟨rfl, rfl, rfl, rfl⟩ := e0
  exact ⟨⟨p0, ⟨A2, n2, c2⟩⟩, ⟨d0, z1, l2⟩, rfl, ⟨r0, r2⟩, s01, s02, by show l2.length ≤ _; rw [r2.1]; exact s2⟩
theorem open_MsgS {fuel : Nat} {cs : List Value} {x : DataW H × List MemPlace} (h : DataW.trod enc Tryz.prog w base spare held fuel 49 cs = some x) (hw : Wok 49 x.1) :
    ∃ (P : MsgP) (M : MsgD), cs = msgCells P M ∧ MsgR w P M ∧ SmM M := by
  obtain ⟨xs, n, _, hx, hl, hlen, hf⟩ := DataW.trod_struct Tryz.underlying49 h
  rw [hx] at hw
  rw [cells_msg] at hl
  obtain ⟨a0, a1, a2, a3, a4, a5, a6, a7, a8, a9, b0, b1, b2, b3, b4, b5, b6, b7, rfl⟩ := list18 hl
  obtain ⟨y0, y1, y2, y3, y4, y5, y6, y7, rfl⟩ := list8 hlen
  have f0 : DataW.trod enc Tryz.prog w base spare held n 3 [a0] = some y0 := by simpa [cells_int] using hf 0 _ rfl
  have f1 : DataW.trod enc Tryz.prog w base spare held n 3 [a1] = some y1 := by simpa [cells_int] using hf 1 _ rfl
  have f2 : DataW.trod enc Tryz.prog w base spare held n 3 [a2] = some y2 := by simpa [cells_int] using hf 2 _ rfl
  have f3 : DataW.trod enc Tryz.prog w base spare held n 3 [a3] = some y3 := by simpa [cells_int] using hf 3 _ rfl
  have f4 : DataW.trod enc Tryz.prog w base spare held n 43 [a4, a5, a6] = some y4 := by simpa [cells_int, cells_batch] using hf 4 _ rfl
  have f5 : DataW.trod enc Tryz.prog w base spare held n 45 [a7, a8, a9, b0] = some y5 := by simpa [cells_int, cells_batch, cells_header] using hf 5 _ rfl
  have f6 : DataW.trod enc Tryz.prog w base spare held n 47 [b1, b2, b3, b4, b5, b6] = some y6 := by simpa [cells_int, cells_batch, cells_header, cells_cert] using hf 6 _ rfl
  have f7 : DataW.trod enc Tryz.prog w base spare held n 25 [b7] = some y7 := by simpa [cells_int, cells_batch, cells_header, cells_cert, cells_ints] using hf 7 _ rfl
  obtain ⟨z0, e0⟩ := open_Int f0
  obtain ⟨z1, e1⟩ := open_Int f1
  obtain ⟨z2, e2⟩ := open_Int f2
  obtain ⟨z3, e3⟩ := open_Int f3
  obtain ⟨bt, A, m, c, e4, r4, s4⟩ := open_BatchS f4 (hw.field Tryz.underlying49 (i := 4) (f := 43) rfl rfl)
  obtain ⟨hp, hd, e5, r5, s51, s52⟩ := open_HeaderS f5 (hw.field Tryz.underlying49 (i := 5) (f := 45) rfl rfl)
  obtain ⟨cp, cd, e6, r6, s61, s62, s63⟩ := open_CertS f6 (hw.field Tryz.underlying49 (i := 6) (f := 47) rfl rfl)
  obtain ⟨A7, n7, c7, l7, e7, r7, s7, -⟩ := open_IntsS f7 (hw.field Tryz.underlying49 (i := 7) (f := 25) rfl rfl)
  simp only [List.cons.injEq, and_true] at e0 e1 e2 e3 e4 e5 e6 e7
  obtain ⟨rfl, rfl, rfl⟩ := e4
  obtain ⟨rfl, rfl, rfl, rfl⟩ := e5
  obtain ⟨rfl, rfl, rfl, rfl, rfl, rfl⟩ := e6
  subst e0; subst e1; subst e2; subst e3; subst e7
  exact ⟨⟨⟨A, m, c⟩, hp, cp, ⟨A7, n7, c7⟩⟩, ⟨z0, z1, z2, z3, bt, hd, cd, l7⟩, rfl, ⟨r4, r5, r6, r7⟩, ⟨s4, s51, s52, s61, s62, s63, by show l7.length ≤ _; rw [r7.1]; exact s7⟩⟩
theorem open_WaitsS {fuel : Nat} {cs : List Value} {x : DataW H × List MemPlace} (h : DataW.trod enc Tryz.prog w base spare held fuel 23 cs = some x) (hw : Wok 23 x.1) : ∃ A n c l, cs = [.slice A n c] ∧ WaitsR w A n l ∧ n ≤ 17592186044416 ∧ ∀ v ∈ l, SmW v := by
  obtain ⟨A, n, c, l, e, h1, h2, h3, h4, h5⟩ := open_deepS (α := WaitD) (k := 2) (kb := 32) (G := SmW) (R := fun cs v => ∃ (B : Option Addr) (m d : Nat), cs = [.int .i64 v.di, .slice B m d] ∧ IntsR w B m v.ak) (by omega) (by omega) Tryz.underlying23 cells_wait bytes_wait (fun fuel cs x h hw hl => by
    obtain ⟨v0, v1, rfl⟩ := list2 hl
    obtain ⟨xs, n, _, hx, hl', hlen, hf⟩ := DataW.trod_struct Tryz.underlying56 h
    rw [hx] at hw
    obtain ⟨y0, y1, rfl⟩ := list2 hlen
    have f0 : DataW.trod enc Tryz.prog w base spare held n 3 [v0] = some y0 := by simpa [cells_int] using hf 0 _ rfl
    have f1 : DataW.trod enc Tryz.prog w base spare held n 25 [v1] = some y1 := by simpa [cells_int, cells_ints] using hf 1 _ rfl
    obtain ⟨z0, e0⟩ := open_Int f0
    obtain ⟨B, m, d, l1, e1, r1, s1, -⟩ := open_IntsS f1 (hw.field Tryz.underlying56 (i := 1) (f := 25) rfl rfl)
    injection e0 with e0; injection e1 with e1
    subst e0; subst e1
    exact ⟨⟨z0, l1⟩, ⟨B, m, d, rfl, r1⟩, by show l1.length ≤ _; rw [r1.1]; exact s1⟩) h hw
  refine ⟨A, n, c, l, e, ⟨h1, h2, fun hn => ?_⟩, by omega, h4⟩
  obtain ⟨b, off, e2, hb, hc⟩ := h5 hn
  refine ⟨b, off, e2, hb, fun j hj => ?_⟩
  obtain ⟨cs', _, ⟨B, m, d, rfl, ht⟩, hat⟩ := hc j hj
  exact ⟨B, m, d, ⟨hat 0 _ rfl, hat 1 _ rfl⟩, ht⟩
theorem open_JobsS {fuel : Nat} {cs : List Value} {x : DataW H × List MemPlace} (h : DataW.trod enc Tryz.prog w base spare held fuel 28 cs = some x) (hw : Wok 28 x.1) : ∃ A n c l, cs = [.slice A n c] ∧ JobsR w A n l ∧ n ≤ 17592186044416 ∧ ∀ v ∈ l, SmJ v := by
  obtain ⟨A, n, c, l, e, h1, h2, h3, h4, h5⟩ := open_deepS (α := JobD) (k := 26) (kb := 352) (G := SmJ) (R := fun cs v => ∃ (P : MsgP) (S : SlP), cs = jobCells P S v ∧ MsgR w P v.m ∧ IntsR w S.A S.n v.l) (by omega) (by omega) Tryz.underlying28 cells_job bytes_job (fun fuel cs x h hw hl => by
    obtain ⟨a0, a1, a2, a3, a4, a5, a6, a7, a8, a9, b0, b1, b2, b3, b4, b5, b6, b7, b8, b9, c0, c1, c2, c3, c4, c5, rfl⟩ := list26 hl
    obtain ⟨xs, n, _, hx, hl', hlen, hf⟩ := DataW.trod_struct Tryz.underlying51 h
    rw [hx] at hw
    obtain ⟨y0, y1, y2, y3, y4, y5, rfl⟩ := list6 hlen
    have f0 : DataW.trod enc Tryz.prog w base spare held n 3 [a0] = some y0 := by simpa [cells_int] using hf 0 _ rfl
    have f1 : DataW.trod enc Tryz.prog w base spare held n 3 [a1] = some y1 := by simpa [cells_int] using hf 1 _ rfl
    have f2 : DataW.trod enc Tryz.prog w base spare held n 41 [a2, a3, a4, a5] = some y2 := by simpa [cells_int, cells_tx] using hf 2 _ rfl
    have f3 : DataW.trod enc Tryz.prog w base spare held n 49 [a6, a7, a8, a9, b0, b1, b2, b3, b4, b5, b6, b7, b8, b9, c0, c1, c2, c3] = some y3 := by simpa [cells_int, cells_tx, cells_msg] using hf 3 _ rfl
    have f4 : DataW.trod enc Tryz.prog w base spare held n 4 [c4] = some y4 := by simpa [cells_int, cells_tx, cells_msg, cells_bool] using hf 4 _ rfl
    have f5 : DataW.trod enc Tryz.prog w base spare held n 25 [c5] = some y5 := by simpa [cells_int, cells_tx, cells_msg, cells_bool, cells_ints] using hf 5 _ rfl
    obtain ⟨z0, e0⟩ := open_Int f0
    obtain ⟨z1, e1⟩ := open_Int f1
    obtain ⟨z2, e2, s2⟩ := open_TxS f2 (hw.field Tryz.underlying51 (i := 2) (f := 41) rfl rfl)
    obtain ⟨P, M, e3, r3, s3⟩ := open_MsgS f3 (hw.field Tryz.underlying51 (i := 3) (f := 49) rfl rfl)
    obtain ⟨z4, e4⟩ := trod_bool Tryz.underlying4 f4
    obtain ⟨B, m, d, l5, e5, r5, s5, -⟩ := open_IntsS f5 (hw.field Tryz.underlying51 (i := 5) (f := 25) rfl rfl)
    injection e0 with e0; injection e1 with e1; injection e4 with e4; injection e5 with e5
    subst e0; subst e1; subst e4; subst e5
    refine ⟨⟨z0, z1, z2, M, z4, l5⟩, ⟨P, ⟨B, m, d⟩, ?_, r3, r5⟩, ⟨s2, s3, by show l5.length ≤ _; rw [r5.1]; exact s5⟩⟩
    rw [jobCells_eq, ← e2, ← e3]; rfl) h hw
  refine ⟨A, n, c, l, e, ⟨h1, h2, fun hn => ?_⟩, by omega, h4⟩
  obtain ⟨b, off, e2, hb, hc⟩ := h5 hn
  refine ⟨b, off, e2, hb, fun j hj => ?_⟩
  obtain ⟨cs', _, ⟨P, S, rfl, r1, r2⟩, hat⟩ := hc j hj
  exact ⟨P, S, fun r u hu => hat r u hu, r1, r2⟩
theorem open_JScr {r : Reach} {b0 : Nat} {v : Value} {d : DataW H} {p : List MemPlace} (hv : Value.okWide Tryz.prog w r b0 30 v) (h : DataW.Trod enc Tryz.prog w base spare held 30 v d p) (hw : Wok 30 d) :
    ∃ (P : JScrP) (D : JScrD), v = P.val D ∧ JScrR w P D := by
  obtain ⟨cs, rfl, hsz⟩ := okWide_struct Tryz.underlying30 hv
  obtain ⟨l⟩ := cs
  rw [cells_jscr] at hsz
  obtain ⟨v0, v1, v2, v3, v4, v5, v6, v7, v8, v9, rfl⟩ := list10 hsz
  obtain ⟨fuel, hfu⟩ := h
  obtain ⟨xs, n, _, hx, hl, hlen, hf⟩ := DataW.trod_struct Tryz.underlying30 hfu
  have hx2 := congrArg Prod.fst hx
  dsimp only at hx2
  rw [hx2] at hw
  obtain ⟨y0, y1, rfl⟩ := list2 hlen
  have f0 : DataW.trod enc Tryz.prog w base spare held n 27 [v0, v1, v2, v3, v4, v5, v6, v7, v8] = some y0 := by simpa [cells_worker, Value.cells] using hf 0 _ rfl
  have f1 : DataW.trod enc Tryz.prog w base spare held n 28 [v9] = some y1 := by simpa [cells_worker, cells_jobs, Value.cells] using hf 1 _ rfl
  have w0 := hw.field Tryz.underlying30 (i := 0) (f := 27) rfl rfl
  have w1 := hw.field Tryz.underlying30 (i := 1) (f := 28) rfl rfl
  obtain ⟨xe, ne, _, hxe, hle, hlene, hfe⟩ := DataW.trod_struct Tryz.underlying27 f0
  obtain ⟨x0, x1, x2, x3, x4, x5, x6, x7, x8, rfl⟩ := list9 hlene
  rw [hxe] at w0
  dsimp only at w0
  have g0 : DataW.trod enc Tryz.prog w base spare held ne 3 [v0] = some x0 := by simpa [cells_int] using hfe 0 _ rfl
  have g1 : DataW.trod enc Tryz.prog w base spare held ne 3 [v1] = some x1 := by simpa [cells_int] using hfe 1 _ rfl
  have g2 : DataW.trod enc Tryz.prog w base spare held ne 3 [v2] = some x2 := by simpa [cells_int] using hfe 2 _ rfl
  have g3 : DataW.trod enc Tryz.prog w base spare held ne 22 [v3] = some x3 := by simpa [cells_int, cells_txs] using hfe 3 _ rfl
  have g4 : DataW.trod enc Tryz.prog w base spare held ne 3 [v4] = some x4 := by simpa [cells_int, cells_txs] using hfe 4 _ rfl
  have g5 : DataW.trod enc Tryz.prog w base spare held ne 3 [v5] = some x5 := by simpa [cells_int, cells_txs] using hfe 5 _ rfl
  have g6 : DataW.trod enc Tryz.prog w base spare held ne 23 [v6] = some x6 := by simpa [cells_int, cells_txs, cells_waits] using hfe 6 _ rfl
  have g7 : DataW.trod enc Tryz.prog w base spare held ne 24 [v7] = some x7 := by simpa [cells_int, cells_txs, cells_waits, cells_helds] using hfe 7 _ rfl
  have g8 : DataW.trod enc Tryz.prog w base spare held ne 25 [v8] = some x8 := by simpa [cells_int, cells_txs, cells_waits, cells_helds, cells_ints] using hfe 8 _ rfl
  obtain ⟨z0, e0⟩ := open_Int g0
  obtain ⟨z1, e1⟩ := open_Int g1
  obtain ⟨z2, e2⟩ := open_Int g2
  obtain ⟨A3, n3, c3, l3, e3, a1, a2, a3, a4, a5, a6⟩ := open_flatS (e := encX) (G := SmX) encX_len (by omega) Tryz.underlying22 cells_tx bytes_tx (fun _ _ _ h hw => open_TxS h hw) g3 (w0.field Tryz.underlying27 (i := 3) (f := 22) rfl rfl)
  obtain ⟨z4, e4⟩ := open_Int g4
  obtain ⟨z5, e5⟩ := open_Int g5
  obtain ⟨A6, n6, c6, l6, e6, r6, s6, t6⟩ := open_WaitsS g6 (w0.field Tryz.underlying27 (i := 6) (f := 23) rfl rfl)
  obtain ⟨A7, n7, c7, l7, e7, r7, s7, t7⟩ := open_HeldsS g7 (w0.field Tryz.underlying27 (i := 7) (f := 24) rfl rfl)
  obtain ⟨A8, n8, c8, l8, e8, r8, s8, t8⟩ := open_IntsS g8 (w0.field Tryz.underlying27 (i := 8) (f := 25) rfl rfl)
  obtain ⟨A9, n9, c9, l9, e9, r9, s9, t9⟩ := open_JobsS f1 w1
  simp only [List.cons.injEq, and_true] at e0 e1 e2 e3 e4 e5 e6 e7 e8 e9
  subst e0; subst e1; subst e2; subst e3; subst e4; subst e5; subst e6; subst e7; subst e8; subst e9
  exact ⟨⟨⟨⟨A3, n3, c3⟩, ⟨A6, n6, c6⟩, ⟨A7, n7, c7⟩, ⟨A8, n8, c8⟩⟩, ⟨A9, n9, c9⟩⟩, ⟨⟨z0, z1, z2, l3, z4, z5, l6, l7, l8⟩, l9⟩, rfl,
    { wk := { op := ⟨a1, a2⟩, wa := r6, he := r7, re := r8, oc := a3, om := a4, rc := t8 }, l := r9, so := by show n3 ≤ _; omega, sw := s6, sh := s7, sr := s8, sl := s9, go := a6, gw := t6, gh := t7, gl := t9 }⟩
end
open Go.RowKit

/-- How an element lies (k cells; β: where its lists lie), and what it is to own its lists from block B on. -/
structure DeepT (α β : Type) where
  t : TypeId
  k : Nat
  enc : α → β → List Value
  inner : World → Nat → β → α → Prop
  k0 : 0 < k
  len : ∀ x p, (enc x p).length = k
  one : ∀ {w B p x}, inner w B p x → ∀ u ∈ enc x p, u.oneCell' = true
  up : ∀ {w w' B p x}, inner w B p x → Below w.heap.size w w' → inner w' B p x
  mono : ∀ {w B B' p x}, inner w B p x → B' ≤ B → inner w B' p x
  low : ∀ {w B p x} {b o : Nat} {u : Value}, inner w B p x → b < B → inner (w.setCell ⟨b, o, none⟩ u) B p x
  grown : ∀ {w w' B B' p x} {v : Value} {n : Nat} {xs : List Value}, inner w B p x → w.ownsRow B' t k v n xs → w.grownBy w' v.ownBlock → inner w' B p x
theorem flatK {k : Nat} : ∀ (ll : List (List Value)), (∀ x ∈ ll, x.length = k) → ∀ (j r : Nat), r < k → ll.flatten[j * k + r]? = (ll[j]?).bind (·[r]?)
  | [], _, j, r, _ => by simp
  | x :: ll, h, 0, r, hr => by
    have hx := h x (by simp)
    simp [List.getElem?_append, hx, hr]
  | x :: ll, h, j + 1, r, hr => by
    have hx := h x (by simp)
    have ih := flatK ll (fun y hy => h y (by simp [hy])) j r hr
    simp only [List.flatten_cons, List.getElem?_cons_succ]
    rw [List.getElem?_append_right (by rw [hx, Nat.succ_mul]; omega), show (j + 1) * k + r - x.length = j * k + r by rw [hx, Nat.succ_mul]; omega, ih]
section
variable {α β : Type} (T : DeepT α β)
def dcells (l : List α) (ps : List β) : List Value := (List.zipWith T.enc l ps).flatten
theorem dcells_len : ∀ {l : List α} {ps : List β}, ps.length = l.length → (dcells T l ps).length = l.length * T.k
  | [], [], _ => by simp [dcells]
  | x :: l, p :: ps, h => by
    have ih := dcells_len (l := l) (ps := ps) (by simpa using h)
    unfold dcells at ih ⊢
    rw [List.zipWith_cons_cons, List.flatten_cons, List.length_append, ih, T.len, List.length_cons, Nat.succ_mul]
    omega
theorem dcells_snoc {l : List α} {ps : List β} (h : ps.length = l.length) (x : α) (p : β) : dcells T (l ++ [x]) (ps ++ [p]) = dcells T l ps ++ T.enc x p := by
  unfold dcells
  rw [List.zipWith_append h.symm]; simp
end
section
variable {α β : Type} [Inhabited α] [Inhabited β] (T : DeepT α β)
theorem dcells_at {l : List α} {ps : List β} (h : ps.length = l.length) {j r : Nat} (hj : j < l.length) (hr : r < T.k) : (dcells T l ps)[j * T.k + r]? = (T.enc (l.getD j default) (ps.getD j default))[r]? := by
  unfold dcells
  rw [flatK _ (by intro x hx; obtain ⟨i, hi, rfl⟩ := List.getElem_of_mem hx; simp [T.len]) j r hr]
  simp [List.getElem?_zipWith, show j < ps.length by omega, hj]
/-- The slice value v owns, in blocks from B on, these elements and their lists. -/
def OwnT (w : World) (B : Nat) (v : Value) (ps : List β) (l : List α) : Prop :=
  w.ownsRow B T.t T.k v l.length (dcells T l ps) ∧ ps.length = l.length ∧ ∀ j, j < l.length → T.inner w B (ps.getD j default) (l.getD j default)
variable {T}
theorem OwnT.nil (w : World) (B : Nat) : OwnT T w B (.slice none 0 0) [] [] := ⟨World.ownsRow_nil w B _ _, rfl, fun j hj => absurd hj (by simp)⟩
theorem OwnT.up {w w' : World} {B : Nat} {v : Value} {ps : List β} {l : List α} (h : OwnT T w B v ps l) (hb : Below w.heap.size w w') : OwnT T w' B v ps l := ⟨own_up h.1 hb, h.2.1, fun j hj => T.up (h.2.2 j hj) hb⟩
theorem OwnT.mono {w : World} {B B' : Nat} {v : Value} {ps : List β} {l : List α} (h : OwnT T w B v ps l) (hB : B' ≤ B) : OwnT T w B' v ps l := ⟨own_mono h.1 hB, h.2.1, fun j hj => T.mono (h.2.2 j hj) hB⟩
theorem OwnT.low {w : World} {B b o : Nat} {v u : Value} {ps : List β} {l : List α} (h : OwnT T w B v ps l) (hp : b < B) : OwnT T (w.setCell ⟨b, o, none⟩ u) B v ps l := ⟨own_set3 h.1 hp u, h.2.1, fun j hj => T.low (h.2.2 j hj) hp⟩
theorem OwnT.snoc {w w' : World} {B : Nat} {v v' : Value} {ps : List β} {l : List α} {x : α} {p : β} (h : OwnT T w B v ps l) (hin : T.inner w B p x) (hown : w'.ownsRow B T.t T.k v' (l.length + 1) (dcells T l ps ++ T.enc x p)) (hg : w.grownBy w' v.ownBlock) : OwnT T w' B v' (ps ++ [p]) (l ++ [x]) := by
  refine ⟨by rw [dcells_snoc T h.2.1]; simpa using hown, by simp [h.2.1], fun j hj => ?_⟩
  rcases Nat.lt_or_ge j l.length with hj' | hj'
  · have e1 : (ps ++ [p]).getD j default = ps.getD j default := by simp [List.getElem?_append, h.2.1, hj']
    have e2 : (l ++ [x]).getD j default = l.getD j default := by simp [List.getElem?_append, hj']
    rw [e1, e2]
    exact T.grown (h.2.2 j hj') h.1 hg
  · obtain rfl : j = l.length := by simp at hj; omega
    have e1 : (ps ++ [p]).getD l.length default = p := by rw [← h.2.1]; simp
    have e2 : (l ++ [x]).getD l.length default = x := by simp
    rw [e1, e2]
    exact T.grown hin h.1 hg
/-- What is read of such a row. -/
theorem OwnT.read {w : World} {B : Nat} {v : Value} {ps : List β} {l : List α} (h : OwnT T w B v ps l) : ∃ A c, v = .slice A l.length c ∧ l.length ≤ c ∧ c ≤ maxLen ∧ (0 < l.length → ∃ b, A = some ⟨b, 0, none⟩ ∧ B ≤ b ∧ b < w.heap.size ∧ ∀ j, j < l.length → ∀ r u, (T.enc (l.getD j default) (ps.getD j default))[r]? = some u → w.cell? ⟨b, 0 + j * T.k + r, none⟩ = some u) := by
  rcases h.1.2 with ⟨rfl, hn⟩ | ⟨g, cap, cur, rfl, hb, hgg, h1, h2, h3⟩
  · exact ⟨_, _, by rw [hn], by omega, by simp [maxLen], fun h0 => by omega⟩
  · refine ⟨_, _, rfl, h1, h2, fun h0 => ⟨g, rfl, hb, (Array.getElem?_eq_some_iff.1 hgg).1, fun j hj r u hu => ?_⟩⟩
    have hr : r < T.k := by have := (List.getElem?_eq_some_iff.1 hu).1; rw [T.len] at this; exact this
    have := World.ownsRow.cells h.1 (g := g) rfl (j * T.k + r) u (by rw [dcells_at T h.2.1 hj hr]; exact hu)
    rw [Nat.zero_add]
    simpa [Addr.add_lit] using this
end

theorem OwnX.shape {w : World} {B : Nat} {v : Value} {l : List TxD} (h : OwnX w B v l) : v.oneCell' = true := by
  rcases own_shape h with ⟨rfl, _⟩ | ⟨g, c, rfl, _⟩ <;> rfl
theorem OwnI.shape1 {w : World} {B : Nat} {v : Value} {l : List Int} (h : OwnI w B v l) : v.oneCell' = true := by
  rcases own_shape h with ⟨rfl, _⟩ | ⟨g, c, rfl, _⟩ <;> rfl
theorem own_typeB {w : World} {B k n : Nat} {t : TypeId} {v : Value} {xs : List Value} (h : w.ownsRow B t k v n xs) : ∀ g, v.ownBlock = some g → g < w.heap.size ∧ ∃ cur, w.heap[g]? = some (.cells cur t (0, 0)) := by
  intro g hg
  rcases h.2 with ⟨rfl, _⟩ | ⟨g', cap, cur, rfl, hb, hgg, rest⟩
  · cases hg
  · simp only [Value.ownBlock, Option.map_some] at hg
    injection hg with hg
    subst hg
    exact ⟨(Array.getElem?_eq_some_iff.1 hgg).1, cur, hgg⟩
theorem own_farT {w w' : World} {B B' k k' n n' : Nat} {t t' : TypeId} {u v : Value} {xs ys : List Value} (h : w.ownsRow B t k u n xs) (hv : w.ownsRow B' t' k' v n' ys) (hne : t ≠ t') (hg : w.grownBy w' v.ownBlock) : w'.ownsRow B t k u n xs := by
  refine ⟨h.1, ?_⟩
  rcases h.2 with hn | ⟨g, cap, cur, rfl, hb, hgg, rest⟩
  · exact .inl hn
  · refine .inr ⟨g, cap, cur, rfl, hb, ?_, rest⟩
    rw [hg.block g (Array.getElem?_eq_some_iff.1 hgg).1 (fun e => ?_)]
    · exact hgg
    · obtain ⟨_, c2, e2⟩ := own_typeB hv g e.symm
      rw [hgg] at e2
      injection e2 with e2
      injection e2 with _ e3 _
      exact hne e3
def dHeld : DeepT HeldD Value where
  t := 101
  k := 4
  enc := fun x p => [.int .i64 x.di, .int .i64 x.b.au, .int .i64 x.b.n, p]
  inner := fun w B p x => OwnX w B p x.b.tx
  k0 := by omega
  len := fun _ _ => rfl
  one := fun h u hu => by
    simp only [List.mem_cons, List.not_mem_nil, or_false] at hu
    rcases hu with rfl | rfl | rfl | rfl
    · rfl
    · rfl
    · rfl
    · exact h.shape
  up := fun h hb => h.up hb
  mono := fun h hB => h.mono hB
  low := fun h hp => h.set3 hp _
  grown := fun h hv hg => own_farT h hv (by decide) hg
def dWait : DeepT WaitD Value where
  t := 56
  k := 2
  enc := fun x p => [.int .i64 x.di, p]
  inner := fun w B p x => OwnI w B p x.ak
  k0 := by omega
  len := fun _ _ => rfl
  one := fun h u hu => by
    simp only [List.mem_cons, List.not_mem_nil, or_false] at hu
    rcases hu with rfl | rfl
    · rfl
    · exact h.shape1
  up := fun h hb => h.up hb
  mono := fun h hB => h.mono hB
  low := fun h hp => h.set hp _
  grown := fun h hv hg => own_farT h hv (by decide) hg
instance : Inhabited Value := ⟨.slice none 0 0⟩
def OwnHs (w : World) (B : Nat) (v : Value) (l : List HeldD) : Prop := ∃ ps, OwnT dHeld w B v ps l
def OwnWs (w : World) (B : Nat) (v : Value) (l : List WaitD) : Prop := ∃ ps, OwnT dWait w B v ps l
theorem OwnHs.up {w w' : World} {B : Nat} {v : Value} {l : List HeldD} (h : OwnHs w B v l) (hb : Below w.heap.size w w') : OwnHs w' B v l := let ⟨ps, h⟩ := h; ⟨ps, h.up hb⟩
theorem OwnWs.up {w w' : World} {B : Nat} {v : Value} {l : List WaitD} (h : OwnWs w B v l) (hb : Below w.heap.size w w') : OwnWs w' B v l := let ⟨ps, h⟩ := h; ⟨ps, h.up hb⟩
theorem OwnHs.mono {w : World} {B B' : Nat} {v : Value} {l : List HeldD} (h : OwnHs w B v l) (hB : B' ≤ B) : OwnHs w B' v l := let ⟨ps, h⟩ := h; ⟨ps, h.mono hB⟩
theorem OwnWs.mono {w : World} {B B' : Nat} {v : Value} {l : List WaitD} (h : OwnWs w B v l) (hB : B' ≤ B) : OwnWs w B' v l := let ⟨ps, h⟩ := h; ⟨ps, h.mono hB⟩
theorem OwnHs.low {w : World} {B b o : Nat} {v u : Value} {l : List HeldD} (h : OwnHs w B v l) (hp : b < B) : OwnHs (w.setCell ⟨b, o, none⟩ u) B v l := let ⟨ps, h⟩ := h; ⟨ps, h.low hp⟩
theorem OwnWs.low {w : World} {B b o : Nat} {v u : Value} {l : List WaitD} (h : OwnWs w B v l) (hp : b < B) : OwnWs (w.setCell ⟨b, o, none⟩ u) B v l := let ⟨ps, h⟩ := h; ⟨ps, h.low hp⟩
theorem OwnHs.nil (w : World) (B : Nat) : OwnHs w B (.slice none 0 0) [] := ⟨[], OwnT.nil _ _⟩
theorem OwnWs.nil (w : World) (B : Nat) : OwnWs w B (.slice none 0 0) [] := ⟨[], OwnT.nil _ _⟩
def BigH (l : List HeldD) : Prop := l.length ≤ 800000000 ∧ ∀ x ∈ l, x.b.tx.length ≤ 800000000
def BigW (l : List WaitD) : Prop := l.length ≤ 800000000 ∧ ∀ x ∈ l, x.ak.length ≤ 800000000
theorem getD_mem {α : Type} [Inhabited α] {l : List α} {j : Nat} (h : j < l.length) : l.getD j default ∈ l := by simp [h]
theorem OwnHs.helds {w : World} {B : Nat} {v : Value} {l : List HeldD} (h : OwnHs w B v l) (hs : BigH l) : ∃ A c, v = .slice A l.length c ∧ HeldsR w A l.length l ∧ l.length ≤ c ∧ c ≤ 9223372036854775807 := by
  obtain ⟨ps, h⟩ := h
  obtain ⟨A, c, e, h1, h2, h3⟩ := h.read
  refine ⟨A, c, e, ⟨rfl, by have := hs.1; omega, fun h0 => ?_⟩, h1, by simpa [maxLen] using h2⟩
  obtain ⟨b, eA, hB, hb, hc⟩ := h3 h0
  refine ⟨b, 0, eA, hb, fun j hj => ?_⟩
  have hin : OwnX w B (ps.getD j default) (l.getD j default).b.tx := h.2.2 j hj
  obtain ⟨A', c', e', hx, _⟩ := hin.txs (by have := hs.2 _ (getD_mem hj); omega)
  have hq := hc j hj
  rw [e'] at hq
  exact ⟨A', _, c', ⟨hq 0 _ rfl, hq 1 _ rfl, hq 2 _ rfl, hq 3 _ rfl⟩, hx⟩
theorem OwnWs.waits {w : World} {B : Nat} {v : Value} {l : List WaitD} (h : OwnWs w B v l) (hs : BigW l) : ∃ A c, v = .slice A l.length c ∧ WaitsR w A l.length l ∧ l.length ≤ c ∧ c ≤ 9223372036854775807 := by
  obtain ⟨ps, h⟩ := h
  obtain ⟨A, c, e, h1, h2, h3⟩ := h.read
  refine ⟨A, c, e, ⟨rfl, by have := hs.1; omega, fun h0 => ?_⟩, h1, by simpa [maxLen] using h2⟩
  obtain ⟨b, eA, hB, hb, hc⟩ := h3 h0
  refine ⟨b, 0, eA, hb, fun j hj => ?_⟩
  have hin : OwnI w B (ps.getD j default) (l.getD j default).ak := h.2.2 j hj
  obtain ⟨A', c', e', hx, _⟩ := hin.ints (by have := hs.2 _ (getD_mem hj); omega)
  have hq := hc j hj
  rw [e'] at hq
  exact ⟨A', _, c', ⟨hq 0 _ rfl, hq 1 _ rfl⟩, hx⟩
end Go.Proofs.YtgfakefcmbpboaaGreat
