/- Part 5 of what WorkerExact leans on. No conditions. -/
import Derived.Test.YtgfakefcmbpboaaGreatV4
namespace Go.Proofs.YtgfakefcmbpboaaGreat
set_option linter.all false
set_option maxRecDepth 100000
set_option maxHeartbeats 64000000
open _root_.Go.Proofs.Tryz Go.RowKit
instance : Coe Int Value := ⟨fun x => .int .i64 x⟩
instance : Coe Nat Value := ⟨fun x => .int .i64 (x : Int)⟩
instance : Coe SlP Value := ⟨fun s => .slice s.A s.n s.c⟩
structure Z0 where
structure N0 where
def z0 : Z0 := ⟨⟩
def n0 : N0 := ⟨⟩
instance : Coe Z0 Value := ⟨fun _ => .int .i64 0⟩
instance : Coe N0 Value := ⟨fun _ => .slice none 0 0⟩
inductive Tok where
  | cW (D : aD) (P : aF)
  | cS (D : aD) (P : aF) (uA : Option Addr) (un uc : Nat)
  | cS0 (D : aD) (P : aF)
  | cV (D : aD) (oA : Option Addr) (on oc : Nat) (tA : Option Addr) (tn tc : Nat) (eA : Option Addr) (en ec : Nat) (rA : Option Addr) (rn rc : Nat)
  | cU (D : aD) (oA : Option Addr) (on oc : Nat) (tA : Option Addr) (tn tc : Nat) (eA : Option Addr) (en ec : Nat) (rA : Option Addr) (rn rc : Nat) (uA : Option Addr) (un uc : Nat)
  | cU0 (D : aD) (oA : Option Addr) (on oc : Nat) (tA : Option Addr) (tn tc : Nat) (eA : Option Addr) (en ec : Nat) (rA : Option Addr) (rn rc : Nat)
  | cZ 
  | cY 
  | cJ (a : kF) (P : bQ) (S : SlP)
  | cM (M : aY) (P : bQ)
  | cN (ki fr tt di : Value) (b : bY) (hd : eG) (cc : mG) (bA : Option Addr) (bn bc : Nat) (xA : Option Addr) (xn xc : Nat) (yA : Option Addr) (yn yc : Nat) (cA : Option Addr) (cn cd : Nat) (dA : Option Addr) (dm dc : Nat) (sA : Option Addr) (sn sc : Nat) (eA : Option Addr) (en ec : Nat)
  | c18 
  | kW (w : World) (g : Nat) (D : aD) (P : aF)
  | kZ (w : World) (g : Nat)
  | kA (w : World) (g : Nat) (a0 a1 a2 a3 a4 a5 a6 a7 a8 : Value)
open Tok
instance {D P} : CoeDep Tok (cW D P) (List Value) := ⟨[.int .i64 D.id, .int .i64 D.nodes, .int .i64 D.next, .slice P.op.A P.op.n P.op.c, .int .i64 D.age, .int .i64 D.clock, .slice P.wa.A P.wa.n P.wa.c, .slice P.he.A P.he.n P.he.c, .slice P.re.A P.re.n P.re.c]⟩
instance {D P} : CoeDep Tok (cW D P) (Array Value) := ⟨#[.int .i64 D.id, .int .i64 D.nodes, .int .i64 D.next, .slice P.op.A P.op.n P.op.c, .int .i64 D.age, .int .i64 D.clock, .slice P.wa.A P.wa.n P.wa.c, .slice P.he.A P.he.n P.he.c, .slice P.re.A P.re.n P.re.c]⟩
instance {D P uA un uc} : CoeDep Tok (cS D P uA un uc) (List Value) := ⟨[.int .i64 D.id, .int .i64 D.nodes, .int .i64 D.next, .slice P.op.A P.op.n P.op.c, .int .i64 D.age, .int .i64 D.clock, .slice P.wa.A P.wa.n P.wa.c, .slice P.he.A P.he.n P.he.c, .slice P.re.A P.re.n P.re.c, .slice uA un uc]⟩
instance {D P uA un uc} : CoeDep Tok (cS D P uA un uc) (Array Value) := ⟨#[.int .i64 D.id, .int .i64 D.nodes, .int .i64 D.next, .slice P.op.A P.op.n P.op.c, .int .i64 D.age, .int .i64 D.clock, .slice P.wa.A P.wa.n P.wa.c, .slice P.he.A P.he.n P.he.c, .slice P.re.A P.re.n P.re.c, .slice uA un uc]⟩
instance {D P} : CoeDep Tok (cS0 D P) (List Value) := ⟨[.int .i64 D.id, .int .i64 D.nodes, .int .i64 D.next, .slice P.op.A P.op.n P.op.c, .int .i64 D.age, .int .i64 D.clock, .slice P.wa.A P.wa.n P.wa.c, .slice P.he.A P.he.n P.he.c, .slice P.re.A P.re.n P.re.c, .slice none 0 0]⟩
instance {D P} : CoeDep Tok (cS0 D P) (Array Value) := ⟨#[.int .i64 D.id, .int .i64 D.nodes, .int .i64 D.next, .slice P.op.A P.op.n P.op.c, .int .i64 D.age, .int .i64 D.clock, .slice P.wa.A P.wa.n P.wa.c, .slice P.he.A P.he.n P.he.c, .slice P.re.A P.re.n P.re.c, .slice none 0 0]⟩
instance {D oA on oc tA tn tc eA en ec rA rn rc} : CoeDep Tok (cV D oA on oc tA tn tc eA en ec rA rn rc) (List Value) := ⟨[.int .i64 D.id, .int .i64 D.nodes, .int .i64 D.next, .slice oA on oc, .int .i64 D.age, .int .i64 D.clock, .slice tA tn tc, .slice eA en ec, .slice rA rn rc]⟩
instance {D oA on oc tA tn tc eA en ec rA rn rc} : CoeDep Tok (cV D oA on oc tA tn tc eA en ec rA rn rc) (Array Value) := ⟨#[.int .i64 D.id, .int .i64 D.nodes, .int .i64 D.next, .slice oA on oc, .int .i64 D.age, .int .i64 D.clock, .slice tA tn tc, .slice eA en ec, .slice rA rn rc]⟩
instance {D oA on oc tA tn tc eA en ec rA rn rc uA un uc} : CoeDep Tok (cU D oA on oc tA tn tc eA en ec rA rn rc uA un uc) (List Value) := ⟨[.int .i64 D.id, .int .i64 D.nodes, .int .i64 D.next, .slice oA on oc, .int .i64 D.age, .int .i64 D.clock, .slice tA tn tc, .slice eA en ec, .slice rA rn rc, .slice uA un uc]⟩
instance {D oA on oc tA tn tc eA en ec rA rn rc uA un uc} : CoeDep Tok (cU D oA on oc tA tn tc eA en ec rA rn rc uA un uc) (Array Value) := ⟨#[.int .i64 D.id, .int .i64 D.nodes, .int .i64 D.next, .slice oA on oc, .int .i64 D.age, .int .i64 D.clock, .slice tA tn tc, .slice eA en ec, .slice rA rn rc, .slice uA un uc]⟩
instance {D oA on oc tA tn tc eA en ec rA rn rc} : CoeDep Tok (cU0 D oA on oc tA tn tc eA en ec rA rn rc) (List Value) := ⟨[.int .i64 D.id, .int .i64 D.nodes, .int .i64 D.next, .slice oA on oc, .int .i64 D.age, .int .i64 D.clock, .slice tA tn tc, .slice eA en ec, .slice rA rn rc, .slice none 0 0]⟩
instance {D oA on oc tA tn tc eA en ec rA rn rc} : CoeDep Tok (cU0 D oA on oc tA tn tc eA en ec rA rn rc) (Array Value) := ⟨#[.int .i64 D.id, .int .i64 D.nodes, .int .i64 D.next, .slice oA on oc, .int .i64 D.age, .int .i64 D.clock, .slice tA tn tc, .slice eA en ec, .slice rA rn rc, .slice none 0 0]⟩
instance : CoeDep Tok cZ (List Value) := ⟨[.int .i64 0, .int .i64 0, .int .i64 0, .slice none 0 0, .int .i64 0, .int .i64 0, .slice none 0 0, .slice none 0 0, .slice none 0 0]⟩
instance : CoeDep Tok cZ (Array Value) := ⟨#[.int .i64 0, .int .i64 0, .int .i64 0, .slice none 0 0, .int .i64 0, .int .i64 0, .slice none 0 0, .slice none 0 0, .slice none 0 0]⟩
instance : CoeDep Tok cY (List Value) := ⟨[.int .i64 0, .int .i64 0, .int .i64 0, .slice none 0 0, .int .i64 0, .int .i64 0, .slice none 0 0, .slice none 0 0, .slice none 0 0, .slice none 0 0]⟩
instance : CoeDep Tok cY (Array Value) := ⟨#[.int .i64 0, .int .i64 0, .int .i64 0, .slice none 0 0, .int .i64 0, .int .i64 0, .slice none 0 0, .slice none 0 0, .slice none 0 0, .slice none 0 0]⟩
instance {a P S} : CoeDep Tok (cJ a P S) (List Value) := ⟨[.int .i64 a.doo, .int .i64 a.d, .int .i64 a.t.se, .int .i64 a.t.sq, .string a.t.k, .string a.t.v, .int .i64 a.m.ki, .int .i64 a.m.fr, .int .i64 a.m.tt, .int .i64 a.m.di, .int .i64 a.m.b.au, .int .i64 a.m.b.n, .slice P.b.A P.b.n P.b.c, .int .i64 a.m.h.au, .int .i64 a.m.h.ro, .slice P.h.b.A P.h.b.n P.h.b.c, .slice P.h.p.A P.h.p.n P.h.p.c, .int .i64 a.m.c.h.au, .int .i64 a.m.c.h.ro, .slice P.c.h.b.A P.c.h.b.n P.c.h.b.c, .slice P.c.h.p.A P.c.h.p.n P.c.h.p.c, .int .i64 a.m.c.di, .slice P.c.s.A P.c.s.n P.c.s.c, .slice P.ds.A P.ds.n P.ds.c, .bool a.fit, .slice S.A S.n S.c]⟩
instance {a P S} : CoeDep Tok (cJ a P S) (Array Value) := ⟨#[.int .i64 a.doo, .int .i64 a.d, .int .i64 a.t.se, .int .i64 a.t.sq, .string a.t.k, .string a.t.v, .int .i64 a.m.ki, .int .i64 a.m.fr, .int .i64 a.m.tt, .int .i64 a.m.di, .int .i64 a.m.b.au, .int .i64 a.m.b.n, .slice P.b.A P.b.n P.b.c, .int .i64 a.m.h.au, .int .i64 a.m.h.ro, .slice P.h.b.A P.h.b.n P.h.b.c, .slice P.h.p.A P.h.p.n P.h.p.c, .int .i64 a.m.c.h.au, .int .i64 a.m.c.h.ro, .slice P.c.h.b.A P.c.h.b.n P.c.h.b.c, .slice P.c.h.p.A P.c.h.p.n P.c.h.p.c, .int .i64 a.m.c.di, .slice P.c.s.A P.c.s.n P.c.s.c, .slice P.ds.A P.ds.n P.ds.c, .bool a.fit, .slice S.A S.n S.c]⟩
instance {M P} : CoeDep Tok (cM M P) (List Value) := ⟨[.int .i64 M.ki, .int .i64 M.fr, .int .i64 M.tt, .int .i64 M.di, .int .i64 M.b.au, .int .i64 M.b.n, .slice P.b.A P.b.n P.b.c, .int .i64 M.h.au, .int .i64 M.h.ro, .slice P.h.b.A P.h.b.n P.h.b.c, .slice P.h.p.A P.h.p.n P.h.p.c, .int .i64 M.c.h.au, .int .i64 M.c.h.ro, .slice P.c.h.b.A P.c.h.b.n P.c.h.b.c, .slice P.c.h.p.A P.c.h.p.n P.c.h.p.c, .int .i64 M.c.di, .slice P.c.s.A P.c.s.n P.c.s.c, .slice P.ds.A P.ds.n P.ds.c]⟩
instance {M P} : CoeDep Tok (cM M P) (Array Value) := ⟨#[.int .i64 M.ki, .int .i64 M.fr, .int .i64 M.tt, .int .i64 M.di, .int .i64 M.b.au, .int .i64 M.b.n, .slice P.b.A P.b.n P.b.c, .int .i64 M.h.au, .int .i64 M.h.ro, .slice P.h.b.A P.h.b.n P.h.b.c, .slice P.h.p.A P.h.p.n P.h.p.c, .int .i64 M.c.h.au, .int .i64 M.c.h.ro, .slice P.c.h.b.A P.c.h.b.n P.c.h.b.c, .slice P.c.h.p.A P.c.h.p.n P.c.h.p.c, .int .i64 M.c.di, .slice P.c.s.A P.c.s.n P.c.s.c, .slice P.ds.A P.ds.n P.ds.c]⟩
instance {ki fr tt di b hd cc bA bn bc xA xn xc yA yn yc cA cn cd dA dm dc sA sn sc eA en ec} : CoeDep Tok (cN ki fr tt di b hd cc bA bn bc xA xn xc yA yn yc cA cn cd dA dm dc sA sn sc eA en ec) (List Value) := ⟨[ki, fr, tt, di, .int .i64 b.au, .int .i64 b.n, .slice bA bn bc, .int .i64 hd.au, .int .i64 hd.ro, .slice xA xn xc, .slice yA yn yc, .int .i64 cc.h.au, .int .i64 cc.h.ro, .slice cA cn cd, .slice dA dm dc, .int .i64 cc.di, .slice sA sn sc, .slice eA en ec]⟩
instance {ki fr tt di b hd cc bA bn bc xA xn xc yA yn yc cA cn cd dA dm dc sA sn sc eA en ec} : CoeDep Tok (cN ki fr tt di b hd cc bA bn bc xA xn xc yA yn yc cA cn cd dA dm dc sA sn sc eA en ec) (Array Value) := ⟨#[ki, fr, tt, di, .int .i64 b.au, .int .i64 b.n, .slice bA bn bc, .int .i64 hd.au, .int .i64 hd.ro, .slice xA xn xc, .slice yA yn yc, .int .i64 cc.h.au, .int .i64 cc.h.ro, .slice cA cn cd, .slice dA dm dc, .int .i64 cc.di, .slice sA sn sc, .slice eA en ec]⟩
instance : CoeDep Tok c18 (List Value) := ⟨[.int .i64 0, .int .i64 0, .int .i64 0, .int .i64 0, .int .i64 0, .int .i64 0, .slice none 0 0, .int .i64 0, .int .i64 0, .slice none 0 0, .slice none 0 0, .int .i64 0, .int .i64 0, .slice none 0 0, .slice none 0 0, .int .i64 0, .slice none 0 0, .slice none 0 0]⟩
instance : CoeDep Tok c18 (Array Value) := ⟨#[.int .i64 0, .int .i64 0, .int .i64 0, .int .i64 0, .int .i64 0, .int .i64 0, .slice none 0 0, .int .i64 0, .int .i64 0, .slice none 0 0, .slice none 0 0, .int .i64 0, .int .i64 0, .slice none 0 0, .slice none 0 0, .int .i64 0, .slice none 0 0, .slice none 0 0]⟩
instance {w g D P} : CoeDep Tok (kW w g D P) World := ⟨(((((((((w.setCell ⟨g, 0, none⟩ (.int .i64 D.id)).setCell ⟨g, 1, none⟩ (.int .i64 D.nodes)).setCell ⟨g, 2, none⟩ (.int .i64 D.next)).setCell ⟨g, 3, none⟩ (.slice P.op.A P.op.n P.op.c)).setCell ⟨g, 4, none⟩ (.int .i64 D.age)).setCell ⟨g, 5, none⟩ (.int .i64 D.clock)).setCell ⟨g, 6, none⟩ (.slice P.wa.A P.wa.n P.wa.c)).setCell ⟨g, 7, none⟩ (.slice P.he.A P.he.n P.he.c)).setCell ⟨g, 8, none⟩ (.slice P.re.A P.re.n P.re.c))⟩
instance {w g} : CoeDep Tok (kZ w g) World := ⟨(((((((((w.setCell ⟨g, 0, none⟩ (.int .i64 0)).setCell ⟨g, 1, none⟩ (.int .i64 0)).setCell ⟨g, 2, none⟩ (.int .i64 0)).setCell ⟨g, 3, none⟩ (.slice none 0 0)).setCell ⟨g, 4, none⟩ (.int .i64 0)).setCell ⟨g, 5, none⟩ (.int .i64 0)).setCell ⟨g, 6, none⟩ (.slice none 0 0)).setCell ⟨g, 7, none⟩ (.slice none 0 0)).setCell ⟨g, 8, none⟩ (.slice none 0 0))⟩
instance {w g a0 a1 a2 a3 a4 a5 a6 a7 a8} : CoeDep Tok (kA w g a0 a1 a2 a3 a4 a5 a6 a7 a8) World := ⟨(((((((((w.setCell ⟨g, 0, none⟩ a0).setCell ⟨g, 1, none⟩ a1).setCell ⟨g, 2, none⟩ a2).setCell ⟨g, 3, none⟩ a3).setCell ⟨g, 4, none⟩ a4).setCell ⟨g, 5, none⟩ a5).setCell ⟨g, 6, none⟩ a6).setCell ⟨g, 7, none⟩ a7).setCell ⟨g, 8, none⟩ a8)⟩
theorem nW {p : Value → Value → Value → Value → Value → Value → Value → Value → Value → Prop} (D : aD) (P : aF) (f : ∀ a0 a1 a2 a3 a4 a5 a6 a7 a8, p a0 a1 a2 a3 a4 a5 a6 a7 a8) : p (.int .i64 D.id) (.int .i64 D.nodes) (.int .i64 D.next) (.slice P.op.A P.op.n P.op.c) (.int .i64 D.age) (.int .i64 D.clock) (.slice P.wa.A P.wa.n P.wa.c) (.slice P.he.A P.he.n P.he.c) (.slice P.re.A P.re.n P.re.c) := f _ _ _ _ _ _ _ _ _
theorem nZ {p : Value → Value → Value → Value → Value → Value → Value → Value → Value → Prop} (f : ∀ a0 a1 a2 a3 a4 a5 a6 a7 a8, p a0 a1 a2 a3 a4 a5 a6 a7 a8) : p (.int .i64 0) (.int .i64 0) (.int .i64 0) (.slice none 0 0) (.int .i64 0) (.int .i64 0) (.slice none 0 0) (.slice none 0 0) (.slice none 0 0) := f _ _ _ _ _ _ _ _ _
theorem gs9 {p q : Prop} {w : World} {g : Nat} {t : TypeId} {v0 v1 v2 v3 v4 v5 v6 v7 v8 : Value} (x : Blk w g t [v0, v1, v2, v3, v4, v5, v6, v7, v8]) (k : q) (h : (∀ o, w.frozen? ⟨g, o, none⟩ = false) → g < w.heap.size → w.cell? ⟨g, 0, none⟩ = some v0 → w.cell? ⟨g, 1, none⟩ = some v1 → w.cell? ⟨g, 2, none⟩ = some v2 → w.cell? ⟨g, 3, none⟩ = some v3 → w.cell? ⟨g, 4, none⟩ = some v4 → w.cell? ⟨g, 5, none⟩ = some v5 → w.cell? ⟨g, 6, none⟩ = some v6 → w.cell? ⟨g, 7, none⟩ = some v7 → w.cell? ⟨g, 8, none⟩ = some v8 → q → p := by intro qf ql q0 q1 q2 q3 q4 q5 q6 q7 q8 hq; go_simp; exact hq) : p := h x.frozen x.lt (x.box.2 0 _ rfl) (x.box.2 1 _ rfl) (x.box.2 2 _ rfl) (x.box.2 3 _ rfl) (x.box.2 4 _ rfl) (x.box.2 5 _ rfl) (x.box.2 6 _ rfl) (x.box.2 7 _ rfl) (x.box.2 8 _ rfl) k
theorem bx2 {w : World} {g : Nat} {v0 v1 : Value} (h : bX w g [v0, v1]) : w.cell? ⟨g, 0, none⟩ = some v0 ∧ w.cell? ⟨g, 1, none⟩ = some v1 := ⟨h.2 0 _ rfl, h.2 1 _ rfl⟩
theorem bx3 {w : World} {g : Nat} {v0 v1 v2 : Value} (h : bX w g [v0, v1, v2]) : w.cell? ⟨g, 0, none⟩ = some v0 ∧ w.cell? ⟨g, 1, none⟩ = some v1 ∧ w.cell? ⟨g, 2, none⟩ = some v2 := ⟨h.2 0 _ rfl, h.2 1 _ rfl, h.2 2 _ rfl⟩
theorem bx4 {w : World} {g : Nat} {v0 v1 v2 v3 : Value} (h : bX w g [v0, v1, v2, v3]) : w.cell? ⟨g, 0, none⟩ = some v0 ∧ w.cell? ⟨g, 1, none⟩ = some v1 ∧ w.cell? ⟨g, 2, none⟩ = some v2 ∧ w.cell? ⟨g, 3, none⟩ = some v3 := ⟨h.2 0 _ rfl, h.2 1 _ rfl, h.2 2 _ rfl, h.2 3 _ rfl⟩
theorem bx5 {w : World} {g : Nat} {v0 v1 v2 v3 v4 : Value} (h : bX w g [v0, v1, v2, v3, v4]) : w.cell? ⟨g, 0, none⟩ = some v0 ∧ w.cell? ⟨g, 1, none⟩ = some v1 ∧ w.cell? ⟨g, 2, none⟩ = some v2 ∧ w.cell? ⟨g, 3, none⟩ = some v3 ∧ w.cell? ⟨g, 4, none⟩ = some v4 := ⟨h.2 0 _ rfl, h.2 1 _ rfl, h.2 2 _ rfl, h.2 3 _ rfl, h.2 4 _ rfl⟩
theorem bx6 {w : World} {g : Nat} {v0 v1 v2 v3 v4 v5 : Value} (h : bX w g [v0, v1, v2, v3, v4, v5]) : w.cell? ⟨g, 0, none⟩ = some v0 ∧ w.cell? ⟨g, 1, none⟩ = some v1 ∧ w.cell? ⟨g, 2, none⟩ = some v2 ∧ w.cell? ⟨g, 3, none⟩ = some v3 ∧ w.cell? ⟨g, 4, none⟩ = some v4 ∧ w.cell? ⟨g, 5, none⟩ = some v5 := ⟨h.2 0 _ rfl, h.2 1 _ rfl, h.2 2 _ rfl, h.2 3 _ rfl, h.2 4 _ rfl, h.2 5 _ rfl⟩
theorem bx7 {w : World} {g : Nat} {v0 v1 v2 v3 v4 v5 v6 : Value} (h : bX w g [v0, v1, v2, v3, v4, v5, v6]) : w.cell? ⟨g, 0, none⟩ = some v0 ∧ w.cell? ⟨g, 1, none⟩ = some v1 ∧ w.cell? ⟨g, 2, none⟩ = some v2 ∧ w.cell? ⟨g, 3, none⟩ = some v3 ∧ w.cell? ⟨g, 4, none⟩ = some v4 ∧ w.cell? ⟨g, 5, none⟩ = some v5 ∧ w.cell? ⟨g, 6, none⟩ = some v6 := ⟨h.2 0 _ rfl, h.2 1 _ rfl, h.2 2 _ rfl, h.2 3 _ rfl, h.2 4 _ rfl, h.2 5 _ rfl, h.2 6 _ rfl⟩
theorem bx8 {w : World} {g : Nat} {v0 v1 v2 v3 v4 v5 v6 v7 : Value} (h : bX w g [v0, v1, v2, v3, v4, v5, v6, v7]) : w.cell? ⟨g, 0, none⟩ = some v0 ∧ w.cell? ⟨g, 1, none⟩ = some v1 ∧ w.cell? ⟨g, 2, none⟩ = some v2 ∧ w.cell? ⟨g, 3, none⟩ = some v3 ∧ w.cell? ⟨g, 4, none⟩ = some v4 ∧ w.cell? ⟨g, 5, none⟩ = some v5 ∧ w.cell? ⟨g, 6, none⟩ = some v6 ∧ w.cell? ⟨g, 7, none⟩ = some v7 := ⟨h.2 0 _ rfl, h.2 1 _ rfl, h.2 2 _ rfl, h.2 3 _ rfl, h.2 4 _ rfl, h.2 5 _ rfl, h.2 6 _ rfl, h.2 7 _ rfl⟩
theorem bx9 {w : World} {g : Nat} {v0 v1 v2 v3 v4 v5 v6 v7 v8 : Value} (h : bX w g [v0, v1, v2, v3, v4, v5, v6, v7, v8]) : w.cell? ⟨g, 0, none⟩ = some v0 ∧ w.cell? ⟨g, 1, none⟩ = some v1 ∧ w.cell? ⟨g, 2, none⟩ = some v2 ∧ w.cell? ⟨g, 3, none⟩ = some v3 ∧ w.cell? ⟨g, 4, none⟩ = some v4 ∧ w.cell? ⟨g, 5, none⟩ = some v5 ∧ w.cell? ⟨g, 6, none⟩ = some v6 ∧ w.cell? ⟨g, 7, none⟩ = some v7 ∧ w.cell? ⟨g, 8, none⟩ = some v8 := ⟨h.2 0 _ rfl, h.2 1 _ rfl, h.2 2 _ rfl, h.2 3 _ rfl, h.2 4 _ rfl, h.2 5 _ rfl, h.2 6 _ rfl, h.2 7 _ rfl, h.2 8 _ rfl⟩
theorem gO {w : World} {g : Nat} {v0 v1 v2 v3 v4 v5 v6 v7 v8 v9 : Value} (h : bX w g [v0, v1, v2, v3, v4, v5, v6, v7, v8, v9]) : w.cell? ⟨g, 0, none⟩ = some v0 ∧ w.cell? ⟨g, 1, none⟩ = some v1 ∧ w.cell? ⟨g, 2, none⟩ = some v2 ∧ w.cell? ⟨g, 3, none⟩ = some v3 ∧ w.cell? ⟨g, 4, none⟩ = some v4 ∧ w.cell? ⟨g, 5, none⟩ = some v5 ∧ w.cell? ⟨g, 6, none⟩ = some v6 ∧ w.cell? ⟨g, 7, none⟩ = some v7 ∧ w.cell? ⟨g, 8, none⟩ = some v8 ∧ w.cell? ⟨g, 9, none⟩ = some v9 := ⟨h.2 0 _ rfl, h.2 1 _ rfl, h.2 2 _ rfl, h.2 3 _ rfl, h.2 4 _ rfl, h.2 5 _ rfl, h.2 6 _ rfl, h.2 7 _ rfl, h.2 8 _ rfl, h.2 9 _ rfl⟩
theorem JI {w : World} {g : Nat} {v0 v1 v2 v3 v4 v5 v6 v7 v8 v9 v10 v11 : Value} (h : bX w g [v0, v1, v2, v3, v4, v5, v6, v7, v8, v9, v10, v11]) : w.cell? ⟨g, 0, none⟩ = some v0 ∧ w.cell? ⟨g, 1, none⟩ = some v1 ∧ w.cell? ⟨g, 2, none⟩ = some v2 ∧ w.cell? ⟨g, 3, none⟩ = some v3 ∧ w.cell? ⟨g, 4, none⟩ = some v4 ∧ w.cell? ⟨g, 5, none⟩ = some v5 ∧ w.cell? ⟨g, 6, none⟩ = some v6 ∧ w.cell? ⟨g, 7, none⟩ = some v7 ∧ w.cell? ⟨g, 8, none⟩ = some v8 ∧ w.cell? ⟨g, 9, none⟩ = some v9 ∧ w.cell? ⟨g, 10, none⟩ = some v10 ∧ w.cell? ⟨g, 11, none⟩ = some v11 := ⟨h.2 0 _ rfl, h.2 1 _ rfl, h.2 2 _ rfl, h.2 3 _ rfl, h.2 4 _ rfl, h.2 5 _ rfl, h.2 6 _ rfl, h.2 7 _ rfl, h.2 8 _ rfl, h.2 9 _ rfl, h.2 10 _ rfl, h.2 11 _ rfl⟩
theorem EQ {w : World} {g : Nat} {v0 v1 v2 v3 v4 v5 v6 v7 v8 v9 v10 v11 v12 v13 v14 v15 v16 v17 : Value} (h : bX w g [v0, v1, v2, v3, v4, v5, v6, v7, v8, v9, v10, v11, v12, v13, v14, v15, v16, v17]) : w.cell? ⟨g, 0, none⟩ = some v0 ∧ w.cell? ⟨g, 1, none⟩ = some v1 ∧ w.cell? ⟨g, 2, none⟩ = some v2 ∧ w.cell? ⟨g, 3, none⟩ = some v3 ∧ w.cell? ⟨g, 4, none⟩ = some v4 ∧ w.cell? ⟨g, 5, none⟩ = some v5 ∧ w.cell? ⟨g, 6, none⟩ = some v6 ∧ w.cell? ⟨g, 7, none⟩ = some v7 ∧ w.cell? ⟨g, 8, none⟩ = some v8 ∧ w.cell? ⟨g, 9, none⟩ = some v9 ∧ w.cell? ⟨g, 10, none⟩ = some v10 ∧ w.cell? ⟨g, 11, none⟩ = some v11 ∧ w.cell? ⟨g, 12, none⟩ = some v12 ∧ w.cell? ⟨g, 13, none⟩ = some v13 ∧ w.cell? ⟨g, 14, none⟩ = some v14 ∧ w.cell? ⟨g, 15, none⟩ = some v15 ∧ w.cell? ⟨g, 16, none⟩ = some v16 ∧ w.cell? ⟨g, 17, none⟩ = some v17 := ⟨h.2 0 _ rfl, h.2 1 _ rfl, h.2 2 _ rfl, h.2 3 _ rfl, h.2 4 _ rfl, h.2 5 _ rfl, h.2 6 _ rfl, h.2 7 _ rfl, h.2 8 _ rfl, h.2 9 _ rfl, h.2 10 _ rfl, h.2 11 _ rfl, h.2 12 _ rfl, h.2 13 _ rfl, h.2 14 _ rfl, h.2 15 _ rfl, h.2 16 _ rfl, h.2 17 _ rfl⟩
theorem JJ {w : World} {g : Nat} {v0 v1 v2 v3 v4 v5 v6 v7 v8 v9 v10 v11 v12 v13 v14 v15 v16 v17 v18 v19 v20 v21 v22 v23 v24 v25 : Value} (h : bX w g [v0, v1, v2, v3, v4, v5, v6, v7, v8, v9, v10, v11, v12, v13, v14, v15, v16, v17, v18, v19, v20, v21, v22, v23, v24, v25]) : w.cell? ⟨g, 0, none⟩ = some v0 ∧ w.cell? ⟨g, 1, none⟩ = some v1 ∧ w.cell? ⟨g, 2, none⟩ = some v2 ∧ w.cell? ⟨g, 3, none⟩ = some v3 ∧ w.cell? ⟨g, 4, none⟩ = some v4 ∧ w.cell? ⟨g, 5, none⟩ = some v5 ∧ w.cell? ⟨g, 6, none⟩ = some v6 ∧ w.cell? ⟨g, 7, none⟩ = some v7 ∧ w.cell? ⟨g, 8, none⟩ = some v8 ∧ w.cell? ⟨g, 9, none⟩ = some v9 ∧ w.cell? ⟨g, 10, none⟩ = some v10 ∧ w.cell? ⟨g, 11, none⟩ = some v11 ∧ w.cell? ⟨g, 12, none⟩ = some v12 ∧ w.cell? ⟨g, 13, none⟩ = some v13 ∧ w.cell? ⟨g, 14, none⟩ = some v14 ∧ w.cell? ⟨g, 15, none⟩ = some v15 ∧ w.cell? ⟨g, 16, none⟩ = some v16 ∧ w.cell? ⟨g, 17, none⟩ = some v17 ∧ w.cell? ⟨g, 18, none⟩ = some v18 ∧ w.cell? ⟨g, 19, none⟩ = some v19 ∧ w.cell? ⟨g, 20, none⟩ = some v20 ∧ w.cell? ⟨g, 21, none⟩ = some v21 ∧ w.cell? ⟨g, 22, none⟩ = some v22 ∧ w.cell? ⟨g, 23, none⟩ = some v23 ∧ w.cell? ⟨g, 24, none⟩ = some v24 ∧ w.cell? ⟨g, 25, none⟩ = some v25 := ⟨h.2 0 _ rfl, h.2 1 _ rfl, h.2 2 _ rfl, h.2 3 _ rfl, h.2 4 _ rfl, h.2 5 _ rfl, h.2 6 _ rfl, h.2 7 _ rfl, h.2 8 _ rfl, h.2 9 _ rfl, h.2 10 _ rfl, h.2 11 _ rfl, h.2 12 _ rfl, h.2 13 _ rfl, h.2 14 _ rfl, h.2 15 _ rfl, h.2 16 _ rfl, h.2 17 _ rfl, h.2 18 _ rfl, h.2 19 _ rfl, h.2 20 _ rfl, h.2 21 _ rfl, h.2 22 _ rfl, h.2 23 _ rfl, h.2 24 _ rfl, h.2 25 _ rfl⟩
theorem af1 {W v : World} (hb : Below W.heap.size W v) (z a : Nat) (hz : W.heap.size ≤ v.heap.size → z ≤ v.heap.size := by intro hq; (try simp at hq); omega) (sa : a < W.heap.size := by first | (simp; done) | (simp; omega) | omega) : z ≤ v.heap.size ∧ (∀ o, v.cell? ⟨a, o, none⟩ = W.cell? ⟨a, o, none⟩) ∧ (∀ o, v.frozen? ⟨a, o, none⟩ = W.frozen? ⟨a, o, none⟩) := ⟨hz hb.size, fun o => (aK hb).1 a o sa, fun o => (aK hb).2 a o sa⟩
theorem af2 {W v : World} (hb : Below W.heap.size W v) (z a b : Nat) (hz : W.heap.size ≤ v.heap.size → z ≤ v.heap.size := by intro hq; (try simp at hq); omega) (sa : a < W.heap.size := by first | (simp; done) | (simp; omega) | omega) (sb : b < W.heap.size := by first | (simp; done) | (simp; omega) | omega) : z ≤ v.heap.size ∧ (∀ o, v.cell? ⟨a, o, none⟩ = W.cell? ⟨a, o, none⟩) ∧ (∀ o, v.cell? ⟨b, o, none⟩ = W.cell? ⟨b, o, none⟩) ∧ (∀ o, v.frozen? ⟨a, o, none⟩ = W.frozen? ⟨a, o, none⟩) ∧ (∀ o, v.frozen? ⟨b, o, none⟩ = W.frozen? ⟨b, o, none⟩) := ⟨hz hb.size, fun o => (aK hb).1 a o sa, fun o => (aK hb).1 b o sb, fun o => (aK hb).2 a o sa, fun o => (aK hb).2 b o sb⟩
theorem af3 {W v : World} (hb : Below W.heap.size W v) (z a b c : Nat) (hz : W.heap.size ≤ v.heap.size → z ≤ v.heap.size := by intro hq; (try simp at hq); omega) (sa : a < W.heap.size := by first | (simp; done) | (simp; omega) | omega) (sb : b < W.heap.size := by first | (simp; done) | (simp; omega) | omega) (sc : c < W.heap.size := by first | (simp; done) | (simp; omega) | omega) : z ≤ v.heap.size ∧ (∀ o, v.cell? ⟨a, o, none⟩ = W.cell? ⟨a, o, none⟩) ∧ (∀ o, v.cell? ⟨b, o, none⟩ = W.cell? ⟨b, o, none⟩) ∧ (∀ o, v.cell? ⟨c, o, none⟩ = W.cell? ⟨c, o, none⟩) ∧ (∀ o, v.frozen? ⟨a, o, none⟩ = W.frozen? ⟨a, o, none⟩) ∧ (∀ o, v.frozen? ⟨b, o, none⟩ = W.frozen? ⟨b, o, none⟩) ∧ (∀ o, v.frozen? ⟨c, o, none⟩ = W.frozen? ⟨c, o, none⟩) := ⟨hz hb.size, fun o => (aK hb).1 a o sa, fun o => (aK hb).1 b o sb, fun o => (aK hb).1 c o sc, fun o => (aK hb).2 a o sa, fun o => (aK hb).2 b o sb, fun o => (aK hb).2 c o sc⟩
theorem af4 {W v : World} (hb : Below W.heap.size W v) (z a b c d : Nat) (hz : W.heap.size ≤ v.heap.size → z ≤ v.heap.size := by intro hq; (try simp at hq); omega) (sa : a < W.heap.size := by first | (simp; done) | (simp; omega) | omega) (sb : b < W.heap.size := by first | (simp; done) | (simp; omega) | omega) (sc : c < W.heap.size := by first | (simp; done) | (simp; omega) | omega) (sd : d < W.heap.size := by first | (simp; done) | (simp; omega) | omega) : z ≤ v.heap.size ∧ (∀ o, v.cell? ⟨a, o, none⟩ = W.cell? ⟨a, o, none⟩) ∧ (∀ o, v.cell? ⟨b, o, none⟩ = W.cell? ⟨b, o, none⟩) ∧ (∀ o, v.cell? ⟨c, o, none⟩ = W.cell? ⟨c, o, none⟩) ∧ (∀ o, v.cell? ⟨d, o, none⟩ = W.cell? ⟨d, o, none⟩) ∧ (∀ o, v.frozen? ⟨a, o, none⟩ = W.frozen? ⟨a, o, none⟩) ∧ (∀ o, v.frozen? ⟨b, o, none⟩ = W.frozen? ⟨b, o, none⟩) ∧ (∀ o, v.frozen? ⟨c, o, none⟩ = W.frozen? ⟨c, o, none⟩) ∧ (∀ o, v.frozen? ⟨d, o, none⟩ = W.frozen? ⟨d, o, none⟩) := ⟨hz hb.size, fun o => (aK hb).1 a o sa, fun o => (aK hb).1 b o sb, fun o => (aK hb).1 c o sc, fun o => (aK hb).1 d o sd, fun o => (aK hb).2 a o sa, fun o => (aK hb).2 b o sb, fun o => (aK hb).2 c o sc, fun o => (aK hb).2 d o sd⟩
def isS (n:Int):Bool:=decide (1≤n)&&decide (n≤16)&&decide (n % 3=1)
theorem tY {n:Int}:isS n=true↔(1≤n∧n≤16∧n % 3=1):=by simp [isS,and_assoc]
theorem gR {n:Int} (h:isS n=true):1≤n∧n≤16:=by have:=tY.1 h;omega
def mH (l:List Int):Prop:=∀j,j+1<l.length→nth l j<nth l (j+1)
def Jb (l:List Int) (lo hi:Int):Prop:=∀j,j<l.length→lo≤nth l j∧nth l j≤hi
noncomputable def Cv (l:List Int):Bool:=dec (mH l)
noncomputable def fP (l:List Int) (lo hi:Int):Bool:=dec (mH l∧Jb l lo hi)
theorem Dr (n:Int) (w:World):Calls prog 30 #[n] w fun e w'=>e=.returned (.bool (isS n))∧w=w':=by
 go_enter func30,ntmps30
 go_wp2
 all_goals (go_ret;refine ⟨aH ?_,rfl⟩;rw [Bool.eq_iff_iff,tY];simp;omega)
theorem wT (n:Int) (w:World):Calls prog 71 #[n] w fun e w'=>e=.returned (.bool (isS n))∧w=w':=by
 go_enter func71,ntmps71
 go_wp2
 all_goals (go_ret;refine ⟨aH ?_,rfl⟩;rw [Bool.eq_iff_iff,tY];simp;omega)
theorem zF (n:Int) (w:World) (h0:0≤n) (h1:n≤1000):Calls prog 117 #[n] w fun e w'=>e=.returned (.int .i64 (2*(n / 3)+1))∧w=w':=by
 go_enter func117,ntmps117
 go_wp2
 go_ret
 exact ⟨rfl,rfl⟩
theorem CT (n:Int) (w:World) (h0:1≤n) (h1:n≤1000):Calls prog 161 #[n] w fun e w'=>e=.returned (.int .i64 ((n-1) / 3))∧w=w':=by
 go_enter func161,ntmps161
 go_wp2
 go_ret
 exact ⟨rfl,rfl⟩
theorem sI (n:Int) (w:World) (h0:1≤n) (h1:n≤1000):Calls prog 149 #[n] w fun e w'=>e=.returned (.int .i64 (2*((n-1) / 3)+1))∧w=w':=by
 go_enter func149,ntmps149
 go_wp2_with (go_at_call 161;refine (CT _ _ h0 h1).mono ?_;rintro e w' ⟨rfl,rfl⟩)
 go_ret
 exact ⟨rfl,rfl⟩
theorem jJ (A:Option Addr) (n c:Nat) (l:List Int) (lo hi:Int) (w:World) (hl:aL w A n l) :
 Calls prog 111 #[.slice A n c,lo,hi] w fun e w'=>e=.returned (.bool (fP l lo hi))∧w=w':=by
 obtain ⟨h1,h2,h3⟩:=hl;have H1:=ħ h1;clear h1;go_enter func111,ntmps111
 go_wp2
 go_loop [11] (fun i=>∃k:Nat,k≤n∧i=.int .i64 k∧∀j,j<k→lo≤nth l j∧nth l j≤hi∧(0<j→nth l (j-1)<nth l j)) (fun i=>n-(intOf i).toNat)
 case atStart=>exact ⟨0,Nat.zero_le _,rfl,fun j hj=>absurd hj y2⟩
 case round=>
  obtain ⟨k,hk,rfl,hr⟩:=hrel;have HR:=ħ hr;clear hr;by_cases hlt:k<n
  · obtain ⟨b,off,rfl,_,hc⟩:=h3 y2;have hck:=hc k hlt;have hcp:0<k→w.cell? ⟨b,off+(k-1),none⟩=some (.int .i64 (nth l (k-1))):=fun h=>hc _ y2;clear hc h3
    have bad:¬(lo≤nth l k∧nth l k≤hi∧(0<k→nth l (k-1)<nth l k))→false=fP l lo hi:=fun h=>dV fun ⟨g1,g2⟩=>h ⟨(g2 k (by rw [H1.out];exact hlt)).1,(g2 k (by rw [H1.out];exact hlt)).2,fun h0=>by
     have:=g1 (k-1) (by rw [H1.out];omega)
     rwa [show k-1+1=k from by omega] at this⟩
    have B:=ħ bad;clear bad
    go_wp2
    all_goals first
     | (
      go_round
      case rel=>
       refine ⟨k+1,by omega,by go_num,fun j hj=>?_⟩;by_cases hjk:j=k
       · subst hjk;exact ⟨by omega,by omega,by omega⟩
       · exact HR.out j y2
      case measure=>simp [intOf];omega)
     | (go_ret;exact ⟨aH (B.out y2),rfl⟩)
  · go_wp2
    go_ret
    refine ⟨aH (sJ ⟨fun j hj=>?_,fun j hj=>?_⟩),rfl⟩
    · rw [H1.out] at hj;have:=(HR.out (j+1) y2).2.2 y2;simpa using this
    · rw [H1.out] at hj;have:=HR.out j y2;exact ⟨this.1,this.2.1⟩
theorem wS (A:Option Addr) (n c:Nat) (l:List Int) (w:World) (hl:aL w A n l) :
 Calls prog 152 #[.slice A n c] w fun e w'=>e=.returned (.bool (fP l 1 65536))∧w=w':=by
 go_enter func152,ntmps152
 go_wp2_with (go_at_call 111;refine (jJ _ _ _ l _ _ _ hl).mono ?_;rintro e w' ⟨rfl,rfl⟩)
 go_ret
 exact ⟨rfl,rfl⟩
theorem sO (A:Option Addr) (n c:Nat) (l:List Int) (w:World) (hl:aL w A n l) :
 Calls prog 37 #[.slice A n c] w fun e w'=>e=.returned (.bool (Cv l))∧Below w w w':=by
 obtain ⟨h1,h2,h3⟩:=hl;have H1:=ħ h1;clear h1;go_enter func37,ntmps37
 go_wp2
 go_loopw [3] (fun i wr=>∃k:Nat,1≤k∧(k≤n∨k=1)∧i=.int .i64 k∧(∀j,j+1<k→nth l j<nth l (j+1))∧∃m,wr=w.drewN m) (fun i _=>n-(intOf i).toNat)
 case atStart=>exact ⟨1,by omega,by omega,rfl,fun j hj=>absurd hj y2,0,rfl⟩
 case round=>
  obtain ⟨k,hk1,hk,rfl,hr,m,rfl⟩:=hrel;have HR:=ħ hr;clear hr;by_cases hlt:k<n
  · obtain ⟨b,off,rfl,_,hc⟩:=h3 y2;have hck:=hc k hlt;have hcp:=hc (k-1) y2;have e1:(k:Int)-1=((k-1:Nat):Int):=by omega
    clear hc h3
    have bad:¬(nth l (k-1)<nth l k)→false=Cv l:=fun h=>dV fun g1=>h (by
     have:=g1 (k-1) (by rw [H1.out];omega)
     rwa [show k-1+1=k from by omega] at this)
    have B:=ħ bad;clear bad
    go_wp2
    go_quiet (fail)
    go_wp2
    all_goals first
     | (
      go_roundw
      case rel=>
       refine ⟨k+1,by omega,by omega,by go_num,fun j hj=>?_,_,rfl⟩;by_cases hjk:j=k-1
       · subst hjk;rw [show k-1+1=k from by omega];omega
       · exact HR.out j y2
      case measure=>simp [intOf];omega)
     | (go_ret;exact ⟨aH (B.out y2),aJ⟩)
  · go_wp2
    go_ret
    refine ⟨aH (sJ fun j hj=>?_),aJ⟩;rw [H1.out] at hj;exact HR.out j y2
theorem wU (l:List Int) (lo hi:Int):fP l lo hi=true↔(Cv l=true∧yD l lo hi=true):=by
 unfold fP Cv yD;rw [bJ,bJ,bJ];exact Iff.rfl
theorem zM (x:TxD) (y:Bool) (w:World) (hy:txS x=y):Calls prog 74 #[.agg #[x.se,x.sq,.string x.k,.string x.v]] w fun e w'=>e=.returned (.bool (!y))∧Below w w w':=by
 go_enter func74,ntmps74
 go_wp2_with fail
 refine (mU x y _ hy).mono ?_;rintro e w1 ⟨rfl,hb1⟩;go_wp2_with fail
 go_ret
 exact ⟨rfl,aI⟩
theorem vJ (A:Option Addr) (n c:Nat) (l:List TxD) (w:World) (hl:bZ w A n l) :
 Calls prog 109 #[.slice A n c,.func (.func 74) #[] #[]] w fun e w'=>∃y,e=.returned (.int .i64 y)∧Ca l n y∧Below w w w':=by
 have HL:=ħ hl;have hnn:n≤9223372036854775807:=hl.2.2.1;clear hl;go_enter func109,ntmps109
 go_wp2_with fail
 go_loopw [8] (fun ix wr=>∃k:Nat,k≤n∧ix=.int .i64 k∧Hid (∀j,j<k→txS (xth l j)=true)∧Below w w wr) (fun ix _=>n-(intOf ix).toNat)
 case atStart=>exact ⟨0,Nat.zero_le _,rfl,ħ (fun j hj=>absurd hj y2),Below.refl _ _⟩
 case round=>
  obtain ⟨k,hk,rfl,HG,hbw⟩:=hrel
  (obtain ⟨wk,hwk⟩:∃x,x=wr:=⟨_,rfl⟩);subst hwk
  by_cases hlt:k<n
  · obtain ⟨b,off,rfl,hb,hc⟩:=(HL.out.up hbw).at y2;obtain ⟨c0,c1,c2,c3⟩:=hc k hlt;clear hc;cases hy:txS (xth l k)
    · have HY:=ħ hy;clear hy;go_wp2_with (go_at_call 74;refine (zM (xth l k) false _ HY.out).mono ?_;rintro e w1 ⟨rfl,hb1⟩)
      go_ret
      exact ⟨k,rfl,.inr ⟨k,rfl,hlt,HY.out⟩,aA hbw hb1⟩
    · have HY:=ħ hy;clear hy;go_wp2_with (go_at_call 74;refine (zM (xth l k) true _ HY.out).mono ?_;rintro e w1 ⟨rfl,hb1⟩)
      (refine rnd ?_;exact ⟨k+1,by omega,by go_num,ħ (fun j hj=>by (rcases Nat.lt_or_ge j k with h|h;exact HG.out j h;(obtain rfl:j=k:=by omega);exact HY.out)),aA hbw hb1⟩)
  · obtain rfl:k=n:=by omega
    go_wp2_with fail
    go_ret
    exact ⟨-1,rfl,.inl ⟨rfl,HG.out⟩,hbw⟩
theorem rW (A:Option Addr) (n c:Nat) (l:List TxD) (w:World) (hl:bZ w A n l) :
 Calls prog 73 #[.slice A n c,.func (.func 74) #[] #[]] w fun e w'=>∃y:Int,e=.returned (.bool (decide (0≤y)))∧Ca l n y∧Below w w w':=by
 have HL:=ħ hl;clear hl;go_enter func73,ntmps73
 go_wp2_with fail
 refine (vJ A n c l _ (HL.out.up (aI))).mono ?_;rintro e w1 ⟨y,rfl,hf,hb1⟩;go_wp2_with fail
 go_ret
 exact ⟨y,rfl,hf,aI⟩
noncomputable def AY (n least:Int):Bool:=dec (least≤n∧n≤1099511627776)
theorem eQ {n least:Int}:AY n least=true↔(least≤n∧n≤1099511627776):=bJ
theorem aT (n least:Int) (y:Bool) (w:World) (hy:AY n least=y):Calls prog 72 #[n,least] w fun e w'=>e=.returned (.bool y)∧w=w':=by
 have HY:=ħ hy;clear hy;go_enter func72,ntmps72
 go_wp2
 all_goals (go_ret;refine ⟨aH ?_,rfl⟩;rw [←HY.out,Bool.eq_iff_iff,eQ];simp;omega)
theorem xO (n:Int) (y:Bool) (w:World) (hy:AY n 0=y):Calls prog 32 #[n] w fun e w'=>e=.returned (.bool y)∧w=w':=by
 have HY:=ħ hy;clear hy;go_enter func32,ntmps32
 go_wp2
 all_goals (go_ret;refine ⟨aH ?_,rfl⟩;rw [←HY.out,Bool.eq_iff_iff,eQ];simp;omega)
theorem fK (n:Int) (y:Bool) (w:World) (hy:isS n=y):Calls prog 71 #[n] w fun e w'=>e=.returned (.bool y)∧w=w':=(wT n w).mono fun e w' ⟨h1,h2⟩=>⟨by rw [h1,hy],h2⟩
theorem fH (n:Int) (y:Bool) (w:World) (hy:isS n=y):Calls prog 30 #[n] w fun e w'=>e=.returned (.bool y)∧w=w':=(Dr n w).mono fun e w' ⟨h1,h2⟩=>⟨by rw [h1,hy],h2⟩
theorem yW (A:Option Addr) (n c:Nat) (l:List Int) (lo hi:Int) (y:Bool) (w:World) (hl:aL w A n l) (hy:fP l lo hi=y):Calls prog 111 #[.slice A n c,lo,hi] w fun e w'=>e=.returned (.bool y)∧w=w':=(jJ A n c l lo hi w hl).mono fun e w' ⟨h1,h2⟩=>⟨by rw [h1,hy],h2⟩
theorem zH (A:Option Addr) (n c:Nat) (l:List Int) (y:Bool) (w:World) (hl:aL w A n l) (hy:Cv l=y):Calls prog 37 #[.slice A n c] w fun e w'=>e=.returned (.bool y)∧Below w w w':=(sO A n c l w hl).mono fun e w' ⟨h1,h2⟩=>⟨by rw [h1,hy],h2⟩
theorem Cu (A:Option Addr) (n c:Nat) (l:List Int) (lo hi:Int) (y:Bool) (w:World) (hl:aL w A n l) (hy:yD l lo hi=y):Calls prog 38 #[.slice A n c,lo,hi] w fun e w'=>e=.returned (.bool y)∧w=w':=(qB A n c l lo hi w hl).mono fun e w' ⟨h1,h2⟩=>⟨by rw [h1,hy],h2⟩
theorem lT (A:Option Addr) (n c:Nat) (l:List Int) (y:Bool) (w:World) (hl:aL w A n l) (hy:yD l 1 65536=y):Calls prog 34 #[.slice A n c] w fun e w'=>e=.returned (.bool y)∧w=w':=(xL A n c l w hl).mono fun e w' ⟨h1,h2⟩=>⟨by rw [h1,hy],h2⟩
theorem zX {y:Bool} {p:Prop} (h:y=true↔p) (hn:¬p):false=y:=by
 cases y
 · rfl
 · exact absurd (h.1 rfl) hn
def xY (l:List aV) (nodes:Int) (k:Nat):Prop:=fX (wth l k).di=true∧fP (wth l k).ak 1 nodes=true∧(0<k→(wth l (k-1)).di<(wth l k).di)
noncomputable def wtB (l:List aV) (nodes:Int):Bool:=dec (∀k,k<l.length→xY l nodes k)
theorem rP {l:List aV} {nodes:Int}:wtB l nodes=true↔∀k,k<l.length→xY l nodes k:=bJ
theorem CJ (A:Option Addr) (n c:Nat) (l:List aV) (nodes:Int) (y:Bool) (w:World) (hl:eC w A n l) (hy:wtB l nodes=y):Calls prog 76 #[.slice A n c,nodes] w fun e w'=>e=.returned (.bool y)∧Below w w w':=by
 have HY:=ħ hy;have HL:=ħ hl;have HN:=ħ hl.1;have hnn:n≤9223372036854775807:=hl.2.1;clear hy hl;go_enter func76,ntmps76
 go_wp2_with fail
 go_loopw [9] (fun ix wr=>∃k:Nat,k≤n∧ix=.int .i64 k∧Hid (∀j,j<k→xY l nodes j)∧Below w w wr) (fun ix _=>n-(intOf ix).toNat)
 case atStart=>exact ⟨0,Nat.zero_le _,rfl,ħ (fun j hj=>absurd hj y2),Below.refl _ _⟩
 case round=>
  obtain ⟨k,hk,rfl,HG,hbw⟩:=hrel
  (obtain ⟨wk,hwk⟩:∃x,x=wr:=⟨_,rfl⟩);subst hwk
  by_cases hlt:k<n
  · obtain ⟨b,off,rfl,hb,hc⟩:=(HL.out.up hbw).2.2 y2;obtain ⟨B,m,d,⟨c0,c1⟩,hak⟩:=hc k hlt
    have hbad:¬xY l nodes k→wtB l nodes=false:=fun h=>by
     cases hm:wtB l nodes
     · rfl
     · exact absurd (rP.1 hm k y18) h
    have HB:=ħ hbad;refine nm (wth l k) fun p hp=>?_;rw [←hp] at c0 hak;have HP:=ħ hp;refine nm ((wth l (k-1)).di) fun o ho=>?_;have hd:0<k→wk.cell? ⟨b,off+(k-1)*2,none⟩=some (.int .i64 o):=fun h=>by rw [ho];obtain ⟨_,_,_,⟨q,_⟩,_⟩:=hc (k-1) y2;exact q
    have HO:=ħ ho;have HD:=ħ hd;clear hc hd ho hp hbad;have hA:bX (wk.alloc (.cells #[p.di,.slice B m d] 56)) wk.heap.size [p.di,.slice B m d]:=bX.new wk [p.di,.slice B m d] 56;have hba:Below wk wk (wk.alloc (.cells #[p.di,.slice B m d] 56)):=y0;obtain ⟨a_0,a_1⟩:=bx2 hA;have HAK:=ħ (hak.up hba);clear hak;cases h1:fX p.di
    · have H1:=ħ h1;clear h1;go_wp2_with fail
      refine aQ y8 y8 (fun ι F hne hF hcl=>?_);have hcF0:=fun n o=>(aK (hF n)).1 (wk.heap.size) o y4;have hcF1:=fun n o=>(aK (hF n)).1 (b) o y4;have HF:=ħ hF;clear hF;have HC:=ħ hcl;clear hcl
      repeat (any_goals (first
       | go_big_quiet_step (first|(go_at_call 110;exact Calls.fam_same (bR p.di false _ H1.out)))
       | (refine gq ?_ ?_<;>intro hb)))
      all_goals (refine wpQuiet_nil ?_;intro nq)
      all_goals (try (exfalso;omega))
      have hFwf:=HF.out nq;clear HF HC hne;generalize F nq=wf at *;have hbf:Below w w wf:=aA hbw (aA hba hFwf);go_wp2_with fail
      go_ret
      exact ⟨aH y72,hbf⟩
    have H1:=ħ h1;clear h1;cases h3:fP p.ak 1 nodes
    all_goals
     have H3:=ħ h3;clear h3;rcases Nat.eq_zero_or_pos k with hk0|hk0
     case' inl=>
      subst hk0;rw [Nat.zero_mul,Nat.add_zero] at c0 c1
     case' inr=>
      have d0:=HD.out hk0;have hk1:(0:Int)<(k:Int):=by omega
      by_cases h2:o<p.di
      case' neg=>have h2b:decide (p.di≤o)=true:=by simp;omega
      case' pos=>have h2b:decide (p.di≤o)=false:=by simp;omega
     all_goals
      (try have H2:=ħ h2)
      (try clear h2)
      go_wp2_with fail
      refine aQ y8 y8 (fun ι F hne hF hcl=>?_);have hcF0:=fun n o=>(aK (hF n)).1 (wk.heap.size) o y4;have hcF1:=fun n o=>(aK (hF n)).1 (b) o y4;have HF:=ħ hF;clear hF;have HC:=ħ hcl;clear hcl
      repeat (any_goals (first
       | go_big_quiet_step (first|(go_at_call 110;exact Calls.fam_same (bR p.di true _ H1.out))|(go_at_call 111;exact Calls.fam_same (yW B m d p.ak 1 nodes _ _ (HAK.out.up (HF.out _)) H3.out)))
       | (refine gq ?_ ?_<;>intro hb)))
      all_goals (refine wpQuiet_nil ?_;intro nq)
      all_goals (try (exfalso;omega))
      have hFwf:=HF.out nq;clear HF HC hne;generalize F nq=wf at *;have hbf:Below w w wf:=aA hbw (aA hba hFwf);go_wp2_with fail
      first
       | (go_ret;exact ⟨aH (by rw [←HY.out,HB.out (fun g=>(by have g1:=g.2.1;have g2:=g.2.2;rw [←HP.out] at g1 g2;first|(rw [H3.out] at g1;cases g1;done)|(have g3:=g2 hk0;rw [←HO.out] at g3;have h9:=H2.out;omega)))]),hbf⟩)
       | (refine rnd ?_;exact ⟨1,by omega,rfl,ħ (fun j hj=>y57),hbf⟩)
       | (refine rnd ?_;exact ⟨k+1,by omega,by go_num,ħ (fun j hj=>y41),hbf⟩)
  · obtain rfl:k=n:=by omega
    have hyes:y=true:=by rw [←HY.out];exact rP.2 (fun j hj=>HG.out j y95)
    subst hyes;go_wp2_with fail
    go_ret
    exact ⟨rfl,hbw⟩
noncomputable def DA (l:List Int):Bool:=dec (Ja l)
theorem B4 {l:List Int}:DA l=true↔Ja l:=bJ
theorem BJ (sA:Option Addr) (sn sc:Nat) (s:List Int) (y:Bool) (w:World) (hs:aL w sA sn s) (hy:DA s=y) :
 Calls prog 78 #[.slice sA sn sc] w fun e w'=>e=.returned (.bool y)∧Below w w w':=by
 have HS:=ħ hs;have HN:=ħ hs.1;have hsn:sn≤9223372036854775807:=hs.2.1;have HY:=ħ hy;clear hs hy;have hmm:=@run_makeMap prog;go_enter func78,ntmps78
 go_wp2_with fail
 go_loopw [9] (fun ix wr=>∃k:Nat,k≤sn∧ix=.int .i64 k∧Hid (∀j,j<k→fX (nth s j)=true)∧Hid ((s.take k).Nodup)∧Hid (uH Value.bool false wr w.heap.size (fun m=>decide (m∈s.take k)))∧Below w w wr) (fun ix _=>sn-(intOf ix).toNat)
 case atStart=>exact ⟨0,Nat.zero_le _,rfl,ħ (fun j hj=>absurd hj y2),ħ y17,ħ (uH.made' y17 (by funext m;simp)),aJ⟩
 case round=>
  obtain ⟨k,hk,rfl,HD,HU,HM,hbw⟩:=hrel
  (obtain ⟨wk,hwk⟩:∃x,x=wr:=⟨_,rfl⟩);subst hwk
  by_cases hlt:k<sn
  · obtain ⟨b,off,rfl,hb,hc⟩:=(HS.out.up hbw).2.2 y2;have hck:=hc k hlt;clear hc;refine mn (nth s k) fun x hx=>?_;rw [hx] at hck;have HX:=ħ hx;have HKL:Hid (k<s.length):=ħ y18;clear hx;cases hd:fX x
    · have HDX:=ħ hd;clear hd;go_wp2_with (go_at_call 110;refine (bR x false _ HDX.out).mono ?_;rintro e w' ⟨rfl,rfl⟩)
      go_ret
      exact ⟨aH (by rw [←HY.out];exact dV fun h=>(by
       have:=h.1 k HKL.out;rw [HX.out,← wV,HDX.out] at this;cases this)),hbw⟩
    · have HDX:=ħ hd;clear hd;have hlook:=HM.out.lookup (P:=prog) underlying134 underlying3 y8 x;refine mn (decide (x∈s.take k)) fun z hz=>?_;rw [hz] at hlook;cases z
      · have HZ:Hid (x∉s.take k):=ħ y92;clear hz;go_wp2_with (first|(go_at_call 110;refine (bR x true _ HDX.out).mono ?_;rintro e w' ⟨rfl,rfl⟩)|(at_mapUpdate;refine BK Value.bool false rfl _ _ _ 134 3 4 (.inl rfl) underlying134 underlying3 HM.out rfl _ rfl true rfl ?_;intro w2 hM2 hg2 hsz2))
        have hb2:Below w w w2:=EP hbw hg2 y2;rw [BI HKL.out HX.out] at hM2
        (refine rnd ?_;exact ⟨k+1,by omega,by go_num,ħ (fun j hj=>by (rcases Nat.lt_or_ge j k with h|h;exact HD.out j h;(obtain rfl:j=k:=by omega);rw [HX.out];exact HDX.out)),ħ (rV HKL.out HX.out HU.out HZ.out),ħ hM2,hb2⟩)
      · have HZ:Hid (x∈s.take k):=ħ y92;clear hz;go_wp2_with (go_at_call 110;refine (bR x true _ HDX.out).mono ?_;rintro e w' ⟨rfl,rfl⟩)
        go_ret
        exact ⟨aH (by rw [←HY.out];exact dV fun h=>BY HKL.out HX.out HZ.out h.2),hbw⟩
  · obtain rfl:k=sn:=by omega
    have hseen:Ja s:=⟨fun j hj=>wV.1 (HD.out j y95),by have:=HU.out;rwa [List.take_of_length_le y30] at this⟩;have HSE:=ħ hseen;clear hseen;go_wp2_with fail
    go_ret
    exact ⟨aH (by rw [←HY.out];exact sJ HSE.out),hbw⟩
def mwS (M:aY):Int:=xwS M.b.tx+(1+(M.h.ba.length:Int)+(M.h.pa.length:Int))+(1+(M.c.h.ba.length:Int)+(M.c.h.pa.length:Int)+(M.c.si.length:Int))+(M.ds.length:Int)
theorem Eu {l:List TxD} (h1:l.length≤17592186044416) (h2:∀x∈l,SmX x):xwS l≤562949953421312:=yP _ _ (fun x hx=>F7 (h2 x hx)) y2
theorem mX (a r:Int) (bA pA:Option Addr) (bn bc pn pc:Nat) (w:World) (h1:bn≤17592186044416) (h2:pn≤17592186044416) :
 Calls prog 107 #[.agg #[a,r,.slice bA bn bc,.slice pA pn pc]] w fun e w'=>e=.returned (.int .i64 (1+(bn:Int)+(pn:Int)))∧Below w w w':=by
 go_enter func107,ntmps107
 go_wp2_with fail
 go_ret
 exact ⟨rfl,aJ⟩
theorem zT (a r d:Int) (bA pA sA:Option Addr) (bn bc pn pc sn sc:Nat) (w:World) (h1:bn≤17592186044416) (h2:pn≤17592186044416) (h3:sn≤17592186044416) :
 Calls prog 108 #[.agg #[a,r,.slice bA bn bc,.slice pA pn pc,d,.slice sA sn sc]] w fun e w'=>e=.returned (.int .i64 (1+(bn:Int)+(pn:Int)+(sn:Int)))∧Below w w w':=by
 go_enter func108,ntmps108
 go_wp2_with fail
 have hA:bX (w.alloc (.cells #[a,r,.slice bA bn bc,.slice pA pn pc,d,.slice sA sn sc] 47)) w.heap.size [a,r,.slice bA bn bc,.slice pA pn pc,d,.slice sA sn sc]:=bX.new w [a,r,.slice bA bn bc,.slice pA pn pc,d,.slice sA sn sc] 47;have hbX:Below w w (w.alloc (.cells #[a,r,.slice bA bn bc,.slice pA pn pc,d,.slice sA sn sc] 47)):=y0;generalize (w.alloc (.cells #[a,r,.slice bA bn bc,.slice pA pn pc,d,.slice sA sn sc] 47))=X at *;have hg:=hA.1;obtain ⟨b_0,b_1,b_2,b_3,b_4,b_5⟩:=bx6 hA;refine aQ y8 y8 (fun ι F hne hF hcl=>?_);have hcF0:=fun n o=>(aK (hF n)).1 (w.heap.size) o y4;have HF:=ħ hF;clear hF;have HC:=ħ hcl;clear hcl
 repeat (any_goals (first
  | go_big_quiet_step (first|(go_at_call 107;exact Calls.fam HC.out (mX a r bA pA bn bc pn pc _ h1 h2)))
  | (refine gq ?_ ?_<;>intro hb)))
 all_goals (refine wpQuiet_nil ?_;intro nq)
 have hFwf:=HF.out nq;clear HF HC hne;generalize F nq=wf at *;go_wp2_with fail
 go_ret
 exact ⟨rfl,aA hbX hFwf⟩
def M18 (P:bQ) (M:aY):Value:=.agg (cM M P)
theorem vE (P:bQ) (M:aY) (y:Int) (w:World) (h:eO w P M) (hs:SmM M) (hy:mwS M=y) :
 Calls prog 66 #[M18 P M] w fun e w'=>e=.returned (.int .i64 y)∧Below w w w':=by
 refine mn (xwS M.b.tx) fun z hz=>?_;have HX:Hid (bZ w P.b.A P.b.n M.b.tx):=ħ h.tx;have e1:M.h.ba.length=P.h.b.n:=h.h.1.1;have e2:M.h.pa.length=P.h.p.n:=h.h.2.1;have e3:M.c.h.ba.length=P.c.h.b.n:=h.c.1.1.1;have e4:M.c.h.pa.length=P.c.h.p.n:=h.c.1.2.1;have e5:M.c.si.length=P.c.s.n:=h.c.2.1;have e6:M.ds.length=P.ds.n:=h.ds.1;have b0:P.b.n≤17592186044416:=by rw [←HX.out.1];exact hs.b.1
 have b1:P.h.b.n≤17592186044416:=by rw [←e1];exact hs.h1
 have b2:P.h.p.n≤17592186044416:=by rw [←e2];exact hs.h2
 have b3:P.c.h.b.n≤17592186044416:=by rw [←e3];exact hs.c1
 have b4:P.c.h.p.n≤17592186044416:=by rw [←e4];exact hs.c2
 have b5:P.c.s.n≤17592186044416:=by rw [←e5];exact hs.c3
 have b6:P.ds.n≤17592186044416:=by rw [←e6];exact hs.ds
 have z0:0≤z:=by rw [←hz];have:=yS M.b.tx;omega
 have z1:z≤562949953421312:=by rw [←hz];exact Eu hs.b.1 hs.b.2
 have HY:Hid (z+(1+(P.h.b.n:Int)+(P.h.p.n:Int))+(1+(P.c.h.b.n:Int)+(P.c.h.p.n:Int)+(P.c.s.n:Int))+(P.ds.n:Int)=y):=ħ (by rw [←hy,← hz,← e1,← e2,← e3,← e4,← e5,← e6];rfl);have HZ:=ħ hz;have HS:=ħ hs.b.2;clear h hs hy hz e1 e2 e3 e4 e5 e6;show Calls prog 66 #[.agg (cM M P)] w _;go_enter func66,ntmps66
 go_wp2_with fail
 have hB:bX (w.alloc (.cells (cM M P) 49)) w.heap.size (cM M P):=bX.new w (cM M P) 49;have hbX:Below w w (w.alloc (.cells (cM M P) 49)):=y0;generalize (w.alloc (.cells (cM M P) 49))=X at *;have hg:=hB.1;have hx:=HX.out.up hbX;have HXX:=ħ hx;obtain ⟨b_0,b_1,b_2,b_3,b_4,b_5,b_6,b_7,b_8,b_9,b_10,b_11,b_12,b_13,b_14,b_15,b_16,b_17⟩:=EQ hB;clear hx hB;refine aQ y8 y8 (fun ι F hne hF hcl=>?_);have hcF0:=fun n o=>(aK (hF n)).1 (w.heap.size) o y4;have HF:=ħ hF;clear hF;have HC:=ħ hcl;clear hcl
 repeat (any_goals (first
  | go_big_quiet_step (first|(go_at_call 107;exact Calls.fam HC.out (mX _ _ P.h.b.A P.h.p.A P.h.b.n P.h.b.c P.h.p.n P.h.p.c _ b1 b2))|(go_at_call 108;exact Calls.fam HC.out (zT _ _ _ P.c.h.b.A P.c.h.p.A P.c.s.A P.c.h.b.n P.c.h.b.c P.c.h.p.n P.c.h.p.c P.c.s.n P.c.s.c _ b3 b4 b5))|(go_at_call 23;exact Calls.fam HC.out (jQ P.b.A P.b.n P.b.c M.b.tx z _ (HXX.out.up (HF.out _)) HS.out b0 HZ.out)))
  | (refine gq ?_ ?_<;>intro hb)))
 all_goals (refine wpQuiet_nil ?_;intro nq)
 have hFwf:=HF.out nq;clear HF HC hne;generalize F nq=wf at *;go_wp2_with fail
 go_ret
 exact ⟨AA HY.out,aA hbX hFwf⟩
theorem D8 (P:bQ) (M:aY) (y:Int) (w:World) (h:eO w P M) (hs:SmM M) (hy:mwS M=y) :
 Calls prog 25 #[M18 P M] w fun e w'=>e=.returned (.bool (decide (2000<y)))∧Below w w w':=by
 have H:=ħ h;have HS:=ħ hs;have HY:=ħ hy;clear h hs hy;unfold M18;go_enter func25,ntmps25
 go_wp2_with fail
 refine (vE P M y _ (H.out.up (aJ)) HS.out HY.out).mono ?_;rintro e w1 ⟨rfl,hb1⟩;go_wp2_with fail
 go_ret
 exact ⟨rfl,aJ⟩
structure DQ (P:uN) (D:wN):Prop where
 op:P.w.op.n≤12000
 wa:P.w.wa.n≤12000
 ak:∀x∈D.w.wa,x.ak.length≤12000
 he:P.w.he.n≤200
 hx:∀x∈D.w.he,x.b.tx.length≤12000
 re:P.w.re.n≤12000
 l:P.l.n≤100
 li:∀a∈D.l,a.l.length≤12000
 lm:∀a∈D.l,mwS a.m≤2000
def Fw (P:uN) (D:wN) (w:World) (e:Ending) (w':World):Prop:=∃x:Bool,e=.returned (.bool x)∧(x=false→DQ P D)∧Below w w w'
theorem IS {w:World} {g:Nat} {t:TxD} (h:bX w g [t.se,t.sq,.string t.k,.string t.v]):bZ w (some ⟨g,0,none⟩) 1 [t]:=
 ⟨rfl,by simp [eN,kH],by omega,fun _=>⟨g,0,rfl,h.1,fun j u hu=>by rw [Nat.zero_add];exact h.2 j u y64⟩⟩
theorem Da (P:uN) (D:wN) (w:World) (h:AD w P D) :
 Calls prog 16 #[P.val D] w (Fw P D w):=by
 obtain ⟨⟨⟨oA,on,oc⟩,⟨tA,tn,tc⟩,⟨eA,en,ec⟩,⟨rA,rn,rc⟩⟩,⟨lA,ln,lc⟩⟩:=P;have H:=ħ h;have HO:Hid (bZ w oA on D.w.op):=ħ h.wk.op;have HT:Hid (eC w tA tn D.w.wa):=ħ h.wk.wa;have HE:Hid (dU w eA en D.w.he):=ħ h.wk.he;have HL:Hid (BM w lA ln D.l):=ħ h.l;have so:on≤17592186044416:=h.so;have sw:tn≤17592186044416:=h.sw;have sh:en≤17592186044416:=h.sh;have sr:rn≤17592186044416:=h.sr;have sl:ln≤17592186044416:=h.sl;refine mn (xwS D.w.op) fun y1 hy1=>?_;refine mn (hwS D.w.he) fun y2 hy2=>?_
 have b1:(on:Int)≤y1∧y1≤562949953421312:=by
  rw [←hy1,← HO.out.1];exact ⟨yS _,Eu (by rw [HO.out.1];exact so) h.go⟩
 have b2:(en:Int)≤y2∧y2≤1125899906842624:=by
  rw [←hy2,← HE.out.1];exact ⟨Je _,Jf h.gh (by rw [HE.out.1];exact sh)⟩
 obtain ⟨b11,b12⟩:=b1;obtain ⟨b21,b22⟩:=b2;have HY1:=ħ hy1;have HY2:=ħ hy2;refine mn D.w.nodes fun nodes hnd=>?_;refine mn D.w.id fun id hid=>?_;refine mn D.w.next fun next hnx=>?_;refine mn D.w.age fun age hag=>?_;refine mn D.w.clock fun clock hck=>?_;clear h hy1 hy2;show Calls prog 16 #[.agg (cU D.w oA on oc tA tn tc eA en ec rA rn rc lA ln lc)] w (Fw _ D w);rw [hid,hnd,hnx,hag,hck];clear hid hnd hnx hag hck;go_enter func16,ntmps16
 go_wp2_with fail
 have hB:bX (w.alloc (.cells #[id,nodes,next,.slice oA on oc,age,clock,.slice tA tn tc,.slice eA en ec,.slice rA rn rc,.slice lA ln lc] 30)) w.heap.size [id,nodes,next,.slice oA on oc,age,clock,.slice tA tn tc,.slice eA en ec,.slice rA rn rc,.slice lA ln lc]:=bX.new w [id,nodes,next,.slice oA on oc,age,clock,.slice tA tn tc,.slice eA en ec,.slice rA rn rc,.slice lA ln lc] 30;have hbX:Below w w (w.alloc (.cells #[id,nodes,next,.slice oA on oc,age,clock,.slice tA tn tc,.slice eA en ec,.slice rA rn rc,.slice lA ln lc] 30)):=y0;generalize (w.alloc (.cells #[id,nodes,next,.slice oA on oc,age,clock,.slice tA tn tc,.slice eA en ec,.slice rA rn rc,.slice lA ln lc] 30))=X at *;have HB:=ħ hB;have hg0:=hB.1;obtain ⟨b_0,b_1,b_2,b_3,b_4,b_5,b_6,b_7,b_8,b_9⟩:=gO hB;clear hB;refine aQ y8 y8 (fun ι F hne hF hcl=>?_);have hcF0:=fun n o=>(aK (hF n)).1 (w.heap.size) o (by first|(simp;done)|(simp;omega)|omega);have HF:=ħ hF;clear hF;have HC:=ħ hcl;clear hcl
 repeat (any_goals (first
  | go_big_quiet_step (first|(go_at_call 23;exact Calls.fam HC.out (jQ oA on oc D.w.op y1 _ ((HO.out.up hbX).up (HF.out _)) H.out.go so HY1.out))|(go_at_call 24;exact Calls.fam HC.out (zU eA en ec D.w.he y2 _ ((HE.out.up hbX).up (HF.out _)) H.out.gh sh HY2.out)))
  | (refine gq ?_ ?_<;>intro hb)))
 all_goals (refine wpQuiet_nil ?_;intro nq)
 have hFwf:=HF.out nq;clear HF HC hne;generalize F nq=wf at *;have hbf:=aA hbX hFwf;have HBF:=ħ (HB.out.up hFwf);clear b_0 b_1 b_2 b_3 b_4 b_5 b_6 b_7 b_8 b_9 hg0 HB hFwf hbX;have hg0:=HBF.out.1;obtain ⟨b_0,b_1,b_2,b_3,b_4,b_5,b_6,b_7,b_8,b_9⟩:=gO HBF.out;go_wp2_with fail
 clear b_0 b_1 b_2 b_3 b_4 b_5 b_6 b_7 b_8 b_9 hg0
 go_loopw [3,4] (fun sv si wr=>∃(k:Nat) (v:Int),k≤tn∧si=.int .i64 k∧sv=.int .i64 v∧y1+y2+(tn:Int)+(rn:Int)≤v∧v≤2251799813685248∧Hid (v<1048576→∀j,j<k→((wth D.w.wa j).ak.length:Int)≤v)∧Hid (bX wr w.heap.size [id,nodes,next,.slice oA on oc,age,clock,.slice tA tn tc,.slice eA en ec,.slice rA rn rc,.slice lA ln lc])∧Below w w wr) (fun _ si _=>tn-(intOf si).toNat)
 case atStart=>exact ⟨0,_,Nat.zero_le _,rfl,rfl,Int.le_refl _,by omega,ħ (fun _ j hj=>absurd hj (by omega)),HBF,hbf⟩
 case round=>
  clear hbf HBF;obtain ⟨k,v,hk,rfl,rfl,hv0,hv1,HW,HB,hbw⟩:=hrel
  (obtain ⟨wk,hwk⟩:∃x,x=wr:=⟨_,rfl⟩);subst hwk
  have hg1:=HB.out.1;obtain ⟨b_0,b_1,b_2,b_3,b_4,b_5,b_6,b_7,b_8,b_9⟩:=gO HB.out;have hvn:0≤v:=by omega
  by_cases hlt:k<tn∧v<1048576
  · obtain ⟨hlt1,hvl⟩:=hlt;obtain ⟨b,off,rfl,hb,hc⟩:=(HT.out.up hbw).2.2 (by omega);obtain ⟨B,m,d,⟨c0,c1⟩,hI⟩:=hc k hlt1;have hm:m≤17592186044416:=by rw [←hI.1];exact EF H.out.gw (k:=k) (by rw [HT.out.1];exact hlt1)
    have hW5:v+m<1048576→∀j,j<k+1→((wth D.w.wa j).ak.length:Int)≤v+m:=fun hq j hj=>by
     rcases Nat.lt_or_ge j k with q|q
     · have:=HW.out (by omega) j q;omega
     · obtain rfl:j=k:=by omega
       have h9:=hI.1;omega
    have HW5:=ħ hW5;clear hc hI hW5;go_wp2_with fail
    (refine rnd ?_;exact ⟨k+1,v+m,by omega,by go_num,by first|rfl|go_num,by omega,by omega,HW5,HB,hbw⟩)
  · have hend:v<1048576→∀x∈D.w.wa,(x.ak.length:Int)≤v:=fun hq=>by
     have hkb:k=tn:=by omega
     exact (xE (P:=fun x:aV=>(x.ak.length:Int)≤v)).1 (fun j hj=>HW.out hq j (by rw [hkb,← HT.out.1];exact hj))
    have HEND:=ħ hend;clear hend;have HBw:=HB;have hbw1:=hbw;by_cases h1:k<tn
    case' pos=>
     have h2:¬v<1048576:=fun h=>hlt ⟨h1,h⟩;have h2d:decide (v<1048576)=false:=by simpa using h2
     clear h2
    all_goals
     clear hlt;go_wp2_with fail
     clear b_0 b_1 b_2 b_3 b_4 b_5 b_6 b_7 b_8 b_9 hg1
     go_loopw [3,5] (fun sv si wr=>∃(i:Nat) (u:Int),i≤ln∧si=.int .i64 i∧sv=.int .i64 u∧v≤u∧u≤4503599627370496∧Hid (u<1048576→∀j,j<i→((jth D.l j).l.length:Int)≤u)∧Hid (∀j,j<i→mwS (jth D.l j).m≤2000)∧Hid (bX wr w.heap.size [id,nodes,next,.slice oA on oc,age,clock,.slice tA tn tc,.slice eA en ec,.slice rA rn rc,.slice lA ln lc])∧Below w w wr) (fun _ si _=>ln-(intOf si).toNat)
     case atStart=>exact ⟨0,v,Nat.zero_le _,rfl,rfl,Int.le_refl _,by omega,ħ (fun _ j hj=>absurd hj (by omega)),ħ (fun j hj=>absurd hj (by omega)),HBw,hbw1⟩
     case round=>
      clear hbw1 HBw hbw HB;obtain ⟨i,u,hi,rfl,rfl,hu0,hu1,HU,HM,HB,hbw⟩:=hrel
      (obtain ⟨wj,hwj⟩:∃x,x=wr:=⟨_,rfl⟩);subst hwj
      have hg1:=HB.out.1;obtain ⟨b_0,b_1,b_2,b_3,b_4,b_5,b_6,b_7,b_8,b_9⟩:=gO HB.out;have hun:0≤u:=by omega
      by_cases hlt:i<ln∧u<1048576
      · obtain ⟨hlt1,hul⟩:=hlt;obtain ⟨b,off,rfl,hb,hc⟩:=(HL.out.up hbw).2.2 (by omega);obtain ⟨⟨⟨pA,pn,pc⟩,⟨⟨p1A,p1n,p1c⟩,⟨p2A,p2n,p2c⟩⟩,⟨⟨⟨p3A,p3n,p3c⟩,⟨p4A,p4n,p4c⟩⟩,⟨p5A,p5n,p5c⟩⟩,⟨p6A,p6n,p6c⟩⟩,⟨sA,sn,sc⟩,hat,hM,hI⟩:=hc i hlt1;refine mn (jth D.l i) fun a ha=>?_;have hsa:SmJ (jth D.l i):=EF H.out.gl (k:=i) (by rw [HL.out.1];exact hlt1);rw [ha] at hat hM hI hsa;have HA:=ħ ha;have hsn:sn≤17592186044416:=by have h9:=hI.1;have h8:=hsa.l;dsimp only at h9;omega
        refine mn (xwS [a.t]) fun y3 hy3=>?_;have b31:0≤y3:=by rw [←hy3];have:=yS [a.t];simp at this;omega
        have b32:y3≤562949953421312:=by rw [←hy3];exact Eu y17 (fun x hx=>by
         have:x=a.t:=by simpa using hx
         rw [this];exact hsa.t)
        refine mn (mwS a.m) fun y4 hy4=>?_;have HY3:=ħ hy3;have HY4:=ħ hy4;have HSA:=ħ hsa;have HMR:=ħ hM;have HAL:Hid (a.l.length=sn):=ħ hI.1;have hcl:∀Y,Below wj wj Y→(∀r u,(jW ⟨⟨pA,pn,pc⟩,⟨⟨p1A,p1n,p1c⟩,⟨p2A,p2n,p2c⟩⟩,⟨⟨⟨p3A,p3n,p3c⟩,⟨p4A,p4n,p4c⟩⟩,⟨p5A,p5n,p5c⟩⟩,⟨p6A,p6n,p6c⟩⟩ ⟨sA,sn,sc⟩ a)[r]? =some u→Y.cell? ⟨b,off+i*26+r,none⟩=some u):=fun Y hY r u hu=>(hY.cell (p:=⟨b,off+i*26+r,none⟩) hb).trans (hat r u hu);have HCJ:=ħ hcl;have HCL:Hid (∀Y,Below wj wj Y→Y.cell? ⟨w,9,none⟩=some (.slice (some ⟨b,off,none⟩) ln lc)∧Y.cell? ⟨b,off+i*26+2,none⟩=some (.int .i64 a.t.se)∧Y.cell? ⟨b,off+i*26+3,none⟩=some (.int .i64 a.t.sq)∧Y.cell? ⟨b,off+i*26+4,none⟩=some (.string a.t.k)∧Y.cell? ⟨b,off+i*26+5,none⟩=some (.string a.t.v)∧Y.cell? ⟨b,off+i*26+25,none⟩=some (.slice sA sn sc)):=ħ (fun Y hY=>⟨(HB.out.up hY).2 9 _ rfl,hcl Y hY 2 _ rfl,hcl Y hY 3 _ rfl,hcl Y hY 4 _ rfl,hcl Y hY 5 _ rfl,hcl Y hY 25 _ rfl⟩);have hii:(0:Int)≤(i:Int):=by omega
        have hil:(i:Int)<(ln:Int):=by omega
        clear hc hat hM hI hsa ha hy3 hy4 hcl;go_upto_region 9 with fail
        clear b_0 b_1 b_2 b_3 b_4 b_5 b_6 b_7 b_8 b_9
        go_region_held3 (fun Y=>Y.cell? ⟨w,9,none⟩=some (.slice (some ⟨b,off,none⟩) ln lc)∧Y.cell? ⟨b,off+i*26+2,none⟩=some (.int .i64 a.t.se)∧Y.cell? ⟨b,off+i*26+3,none⟩=some (.int .i64 a.t.sq)∧Y.cell? ⟨b,off+i*26+4,none⟩=some (.string a.t.k)∧Y.cell? ⟨b,off+i*26+5,none⟩=some (.string a.t.v)∧Y.cell? ⟨b,off+i*26+25,none⟩=some (.slice sA sn sc))
         (exact HCL.out _ (y10))
         ((go_at_call 23;refine (jQ _ 1 1 [a.t] y3 _ ((IS (bX.new wj [a.t.se,a.t.sq,.string a.t.k,.string a.t.v] 41)).up (y10)) (fun x hx=>(by have e:x=a.t:=(by simpa using hx);rw [e];exact HSA.out.t)) (by omega) HY3.out).mono ?_;rintro e w7 ⟨rfl,hb7⟩))
        as_aux_lemma=>
         have hb7j:Below wj wj w7:=y10;have HB7:=ħ (HB.out.up hb7j);have hg7:=HB7.out.1;have hb7l:b<w7.heap.size:=Nat.lt_of_lt_of_le hb hb7j.size;obtain ⟨d_0,d_1,d_2,d_3,d_4,d_5,d_6,d_7,d_8,d_9⟩:=gO HB7.out;have m_6:=HCJ.out w7 hb7j 6 _ rfl;have m_7:=HCJ.out w7 hb7j 7 _ rfl;have m_8:=HCJ.out w7 hb7j 8 _ rfl;have m_9:=HCJ.out w7 hb7j 9 _ rfl;have m_10:=HCJ.out w7 hb7j 10 _ rfl;have m_11:=HCJ.out w7 hb7j 11 _ rfl;have m_12:=HCJ.out w7 hb7j 12 _ rfl;have m_13:=HCJ.out w7 hb7j 13 _ rfl;have m_14:=HCJ.out w7 hb7j 14 _ rfl;have m_15:=HCJ.out w7 hb7j 15 _ rfl;have m_16:=HCJ.out w7 hb7j 16 _ rfl;have m_17:=HCJ.out w7 hb7j 17 _ rfl;have m_18:=HCJ.out w7 hb7j 18 _ rfl;have m_19:=HCJ.out w7 hb7j 19 _ rfl;have m_20:=HCJ.out w7 hb7j 20 _ rfl;have m_21:=HCJ.out w7 hb7j 21 _ rfl;have m_22:=HCJ.out w7 hb7j 22 _ rfl;have m_23:=HCJ.out w7 hb7j 23 _ rfl
         have hU5:u+y3+sn<1048576→∀j,j<i+1→((jth D.l j).l.length:Int)≤u+y3+sn:=fun hq j hj=>by
          rcases Nat.lt_or_ge j i with q|q
          · have:=HU.out (by omega) j q;omega
          · obtain rfl:j=i:=by omega
            rw [HA.out];have h9:=HAL.out;omega
         have hwr1:IntKind.i64.wrap (u+y3)=u+y3:=IntWalk.i64_in _ (by omega);have hwr2:IntKind.i64.wrap (u+y3+(sn:Int))=u+y3+sn:=IntWalk.i64_in _ (by omega);have HU5:=ħ hU5;clear hU5;by_cases h20:2000<y4
         case' neg=>have h20d:decide (2000<y4)=false:=by simpa using h20
         case' pos=>have h20d:decide (2000<y4)=true:=by simpa using h20
         all_goals
          go_wp2_with (go_at_call 25;refine (D8 ⟨⟨pA,pn,pc⟩,⟨⟨p1A,p1n,p1c⟩,⟨p2A,p2n,p2c⟩⟩,⟨⟨⟨p3A,p3n,p3c⟩,⟨p4A,p4n,p4c⟩⟩,⟨p5A,p5n,p5c⟩⟩,⟨p6A,p6n,p6c⟩⟩ a.m y4 _ ((HMR.out.up hb7j).up (y10)) HSA.out.m HY4.out).mono ?_;rintro e w8 ⟨rfl,hb8⟩)
         · go_ret
           exact ⟨true,rfl,(fun h=>by cases h),aA hbw (aA hb7j (y10))⟩
         · have HM5:Hid (∀j,j<i+1→mwS (jth D.l j).m≤2000):=ħ (fun j hj=>by
            rcases Nat.lt_or_ge j i with q|q
            · exact HM.out j q
            · obtain rfl:j=i:=by omega
              rw [HA.out];have h9:=HY4.out;omega)
           have HB8:=ħ (HB7.out.up hb8);have hbw8:=aA hbw (aA hb7j hb8)
           go_round
           case rel=>
            refine ⟨i+1,u+y3+sn,by omega,?_,?_,by omega,by omega,HU5,HM5,HB8,hbw8⟩
            · go_num
            · rfl
           case measure=>(simp [intOf]<;>omega)
      · as_aux_lemma=>
         have hfin:u≤12000→en≤200→ln≤100→DQ ⟨⟨⟨oA,on,oc⟩,⟨tA,tn,tc⟩,⟨eA,en,ec⟩,⟨rA,rn,rc⟩⟩,⟨lA,ln,lc⟩⟩ D:=fun h1 h2 h3=>by
          have hib:i=ln:=by omega
          have q1:=HEND.out (by omega);have q2:∀a∈D.l,(a.l.length:Int)≤u:=(xE (P:=fun a:kF=>(a.l.length:Int)≤u)).1 (fun j hj=>HU.out (by omega) j (by rw [hib,← HL.out.1];exact hj));have q3:∀a∈D.l,mwS a.m≤2000:=(xE (P:=fun a:kF=>mwS a.m≤2000)).1 (fun j hj=>HM.out j (by rw [hib,← HL.out.1];exact hj));have q4:=Jg (l:=D.w.he) (by rw [HY2.out];omega);exact {op:=(by show on≤12000;omega),wa:=(by show tn≤12000;omega),ak:=(fun x hx=>by have:=q1 x hx;omega),he:=h2,hx:=(fun x hx=>by have:=q4 x hx;have:=HY2.out;omega),re:=(by show rn≤12000;omega),l:=h3,li:=(fun a ha=>by have:=q2 a ha;omega),lm:=q3}
         have HFIN:=ħ hfin;clear hfin;by_cases h9:i<ln
         case' pos=>
          have h2:¬u<1048576:=fun h=>hlt ⟨h9,h⟩;have h2d':decide (u<1048576)=false:=by simpa using h2
          clear h2
         all_goals
          clear hlt;go_wp2_with fail
          all_goals
           go_ret
           refine ⟨_,aH rfl,fun hx=>?_,hbw⟩
           first
            | (exfalso;simp at hx;done)
            | (simp at hx;refine HFIN.out ?_ ?_ ?_<;>(first|omega|simp_all))
end Go.Proofs.YtgfakefcmbpboaaGreat
