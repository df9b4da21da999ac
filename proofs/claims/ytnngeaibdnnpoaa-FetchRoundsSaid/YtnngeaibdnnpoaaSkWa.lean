/- Workers, waits, messages, acts, scripts of droverlaw13: how they lie; opened, with the bound that the form sets. -/
import Derived.Test.YtnngeaibdnnpoaaSkJ2
namespace Go.Proofs.Ytnngeaibdnnpoaa
open Go.RowKit Go.ChangeShapes Go.WideShapes Go.ChangeAt
set_option linter.unusedSimpArgs false
set_option linter.unusedVariables false

structure MsgD where
  ki : Int
  fr : Int
  tt : Int
  di : Int
  b : BatchD
  h : HeaderD
  c : CertD
  ds : List Int
instance : Inhabited MsgD := ⟨⟨0, 0, 0, 0, default, default, default, []⟩⟩
structure MsgP where
  b : SlP
  h : HeaderP
  c : CertP
  ds : SlP
instance : Inhabited MsgP := ⟨⟨default, default, default, default⟩⟩
def msgCells (P : MsgP) (M : MsgD) : List Value := [.int .i64 M.ki, .int .i64 M.fr, .int .i64 M.tt, .int .i64 M.di, .int .i64 M.b.au, .int .i64 M.b.n, .slice P.b.A P.b.n P.b.c, .int .i64 M.h.au, .int .i64 M.h.ro, .slice P.h.b.A P.h.b.n P.h.b.c, .slice P.h.p.A P.h.p.n P.h.p.c, .int .i64 M.c.h.au, .int .i64 M.c.h.ro, .slice P.c.h.b.A P.c.h.b.n P.c.h.b.c, .slice P.c.h.p.A P.c.h.p.n P.c.h.p.c, .int .i64 M.c.di, .slice P.c.s.A P.c.s.n P.c.s.c, .slice P.ds.A P.ds.n P.ds.c]
structure MsgR (w : World) (P : MsgP) (M : MsgD) : Prop where
  tx : TxsR w P.b.A P.b.n M.b.tx
  h : HeaderR w P.h M.h
  c : CertR w P.c M.c
  ds : IntsR w P.ds.A P.ds.n M.ds
theorem MsgR.up {w w' : World} {P M} (h : MsgR w P M) (hb : Below w.heap.size w w') : MsgR w' P M := ⟨h.tx.up hb, h.h.up hb, h.c.up hb, h.ds.up hb⟩
structure JobD where
  doo : Int
  d : Int
  t : TxD
  m : MsgD
  fit : Bool
  l : List Int
instance : Inhabited JobD := ⟨⟨0, 0, default, default, false, []⟩⟩
section
variable {H : Type} {enc : TypeId × Value → H} {w : World} {base : Nat} {spare : Nat → Bool} {held : Bool}
end
end Go.Proofs.Ytnngeaibdnnpoaa
