/- Workers: copied, the same, at the reference. -/
import Derived.Test.YtgfakefcmbpboaaSxWe
namespace Go.Proofs.Ytgfakefcmbpboaa
open Go.RowKit
set_option linter.unusedSimpArgs false
set_option linter.unusedVariables false

/-- A worker whose lists are one's own, from block B on. -/
structure WorkO (w : World) (B : Nat) (P : WorkP) (D : WorkD) : Prop where
  op : OwnX w B P.op.v D.op
  wa : OwnWs w B P.wa.v D.wa
  he : OwnHs w B P.he.v D.he
  re : OwnI w B P.re.v D.re
theorem WorkO.up {w w' : World} {B : Nat} {P D} (h : WorkO w B P D) (hb : Below w.heap.size w w') : WorkO w' B P D := ⟨h.op.up hb, h.wa.up hb, h.he.up hb, h.re.up hb⟩
theorem WorkO.mono {w : World} {B B' : Nat} {P D} (h : WorkO w B P D) (hB : B' ≤ B) : WorkO w B' P D := ⟨h.op.mono hB, h.wa.mono hB, h.he.mono hB, h.re.mono hB⟩
theorem WorkO.low {w : World} {B b o : Nat} {u : Value} {P D} (h : WorkO w B P D) (hp : b < B) : WorkO (w.setCell ⟨b, o, none⟩ u) B P D := ⟨h.op.set3 hp u, h.wa.low hp, h.he.low hp, h.re.low hp u⟩
structure BigD (D : WorkD) : Prop where
  op : D.op.length ≤ 800000000
  wa : BigW D.wa
  he : BigH D.he
  re : D.re.length ≤ 800000000
theorem WorkO.work {w : World} {B : Nat} {P : WorkP} {D : WorkD} (h : WorkO w B P D) (hs : BigD D) : WorkR w P D := by
  obtain ⟨⟨oA, on, oc⟩, ⟨tA, tn, tc⟩, ⟨eA, en, ec⟩, ⟨rA, rn, rc⟩⟩ := P
  obtain ⟨A1, c1, e1, r1, s1, m1⟩ := h.op.txs (by have := hs.op; omega)
  obtain ⟨A2, c2, e2, r2, _⟩ := h.wa.waits hs.wa
  obtain ⟨A3, c3, e3, r3, _⟩ := h.he.helds hs.he
  obtain ⟨A4, c4, e4, r4, _⟩ := h.re.ints (by have := hs.re; omega)
  have hrc : rn ≤ rc := by
    rcases own_shape h.re with ⟨e, h0⟩ | ⟨g, c, e, _, hc⟩
    · unfold SlP.v at e; injection e with x1 x2 x3; dsimp only at x2; omega
    · unfold SlP.v at e; injection e with x1 x2 x3; dsimp only at x2 x3; omega
  unfold SlP.v at e1 e2 e3 e4
  injection e1 with a1 a2 a3; injection e2 with b1 b2 b3; injection e3 with d1 d2 d3; injection e4 with f1 f2 f3
  dsimp only at a1 a2 a3 b1 b2 b3 d1 d2 d3 f1 f2 f3
  subst a1; subst a2; subst a3; subst b1; subst b2; subst b3; subst d1; subst d2; subst d3; subst f1; subst f2; subst f3
  exact ⟨r1, r2, r3, r4, s1, m1, hrc⟩
end Go.Proofs.Ytgfakefcmbpboaa
