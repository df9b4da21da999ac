/- The law WorkerTooks. -/
import Derived.Test.YtgfakefcmbpboaaGreatWmf
import Derived.Test.YtgfakefcmbpboaaGreatWmk
import Derived.Test.YtgfakefcmbpboaaGreatWsg
import Derived.Test.YtgfakefcmbpboaaGreatWsj
namespace Go.Proofs.YtgfakefcmbpboaaGreat
open Go.RowKit
set_option linter.unusedSimpArgs false
set_option linter.unusedVariables false

set_option maxRecDepth 100000 in
set_option maxHeartbeats 8000000 in
theorem step_do9 (P : WorkP) (D : WorkD) (MP : MsgP) (SP : SlP) (a : JobD) (w : World) (h : WorkR w P D) (hs : BigD D) (hdo : wiI a.doo 11 = 9) (hi : IntsR w SP.A SP.n a.l) (hn : SP.n ≤ 100000) (hnr : D.re.length ≤ 100000) (hbg : BigD (outW D a.l)) (hrl : (outW D a.l).re.length ≤ 1000000)
    (hsm : D.op.length ≤ 1000000 ∧ D.wa.length ≤ 1000000 ∧ D.he.length ≤ 1000000 ∧ (∀ x ∈ D.wa, x.ak.length ≤ 1000000) ∧ (∀ x ∈ D.he, x.b.tx.length ≤ 1000000)) :
    Calls Tryz.prog 21 #[P.val D, J26 MP SP a] w fun e w' => ∃ P' D', e = .returned (.tuple #[P'.val D', .bool true]) ∧ WorkR w' P' D' ∧ Below w.heap.size w w' := by
  have H := Lib.hid h
  have HS := Lib.hid hs
  have HDO := Lib.hid hdo
  have HLN : Hid (a.l.length = SP.n) := Lib.hid hi.1
  have HSP := Lib.hid hi
  have HN := Lib.hid hn
  have HNR := Lib.hid hnr
  have HBG := Lib.hid hbg
  have HRL := Lib.hid hrl
  have HSM := Lib.hid hsm
  clear h hs hdo hi hn hnr hbg hrl hsm
  show Calls Tryz.prog 21 #[.agg #[.int .i64 D.id, .int .i64 D.nodes, .int .i64 D.next, .slice P.op.A P.op.n P.op.c, .int .i64 D.age, .int .i64 D.clock, .slice P.wa.A P.wa.n P.wa.c, .slice P.he.A P.he.n P.he.c, .slice P.re.A P.re.n P.re.c], .agg #[.int .i64 a.doo, .int .i64 a.d, .int .i64 a.t.se, .int .i64 a.t.sq, .string a.t.k, .string a.t.v, .int .i64 a.m.ki, .int .i64 a.m.fr, .int .i64 a.m.tt, .int .i64 a.m.di, .int .i64 a.m.b.au, .int .i64 a.m.b.n, .slice MP.b.A MP.b.n MP.b.c, .int .i64 a.m.h.au, .int .i64 a.m.h.ro, .slice MP.h.b.A MP.h.b.n MP.h.b.c, .slice MP.h.p.A MP.h.p.n MP.h.p.c, .int .i64 a.m.c.h.au, .int .i64 a.m.c.h.ro, .slice MP.c.h.b.A MP.c.h.b.n MP.c.h.b.c, .slice MP.c.h.p.A MP.c.h.p.n MP.c.h.p.c, .int .i64 a.m.c.di, .slice MP.c.s.A MP.c.s.n MP.c.s.c, .slice MP.ds.A MP.ds.n MP.ds.c, .bool a.fit, .slice SP.A SP.n SP.c]] w _
  go_enter Tryz.func21, Tryz.ntmps21
  obtain ⟨z, hz⟩ : ∃ z, mayW D = z := ⟨_, rfl⟩
  have HZ := Lib.hid hz
  clear hz
  go_wp2_with fail
  have hX1 : Blk (((w.alloc (.cells #[.int .i64 D.id, .int .i64 D.nodes, .int .i64 D.next, .slice P.op.A P.op.n P.op.c, .int .i64 D.age, .int .i64 D.clock, .slice P.wa.A P.wa.n P.wa.c, .slice P.he.A P.he.n P.he.c, .slice P.re.A P.re.n P.re.c] 27)).alloc (.cells #[.int .i64 a.doo, .int .i64 a.d, .int .i64 a.t.se, .int .i64 a.t.sq, .string a.t.k, .string a.t.v, .int .i64 a.m.ki, .int .i64 a.m.fr, .int .i64 a.m.tt, .int .i64 a.m.di, .int .i64 a.m.b.au, .int .i64 a.m.b.n, .slice MP.b.A MP.b.n MP.b.c, .int .i64 a.m.h.au, .int .i64 a.m.h.ro, .slice MP.h.b.A MP.h.b.n MP.h.b.c, .slice MP.h.p.A MP.h.p.n MP.h.p.c, .int .i64 a.m.c.h.au, .int .i64 a.m.c.h.ro, .slice MP.c.h.b.A MP.c.h.b.n MP.c.h.b.c, .slice MP.c.h.p.A MP.c.h.p.n MP.c.h.p.c, .int .i64 a.m.c.di, .slice MP.c.s.A MP.c.s.n MP.c.s.c, .slice MP.ds.A MP.ds.n MP.ds.c, .bool a.fit, .slice SP.A SP.n SP.c] 51)).alloc (.cells #[.int .i64 0, .int .i64 0, .int .i64 0, .slice none 0 0, .int .i64 0, .int .i64 0, .slice none 0 0, .slice none 0 0, .slice none 0 0] 27)) w.heap.size 27 [.int .i64 D.id, .int .i64 D.nodes, .int .i64 D.next, .slice P.op.A P.op.n P.op.c, .int .i64 D.age, .int .i64 D.clock, .slice P.wa.A P.wa.n P.wa.c, .slice P.he.A P.he.n P.he.c, .slice P.re.A P.re.n P.re.c] := (Blk.new w 27 [.int .i64 D.id, .int .i64 D.nodes, .int .i64 D.next, .slice P.op.A P.op.n P.op.c, .int .i64 D.age, .int .i64 D.clock, .slice P.wa.A P.wa.n P.wa.c, .slice P.he.A P.he.n P.he.c, .slice P.re.A P.re.n P.re.c]).up (by (repeat (first | (with_reducible exact Below.refl _ _) | (with_reducible assumption) | (with_reducible apply bel_alloc) | (with_reducible apply bel_drew) | (with_reducible apply bel_drewN) | (with_reducible refine bel_trans ?_ (by with_reducible assumption)) | (with_reducible refine bel_trans ?_ (HF.out _)) | (with_reducible refine bel_set ?_ (by simp) _) | (with_reducible refine bel_set ?_ (by simp; omega) _) | (with_reducible refine bel_set ?_ (by omega) _))))
  have hX2 : Blk (((w.alloc (.cells #[.int .i64 D.id, .int .i64 D.nodes, .int .i64 D.next, .slice P.op.A P.op.n P.op.c, .int .i64 D.age, .int .i64 D.clock, .slice P.wa.A P.wa.n P.wa.c, .slice P.he.A P.he.n P.he.c, .slice P.re.A P.re.n P.re.c] 27)).alloc (.cells #[.int .i64 a.doo, .int .i64 a.d, .int .i64 a.t.se, .int .i64 a.t.sq, .string a.t.k, .string a.t.v, .int .i64 a.m.ki, .int .i64 a.m.fr, .int .i64 a.m.tt, .int .i64 a.m.di, .int .i64 a.m.b.au, .int .i64 a.m.b.n, .slice MP.b.A MP.b.n MP.b.c, .int .i64 a.m.h.au, .int .i64 a.m.h.ro, .slice MP.h.b.A MP.h.b.n MP.h.b.c, .slice MP.h.p.A MP.h.p.n MP.h.p.c, .int .i64 a.m.c.h.au, .int .i64 a.m.c.h.ro, .slice MP.c.h.b.A MP.c.h.b.n MP.c.h.b.c, .slice MP.c.h.p.A MP.c.h.p.n MP.c.h.p.c, .int .i64 a.m.c.di, .slice MP.c.s.A MP.c.s.n MP.c.s.c, .slice MP.ds.A MP.ds.n MP.ds.c, .bool a.fit, .slice SP.A SP.n SP.c] 51)).alloc (.cells #[.int .i64 0, .int .i64 0, .int .i64 0, .slice none 0 0, .int .i64 0, .int .i64 0, .slice none 0 0, .slice none 0 0, .slice none 0 0] 27)) (w.heap.size + 1) 51 [.int .i64 a.doo, .int .i64 a.d, .int .i64 a.t.se, .int .i64 a.t.sq, .string a.t.k, .string a.t.v, .int .i64 a.m.ki, .int .i64 a.m.fr, .int .i64 a.m.tt, .int .i64 a.m.di, .int .i64 a.m.b.au, .int .i64 a.m.b.n, .slice MP.b.A MP.b.n MP.b.c, .int .i64 a.m.h.au, .int .i64 a.m.h.ro, .slice MP.h.b.A MP.h.b.n MP.h.b.c, .slice MP.h.p.A MP.h.p.n MP.h.p.c, .int .i64 a.m.c.h.au, .int .i64 a.m.c.h.ro, .slice MP.c.h.b.A MP.c.h.b.n MP.c.h.b.c, .slice MP.c.h.p.A MP.c.h.p.n MP.c.h.p.c, .int .i64 a.m.c.di, .slice MP.c.s.A MP.c.s.n MP.c.s.c, .slice MP.ds.A MP.ds.n MP.ds.c, .bool a.fit, .slice SP.A SP.n SP.c] := by
    have := (Blk.new (w.alloc (.cells #[.int .i64 D.id, .int .i64 D.nodes, .int .i64 D.next, .slice P.op.A P.op.n P.op.c, .int .i64 D.age, .int .i64 D.clock, .slice P.wa.A P.wa.n P.wa.c, .slice P.he.A P.he.n P.he.c, .slice P.re.A P.re.n P.re.c] 27)) 51 [.int .i64 a.doo, .int .i64 a.d, .int .i64 a.t.se, .int .i64 a.t.sq, .string a.t.k, .string a.t.v, .int .i64 a.m.ki, .int .i64 a.m.fr, .int .i64 a.m.tt, .int .i64 a.m.di, .int .i64 a.m.b.au, .int .i64 a.m.b.n, .slice MP.b.A MP.b.n MP.b.c, .int .i64 a.m.h.au, .int .i64 a.m.h.ro, .slice MP.h.b.A MP.h.b.n MP.h.b.c, .slice MP.h.p.A MP.h.p.n MP.h.p.c, .int .i64 a.m.c.h.au, .int .i64 a.m.c.h.ro, .slice MP.c.h.b.A MP.c.h.b.n MP.c.h.b.c, .slice MP.c.h.p.A MP.c.h.p.n MP.c.h.p.c, .int .i64 a.m.c.di, .slice MP.c.s.A MP.c.s.n MP.c.s.c, .slice MP.ds.A MP.ds.n MP.ds.c, .bool a.fit, .slice SP.A SP.n SP.c]).up (w' := (((w.alloc (.cells #[.int .i64 D.id, .int .i64 D.nodes, .int .i64 D.next, .slice P.op.A P.op.n P.op.c, .int .i64 D.age, .int .i64 D.clock, .slice P.wa.A P.wa.n P.wa.c, .slice P.he.A P.he.n P.he.c, .slice P.re.A P.re.n P.re.c] 27)).alloc (.cells #[.int .i64 a.doo, .int .i64 a.d, .int .i64 a.t.se, .int .i64 a.t.sq, .string a.t.k, .string a.t.v, .int .i64 a.m.ki, .int .i64 a.m.fr, .int .i64 a.m.tt, .int .i64 a.m.di, .int .i64 a.m.b.au, .int .i64 a.m.b.n, .slice MP.b.A MP.b.n MP.b.c, .int .i64 a.m.h.au, .int .i64 a.m.h.ro, .slice MP.h.b.A MP.h.b.n MP.h.b.c, .slice MP.h.p.A MP.h.p.n MP.h.p.c, .int .i64 a.m.c.h.au, .int .i64 a.m.c.h.ro, .slice MP.c.h.b.A MP.c.h.b.n MP.c.h.b.c, .slice MP.c.h.p.A MP.c.h.p.n MP.c.h.p.c, .int .i64 a.m.c.di, .slice MP.c.s.A MP.c.s.n MP.c.s.c, .slice MP.ds.A MP.ds.n MP.ds.c, .bool a.fit, .slice SP.A SP.n SP.c] 51)).alloc (.cells #[.int .i64 0, .int .i64 0, .int .i64 0, .slice none 0 0, .int .i64 0, .int .i64 0, .slice none 0 0, .slice none 0 0, .slice none 0 0] 27))) (by (repeat (first | (with_reducible exact Below.refl _ _) | (with_reducible assumption) | (with_reducible apply bel_alloc) | (with_reducible apply bel_drew) | (with_reducible apply bel_drewN) | (with_reducible refine bel_trans ?_ (by with_reducible assumption)) | (with_reducible refine bel_trans ?_ (HF.out _)) | (with_reducible refine bel_set ?_ (by simp) _) | (with_reducible refine bel_set ?_ (by simp; omega) _) | (with_reducible refine bel_set ?_ (by omega) _))))
    simpa using this
  have hX3 : Blk (((w.alloc (.cells #[.int .i64 D.id, .int .i64 D.nodes, .int .i64 D.next, .slice P.op.A P.op.n P.op.c, .int .i64 D.age, .int .i64 D.clock, .slice P.wa.A P.wa.n P.wa.c, .slice P.he.A P.he.n P.he.c, .slice P.re.A P.re.n P.re.c] 27)).alloc (.cells #[.int .i64 a.doo, .int .i64 a.d, .int .i64 a.t.se, .int .i64 a.t.sq, .string a.t.k, .string a.t.v, .int .i64 a.m.ki, .int .i64 a.m.fr, .int .i64 a.m.tt, .int .i64 a.m.di, .int .i64 a.m.b.au, .int .i64 a.m.b.n, .slice MP.b.A MP.b.n MP.b.c, .int .i64 a.m.h.au, .int .i64 a.m.h.ro, .slice MP.h.b.A MP.h.b.n MP.h.b.c, .slice MP.h.p.A MP.h.p.n MP.h.p.c, .int .i64 a.m.c.h.au, .int .i64 a.m.c.h.ro, .slice MP.c.h.b.A MP.c.h.b.n MP.c.h.b.c, .slice MP.c.h.p.A MP.c.h.p.n MP.c.h.p.c, .int .i64 a.m.c.di, .slice MP.c.s.A MP.c.s.n MP.c.s.c, .slice MP.ds.A MP.ds.n MP.ds.c, .bool a.fit, .slice SP.A SP.n SP.c] 51)).alloc (.cells #[.int .i64 0, .int .i64 0, .int .i64 0, .slice none 0 0, .int .i64 0, .int .i64 0, .slice none 0 0, .slice none 0 0, .slice none 0 0] 27)) (w.heap.size + 2) 27 [.int .i64 0, .int .i64 0, .int .i64 0, .slice none 0 0, .int .i64 0, .int .i64 0, .slice none 0 0, .slice none 0 0, .slice none 0 0] := by
    have := Blk.new ((w.alloc (.cells #[.int .i64 D.id, .int .i64 D.nodes, .int .i64 D.next, .slice P.op.A P.op.n P.op.c, .int .i64 D.age, .int .i64 D.clock, .slice P.wa.A P.wa.n P.wa.c, .slice P.he.A P.he.n P.he.c, .slice P.re.A P.re.n P.re.c] 27)).alloc (.cells #[.int .i64 a.doo, .int .i64 a.d, .int .i64 a.t.se, .int .i64 a.t.sq, .string a.t.k, .string a.t.v, .int .i64 a.m.ki, .int .i64 a.m.fr, .int .i64 a.m.tt, .int .i64 a.m.di, .int .i64 a.m.b.au, .int .i64 a.m.b.n, .slice MP.b.A MP.b.n MP.b.c, .int .i64 a.m.h.au, .int .i64 a.m.h.ro, .slice MP.h.b.A MP.h.b.n MP.h.b.c, .slice MP.h.p.A MP.h.p.n MP.h.p.c, .int .i64 a.m.c.h.au, .int .i64 a.m.c.h.ro, .slice MP.c.h.b.A MP.c.h.b.n MP.c.h.b.c, .slice MP.c.h.p.A MP.c.h.p.n MP.c.h.p.c, .int .i64 a.m.c.di, .slice MP.c.s.A MP.c.s.n MP.c.s.c, .slice MP.ds.A MP.ds.n MP.ds.c, .bool a.fit, .slice SP.A SP.n SP.c] 51)) 27 [.int .i64 0, .int .i64 0, .int .i64 0, .slice none 0 0, .int .i64 0, .int .i64 0, .slice none 0 0, .slice none 0 0, .slice none 0 0]
    simpa using this
  have hbX : Below w.heap.size w (((w.alloc (.cells #[.int .i64 D.id, .int .i64 D.nodes, .int .i64 D.next, .slice P.op.A P.op.n P.op.c, .int .i64 D.age, .int .i64 D.clock, .slice P.wa.A P.wa.n P.wa.c, .slice P.he.A P.he.n P.he.c, .slice P.re.A P.re.n P.re.c] 27)).alloc (.cells #[.int .i64 a.doo, .int .i64 a.d, .int .i64 a.t.se, .int .i64 a.t.sq, .string a.t.k, .string a.t.v, .int .i64 a.m.ki, .int .i64 a.m.fr, .int .i64 a.m.tt, .int .i64 a.m.di, .int .i64 a.m.b.au, .int .i64 a.m.b.n, .slice MP.b.A MP.b.n MP.b.c, .int .i64 a.m.h.au, .int .i64 a.m.h.ro, .slice MP.h.b.A MP.h.b.n MP.h.b.c, .slice MP.h.p.A MP.h.p.n MP.h.p.c, .int .i64 a.m.c.h.au, .int .i64 a.m.c.h.ro, .slice MP.c.h.b.A MP.c.h.b.n MP.c.h.b.c, .slice MP.c.h.p.A MP.c.h.p.n MP.c.h.p.c, .int .i64 a.m.c.di, .slice MP.c.s.A MP.c.s.n MP.c.s.c, .slice MP.ds.A MP.ds.n MP.ds.c, .bool a.fit, .slice SP.A SP.n SP.c] 51)).alloc (.cells #[.int .i64 0, .int .i64 0, .int .i64 0, .slice none 0 0, .int .i64 0, .int .i64 0, .slice none 0 0, .slice none 0 0, .slice none 0 0] 27)) := by (repeat (first | (with_reducible exact Below.refl _ _) | (with_reducible assumption) | (with_reducible apply bel_alloc) | (with_reducible apply bel_drew) | (with_reducible apply bel_drewN) | (with_reducible refine bel_trans ?_ (by with_reducible assumption)) | (with_reducible refine bel_trans ?_ (HF.out _)) | (with_reducible refine bel_set ?_ (by simp) _) | (with_reducible refine bel_set ?_ (by simp; omega) _) | (with_reducible refine bel_set ?_ (by omega) _)))
  generalize (((w.alloc (.cells #[.int .i64 D.id, .int .i64 D.nodes, .int .i64 D.next, .slice P.op.A P.op.n P.op.c, .int .i64 D.age, .int .i64 D.clock, .slice P.wa.A P.wa.n P.wa.c, .slice P.he.A P.he.n P.he.c, .slice P.re.A P.re.n P.re.c] 27)).alloc (.cells #[.int .i64 a.doo, .int .i64 a.d, .int .i64 a.t.se, .int .i64 a.t.sq, .string a.t.k, .string a.t.v, .int .i64 a.m.ki, .int .i64 a.m.fr, .int .i64 a.m.tt, .int .i64 a.m.di, .int .i64 a.m.b.au, .int .i64 a.m.b.n, .slice MP.b.A MP.b.n MP.b.c, .int .i64 a.m.h.au, .int .i64 a.m.h.ro, .slice MP.h.b.A MP.h.b.n MP.h.b.c, .slice MP.h.p.A MP.h.p.n MP.h.p.c, .int .i64 a.m.c.h.au, .int .i64 a.m.c.h.ro, .slice MP.c.h.b.A MP.c.h.b.n MP.c.h.b.c, .slice MP.c.h.p.A MP.c.h.p.n MP.c.h.p.c, .int .i64 a.m.c.di, .slice MP.c.s.A MP.c.s.n MP.c.s.c, .slice MP.ds.A MP.ds.n MP.ds.c, .bool a.fit, .slice SP.A SP.n SP.c] 51)).alloc (.cells #[.int .i64 0, .int .i64 0, .int .i64 0, .slice none 0 0, .int .i64 0, .int .i64 0, .slice none 0 0, .slice none 0 0, .slice none 0 0] 27)) = X at *
  have HX1 := Lib.hid hX1
  have HX2 := Lib.hid hX2
  have HX3 := Lib.hid hX3
  have HBX := Lib.hid hbX
  clear hX1 hX2 hX3
  refine (ref0_CopyWorker P D _ (H.out.up hbX) HS.out).mono ?_
  rintro e w1 ⟨Pi, he1, hOi, hb1⟩
  simp only [WorkP.val] at he1
  subst he1
  have hbI : Below w1.heap.size w1 (w1.alloc (.cells #[.int .i64 D.id, .int .i64 D.nodes, .int .i64 D.next, .slice Pi.op.A Pi.op.n Pi.op.c, .int .i64 D.age, .int .i64 D.clock, .slice Pi.wa.A Pi.wa.n Pi.wa.c, .slice Pi.he.A Pi.he.n Pi.he.c, .slice Pi.re.A Pi.re.n Pi.re.c] 27)) := by (repeat (first | (with_reducible exact Below.refl _ _) | (with_reducible assumption) | (with_reducible apply bel_alloc) | (with_reducible apply bel_drew) | (with_reducible apply bel_drewN) | (with_reducible refine bel_trans ?_ (by with_reducible assumption)) | (with_reducible refine bel_trans ?_ (HF.out _)) | (with_reducible refine bel_set ?_ (by simp) _) | (with_reducible refine bel_set ?_ (by simp; omega) _) | (with_reducible refine bel_set ?_ (by omega) _)))
  have hY1 := (HX1.out.up hb1)
  have HOi := Lib.hid (hOi.up hbI)
  have HI := Lib.hid (Blk.new w1 27 [.int .i64 D.id, .int .i64 D.nodes, .int .i64 D.next, .slice Pi.op.A Pi.op.n Pi.op.c, .int .i64 D.age, .int .i64 D.clock, .slice Pi.wa.A Pi.wa.n Pi.wa.c, .slice Pi.he.A Pi.he.n Pi.he.c, .slice Pi.re.A Pi.re.n Pi.re.c])
  have HY2 := Lib.hid ((HX2.out.up hb1).up hbI)
  have HY3 := Lib.hid ((HX3.out.up hb1).up hbI)
  have HY1 := Lib.hid (hY1.up hbI)
  have hbY := bel_trans (bel_trans hbX hb1) hbI
  have ly1 := hY1.lt
  have a_0 := (hY1.box).2 0 _ rfl; have a_1 := (hY1.box).2 1 _ rfl; have a_2 := (hY1.box).2 2 _ rfl; have a_3 := (hY1.box).2 3 _ rfl; have a_4 := (hY1.box).2 4 _ rfl; have a_5 := (hY1.box).2 5 _ rfl; have a_6 := (hY1.box).2 6 _ rfl; have a_7 := (hY1.box).2 7 _ rfl; have a_8 := (hY1.box).2 8 _ rfl
  have hzX : w.heap.size + 3 ≤ w1.heap.size := by have := (HX3.out.up hb1).lt; omega
  clear hY1 HX1 HX2 HX3 hOi hb1 hbI hbX HBX
  go_wp2_with fail
  clear a_0 a_1 a_2 a_3 a_4 a_5 a_6 a_7 a_8 ly1
  have hgiE : w1.heap.size < (w1.alloc (.cells #[.int .i64 D.id, .int .i64 D.nodes, .int .i64 D.next, .slice Pi.op.A Pi.op.n Pi.op.c, .int .i64 D.age, .int .i64 D.clock, .slice Pi.wa.A Pi.wa.n Pi.wa.c, .slice Pi.he.A Pi.he.n Pi.he.c, .slice Pi.re.A Pi.re.n Pi.re.c] 27)).heap.size := HI.out.lt
  obtain ⟨gi, hgi⟩ : ∃ g, g = w1.heap.size := ⟨_, rfl⟩
  obtain ⟨X1, hX1⟩ : ∃ X1, X1 = (w1.alloc (.cells #[.int .i64 D.id, .int .i64 D.nodes, .int .i64 D.next, .slice Pi.op.A Pi.op.n Pi.op.c, .int .i64 D.age, .int .i64 D.clock, .slice Pi.wa.A Pi.wa.n Pi.wa.c, .slice Pi.he.A Pi.he.n Pi.he.c, .slice Pi.re.A Pi.re.n Pi.re.c] 27)) := ⟨_, rfl⟩
  rw [← hX1, ← hgi] at HI
  rw [← hX1] at HOi HY1 HY2 HY3 hbY
  rw [← hX1, ← hgi]
  rw [← hX1, ← hgi] at hgiE
  rw [← hgi] at hzX
  clear hX1 hgi
  refine (ref13_May P D z _ (H.out.up hbY) HZ.out).mono ?_
  rintro e w2 ⟨rfl, hb2⟩
  have hA2 := HY2.out.up hb2
  have b_0 := hA2.box.2 0 _ rfl
  have lA2 := hA2.lt
  have lA1 : w.heap.size < w2.heap.size := by omega
  clear hA2
  go_upto_region 44 with (go_at_call 40; refine (law0_Within a.doo 11 9 _ (by decide) (by decide) HDO.out).mono ?_; rintro e w' ⟨rfl, rfl⟩)
  clear b_0 lA2 lA1
  have hbz : Below w2.heap.size w2 ((w2.alloc (.cells #[.int .i64 0, .int .i64 0, .int .i64 0, .slice none 0 0, .int .i64 0, .int .i64 0, .slice none 0 0, .slice none 0 0, .slice none 0 0, .slice none 0 0] 70)).alloc (.cells #[.int .i64 0, .int .i64 0, .int .i64 0, .slice none 0 0, .int .i64 0, .int .i64 0, .slice none 0 0, .slice none 0 0, .slice none 0 0] 27)) := by (repeat (first | (with_reducible exact Below.refl _ _) | (with_reducible assumption) | (with_reducible apply bel_alloc) | (with_reducible apply bel_drew) | (with_reducible apply bel_drewN) | (with_reducible refine bel_trans ?_ (by with_reducible assumption)) | (with_reducible refine bel_trans ?_ (HF.out _)) | (with_reducible refine bel_set ?_ (by simp) _) | (with_reducible refine bel_set ?_ (by simp; omega) _) | (with_reducible refine bel_set ?_ (by omega) _)))
  have hs0 : Blk ((w2.alloc (.cells #[.int .i64 0, .int .i64 0, .int .i64 0, .slice none 0 0, .int .i64 0, .int .i64 0, .slice none 0 0, .slice none 0 0, .slice none 0 0, .slice none 0 0] 70)).alloc (.cells #[.int .i64 0, .int .i64 0, .int .i64 0, .slice none 0 0, .int .i64 0, .int .i64 0, .slice none 0 0, .slice none 0 0, .slice none 0 0] 27)) w2.heap.size 70 [.int .i64 0, .int .i64 0, .int .i64 0, .slice none 0 0, .int .i64 0, .int .i64 0, .slice none 0 0, .slice none 0 0, .slice none 0 0, .slice none 0 0] := (Blk.new w2 70 [.int .i64 0, .int .i64 0, .int .i64 0, .slice none 0 0, .int .i64 0, .int .i64 0, .slice none 0 0, .slice none 0 0, .slice none 0 0, .slice none 0 0]).up (by (repeat (first | (with_reducible exact Below.refl _ _) | (with_reducible assumption) | (with_reducible apply bel_alloc) | (with_reducible apply bel_drew) | (with_reducible apply bel_drewN) | (with_reducible refine bel_trans ?_ (by with_reducible assumption)) | (with_reducible refine bel_trans ?_ (HF.out _)) | (with_reducible refine bel_set ?_ (by simp) _) | (with_reducible refine bel_set ?_ (by simp; omega) _) | (with_reducible refine bel_set ?_ (by omega) _))))
  have hx0 : Blk ((w2.alloc (.cells #[.int .i64 0, .int .i64 0, .int .i64 0, .slice none 0 0, .int .i64 0, .int .i64 0, .slice none 0 0, .slice none 0 0, .slice none 0 0, .slice none 0 0] 70)).alloc (.cells #[.int .i64 0, .int .i64 0, .int .i64 0, .slice none 0 0, .int .i64 0, .int .i64 0, .slice none 0 0, .slice none 0 0, .slice none 0 0] 27)) (w2.heap.size + 1) 27 [.int .i64 0, .int .i64 0, .int .i64 0, .slice none 0 0, .int .i64 0, .int .i64 0, .slice none 0 0, .slice none 0 0, .slice none 0 0] := by
    have := Blk.new (w2.alloc (.cells #[.int .i64 0, .int .i64 0, .int .i64 0, .slice none 0 0, .int .i64 0, .int .i64 0, .slice none 0 0, .slice none 0 0, .slice none 0 0, .slice none 0 0] 70)) 27 [.int .i64 0, .int .i64 0, .int .i64 0, .slice none 0 0, .int .i64 0, .int .i64 0, .slice none 0 0, .slice none 0 0, .slice none 0 0]
    simpa using this
  obtain ⟨gx, hgx⟩ : ∃ g, g = w2.heap.size + 1 := ⟨_, rfl⟩
  rw [← hgx] at hx0 ⊢
  obtain ⟨gs, hgs⟩ : ∃ g, g = w2.heap.size := ⟨_, rfl⟩
  rw [← hgs] at hs0 ⊢
  obtain ⟨Y, hY⟩ : ∃ Y, Y = ((w2.alloc (.cells #[.int .i64 0, .int .i64 0, .int .i64 0, .slice none 0 0, .int .i64 0, .int .i64 0, .slice none 0 0, .slice none 0 0, .slice none 0 0, .slice none 0 0] 70)).alloc (.cells #[.int .i64 0, .int .i64 0, .int .i64 0, .slice none 0 0, .int .i64 0, .int .i64 0, .slice none 0 0, .slice none 0 0, .slice none 0 0] 27)) := ⟨_, rfl⟩
  rw [← hY] at hbz hs0 hx0 ⊢
  have hgisz := (HI.out.up hb2).lt
  have hgis : gi < gs := by omega
  have hgsx : gs < gx := by omega
  have hgw : w.heap.size + 2 < gi := by omega
  have HU1 := Lib.hid ((HY1.out.up hb2).up hbz)
  have HU2 := Lib.hid ((HY2.out.up hb2).up hbz)
  have HU3 := Lib.hid ((HY3.out.up hb2).up hbz)
  have HUi := Lib.hid ((HI.out.up hb2).up hbz)
  have HUs := Lib.hid hs0
  have HUx := Lib.hid hx0
  have HOI := Lib.hid ((HOi.out.up hb2).up hbz)
  have hbU := bel_trans (bel_trans hbY hb2) hbz
  clear hY hgx hgs hs0 hx0 hbz hgisz hgiE hzX HY1 HY2 HY3 HI HOi hbY hb2
  cases z
  · skip
    go_upto_region 46 with fail
    have HPi := Lib.hid (HOI.out.work HS.out)
    have HGi := HUi
    have HG2 := HU2
    have HGx := HUx
    have hbB := hbU
    obtain ⟨S, hSd⟩ : ∃ S : World → Prop, S = fun Q => Blk Q gi 27 [.int .i64 D.id, .int .i64 D.nodes, .int .i64 D.next, .slice Pi.op.A Pi.op.n Pi.op.c, .int .i64 D.age, .int .i64 D.clock, .slice Pi.wa.A Pi.wa.n Pi.wa.c, .slice Pi.he.A Pi.he.n Pi.he.c, .slice Pi.re.A Pi.re.n Pi.re.c] ∧ Blk Q (w.heap.size + 1) 51 [.int .i64 a.doo, .int .i64 a.d, .int .i64 a.t.se, .int .i64 a.t.sq, .string a.t.k, .string a.t.v, .int .i64 a.m.ki, .int .i64 a.m.fr, .int .i64 a.m.tt, .int .i64 a.m.di, .int .i64 a.m.b.au, .int .i64 a.m.b.n, .slice MP.b.A MP.b.n MP.b.c, .int .i64 a.m.h.au, .int .i64 a.m.h.ro, .slice MP.h.b.A MP.h.b.n MP.h.b.c, .slice MP.h.p.A MP.h.p.n MP.h.p.c, .int .i64 a.m.c.h.au, .int .i64 a.m.c.h.ro, .slice MP.c.h.b.A MP.c.h.b.n MP.c.h.b.c, .slice MP.c.h.p.A MP.c.h.p.n MP.c.h.p.c, .int .i64 a.m.c.di, .slice MP.c.s.A MP.c.s.n MP.c.s.c, .slice MP.ds.A MP.ds.n MP.ds.c, .bool a.fit, .slice SP.A SP.n SP.c] := ⟨_, rfl⟩
    have hS : ∀ Q, Below Y.heap.size Y Q → S Q := fun Q hQ => by rw [hSd]; exact ⟨HGi.out.up hQ, HG2.out.up hQ⟩
    have hS3 : ∀ Q, S Q → Q.rangeAt gi 0 [.int .i64 D.id, .int .i64 D.nodes, .int .i64 D.next, .slice Pi.op.A Pi.op.n Pi.op.c, .int .i64 D.age, .int .i64 D.clock, .slice Pi.wa.A Pi.wa.n Pi.wa.c, .slice Pi.he.A Pi.he.n Pi.he.c, .slice Pi.re.A Pi.re.n Pi.re.c] := fun Q h => by rw [hSd] at h; exact fun j u hu => by (rw [Nat.zero_add]); exact h.1.box.2 j u hu
    have hS5 : ∀ Q, S Q → Q.cell? ⟨w.heap.size + 1, 25, none⟩ = some (.slice SP.A SP.n SP.c) := fun Q h => by rw [hSd] at h; exact h.2.box.2 25 _ rfl
    have hSr : ∀ Q, S Q → ∀ (a0 a1 a2 a3 a4 a5 a6 a7 a8 : Value), S (((((((((Q.setCell ⟨gx, 0, none⟩ a0).setCell ⟨gx, 1, none⟩ a1).setCell ⟨gx, 2, none⟩ a2).setCell ⟨gx, 3, none⟩ a3).setCell ⟨gx, 4, none⟩ a4).setCell ⟨gx, 5, none⟩ a5).setCell ⟨gx, 6, none⟩ a6).setCell ⟨gx, 7, none⟩ a7).setCell ⟨gx, 8, none⟩ a8) := fun Q h a0 a1 a2 a3 a4 a5 a6 a7 a8 => by rw [hSd] at h ⊢; exact ⟨h.1.sets9 (by omega) a0 a1 a2 a3 a4 a5 a6 a7 a8, h.2.sets9 (by omega) a0 a1 a2 a3 a4 a5 a6 a7 a8⟩
    clear hSd
    refine wp_region_held_drew (S := S) (by kernel_rfl) (hS _ (bel_drew (Below.refl _ _))) (fun hHeld => ?_)
    have hbd : Below Y.heap.size Y Y.drew := bel_drew (Below.refl _ _)
    have hZ := hHeld
    generalize Y.drew = Z at *
    refine wpAnyH_takeD (i := 0) (d := (some 173)) (v := .agg ([.int .i64 D.id, .int .i64 D.nodes, .int .i64 D.next, .slice Pi.op.A Pi.op.n Pi.op.c, .int .i64 D.age, .int .i64 D.clock, .slice Pi.wa.A Pi.wa.n Pi.wa.c, .slice Pi.he.A Pi.he.n Pi.he.c, .slice Pi.re.A Pi.re.n Pi.re.c]).toArray) rfl rfl (by kernel_rfl) (by kernel_rfl) (by kernel_rfl) (fun _ _ _ h => h) (yieldsIf_load_mid (by rfl) 27 _ rfl gi 0 (by simp [Act.eval, Act.put]) ([.int .i64 D.id, .int .i64 D.nodes, .int .i64 D.next, .slice Pi.op.A Pi.op.n Pi.op.c, .int .i64 D.age, .int .i64 D.clock, .slice Pi.wa.A Pi.wa.n Pi.wa.c, .slice Pi.he.A Pi.he.n Pi.he.c, .slice Pi.re.A Pi.re.n Pi.re.c]) _ (hS3) Tryz.underlying27 (by rfl) (by kernel_rfl)) (by assumption) ?_
    simp only [Act.put, List.setIfInBounds_toArray, List.set_cons_zero, List.set_cons_succ]
    (refine wpAnyH_takeD (i := 1) (d := (some 174)) (v := ?_) rfl rfl (by kernel_rfl) (by kernel_rfl) (by kernel_rfl) (fun _ _ _ h => h) (Or.inl ⟨by rfl, ?_⟩) (by assumption) ?_)
    rotate_left
    focus
      intro wq hSw
      skip
      clear hSw
      go_simp
      all_goals (with_reducible rfl)
    simp only [Act.put, List.setIfInBounds_toArray, List.set_cons_zero, List.set_cons_succ]
    (refine wpAnyH_takeD (i := 2) (d := (some 175)) (v := ?_) rfl rfl (by kernel_rfl) (by kernel_rfl) (by kernel_rfl) (fun _ _ _ h => h) (Or.inl ⟨by rfl, ?_⟩) (by assumption) ?_)
    rotate_left
    focus
      intro wq hSw
      have q1 := hS5 wq hSw
      clear hSw
      go_simp
      all_goals (with_reducible rfl)
    simp only [Act.put, List.setIfInBounds_toArray, List.set_cons_zero, List.set_cons_succ]
    refine wpAnyH_ready (rs := [3]) (by kernel_rfl) (by simp) ?_
    refine AllReadyH.cons (o := _) rfl (fun K hK => ?_) AllReadyH.nil
    go_simp
    (go_at_call 29; refine (ref0_CopyNumbers SP.A SP.n SP.c a.l _ (HSP.out.up (bel_trans hbB hbd)) (Nat.le_trans HN.out (by decide))).mono ?_; rintro e wn ⟨v, rfl, ho, hbn⟩; obtain ⟨nA, nc, e7, hI, _⟩ := ho.ints (Nat.le_trans (Nat.le_of_eq HLN.out) (Nat.le_trans HN.out (by decide))); rw [HLN.out] at e7 hI; subst e7)
    have hbn2 := bel_trans hbd hbn
    have HNI := Lib.hid hI
    clear ho hI
    refine hK.out _ _ (hS _ hbn2) (fun hHeld => ?_)
    clear hK K
    (try simp only [Act.put, List.setIfInBounds_toArray, List.set_cons_zero, List.set_cons_succ])
    refine wpAnyH_ready (rs := [4]) (by kernel_rfl) (by simp) ?_
    refine AllReadyH.cons (o := _) rfl (fun K hK => ?_) AllReadyH.nil
    go_simp
    (go_at_call 57; refine (worker_Took Pi D nA SP.n nc a.l false _ (HPi.out.up hbn2) HS.out HZ.out HNI.out (Nat.le_trans HN.out (by decide)) (Nat.le_trans HNR.out (by decide))).mono ?_; rintro e wa ⟨he, hba0⟩; rw [if_neg (by decide)] at he; simp only [WorkP.val, zeroW] at he; subst he)
    have hba := bel_trans hbn2 hba0
    refine hK.out _ _ (hS _ hba) (fun hHeld => ?_)
    clear hK K
    (try simp only [Act.put, List.setIfInBounds_toArray, List.set_cons_zero, List.set_cons_succ])
    (refine wpAnyH_takeD (i := 5) (d := (some 172)) (v := ?_) rfl rfl (by kernel_rfl) (by kernel_rfl) (by kernel_rfl) (fun _ _ _ h => h) (Or.inl ⟨by rfl, ?_⟩) (by assumption) ?_)
    rotate_left
    focus
      intro wq hSw
      skip
      clear hSw
      go_simp
      all_goals (with_reducible rfl)
    simp only [Act.put, List.setIfInBounds_toArray, List.set_cons_zero, List.set_cons_succ]
    (refine wpAnyH_takeD (i := 6) (d := (some 178)) (v := ?_) rfl rfl (by kernel_rfl) (by kernel_rfl) (by kernel_rfl) (fun _ _ _ h => h) (Or.inl ⟨by rfl, ?_⟩) (by assumption) ?_)
    rotate_left
    focus
      intro wq hSw
      skip
      clear hSw
      go_simp
      all_goals (with_reducible rfl)
    simp only [Act.put, List.setIfInBounds_toArray, List.set_cons_zero, List.set_cons_succ]
    (refine wpAnyH_takeD (i := 7) (d := (some 179)) (v := ?_) rfl rfl (by kernel_rfl) (by kernel_rfl) (by kernel_rfl) (fun _ _ _ h => h) (Or.inl ⟨by rfl, ?_⟩) (by assumption) ?_)
    rotate_left
    focus
      intro wq hSw
      skip
      clear hSw
      go_simp
      all_goals (with_reducible rfl)
    simp only [Act.put, List.setIfInBounds_toArray, List.set_cons_zero, List.set_cons_succ]
    refine wpAnyH_ready (rs := [8]) (by kernel_rfl) (by simp) ?_
    refine AllReadyH.cons (o := _) rfl (fun K hK => ?_) AllReadyH.nil
    have HXa := Lib.hid (HGx.out.up hba)
    have hR := HXa.out
    have qf := hR.frozen
    have ql := hR.lt
    have h9 := hR.box
    have q0 := h9.2 0 _ rfl
    have q1 := h9.2 1 _ rfl
    have q2 := h9.2 2 _ rfl
    have q3 := h9.2 3 _ rfl
    have q4 := h9.2 4 _ rfl
    have q5 := h9.2 5 _ rfl
    have q6 := h9.2 6 _ rfl
    have q7 := h9.2 7 _ rfl
    have q8 := h9.2 8 _ rfl
    clear h9 hR
    go_simp
    clear qf ql q0 q1 q2 q3 q4 q5 q6 q7 q8
    refine hK.out _ _ (hSr _ (hS _ hba) (.int .i64 0) (.int .i64 0) (.int .i64 0) (.slice none 0 0) (.int .i64 0) (.int .i64 0) (.slice none 0 0) (.slice none 0 0) (.slice none 0 0)) (fun hHeld => ?_)
    clear hK K
    (try simp only [Act.put, List.setIfInBounds_toArray, List.set_cons_zero, List.set_cons_succ])
    (refine wpAnyH_takeD (i := 9) (d := (some 12)) (v := ?_) rfl rfl (by kernel_rfl) (by kernel_rfl) (by kernel_rfl) (fun _ _ _ h => h) (Or.inl ⟨by rfl, ?_⟩) (by assumption) ?_)
    rotate_left
    focus
      intro wq hSw
      skip
      clear hSw
      go_simp
      all_goals (with_reducible rfl)
    simp only [Act.put, List.setIfInBounds_toArray, List.set_cons_zero, List.set_cons_succ]
    refine wpAnyH_done (by kernel_rfl) ?_ _
    have hli := HUi.out.lt
    have hXa := HXa.out
    have fXa := hXa.frozen
    have lXa := hXa.lt
    clear hXa
    go_upto_region 53 with fail
    rename_i K9 hK9
    obtain ⟨gq, hgq⟩ : ∃ g, g = wa.heap.size := ⟨_, rfl⟩
    obtain ⟨W, hW⟩ : ∃ W, W = ((((((((((wa.setCell ⟨gx, 0, none⟩ (.int .i64 0)).setCell ⟨gx, 1, none⟩ (.int .i64 0)).setCell ⟨gx, 2, none⟩ (.int .i64 0)).setCell ⟨gx, 3, none⟩ (.slice none 0 0)).setCell ⟨gx, 4, none⟩ (.int .i64 0)).setCell ⟨gx, 5, none⟩ (.int .i64 0)).setCell ⟨gx, 6, none⟩ (.slice none 0 0)).setCell ⟨gx, 7, none⟩ (.slice none 0 0)).setCell ⟨gx, 8, none⟩ (.slice none 0 0)).alloc (.cells #[.int .i64 0, .int .i64 0, .int .i64 0, .slice none 0 0, .int .i64 0, .int .i64 0, .slice none 0 0, .slice none 0 0, .slice none 0 0, .slice none 0 0] 70)) := ⟨_, rfl⟩
    have hal : Below (((((((((wa.setCell ⟨gx, 0, none⟩ (.int .i64 0)).setCell ⟨gx, 1, none⟩ (.int .i64 0)).setCell ⟨gx, 2, none⟩ (.int .i64 0)).setCell ⟨gx, 3, none⟩ (.slice none 0 0)).setCell ⟨gx, 4, none⟩ (.int .i64 0)).setCell ⟨gx, 5, none⟩ (.int .i64 0)).setCell ⟨gx, 6, none⟩ (.slice none 0 0)).setCell ⟨gx, 7, none⟩ (.slice none 0 0)).setCell ⟨gx, 8, none⟩ (.slice none 0 0)).heap.size (((((((((wa.setCell ⟨gx, 0, none⟩ (.int .i64 0)).setCell ⟨gx, 1, none⟩ (.int .i64 0)).setCell ⟨gx, 2, none⟩ (.int .i64 0)).setCell ⟨gx, 3, none⟩ (.slice none 0 0)).setCell ⟨gx, 4, none⟩ (.int .i64 0)).setCell ⟨gx, 5, none⟩ (.int .i64 0)).setCell ⟨gx, 6, none⟩ (.slice none 0 0)).setCell ⟨gx, 7, none⟩ (.slice none 0 0)).setCell ⟨gx, 8, none⟩ (.slice none 0 0)) W := by rw [hW]; exact bel_alloc (Below.refl _ _)
    have hqB : Blk W gq 70 [.int .i64 0, .int .i64 0, .int .i64 0, .slice none 0 0, .int .i64 0, .int .i64 0, .slice none 0 0, .slice none 0 0, .slice none 0 0, .slice none 0 0] := by
      rw [hW, hgq]
      have := Blk.new (((((((((wa.setCell ⟨gx, 0, none⟩ (.int .i64 0)).setCell ⟨gx, 1, none⟩ (.int .i64 0)).setCell ⟨gx, 2, none⟩ (.int .i64 0)).setCell ⟨gx, 3, none⟩ (.slice none 0 0)).setCell ⟨gx, 4, none⟩ (.int .i64 0)).setCell ⟨gx, 5, none⟩ (.int .i64 0)).setCell ⟨gx, 6, none⟩ (.slice none 0 0)).setCell ⟨gx, 7, none⟩ (.slice none 0 0)).setCell ⟨gx, 8, none⟩ (.slice none 0 0)) 70 [.int .i64 0, .int .i64 0, .int .i64 0, .slice none 0 0, .int .i64 0, .int .i64 0, .slice none 0 0, .slice none 0 0, .slice none 0 0, .slice none 0 0]
      simpa [World.setCell] using this
    rw [← hW, ← hgq]
    clear hW hgq
    have hsx := set9 HXa.out rfl (.int .i64 0) (.int .i64 0) (.int .i64 0) (.slice none 0 0) (.int .i64 0) (.int .i64 0) (.slice none 0 0) (.slice none 0 0) (.slice none 0 0)
    have htk : TKeep 27 Y W := (TKeep.of_below hba).trans ((TKeep.sets9 HXa.out (.int .i64 0) (.int .i64 0) (.int .i64 0) (.slice none 0 0) (.int .i64 0) (.int .i64 0) (.slice none 0 0) (.slice none 0 0) (.slice none 0 0)).trans (TKeep.of_below hal))
    have hblk : ∀ g t cs, Blk Y g t cs → g ≠ gx → Blk W g t cs := fun g t cs h hne => ((h.up hba).sets9 hne (.int .i64 0) (.int .i64 0) (.int .i64 0) (.slice none 0 0) (.int .i64 0) (.int .i64 0) (.slice none 0 0) (.slice none 0 0) (.slice none 0 0)).up hal
    have hbWw : Below w.heap.size w W := (belw_sets9 (bel_trans hbU hba) (by omega) (.int .i64 0) (.int .i64 0) (.int .i64 0) (.slice none 0 0) (.int .i64 0) (.int .i64 0) (.slice none 0 0) (.slice none 0 0) (.slice none 0 0)).trans (hal.mono (by have h1 := hbU.size; have h2 := hba.size; simp [World.setCell]; omega))
    have hBW : Y.heap.size ≤ W.heap.size := by have h2 := hba.size; have h3 := hal.size; simp [World.setCell] at h3; omega
    have l1 := HU1.out.lt
    have l3 := HU3.out.lt
    have hwB := hbU.size
    exact step_tail w W Y.heap.size w.heap.size (w.heap.size + 1 + 1) gi gq gx P Pi nilP nilP D zeroWD 1 none none 0 0 0 0 hK9 hbWw hwB hBW (by omega) l3 (by omega) (by omega) (by intro e; rw [e] at hqB; have h9 := hblk _ _ _ HU3.out (by omega); have h8 : W.heap[w.heap.size + 1 + 1]? = some (.cells #[.int .i64 0, .int .i64 0, .int .i64 0, .slice none 0 0, .int .i64 0, .int .i64 0, .slice none 0 0, .slice none 0 0, .slice none 0 0, .slice none 0 0] 70 (0, 0)) := hqB; have h7 : W.heap[w.heap.size + 1 + 1]? = some (.cells #[.int .i64 0, .int .i64 0, .int .i64 0, .slice none 0 0, .int .i64 0, .int .i64 0, .slice none 0 0, .slice none 0 0, .slice none 0 0] 27 (0, 0)) := h9; rw [h8] at h7; simp at h7)
      (fun Y' hY' => ⟨H.out.up (hbWw.trans (hY'.mono hwB)), (HOI.out.tk (tk_belB htk hY') twWork).work HS.out, (hblk _ _ _ HU1.out (by omega)).below hY' l1, (hblk _ _ _ HUi.out (by omega)).below hY' hli, (hblk _ _ _ HU3.out (by omega)).below hY' l3⟩)
      (fun Y' hY' => ⟨zeroW_R _, hqB.up hY'⟩) (fun h => absurd h (by decide))
      (fun Y' hY' a0 a1 a2 a3 a4 a5 a6 a7 a8 => by rw [if_neg (by decide)]; exact H.out.up (belw_sets9 (hbWw.trans (hY'.mono hwB)) (by omega) a0 a1 a2 a3 a4 a5 a6 a7 a8))
      (hsx.up hal) (zeroW_O _ _) zeroW_big (by decide) (by decide) (by decide) (by decide) (fun x hx => by simp [zeroWD] at hx) (fun x hx => by simp [zeroWD] at hx)
      (fun Y' hY' => ref0_EqMessages none 0 0 none 0 0 [] Y' (MsgsR.nil _) (MsgsR.nil _)) (fun Y' hY' hk => (law0_Messages0 Y').mono fun e w' h => ⟨h.1, h.2.mono (Nat.le_trans hBW hY'.size)⟩)
  · skip
    go_upto_region 45 with fail
    have lx1 := HU1.out.lt
    have lx2 := HU2.out.lt
    have b_25 := HU2.out.box.2 25 _ rfl
    have a_0 := (HU1.out.box).2 0 _ rfl; have a_1 := (HU1.out.box).2 1 _ rfl; have a_2 := (HU1.out.box).2 2 _ rfl; have a_3 := (HU1.out.box).2 3 _ rfl; have a_4 := (HU1.out.box).2 4 _ rfl; have a_5 := (HU1.out.box).2 5 _ rfl; have a_6 := (HU1.out.box).2 6 _ rfl; have a_7 := (HU1.out.box).2 7 _ rfl; have a_8 := (HU1.out.box).2 8 _ rfl
    go_upto_region 46 with (go_at_call 56; refine (ref13_Took P D SP.A SP.n SP.c a.l _ (H.out.up hbU) (HSP.out.up hbU) (Nat.le_trans HN.out (by decide)) (Nat.le_trans HNR.out (by decide)) HS.out).mono ?_; rintro e w6 ⟨P5, he, hO6, hb6⟩; simp only [WorkP.val] at he; subst he; have hs6 := HUs.out.up hb6; have f6 := hs6.frozen; have l6 := hs6.lt; have s_0 := (hs6.box).2 0 _ rfl; have s_1 := (hs6.box).2 1 _ rfl; have s_2 := (hs6.box).2 2 _ rfl; have s_3 := (hs6.box).2 3 _ rfl; have s_4 := (hs6.box).2 4 _ rfl; have s_5 := (hs6.box).2 5 _ rfl; have s_6 := (hs6.box).2 6 _ rfl; have s_7 := (hs6.box).2 7 _ rfl; have s_8 := (hs6.box).2 8 _ rfl; have s_9 := (hs6.box).2 9 _ rfl; have HS6 := Lib.hid hs6; have HO60 := Lib.hid hO6; clear hs6 hO6)
    have hG6 : Blk (((((((((w6.setCell ⟨gs, 0, none⟩ (.int .i64 (outW D a.l).id)).setCell ⟨gs, 1, none⟩ (.int .i64 (outW D a.l).nodes)).setCell ⟨gs, 2, none⟩ (.int .i64 (outW D a.l).next)).setCell ⟨gs, 3, none⟩ (.slice P5.op.A P5.op.n P5.op.c)).setCell ⟨gs, 4, none⟩ (.int .i64 (outW D a.l).age)).setCell ⟨gs, 5, none⟩ (.int .i64 (outW D a.l).clock)).setCell ⟨gs, 6, none⟩ (.slice P5.wa.A P5.wa.n P5.wa.c)).setCell ⟨gs, 7, none⟩ (.slice P5.he.A P5.he.n P5.he.c)).setCell ⟨gs, 8, none⟩ (.slice P5.re.A P5.re.n P5.re.c)) gs 70 [.int .i64 (outW D a.l).id, .int .i64 (outW D a.l).nodes, .int .i64 (outW D a.l).next, .slice P5.op.A P5.op.n P5.op.c, .int .i64 (outW D a.l).age, .int .i64 (outW D a.l).clock, .slice P5.wa.A P5.wa.n P5.wa.c, .slice P5.he.A P5.he.n P5.he.c, .slice P5.re.A P5.re.n P5.re.c, .slice none 0 0] := ((((((((HS6.out.set_ 0 _).set_ 1 _).set_ 2 _).set_ 3 _).set_ 4 _).set_ 5 _).set_ 6 _).set_ 7 _).set_ 8 _
    have htk6 := TKeep.sets9 HS6.out (.int .i64 (outW D a.l).id) (.int .i64 (outW D a.l).nodes) (.int .i64 (outW D a.l).next) (.slice P5.op.A P5.op.n P5.op.c) (.int .i64 (outW D a.l).age) (.int .i64 (outW D a.l).clock) (.slice P5.wa.A P5.wa.n P5.wa.c) (.slice P5.he.A P5.he.n P5.he.c) (.slice P5.re.A P5.re.n P5.re.c)
    have hO6 := HO60.out.tkR htk6
    have hbut6 : But Y.heap.size gs Y (((((((((w6.setCell ⟨gs, 0, none⟩ (.int .i64 (outW D a.l).id)).setCell ⟨gs, 1, none⟩ (.int .i64 (outW D a.l).nodes)).setCell ⟨gs, 2, none⟩ (.int .i64 (outW D a.l).next)).setCell ⟨gs, 3, none⟩ (.slice P5.op.A P5.op.n P5.op.c)).setCell ⟨gs, 4, none⟩ (.int .i64 (outW D a.l).age)).setCell ⟨gs, 5, none⟩ (.int .i64 (outW D a.l).clock)).setCell ⟨gs, 6, none⟩ (.slice P5.wa.A P5.wa.n P5.wa.c)).setCell ⟨gs, 7, none⟩ (.slice P5.he.A P5.he.n P5.he.c)).setCell ⟨gs, 8, none⟩ (.slice P5.re.A P5.re.n P5.re.c)) := (((((((((But.of_below hb6).setg).setg).setg).setg).setg).setg).setg).setg).setg
    obtain ⟨Yc, hYc⟩ : ∃ Z, Z = (((((((((w6.setCell ⟨gs, 0, none⟩ (.int .i64 (outW D a.l).id)).setCell ⟨gs, 1, none⟩ (.int .i64 (outW D a.l).nodes)).setCell ⟨gs, 2, none⟩ (.int .i64 (outW D a.l).next)).setCell ⟨gs, 3, none⟩ (.slice P5.op.A P5.op.n P5.op.c)).setCell ⟨gs, 4, none⟩ (.int .i64 (outW D a.l).age)).setCell ⟨gs, 5, none⟩ (.int .i64 (outW D a.l).clock)).setCell ⟨gs, 6, none⟩ (.slice P5.wa.A P5.wa.n P5.wa.c)).setCell ⟨gs, 7, none⟩ (.slice P5.he.A P5.he.n P5.he.c)).setCell ⟨gs, 8, none⟩ (.slice P5.re.A P5.re.n P5.re.c)) := ⟨_, rfl⟩
    rw [← hYc] at hG6 hO6 hbut6 ⊢
    clear hYc htk6 HS6 HO60 a_0 a_1 a_2 a_3 a_4 a_5 a_6 a_7 a_8 s_0 s_1 s_2 s_3 s_4 s_5 s_6 s_7 s_8 s_9 f6 l6 lx1 lx2 b_25 hb6
    have HGs := Lib.hid hG6
    have HO5 := Lib.hid hO6
    clear hG6 hO6
    have HG1 := Lib.hid (But.blk hbut6 HU1.out HU1.out.lt (by omega))
    have HG2 := Lib.hid (But.blk hbut6 HU2.out HU2.out.lt (by omega))
    have HG3 := Lib.hid (But.blk hbut6 HU3.out HU3.out.lt (by omega))
    have HGi := Lib.hid (But.blk hbut6 HUi.out HUi.out.lt (by omega))
    have HGx := Lib.hid (But.blk hbut6 HUx.out HUx.out.lt (by omega))
    have HGO := Lib.hid (HOI.out.tkR (TKeep.of_but HUs.out hbut6))
    have hbB : Below w.heap.size w Yc := hbU.trans ((hbut6.below (Nat.le_of_lt HUs.out.lt)).mono (by omega))
    have HPi := Lib.hid (HGO.out.work HS.out)
    clear HU1 HU2 HU3 HUi HUs HUx HOI hbU hbut6
    obtain ⟨S, hSd⟩ : ∃ S : World → Prop, S = fun Q => Blk Q gi 27 [.int .i64 D.id, .int .i64 D.nodes, .int .i64 D.next, .slice Pi.op.A Pi.op.n Pi.op.c, .int .i64 D.age, .int .i64 D.clock, .slice Pi.wa.A Pi.wa.n Pi.wa.c, .slice Pi.he.A Pi.he.n Pi.he.c, .slice Pi.re.A Pi.re.n Pi.re.c] ∧ Blk Q (w.heap.size + 1) 51 [.int .i64 a.doo, .int .i64 a.d, .int .i64 a.t.se, .int .i64 a.t.sq, .string a.t.k, .string a.t.v, .int .i64 a.m.ki, .int .i64 a.m.fr, .int .i64 a.m.tt, .int .i64 a.m.di, .int .i64 a.m.b.au, .int .i64 a.m.b.n, .slice MP.b.A MP.b.n MP.b.c, .int .i64 a.m.h.au, .int .i64 a.m.h.ro, .slice MP.h.b.A MP.h.b.n MP.h.b.c, .slice MP.h.p.A MP.h.p.n MP.h.p.c, .int .i64 a.m.c.h.au, .int .i64 a.m.c.h.ro, .slice MP.c.h.b.A MP.c.h.b.n MP.c.h.b.c, .slice MP.c.h.p.A MP.c.h.p.n MP.c.h.p.c, .int .i64 a.m.c.di, .slice MP.c.s.A MP.c.s.n MP.c.s.c, .slice MP.ds.A MP.ds.n MP.ds.c, .bool a.fit, .slice SP.A SP.n SP.c] := ⟨_, rfl⟩
    have hS : ∀ Q, Below Yc.heap.size Yc Q → S Q := fun Q hQ => by rw [hSd]; exact ⟨HGi.out.up hQ, HG2.out.up hQ⟩
    have hS3 : ∀ Q, S Q → Q.rangeAt gi 0 [.int .i64 D.id, .int .i64 D.nodes, .int .i64 D.next, .slice Pi.op.A Pi.op.n Pi.op.c, .int .i64 D.age, .int .i64 D.clock, .slice Pi.wa.A Pi.wa.n Pi.wa.c, .slice Pi.he.A Pi.he.n Pi.he.c, .slice Pi.re.A Pi.re.n Pi.re.c] := fun Q h => by rw [hSd] at h; exact fun j u hu => by (rw [Nat.zero_add]); exact h.1.box.2 j u hu
    have hS5 : ∀ Q, S Q → Q.cell? ⟨w.heap.size + 1, 25, none⟩ = some (.slice SP.A SP.n SP.c) := fun Q h => by rw [hSd] at h; exact h.2.box.2 25 _ rfl
    have hSr : ∀ Q, S Q → ∀ (a0 a1 a2 a3 a4 a5 a6 a7 a8 : Value), S (((((((((Q.setCell ⟨gx, 0, none⟩ a0).setCell ⟨gx, 1, none⟩ a1).setCell ⟨gx, 2, none⟩ a2).setCell ⟨gx, 3, none⟩ a3).setCell ⟨gx, 4, none⟩ a4).setCell ⟨gx, 5, none⟩ a5).setCell ⟨gx, 6, none⟩ a6).setCell ⟨gx, 7, none⟩ a7).setCell ⟨gx, 8, none⟩ a8) := fun Q h a0 a1 a2 a3 a4 a5 a6 a7 a8 => by rw [hSd] at h ⊢; exact ⟨h.1.sets9 (by omega) a0 a1 a2 a3 a4 a5 a6 a7 a8, h.2.sets9 (by omega) a0 a1 a2 a3 a4 a5 a6 a7 a8⟩
    clear hSd
    refine wp_region_held_drew (S := S) (by kernel_rfl) (hS _ (bel_drew (Below.refl _ _))) (fun hHeld => ?_)
    have hbd : Below Yc.heap.size Yc Yc.drew := bel_drew (Below.refl _ _)
    have hZ := hHeld
    generalize Yc.drew = Z at *
    refine wpAnyH_takeD (i := 0) (d := (some 173)) (v := .agg ([.int .i64 D.id, .int .i64 D.nodes, .int .i64 D.next, .slice Pi.op.A Pi.op.n Pi.op.c, .int .i64 D.age, .int .i64 D.clock, .slice Pi.wa.A Pi.wa.n Pi.wa.c, .slice Pi.he.A Pi.he.n Pi.he.c, .slice Pi.re.A Pi.re.n Pi.re.c]).toArray) rfl rfl (by kernel_rfl) (by kernel_rfl) (by kernel_rfl) (fun _ _ _ h => h) (yieldsIf_load_mid (by rfl) 27 _ rfl gi 0 (by simp [Act.eval, Act.put]) ([.int .i64 D.id, .int .i64 D.nodes, .int .i64 D.next, .slice Pi.op.A Pi.op.n Pi.op.c, .int .i64 D.age, .int .i64 D.clock, .slice Pi.wa.A Pi.wa.n Pi.wa.c, .slice Pi.he.A Pi.he.n Pi.he.c, .slice Pi.re.A Pi.re.n Pi.re.c]) _ (hS3) Tryz.underlying27 (by rfl) (by kernel_rfl)) (by assumption) ?_
    simp only [Act.put, List.setIfInBounds_toArray, List.set_cons_zero, List.set_cons_succ]
    (refine wpAnyH_takeD (i := 1) (d := (some 174)) (v := ?_) rfl rfl (by kernel_rfl) (by kernel_rfl) (by kernel_rfl) (fun _ _ _ h => h) (Or.inl ⟨by rfl, ?_⟩) (by assumption) ?_)
    rotate_left
    focus
      intro wq hSw
      skip
      clear hSw
      go_simp
      all_goals (with_reducible rfl)
    simp only [Act.put, List.setIfInBounds_toArray, List.set_cons_zero, List.set_cons_succ]
    (refine wpAnyH_takeD (i := 2) (d := (some 175)) (v := ?_) rfl rfl (by kernel_rfl) (by kernel_rfl) (by kernel_rfl) (fun _ _ _ h => h) (Or.inl ⟨by rfl, ?_⟩) (by assumption) ?_)
    rotate_left
    focus
      intro wq hSw
      have q1 := hS5 wq hSw
      clear hSw
      go_simp
      all_goals (with_reducible rfl)
    simp only [Act.put, List.setIfInBounds_toArray, List.set_cons_zero, List.set_cons_succ]
    refine wpAnyH_ready (rs := [3]) (by kernel_rfl) (by simp) ?_
    refine AllReadyH.cons (o := _) rfl (fun K hK => ?_) AllReadyH.nil
    go_simp
    (go_at_call 29; refine (ref0_CopyNumbers SP.A SP.n SP.c a.l _ (HSP.out.up (bel_trans hbB hbd)) (Nat.le_trans HN.out (by decide))).mono ?_; rintro e wn ⟨v, rfl, ho, hbn⟩; obtain ⟨nA, nc, e7, hI, _⟩ := ho.ints (Nat.le_trans (Nat.le_of_eq HLN.out) (Nat.le_trans HN.out (by decide))); rw [HLN.out] at e7 hI; subst e7)
    have hbn2 := bel_trans hbd hbn
    have HNI := Lib.hid hI
    clear ho hI
    refine hK.out _ _ (hS _ hbn2) (fun hHeld => ?_)
    clear hK K
    (try simp only [Act.put, List.setIfInBounds_toArray, List.set_cons_zero, List.set_cons_succ])
    refine wpAnyH_ready (rs := [4]) (by kernel_rfl) (by simp) ?_
    refine AllReadyH.cons (o := _) rfl (fun K hK => ?_) AllReadyH.nil
    go_simp
    (go_at_call 57; refine (worker_Took Pi D nA SP.n nc a.l true _ (HPi.out.up hbn2) HS.out HZ.out HNI.out (Nat.le_trans HN.out (by decide)) (Nat.le_trans HNR.out (by decide))).mono ?_; rintro e wa ⟨he, hba0⟩; obtain ⟨P8, he, hO8⟩ := (if_pos rfl : (if true = true then _ else _) = _) ▸ he; simp only [WorkP.val, zeroW] at he; subst he)
    have hba := bel_trans hbn2 hba0
    refine hK.out _ _ (hS _ hba) (fun hHeld => ?_)
    clear hK K
    (try simp only [Act.put, List.setIfInBounds_toArray, List.set_cons_zero, List.set_cons_succ])
    (refine wpAnyH_takeD (i := 5) (d := (some 172)) (v := ?_) rfl rfl (by kernel_rfl) (by kernel_rfl) (by kernel_rfl) (fun _ _ _ h => h) (Or.inl ⟨by rfl, ?_⟩) (by assumption) ?_)
    rotate_left
    focus
      intro wq hSw
      skip
      clear hSw
      go_simp
      all_goals (with_reducible rfl)
    simp only [Act.put, List.setIfInBounds_toArray, List.set_cons_zero, List.set_cons_succ]
    (refine wpAnyH_takeD (i := 6) (d := (some 178)) (v := ?_) rfl rfl (by kernel_rfl) (by kernel_rfl) (by kernel_rfl) (fun _ _ _ h => h) (Or.inl ⟨by rfl, ?_⟩) (by assumption) ?_)
    rotate_left
    focus
      intro wq hSw
      skip
      clear hSw
      go_simp
      all_goals (with_reducible rfl)
    simp only [Act.put, List.setIfInBounds_toArray, List.set_cons_zero, List.set_cons_succ]
    (refine wpAnyH_takeD (i := 7) (d := (some 179)) (v := ?_) rfl rfl (by kernel_rfl) (by kernel_rfl) (by kernel_rfl) (fun _ _ _ h => h) (Or.inl ⟨by rfl, ?_⟩) (by assumption) ?_)
    rotate_left
    focus
      intro wq hSw
      skip
      clear hSw
      go_simp
      all_goals (with_reducible rfl)
    simp only [Act.put, List.setIfInBounds_toArray, List.set_cons_zero, List.set_cons_succ]
    refine wpAnyH_ready (rs := [8]) (by kernel_rfl) (by simp) ?_
    refine AllReadyH.cons (o := _) rfl (fun K hK => ?_) AllReadyH.nil
    have HXa := Lib.hid (HGx.out.up hba)
    have hR := HXa.out
    have qf := hR.frozen
    have ql := hR.lt
    have h9 := hR.box
    have q0 := h9.2 0 _ rfl
    have q1 := h9.2 1 _ rfl
    have q2 := h9.2 2 _ rfl
    have q3 := h9.2 3 _ rfl
    have q4 := h9.2 4 _ rfl
    have q5 := h9.2 5 _ rfl
    have q6 := h9.2 6 _ rfl
    have q7 := h9.2 7 _ rfl
    have q8 := h9.2 8 _ rfl
    clear h9 hR
    go_simp
    clear qf ql q0 q1 q2 q3 q4 q5 q6 q7 q8
    refine hK.out _ _ (hSr _ (hS _ hba) (.int .i64 (outW D a.l).id) (.int .i64 (outW D a.l).nodes) (.int .i64 (outW D a.l).next) (.slice P8.op.A P8.op.n P8.op.c) (.int .i64 (outW D a.l).age) (.int .i64 (outW D a.l).clock) (.slice P8.wa.A P8.wa.n P8.wa.c) (.slice P8.he.A P8.he.n P8.he.c) (.slice P8.re.A P8.re.n P8.re.c)) (fun hHeld => ?_)
    clear hK K
    (try simp only [Act.put, List.setIfInBounds_toArray, List.set_cons_zero, List.set_cons_succ])
    (refine wpAnyH_takeD (i := 9) (d := (some 12)) (v := ?_) rfl rfl (by kernel_rfl) (by kernel_rfl) (by kernel_rfl) (fun _ _ _ h => h) (Or.inl ⟨by rfl, ?_⟩) (by assumption) ?_)
    rotate_left
    focus
      intro wq hSw
      skip
      clear hSw
      go_simp
      all_goals (with_reducible rfl)
    simp only [Act.put, List.setIfInBounds_toArray, List.set_cons_zero, List.set_cons_succ]
    refine wpAnyH_done (by kernel_rfl) ?_ _
    go_upto_region 53 with fail
    rename_i K9 hK9
    have hsx := set9 HXa.out rfl (.int .i64 (outW D a.l).id) (.int .i64 (outW D a.l).nodes) (.int .i64 (outW D a.l).next) (.slice P8.op.A P8.op.n P8.op.c) (.int .i64 (outW D a.l).age) (.int .i64 (outW D a.l).clock) (.slice P8.wa.A P8.wa.n P8.wa.c) (.slice P8.he.A P8.he.n P8.he.c) (.slice P8.re.A P8.re.n P8.re.c)
    have hO8w := (hO8.mono (Nat.le_trans (Nat.le_refl _) hbn2.size)).tk (TKeep.sets9 HXa.out (.int .i64 (outW D a.l).id) (.int .i64 (outW D a.l).nodes) (.int .i64 (outW D a.l).next) (.slice P8.op.A P8.op.n P8.op.c) (.int .i64 (outW D a.l).age) (.int .i64 (outW D a.l).clock) (.slice P8.wa.A P8.wa.n P8.wa.c) (.slice P8.he.A P8.he.n P8.he.c) (.slice P8.re.A P8.re.n P8.re.c)) twWork
    have htk : TKeep 27 Yc (((((((((wa.setCell ⟨gx, 0, none⟩ (.int .i64 (outW D a.l).id)).setCell ⟨gx, 1, none⟩ (.int .i64 (outW D a.l).nodes)).setCell ⟨gx, 2, none⟩ (.int .i64 (outW D a.l).next)).setCell ⟨gx, 3, none⟩ (.slice P8.op.A P8.op.n P8.op.c)).setCell ⟨gx, 4, none⟩ (.int .i64 (outW D a.l).age)).setCell ⟨gx, 5, none⟩ (.int .i64 (outW D a.l).clock)).setCell ⟨gx, 6, none⟩ (.slice P8.wa.A P8.wa.n P8.wa.c)).setCell ⟨gx, 7, none⟩ (.slice P8.he.A P8.he.n P8.he.c)).setCell ⟨gx, 8, none⟩ (.slice P8.re.A P8.re.n P8.re.c)) := (TKeep.of_below hba).trans (TKeep.sets9 HXa.out (.int .i64 (outW D a.l).id) (.int .i64 (outW D a.l).nodes) (.int .i64 (outW D a.l).next) (.slice P8.op.A P8.op.n P8.op.c) (.int .i64 (outW D a.l).age) (.int .i64 (outW D a.l).clock) (.slice P8.wa.A P8.wa.n P8.wa.c) (.slice P8.he.A P8.he.n P8.he.c) (.slice P8.re.A P8.re.n P8.re.c))
    have hblk : ∀ g t cs, Blk Yc g t cs → g ≠ gx → Blk (((((((((wa.setCell ⟨gx, 0, none⟩ (.int .i64 (outW D a.l).id)).setCell ⟨gx, 1, none⟩ (.int .i64 (outW D a.l).nodes)).setCell ⟨gx, 2, none⟩ (.int .i64 (outW D a.l).next)).setCell ⟨gx, 3, none⟩ (.slice P8.op.A P8.op.n P8.op.c)).setCell ⟨gx, 4, none⟩ (.int .i64 (outW D a.l).age)).setCell ⟨gx, 5, none⟩ (.int .i64 (outW D a.l).clock)).setCell ⟨gx, 6, none⟩ (.slice P8.wa.A P8.wa.n P8.wa.c)).setCell ⟨gx, 7, none⟩ (.slice P8.he.A P8.he.n P8.he.c)).setCell ⟨gx, 8, none⟩ (.slice P8.re.A P8.re.n P8.re.c)) g t cs := fun g t cs h hne => (h.up hba).sets9 hne (.int .i64 (outW D a.l).id) (.int .i64 (outW D a.l).nodes) (.int .i64 (outW D a.l).next) (.slice P8.op.A P8.op.n P8.op.c) (.int .i64 (outW D a.l).age) (.int .i64 (outW D a.l).clock) (.slice P8.wa.A P8.wa.n P8.wa.c) (.slice P8.he.A P8.he.n P8.he.c) (.slice P8.re.A P8.re.n P8.re.c)
    have hbWw := belw_sets9 (g := gx) (bel_trans hbB hba) (by omega) (.int .i64 (outW D a.l).id) (.int .i64 (outW D a.l).nodes) (.int .i64 (outW D a.l).next) (.slice P8.op.A P8.op.n P8.op.c) (.int .i64 (outW D a.l).age) (.int .i64 (outW D a.l).clock) (.slice P8.wa.A P8.wa.n P8.wa.c) (.slice P8.he.A P8.he.n P8.he.c) (.slice P8.re.A P8.re.n P8.re.c)
    have hBW : Yc.heap.size ≤ (((((((((wa.setCell ⟨gx, 0, none⟩ (.int .i64 (outW D a.l).id)).setCell ⟨gx, 1, none⟩ (.int .i64 (outW D a.l).nodes)).setCell ⟨gx, 2, none⟩ (.int .i64 (outW D a.l).next)).setCell ⟨gx, 3, none⟩ (.slice P8.op.A P8.op.n P8.op.c)).setCell ⟨gx, 4, none⟩ (.int .i64 (outW D a.l).age)).setCell ⟨gx, 5, none⟩ (.int .i64 (outW D a.l).clock)).setCell ⟨gx, 6, none⟩ (.slice P8.wa.A P8.wa.n P8.wa.c)).setCell ⟨gx, 7, none⟩ (.slice P8.he.A P8.he.n P8.he.c)).setCell ⟨gx, 8, none⟩ (.slice P8.re.A P8.re.n P8.re.c)).heap.size := by have h2 := hba.size; simp [World.setCell]; exact h2
    obtain ⟨W, hW⟩ : ∃ W, W = (((((((((wa.setCell ⟨gx, 0, none⟩ (.int .i64 (outW D a.l).id)).setCell ⟨gx, 1, none⟩ (.int .i64 (outW D a.l).nodes)).setCell ⟨gx, 2, none⟩ (.int .i64 (outW D a.l).next)).setCell ⟨gx, 3, none⟩ (.slice P8.op.A P8.op.n P8.op.c)).setCell ⟨gx, 4, none⟩ (.int .i64 (outW D a.l).age)).setCell ⟨gx, 5, none⟩ (.int .i64 (outW D a.l).clock)).setCell ⟨gx, 6, none⟩ (.slice P8.wa.A P8.wa.n P8.wa.c)).setCell ⟨gx, 7, none⟩ (.slice P8.he.A P8.he.n P8.he.c)).setCell ⟨gx, 8, none⟩ (.slice P8.re.A P8.re.n P8.re.c)) := ⟨_, rfl⟩
    rw [← hW] at hsx hO8w htk hblk hbWw hBW ⊢
    clear hW
    have l1 := HG1.out.lt
    have l3 := HG3.out.lt
    have ls := HGs.out.lt
    have hli := HGi.out.lt
    have hwB := hbB.size
    have hR8 := hO8w.work HBG.out
    exact step_tail w W Yc.heap.size w.heap.size (w.heap.size + 1 + 1) gi gs gx P Pi P5 P8 D (outW D a.l) 0 none none 0 0 0 0 hK9 hbWw hwB hBW (by omega) l3 (by omega) (by omega) (by omega)
      (fun Y' hY' => ⟨H.out.up (hbWw.trans (hY'.mono hwB)), (HGO.out.tk (tk_belB htk hY') twWork).work HS.out, (hblk _ _ _ HG1.out (by omega)).below hY' l1, (hblk _ _ _ HGi.out (by omega)).below hY' hli, (hblk _ _ _ HG3.out (by omega)).below hY' l3⟩)
      (fun Y' hY' => ⟨(HO5.out.tk (tk_belB htk (hY'.mono hBW)) twWork).work HBG.out, (hblk _ _ _ HGs.out (by omega)).up hY'⟩) (fun _ Y' hY' => (hblk _ _ _ HGs.out (by omega)).below hY' ls)
      (fun Y' hY' a0 a1 a2 a3 a4 a5 a6 a7 a8 => by rw [if_pos rfl]; exact ((HO5.out.tk (tk_belB htk hY') twWork).tk (TKeep.sets9 ((hblk _ _ _ HG3.out (by omega)).below hY' l3) a0 a1 a2 a3 a4 a5 a6 a7 a8) twWork).work HBG.out)
      hsx hO8w HBG.out (by have e1 := hR8.op.1; show P8.op.n ≤ 1000000; rw [← e1]; exact HSM.out.1) (by have e1 := hR8.wa.1; rw [← e1]; exact HSM.out.2.1) (by have e1 := hR8.he.1; rw [← e1]; exact HSM.out.2.2.1) (by have e1 := hR8.re.1; rw [← e1]; exact HRL.out) HSM.out.2.2.2.1 HSM.out.2.2.2.2
      (fun Y' hY' => ref0_EqMessages none 0 0 none 0 0 [] Y' (MsgsR.nil _) (MsgsR.nil _)) (fun Y' hY' hk => (law0_Messages0 Y').mono fun e w' h => ⟨h.1, h.2.mono (Nat.le_trans hBW hY'.size)⟩)
theorem light_big9 {w : World} {P : JScrP} {D : JScrD} (h : JScrR w P D) (hL : LightJ P D) : BigD D.w :=
  ⟨by rw [h.wk.op.1]; have := hL.op; omega, ⟨by rw [h.wk.wa.1]; have := hL.wa; omega, fun x hx => by have := hL.ak x hx; omega⟩, ⟨by rw [h.wk.he.1]; have := hL.he; omega, fun x hx => by have := hL.hx x hx; omega⟩, by rw [h.wk.re.1]; have := hL.re; omega⟩
theorem light_sm9 {w : World} {P : JScrP} {D : JScrD} (h : JScrR w P D) (hL : LightJ P D) : D.w.op.length ≤ 1000000 ∧ D.w.wa.length ≤ 1000000 ∧ D.w.he.length ≤ 1000000 ∧ (∀ x ∈ D.w.wa, x.ak.length ≤ 1000000) ∧ (∀ x ∈ D.w.he, x.b.tx.length ≤ 1000000) :=
  ⟨by rw [h.wk.op.1]; have := hL.op; omega, by rw [h.wk.wa.1]; have := hL.wa; omega, by rw [h.wk.he.1]; have := hL.he; omega, fun x hx => by have := hL.ak x hx; omega, fun x hx => by have := hL.hx x hx; omega⟩
theorem light_re9 {w : World} {P : JScrP} {D : JScrD} (h : JScrR w P D) (hL : LightJ P D) (l : List Int) (hl : l.length ≤ 12000) : (outW D.w l).re.length ≤ 24000 := by
  have h1 : D.w.re.length ≤ 12000 := by rw [h.wk.re.1]; exact hL.re
  have h2 := outL_len l D.w.re
  show (outL l D.w.re).length ≤ _
  omega
theorem step_do9_light {w : World} {P : JScrP} {D : JScrD} (h : JScrR w P D) (hL : LightJ P D) (MP : MsgP) (SP : SlP) (a : JobD) (X : World) (hx : WorkR X P.w D.w) (ha : a.l.length ≤ 12000) (hI : IntsR X SP.A SP.n a.l) (hdo : wiI a.doo 11 = 9) :
    Calls Tryz.prog 21 #[P.w.val D.w, J26 MP SP a] X fun e w' => (∃ P' D', e = .returned (.tuple #[WorkP.val P' D', .bool true])) ∧ Below X.heap.size X w' :=
  have hb := light_big9 h hL
  have hr := light_re9 h hL a.l ha
  (step_do9 P.w D.w MP SP a X hx hb hdo hI (by rw [← hI.1]; omega) (by rw [h.wk.re.1]; have := hL.re; omega) ⟨hb.op, hb.wa, hb.he, by omega⟩ (by omega) (light_sm9 h hL)).mono fun e w' ⟨P', D', h3, h4, h5⟩ => ⟨⟨P', D', h3⟩, h5⟩
set_option maxRecDepth 100000 in
set_option maxHeartbeats 2000000 in
theorem law_WorkerTooks (P : JScrP) (D : JScrD) (w : World) (h : JScrR w P D) :
    Calls Tryz.prog 7 #[P.val D] w fun e w' => e = .returned (.bool true) ∧ Below w.heap.size w w' := by
  have H := Lib.hid h
  clear h
  show Calls Tryz.prog 7 #[.agg #[.int .i64 D.w.id, .int .i64 D.w.nodes, .int .i64 D.w.next, .slice P.w.op.A P.w.op.n P.w.op.c, .int .i64 D.w.age, .int .i64 D.w.clock, .slice P.w.wa.A P.w.wa.n P.w.wa.c, .slice P.w.he.A P.w.he.n P.w.he.c, .slice P.w.re.A P.w.re.n P.w.re.c, .slice P.l.A P.l.n P.l.c]] w _
  go_enter Tryz.func7, Tryz.ntmps7
  go_wp2_with fail
  have hbX : Below w.heap.size w (w.alloc (.cells #[.int .i64 D.w.id, .int .i64 D.w.nodes, .int .i64 D.w.next, .slice P.w.op.A P.w.op.n P.w.op.c, .int .i64 D.w.age, .int .i64 D.w.clock, .slice P.w.wa.A P.w.wa.n P.w.wa.c, .slice P.w.he.A P.w.he.n P.w.he.c, .slice P.w.re.A P.w.re.n P.w.re.c, .slice P.l.A P.l.n P.l.c] 30)) := by (repeat (first | (with_reducible exact Below.refl _ _) | (with_reducible assumption) | (with_reducible apply bel_alloc) | (with_reducible apply bel_drew) | (with_reducible apply bel_drewN) | (with_reducible refine bel_trans ?_ (by with_reducible assumption)) | (with_reducible refine bel_trans ?_ (HF.out _)) | (with_reducible refine bel_set ?_ (by simp) _) | (with_reducible refine bel_set ?_ (by simp; omega) _) | (with_reducible refine bel_set ?_ (by omega) _)))
  refine (law13_only P D 9 _ (H.out.up hbX) (fun MP SP a X hX hL ham hM hI => step_do9_light H.out hL MP SP { a with doo := 9 } X ((H.out.wk.up hbX).up hX) (hL.li a ham) hI (show wiI 9 11 = 9 by decide))).mono ?_
  rintro e w1 ⟨rfl, hb1⟩
  go_wp2_with fail
  go_ret
  exact ⟨rfl, bel_trans hbX hb1⟩
end Go.Proofs.YtgfakefcmbpboaaGreat
