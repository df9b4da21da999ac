/- droverlaw13.step where a transaction is taken. -/
import Derived.Test.YtgfakefcmbpboaaGreatWsg
namespace Go.Proofs.YtgfakefcmbpboaaGreat
open Go.RowKit
set_option linter.unusedSimpArgs false
set_option linter.unusedVariables false

set_option maxRecDepth 100000 in
set_option maxHeartbeats 8000000 in
theorem step_do0_good (P : WorkP) (D : WorkD) (MP : MsgP) (SP : SlP) (a : JobD) (w : World) (h : WorkR w P D) (hs : BigD D) (hdo : wiI a.doo 11 = 0) (hm : mayW D = true) (ht : txS a.t = true) (hl64 : D.op.length < 64) (hsm : D.wa.length ≤ 1000000 ∧ D.he.length ≤ 1000000 ∧ D.re.length ≤ 1000000 ∧ (∀ x ∈ D.wa, x.ak.length ≤ 1000000) ∧ (∀ x ∈ D.he, x.b.tx.length ≤ 1000000)) :
    Calls Tryz.prog 21 #[P.val D, J26 MP SP a] w fun e w' => ∃ P' D', e = .returned (.tuple #[P'.val D', .bool true]) ∧ WorkR w' P' D' ∧ Below w.heap.size w w' := by
  have H := Lib.hid h
  have HS := Lib.hid hs
  have HDO := Lib.hid hdo
  clear h hs hdo
  show Calls Tryz.prog 21 #[.agg #[.int .i64 D.id, .int .i64 D.nodes, .int .i64 D.next, .slice P.op.A P.op.n P.op.c, .int .i64 D.age, .int .i64 D.clock, .slice P.wa.A P.wa.n P.wa.c, .slice P.he.A P.he.n P.he.c, .slice P.re.A P.re.n P.re.c], .agg #[.int .i64 a.doo, .int .i64 a.d, .int .i64 a.t.se, .int .i64 a.t.sq, .string a.t.k, .string a.t.v, .int .i64 a.m.ki, .int .i64 a.m.fr, .int .i64 a.m.tt, .int .i64 a.m.di, .int .i64 a.m.b.au, .int .i64 a.m.b.n, .slice MP.b.A MP.b.n MP.b.c, .int .i64 a.m.h.au, .int .i64 a.m.h.ro, .slice MP.h.b.A MP.h.b.n MP.h.b.c, .slice MP.h.p.A MP.h.p.n MP.h.p.c, .int .i64 a.m.c.h.au, .int .i64 a.m.c.h.ro, .slice MP.c.h.b.A MP.c.h.b.n MP.c.h.b.c, .slice MP.c.h.p.A MP.c.h.p.n MP.c.h.p.c, .int .i64 a.m.c.di, .slice MP.c.s.A MP.c.s.n MP.c.s.c, .slice MP.ds.A MP.ds.n MP.ds.c, .bool a.fit, .slice SP.A SP.n SP.c]] w _
  go_enter Tryz.func21, Tryz.ntmps21
  have HZ := Lib.hid hm
  have HZ2 := Lib.hid ht
  go_wp2_with fail
  have hX1 : Blk (((w.alloc (.cells #[.int .i64 D.id, .int .i64 D.nodes, .int .i64 D.next, .slice P.op.A P.op.n P.op.c, .int .i64 D.age, .int .i64 D.clock, .slice P.wa.A P.wa.n P.wa.c, .slice P.he.A P.he.n P.he.c, .slice P.re.A P.re.n P.re.c] 27)).alloc (.cells #[.int .i64 a.doo, .int .i64 a.d, .int .i64 a.t.se, .int .i64 a.t.sq, .string a.t.k, .string a.t.v, .int .i64 a.m.ki, .int .i64 a.m.fr, .int .i64 a.m.tt, .int .i64 a.m.di, .int .i64 a.m.b.au, .int .i64 a.m.b.n, .slice MP.b.A MP.b.n MP.b.c, .int .i64 a.m.h.au, .int .i64 a.m.h.ro, .slice MP.h.b.A MP.h.b.n MP.h.b.c, .slice MP.h.p.A MP.h.p.n MP.h.p.c, .int .i64 a.m.c.h.au, .int .i64 a.m.c.h.ro, .slice MP.c.h.b.A MP.c.h.b.n MP.c.h.b.c, .slice MP.c.h.p.A MP.c.h.p.n MP.c.h.p.c, .int .i64 a.m.c.di, .slice MP.c.s.A MP.c.s.n MP.c.s.c, .slice MP.ds.A MP.ds.n MP.ds.c, .bool a.fit, .slice SP.A SP.n SP.c] 51)).alloc (.cells #[.int .i64 0, .int .i64 0, .int .i64 0, .slice none 0 0, .int .i64 0, .int .i64 0, .slice none 0 0, .slice none 0 0, .slice none 0 0] 27)) w.heap.size 27 [.int .i64 D.id, .int .i64 D.nodes, .int .i64 D.next, .slice P.op.A P.op.n P.op.c, .int .i64 D.age, .int .i64 D.clock, .slice P.wa.A P.wa.n P.wa.c, .slice P.he.A P.he.n P.he.c, .slice P.re.A P.re.n P.re.c] := (Blk.new w 27 [.int .i64 D.id, .int .i64 D.nodes, .int .i64 D.next, .slice P.op.A P.op.n P.op.c, .int .i64 D.age, .int .i64 D.clock, .slice P.wa.A P.wa.n P.wa.c, .slice P.he.A P.he.n P.he.c, .slice P.re.A P.re.n P.re.c]).up (by (repeat (first | (with_reducible exact Below.refl _ _) | (with_reducible assumption) | (with_reducible apply bel_alloc) | (with_reducible apply bel_drew) | (with_reducible apply bel_drewN) | (with_reducible refine bel_trans ?_ (by with_reducible assumption)) | (with_reducible refine bel_trans ?_ (HF.out _)) | (with_reducible refine bel_set ?_ (by simp) _) | (with_reducible refine bel_set ?_ (by simp; omega) _) | (with_reducible refine bel_set ?_ (by omega) _))))
  have hX2 : Blk (((w.alloc (.cells #[.int .i64 D.id, .int .i64 D.nodes, .int .i64 D.next, .slice P.op.A P.op.n P.op.c, .int .i64 D.age, .int .i64 D.clock, .slice P.wa.A P.wa.n P.wa.c, .slice P.he.A P.he.n P.he.c, .slice P.re.A P.re.n P.re.c] 27)).alloc (.cells #[.int .i64 a.doo, .int .i64 a.d, .int .i64 a.t.se, .int .i64 a.t.sq, .string a.t.k, .string a.t.v, .int .i64 a.m.ki, .int .i64 a.m.fr, .int .i64 a.m.tt, .int .i64 a.m.di, .int .i64 a.m.b.au, .int .i64 a.m.b.n, .slice MP.b.A MP.b.n MP.b.c, .int .i64 a.m.h.au, .int .i64 a.m.h.ro, .slice MP.h.b.A MP.h.b.n MP.h.b.c, .slice MP.h.p.A MP.h.p.n MP.h.p.c, .int .i64 a.m.c.h.au, .int .i64 a.m.c.h.ro, .slice MP.c.h.b.A MP.c.h.b.n MP.c.h.b.c, .slice MP.c.h.p.A MP.c.h.p.n MP.c.h.p.c, .int .i64 a.m.c.di, .slice MP.c.s.A MP.c.s.n MP.c.s.c, .slice MP.ds.A MP.ds.n MP.ds.c, .bool a.fit, .slice SP.A SP.n SP.c] 51)).alloc (.cells #[.int .i64 0, .int .i64 0, .int .i64 0, .slice none 0 0, .int .i64 0, .int .i64 0, .slice none 0 0, .slice none 0 0, .slice none 0 0] 27)) (w.heap.size + 1) 51 [.int .i64 a.doo, .int .i64 a.d, .int .i64 a.t.se, .int .i64 a.t.sq, .string a.t.k, .string a.t.v, .int .i64 a.m.ki, .int .i64 a.m.fr, .int .i64 a.m.tt, .int .i64 a.m.di, .int .i64 a.m.b.au, .int .i64 a.m.b.n, .slice MP.b.A MP.b.n MP.b.c, .int .i64 a.m.h.au, .int .i64 a.m.h.ro, .slice MP.h.b.A MP.h.b.n MP.h.b.c, .slice MP.h.p.A MP.h.p.n MP.h.p.c, .int .i64 a.m.c.h.au, .int .i64 a.m.c.h.ro, .slice MP.c.h.b.A MP.c.h.b.n MP.c.h.b.c, .slice MP.c.h.p.A MP.c.h.p.n MP.c.h.p.c, .int .i64 a.m.c.di, .slice MP.c.s.A MP.c.s.n MP.c.s.c, .slice MP.ds.A MP.ds.n MP.ds.c, .bool a.fit, .slice SP.A SP.n SP.c] := by
    have := (Blk.new (w.alloc (.cells #[.int .i64 D.id, .int .i64 D.nodes, .int .i64 D.next, .slice P.op.A P.op.n P.op.c, .int .i64 D.age, .int .i64 D.clock, .slice P.wa.A P.wa.n P.wa.c, .slice P.he.A P.he.n P.he.c, .slice P.re.A P.re.n P.re.c] 27)) 51 [.int .i64 a.doo, .int .i64 a.d, .int .i64 a.t.se, .int .i64 a.t.sq, .string a.t.k, .string a.t.v, .int .i64 a.m.ki, .int .i64 a.m.fr, .int .i64 a.m.tt, .int .i64 a.m.di, .int .i64 a.m.b.au, .int .i64 a.m.b.n, .slice MP.b.A MP.b.n MP.b.c, .int .i64 a.m.h.au, .int .i64 a.m.h.ro, .slice MP.h.b.A MP.h.b.n MP.h.b.c, .slice MP.h.p.A MP.h.p.n MP.h.p.c, .int .i64 a.m.c.h.au, .int .i64 a.m.c.h.ro, .slice MP.c.h.b.A MP.c.h.b.n MP.c.h.b.c, .slice MP.c.h.p.A MP.c.h.p.n MP.c.h.p.c, .int .i64 a.m.c.di, .slice MP.c.s.A MP.c.s.n MP.c.s.c, .slice MP.ds.A MP.ds.n MP.ds.c, .bool a.fit, .slice SP.A SP.n SP.c]).up (w' := (((w.alloc (.cells #[.int .i64 D.id, .int .i64 D.nodes, .int .i64 D.next, .slice P.op.A P.op.n P.op.c, .int .i64 D.age, .int .i64 D.clock, .slice P.wa.A P.wa.n P.wa.c, .slice P.he.A P.he.n P.he.c, .slice P.re.A P.re.n P.re.c] 27)).alloc (.cells #[.int .i64 a.doo, .int .i64 a.d, .int .i64 a.t.se, .int .i64 a.t.sq, .string a.t.k, .string a.t.v, .int .i64 a.m.ki, .int .i64 a.m.fr, .int .i64 a.m.tt, .int .i64 a.m.di, .int .i64 a.m.b.au, .int .i64 a.m.b.n, .slice MP.b.A MP.b.n MP.b.c, .int .i64 a.m.h.au, .int .i64 a.m.h.ro, .slice MP.h.b.A MP.h.b.n MP.h.b.c, .slice MP.h.p.A MP.h.p.n MP.h.p.c, .int .i64 a.m.c.h.au, .int .i64 a.m.c.h.ro, .slice MP.c.h.b.A MP.c.h.b.n MP.c.h.b.c, .slice MP.c.h.p.A MP.c.h.p.n MP.c.h.p.c, .int .i64 a.m.c.di, .slice MP.c.s.A MP.c.s.n MP.c.s.c, .slice MP.ds.A MP.ds.n MP.ds.c, .bool a.fit, .slice SP.A SP.n SP.c] 51)).alloc (.cells #[.int .i64 0, .int .i64 0, .int .i64 0, .slice none 0 0, .int .i64 0, .int .i64 0, .slice none 0 0, .slice none 0 0, .slice none 0 0] 27))) (by (repeat (first | (with_reducible exact Below.refl _ _) | (with_reducible assumption) | (with_reducible apply bel_alloc) | (with_reducible apply bel_drew) | (with_reducible apply bel_drewN) | (with_reducible refine bel_trans ?_ (by with_reducible assumption)) | (with_reducible refine bel_trans ?_ (HF.out _)) | (with_reducible refine bel_set ?_ (by simp) _) | (with_reducible refine bel_set ?_ (by simp; omega) _) | (with_reducible refine bel_set ?_ (by omega) _))))
    simpa using this
  have hX3 : Blk (((w.alloc (.cells #[.int .i64 D.id, .int .i64 D.nodes, .int .i64 D.next, .slice P.op.A P.op.n P.op.c, .int .i64 D.age, .int .i64 D.clock, .slice P.wa.A P.wa.n P.wa.c, .slice P.he.A P.he.n P.he.c, .slice P.re.A P.re.n P.re.c] 27)).alloc (.cells #[.int .i64 a.doo, .int .i64 a.d, .int .i64 a.t.se, .int .i64 a.t.sq, .string a.t.k, .string a.t.v, .int .i64 a.m.ki, .int .i64 a.m.fr, .int .i64 a.m.tt, .int .i64 a.m.di, .int .i64 a.m.b.au, .int .i64 a.m.b.n, .slice MP.b.A MP.b.n MP.b.c, .int .i64 a.m.h.au, .int .i64 a.m.h.ro, .slice MP.h.b.A MP.h.b.n MP.h.b.c, .slice MP.h.p.A MP.h.p.n MP.h.p.c, .int .i64 a.m.c.h.au, .int .i64 a.m.c.h.ro, .slice MP.c.h.b.A MP.c.h.b.n MP.c.h.b.c, .slice MP.c.h.p.A MP.c.h.p.n MP.c.h.p.c, .int .i64 a.m.c.di, .slice MP.c.s.A MP.c.s.n MP.c.s.c, .slice MP.ds.A MP.ds.n MP.ds.c, .bool a.fit, .slice SP.A SP.n SP.c] 51)).alloc (.cells #[.int .i64 0, .int .i64 0, .int .i64 0, .slice none 0 0, .int .i64 0, .int .i64 0, .slice none 0 0, .slice none 0 0, .slice none 0 0] 27)) (w.heap.size + 2) 27 [.int .i64 0, .int .i64 0, .int .i64 0, .slice none 0 0, .int .i64 0, .int .i64 0, .slice none 0 0, .slice none 0 0, .slice none 0 0] := by
    have := Blk.new ((w.alloc (.cells #[.int .i64 D.id, .int .i64 D.nodes, .int .i64 D.next, .slice P.op.A P.op.n P.op.c, .int .i64 D.age, .int .i64 D.clock, .slice P.wa.A P.wa.n P.wa.c, .slice P.he.A P.he.n P.he.c, .slice P.re.A P.re.n P.re.c] 27)).alloc (.cells #[.int .i64 a.doo, .int .i64 a.d, .int .i64 a.t.se, .int .i64 a.t.sq, .string a.t.k, .string a.t.v, .int .i64 a.m.ki, .int .i64 a.m.fr, .int .i64 a.m.tt, .int .i64 a.m.di, .int .i64 a.m.b.au, .int .i64 a.m.b.n, .slice MP.b.A MP.b.n MP.b.c, .int .i64 a.m.h.au, .int .i64 a.m.h.ro, .slice MP.h.b.A MP.h.b.n MP.h.b.c, .slice MP.h.p.A MP.h.p.n MP.h.p.c, .int .i64 a.m.c.h.au, .int .i64 a.m.c.h.ro, .slice MP.c.h.b.A MP.c.h.b.n MP.c.h.b.c, .slice MP.c.h.p.A MP.c.h.p.n MP.c.h.p.c, .int .i64 a.m.c.di, .slice MP.c.s.A MP.c.s.n MP.c.s.c, .slice MP.ds.A MP.ds.n MP.ds.c, .bool a.fit, .slice SP.A SP.n SP.c] 51)) 27 [.int .i64 0, .int .i64 0, .int .i64 0, .slice none 0 0, .int .i64 0, .int .i64 0, .slice none 0 0, .slice none 0 0, .slice none 0 0]
    simpa using this
  have hbX : Below w.heap.size w (((w.alloc (.cells #[.int .i64 D.id, .int .i64 D.nodes, .int .i64 D.next, .slice P.op.A P.op.n P.op.c, .int .i64 D.age, .int .i64 D.clock, .slice P.wa.A P.wa.n P.wa.c, .slice P.he.A P.he.n P.he.c, .slice P.re.A P.re.n P.re.c] 27)).alloc (.cells #[.int .i64 a.doo, .int .i64 a.d, .int .i64 a.t.se, .int .i64 a.t.sq, .string a.t.k, .string a.t.v, .int .i64 a.m.ki, .int .i64 a.m.fr, .int .i64 a.m.tt, .int .i64 a.m.di, .int .i64 a.m.b.au, .int .i64 a.m.b.n, .slice MP.b.A MP.b.n MP.b.c, .int .i64 a.m.h.au, .int .i64 a.m.h.ro, .slice MP.h.b.A MP.h.b.n MP.h.b.c, .slice MP.h.p.A MP.h.p.n MP.h.p.c, .int .i64 a.m.c.h.au, .int .i64 a.m.c.h.ro, .slice MP.c.h.b.A MP.c.h.b.n MP.c.h.b.c, .slice MP.c.h.p.A MP.c.h.p.n MP.c.h.p.c, .int .i64 a.m.c.di, .slice MP.c.s.A MP.c.s.n MP.c.s.c, .slice MP.ds.A MP.ds.n MP.ds.c, .bool a.fit, .slice SP.A SP.n SP.c] 51)).alloc (.cells #[.int .i64 0, .int .i64 0, .int .i64 0, .slice none 0 0, .int .i64 0, .int .i64 0, .slice none 0 0, .slice none 0 0, .slice none 0 0] 27)) := by (repeat (first | (with_reducible exact Below.refl _ _) | (with_reducible assumption) | (with_reducible apply bel_alloc) | (with_reducible apply bel_drew) | (with_reducible apply bel_drewN) | (with_reducible refine bel_trans ?_ (by with_reducible assumption)) | (with_reducible refine bel_trans ?_ (HF.out _)) | (with_reducible refine bel_set ?_ (by simp) _) | (with_reducible refine bel_set ?_ (by simp; omega) _) | (with_reducible refine bel_set ?_ (by omega) _)))
  generalize (((w.alloc (.cells #[.int .i64 D.id, .int .i64 D.nodes, .int .i64 D.next, .slice P.op.A P.op.n P.op.c, .int .i64 D.age, .int .i64 D.clock, .slice P.wa.A P.wa.n P.wa.c, .slice P.he.A P.he.n P.he.c, .slice P.re.A P.re.n P.re.c] 27)).alloc (.cells #[.int .i64 a.doo, .int .i64 a.d, .int .i64 a.t.se, .int .i64 a.t.sq, .string a.t.k, .string a.t.v, .int .i64 a.m.ki, .int .i64 a.m.fr, .int .i64 a.m.tt, .int .i64 a.m.di, .int .i64 a.m.b.au, .int .i64 a.m.b.n, .slice MP.b.A MP.b.n MP.b.c, .int .i64 a.m.h.au, .int .i64 a.m.h.ro, .slice MP.h.b.A MP.h.b.n MP.h.b.c, .slice MP.h.p.A MP.h.p.n MP.h.p.c, .int .i64 a.m.c.h.au, .int .i64 a.m.c.h.ro, .slice MP.c.h.b.A MP.c.h.b.n MP.c.h.b.c, .slice MP.c.h.p.A MP.c.h.p.n MP.c.h.p.c, .int .i64 a.m.c.di, .slice MP.c.s.A MP.c.s.n MP.c.s.c, .slice MP.ds.A MP.ds.n MP.ds.c, .bool a.fit, .slice SP.A SP.n SP.c] 51)).alloc (.cells #[.int .i64 0, .int .i64 0, .int .i64 0, .slice none 0 0, .int .i64 0, .int .i64 0, .slice none 0 0, .slice none 0 0, .slice none 0 0] 27)) = X at *
  have HX1 := Lib.hid hX1
  have HX2 := Lib.hid hX2
  have HX3 := Lib.hid hX3
  have HBX := Lib.hid hbX
  clear hX1 hX2 hX3
  refine (ref0_CopyWorker P D _ (H.out.up hbX) HS.out).mono ?_
  rintro e w1 ⟨Pi, he1, hOi, hb1⟩
  simp only [WorkP.val] at he1
  subst he1
  have hbI : Below w1.heap.size w1 (w1.alloc (.cells #[.int .i64 D.id, .int .i64 D.nodes, .int .i64 D.next, .slice Pi.op.A Pi.op.n Pi.op.c, .int .i64 D.age, .int .i64 D.clock, .slice Pi.wa.A Pi.wa.n Pi.wa.c, .slice Pi.he.A Pi.he.n Pi.he.c, .slice Pi.re.A Pi.re.n Pi.re.c] 27)) := by (repeat (first | (with_reducible exact Below.refl _ _) | (with_reducible assumption) | (with_reducible apply bel_alloc) | (with_reducible apply bel_drew) | (with_reducible apply bel_drewN) | (with_reducible refine bel_trans ?_ (by with_reducible assumption)) | (with_reducible refine bel_trans ?_ (HF.out _)) | (with_reducible refine bel_set ?_ (by simp) _) | (with_reducible refine bel_set ?_ (by simp; omega) _) | (with_reducible refine bel_set ?_ (by omega) _)))
  have hY1 := (HX1.out.up hb1)
  have HOi := Lib.hid (hOi.up hbI)
  have HI := Lib.hid (Blk.new w1 27 [.int .i64 D.id, .int .i64 D.nodes, .int .i64 D.next, .slice Pi.op.A Pi.op.n Pi.op.c, .int .i64 D.age, .int .i64 D.clock, .slice Pi.wa.A Pi.wa.n Pi.wa.c, .slice Pi.he.A Pi.he.n Pi.he.c, .slice Pi.re.A Pi.re.n Pi.re.c])
  have HY2 := Lib.hid ((HX2.out.up hb1).up hbI)
  have HY3 := Lib.hid ((HX3.out.up hb1).up hbI)
  have HY1 := Lib.hid (hY1.up hbI)
  have hbY := bel_trans (bel_trans hbX hb1) hbI
  have ly1 := hY1.lt
  have a_0 := (hY1.box).2 0 _ rfl; have a_1 := (hY1.box).2 1 _ rfl; have a_2 := (hY1.box).2 2 _ rfl; have a_3 := (hY1.box).2 3 _ rfl; have a_4 := (hY1.box).2 4 _ rfl; have a_5 := (hY1.box).2 5 _ rfl; have a_6 := (hY1.box).2 6 _ rfl; have a_7 := (hY1.box).2 7 _ rfl; have a_8 := (hY1.box).2 8 _ rfl
  have hzX : w.heap.size + 3 ≤ w1.heap.size := by have := (HX3.out.up hb1).lt; omega
  clear hY1 HX1 HX2 HX3 hOi hb1 hbI hbX HBX
  go_wp2_with fail
  clear a_0 a_1 a_2 a_3 a_4 a_5 a_6 a_7 a_8 ly1
  have hgiE : w1.heap.size < (w1.alloc (.cells #[.int .i64 D.id, .int .i64 D.nodes, .int .i64 D.next, .slice Pi.op.A Pi.op.n Pi.op.c, .int .i64 D.age, .int .i64 D.clock, .slice Pi.wa.A Pi.wa.n Pi.wa.c, .slice Pi.he.A Pi.he.n Pi.he.c, .slice Pi.re.A Pi.re.n Pi.re.c] 27)).heap.size := HI.out.lt
  obtain ⟨gi, hgi⟩ : ∃ g, g = w1.heap.size := ⟨_, rfl⟩
  obtain ⟨X1, hX1⟩ : ∃ X1, X1 = (w1.alloc (.cells #[.int .i64 D.id, .int .i64 D.nodes, .int .i64 D.next, .slice Pi.op.A Pi.op.n Pi.op.c, .int .i64 D.age, .int .i64 D.clock, .slice Pi.wa.A Pi.wa.n Pi.wa.c, .slice Pi.he.A Pi.he.n Pi.he.c, .slice Pi.re.A Pi.re.n Pi.re.c] 27)) := ⟨_, rfl⟩
  rw [← hX1, ← hgi] at HI
  rw [← hX1] at HOi HY1 HY2 HY3 hbY
  rw [← hX1, ← hgi]
  rw [← hX1, ← hgi] at hgiE
  rw [← hgi] at hzX
  clear hX1 hgi
  refine (ref13_May P D true _ (H.out.up hbY) HZ.out).mono ?_
  rintro e w2 ⟨rfl, hb2⟩
  have hA2 := HY2.out.up hb2
  have b_0 := hA2.box.2 0 _ rfl
  have lA2 := hA2.lt
  have lA1 : w.heap.size < w2.heap.size := by omega
  clear hA2
  go_upto_region 8 with (go_at_call 40; refine (law0_Within a.doo 11 0 _ (by decide) (by decide) HDO.out).mono ?_; rintro e w' ⟨rfl, rfl⟩)
  clear b_0 lA2 lA1
  have hbz : Below w2.heap.size w2 ((w2.alloc (.cells #[.int .i64 0, .int .i64 0, .int .i64 0, .slice none 0 0, .int .i64 0, .int .i64 0, .slice none 0 0, .slice none 0 0, .slice none 0 0, .slice none 0 0] 70)).alloc (.cells #[.int .i64 0, .int .i64 0, .int .i64 0, .slice none 0 0, .int .i64 0, .int .i64 0, .slice none 0 0, .slice none 0 0, .slice none 0 0] 27)) := by (repeat (first | (with_reducible exact Below.refl _ _) | (with_reducible assumption) | (with_reducible apply bel_alloc) | (with_reducible apply bel_drew) | (with_reducible apply bel_drewN) | (with_reducible refine bel_trans ?_ (by with_reducible assumption)) | (with_reducible refine bel_trans ?_ (HF.out _)) | (with_reducible refine bel_set ?_ (by simp) _) | (with_reducible refine bel_set ?_ (by simp; omega) _) | (with_reducible refine bel_set ?_ (by omega) _)))
  have hs0 : Blk ((w2.alloc (.cells #[.int .i64 0, .int .i64 0, .int .i64 0, .slice none 0 0, .int .i64 0, .int .i64 0, .slice none 0 0, .slice none 0 0, .slice none 0 0, .slice none 0 0] 70)).alloc (.cells #[.int .i64 0, .int .i64 0, .int .i64 0, .slice none 0 0, .int .i64 0, .int .i64 0, .slice none 0 0, .slice none 0 0, .slice none 0 0] 27)) w2.heap.size 70 [.int .i64 0, .int .i64 0, .int .i64 0, .slice none 0 0, .int .i64 0, .int .i64 0, .slice none 0 0, .slice none 0 0, .slice none 0 0, .slice none 0 0] := (Blk.new w2 70 [.int .i64 0, .int .i64 0, .int .i64 0, .slice none 0 0, .int .i64 0, .int .i64 0, .slice none 0 0, .slice none 0 0, .slice none 0 0, .slice none 0 0]).up (by (repeat (first | (with_reducible exact Below.refl _ _) | (with_reducible assumption) | (with_reducible apply bel_alloc) | (with_reducible apply bel_drew) | (with_reducible apply bel_drewN) | (with_reducible refine bel_trans ?_ (by with_reducible assumption)) | (with_reducible refine bel_trans ?_ (HF.out _)) | (with_reducible refine bel_set ?_ (by simp) _) | (with_reducible refine bel_set ?_ (by simp; omega) _) | (with_reducible refine bel_set ?_ (by omega) _))))
  have hx0 : Blk ((w2.alloc (.cells #[.int .i64 0, .int .i64 0, .int .i64 0, .slice none 0 0, .int .i64 0, .int .i64 0, .slice none 0 0, .slice none 0 0, .slice none 0 0, .slice none 0 0] 70)).alloc (.cells #[.int .i64 0, .int .i64 0, .int .i64 0, .slice none 0 0, .int .i64 0, .int .i64 0, .slice none 0 0, .slice none 0 0, .slice none 0 0] 27)) (w2.heap.size + 1) 27 [.int .i64 0, .int .i64 0, .int .i64 0, .slice none 0 0, .int .i64 0, .int .i64 0, .slice none 0 0, .slice none 0 0, .slice none 0 0] := by
    have := Blk.new (w2.alloc (.cells #[.int .i64 0, .int .i64 0, .int .i64 0, .slice none 0 0, .int .i64 0, .int .i64 0, .slice none 0 0, .slice none 0 0, .slice none 0 0, .slice none 0 0] 70)) 27 [.int .i64 0, .int .i64 0, .int .i64 0, .slice none 0 0, .int .i64 0, .int .i64 0, .slice none 0 0, .slice none 0 0, .slice none 0 0]
    simpa using this
  obtain ⟨gx, hgx⟩ : ∃ g, g = w2.heap.size + 1 := ⟨_, rfl⟩
  rw [← hgx] at hx0 ⊢
  obtain ⟨gs, hgs⟩ : ∃ g, g = w2.heap.size := ⟨_, rfl⟩
  rw [← hgs] at hs0 ⊢
  obtain ⟨Y, hY⟩ : ∃ Y, Y = ((w2.alloc (.cells #[.int .i64 0, .int .i64 0, .int .i64 0, .slice none 0 0, .int .i64 0, .int .i64 0, .slice none 0 0, .slice none 0 0, .slice none 0 0, .slice none 0 0] 70)).alloc (.cells #[.int .i64 0, .int .i64 0, .int .i64 0, .slice none 0 0, .int .i64 0, .int .i64 0, .slice none 0 0, .slice none 0 0, .slice none 0 0] 27)) := ⟨_, rfl⟩
  rw [← hY] at hbz hs0 hx0 ⊢
  have hgisz := (HI.out.up hb2).lt
  have hgis : gi < gs := by omega
  have hgsx : gs < gx := by omega
  have hgw : w.heap.size + 2 < gi := by omega
  have HU1 := Lib.hid ((HY1.out.up hb2).up hbz)
  have HU2 := Lib.hid ((HY2.out.up hb2).up hbz)
  have HU3 := Lib.hid ((HY3.out.up hb2).up hbz)
  have HUi := Lib.hid ((HI.out.up hb2).up hbz)
  have HUs := Lib.hid hs0
  have HUx := Lib.hid hx0
  have HOI := Lib.hid ((HOi.out.up hb2).up hbz)
  have hbU := bel_trans (bel_trans hbY hb2) hbz
  clear hY hgx hgs hs0 hx0 hbz hgisz hgiE hzX HY1 HY2 HY3 HI HOi hbY hb2
  have hla := HU2.out.lt
  have b_2 := HU2.out.box.2 2 _ rfl
  have b_3 := HU2.out.box.2 3 _ rfl
  have b_4 := HU2.out.box.2 4 _ rfl
  have b_5 := HU2.out.box.2 5 _ rfl
  have hon : D.op.length = P.op.n := H.out.op.1
  have hn64 : P.op.n < 64 := by omega
  have hnd : decide ((P.op.n : Int) < 64) = true := by simp; omega
  have HON := Lib.hid hon
  clear hm ht hon
  go_upto_region 10 with (go_at_call 60; refine (ref4_Tx a.t true _ HZ2.out).mono ?_; rintro e Yx ⟨rfl, hb5⟩)
  clear hla b_2 b_3 b_4 b_5
  have HX1 := Lib.hid (HU1.out.up hb5)
  have HX2 := Lib.hid (HU2.out.up hb5)
  have HX3 := Lib.hid (HU3.out.up hb5)
  have HXi := Lib.hid (HUi.out.up hb5)
  have HXs := Lib.hid (HUs.out.up hb5)
  have HXx := Lib.hid (HUx.out.up hb5)
  have HOX := Lib.hid (HOI.out.up hb5)
  have hbx := bel_trans hbU hb5
  have lx1 := HX1.out.lt
  have lxs := HXs.out.lt
  have a_0 := (HX1.out.box).2 0 _ rfl; have a_1 := (HX1.out.box).2 1 _ rfl; have a_2 := (HX1.out.box).2 2 _ rfl; have a_3 := (HX1.out.box).2 3 _ rfl; have a_4 := (HX1.out.box).2 4 _ rfl; have a_5 := (HX1.out.box).2 5 _ rfl; have a_6 := (HX1.out.box).2 6 _ rfl; have a_7 := (HX1.out.box).2 7 _ rfl; have a_8 := (HX1.out.box).2 8 _ rfl
  clear HU1 HU2 HU3 HUi HUs HUx HOI hbU hb5
  go_upto_region 13 with (go_at_call 17; refine (ref0_CopyWorker2 P D _ (H.out.up hbx) HS.out).mono ?_; rintro e w6 ⟨P5, he, hO6, ⟨B2, hB26, hB27, hH6⟩, hb6⟩; simp only [WorkP.val] at he; subst he; have hs6 := HXs.out.up hb6; have f6 := hs6.frozen; have l6 := hs6.lt; have s_0 := (hs6.box).2 0 _ rfl; have s_1 := (hs6.box).2 1 _ rfl; have s_2 := (hs6.box).2 2 _ rfl; have s_3 := (hs6.box).2 3 _ rfl; have s_4 := (hs6.box).2 4 _ rfl; have s_5 := (hs6.box).2 5 _ rfl; have s_6 := (hs6.box).2 6 _ rfl; have s_7 := (hs6.box).2 7 _ rfl; have s_8 := (hs6.box).2 8 _ rfl; have s_9 := (hs6.box).2 9 _ rfl; have HS6 := Lib.hid hs6; have HO60 := Lib.hid hO6; have HH60 := Lib.hid hH6; have HB26 := Lib.hid hB27; clear hs6 hO6 hH6 hB27)
  have hG6 : Blk (((((((((w6.setCell ⟨gs, 0, none⟩ (.int .i64 D.id)).setCell ⟨gs, 1, none⟩ (.int .i64 D.nodes)).setCell ⟨gs, 2, none⟩ (.int .i64 D.next)).setCell ⟨gs, 3, none⟩ (.slice P5.op.A P5.op.n P5.op.c)).setCell ⟨gs, 4, none⟩ (.int .i64 D.age)).setCell ⟨gs, 5, none⟩ (.int .i64 D.clock)).setCell ⟨gs, 6, none⟩ (.slice P5.wa.A P5.wa.n P5.wa.c)).setCell ⟨gs, 7, none⟩ (.slice P5.he.A P5.he.n P5.he.c)).setCell ⟨gs, 8, none⟩ (.slice P5.re.A P5.re.n P5.re.c)) gs 70 [.int .i64 D.id, .int .i64 D.nodes, .int .i64 D.next, .slice P5.op.A P5.op.n P5.op.c, .int .i64 D.age, .int .i64 D.clock, .slice P5.wa.A P5.wa.n P5.wa.c, .slice P5.he.A P5.he.n P5.he.c, .slice P5.re.A P5.re.n P5.re.c, .slice none 0 0] := ((((((((HS6.out.set_ 0 _).set_ 1 _).set_ 2 _).set_ 3 _).set_ 4 _).set_ 5 _).set_ 6 _).set_ 7 _).set_ 8 _
  have htk6 := TKeep.sets9 HS6.out (.int .i64 D.id) (.int .i64 D.nodes) (.int .i64 D.next) (.slice P5.op.A P5.op.n P5.op.c) (.int .i64 D.age) (.int .i64 D.clock) (.slice P5.wa.A P5.wa.n P5.wa.c) (.slice P5.he.A P5.he.n P5.he.c) (.slice P5.re.A P5.re.n P5.re.c)
  have hO6 := HO60.out.tkR htk6
  have hH6 := HH60.out.tkR htk6
  have hbut6 : But Yx.heap.size gs Yx (((((((((w6.setCell ⟨gs, 0, none⟩ (.int .i64 D.id)).setCell ⟨gs, 1, none⟩ (.int .i64 D.nodes)).setCell ⟨gs, 2, none⟩ (.int .i64 D.next)).setCell ⟨gs, 3, none⟩ (.slice P5.op.A P5.op.n P5.op.c)).setCell ⟨gs, 4, none⟩ (.int .i64 D.age)).setCell ⟨gs, 5, none⟩ (.int .i64 D.clock)).setCell ⟨gs, 6, none⟩ (.slice P5.wa.A P5.wa.n P5.wa.c)).setCell ⟨gs, 7, none⟩ (.slice P5.he.A P5.he.n P5.he.c)).setCell ⟨gs, 8, none⟩ (.slice P5.re.A P5.re.n P5.re.c)) := (((((((((But.of_below hb6).setg).setg).setg).setg).setg).setg).setg).setg).setg
  have hbx6s : Yx.heap.size ≤ (((((((((w6.setCell ⟨gs, 0, none⟩ (.int .i64 D.id)).setCell ⟨gs, 1, none⟩ (.int .i64 D.nodes)).setCell ⟨gs, 2, none⟩ (.int .i64 D.next)).setCell ⟨gs, 3, none⟩ (.slice P5.op.A P5.op.n P5.op.c)).setCell ⟨gs, 4, none⟩ (.int .i64 D.age)).setCell ⟨gs, 5, none⟩ (.int .i64 D.clock)).setCell ⟨gs, 6, none⟩ (.slice P5.wa.A P5.wa.n P5.wa.c)).setCell ⟨gs, 7, none⟩ (.slice P5.he.A P5.he.n P5.he.c)).setCell ⟨gs, 8, none⟩ (.slice P5.re.A P5.re.n P5.re.c)).heap.size := hbut6.size
  obtain ⟨Y6, hY6⟩ : ∃ Z, Z = (((((((((w6.setCell ⟨gs, 0, none⟩ (.int .i64 D.id)).setCell ⟨gs, 1, none⟩ (.int .i64 D.nodes)).setCell ⟨gs, 2, none⟩ (.int .i64 D.next)).setCell ⟨gs, 3, none⟩ (.slice P5.op.A P5.op.n P5.op.c)).setCell ⟨gs, 4, none⟩ (.int .i64 D.age)).setCell ⟨gs, 5, none⟩ (.int .i64 D.clock)).setCell ⟨gs, 6, none⟩ (.slice P5.wa.A P5.wa.n P5.wa.c)).setCell ⟨gs, 7, none⟩ (.slice P5.he.A P5.he.n P5.he.c)).setCell ⟨gs, 8, none⟩ (.slice P5.re.A P5.re.n P5.re.c)) := ⟨_, rfl⟩
  rw [← hY6] at hG6 hO6 hH6 hbut6 hbx6s ⊢
  clear hY6 htk6 HS6 HO60 HH60 a_0 a_1 a_2 a_3 a_4 a_5 a_6 a_7 a_8 s_0 s_1 s_2 s_3 s_4 s_5 s_6 s_7 s_8 s_9 f6 l6 lx1
  have HG6 := Lib.hid hG6
  have HO6 := Lib.hid hO6
  have HH6 := Lib.hid hH6
  have HA6 := Lib.hid (But.blk hbut6 HX2.out HX2.out.lt (by omega))
  have hgs6 := hG6.lt
  have hlen : D.op.length + 1 ≤ 900000000 := by omega
  have hgaNe : gs ≠ w.heap.size + 1 := by omega
  clear hG6 hO6 hH6
  obtain ⟨S, hSd⟩ : ∃ S : World → Prop, S = fun Q => Blk Q (w.heap.size + 1) 51 [.int .i64 a.doo, .int .i64 a.d, .int .i64 a.t.se, .int .i64 a.t.sq, .string a.t.k, .string a.t.v, .int .i64 a.m.ki, .int .i64 a.m.fr, .int .i64 a.m.tt, .int .i64 a.m.di, .int .i64 a.m.b.au, .int .i64 a.m.b.n, .slice MP.b.A MP.b.n MP.b.c, .int .i64 a.m.h.au, .int .i64 a.m.h.ro, .slice MP.h.b.A MP.h.b.n MP.h.b.c, .slice MP.h.p.A MP.h.p.n MP.h.p.c, .int .i64 a.m.c.h.au, .int .i64 a.m.c.h.ro, .slice MP.c.h.b.A MP.c.h.b.n MP.c.h.b.c, .slice MP.c.h.p.A MP.c.h.p.n MP.c.h.p.c, .int .i64 a.m.c.di, .slice MP.c.s.A MP.c.s.n MP.c.s.c, .slice MP.ds.A MP.ds.n MP.ds.c, .bool a.fit, .slice SP.A SP.n SP.c] := ⟨_, rfl⟩
  have hS1 : ∀ Q, S Q → Q.rangeAt (w.heap.size + 1) 2 [.int .i64 a.t.se, .int .i64 a.t.sq, .string a.t.k, .string a.t.v] := fun Q h => by
    rw [hSd] at h
    exact fun j u hu => h.box.2 (2 + j) u (by have hj : j < 4 := (List.getElem?_eq_some_iff.1 hu).1; (match j, hj, hu with | 0, _, hu => exact hu | 1, _, hu => exact hu | 2, _, hu => exact hu | 3, _, hu => exact hu))
  have hS2 : ∀ Q, Below Y6.heap.size Y6 Q → S Q := fun Q hQ => by rw [hSd]; exact HA6.out.up hQ
  have hS3 : ∀ Q Q', Below Y6.heap.size Y6 Q → Q.grownBy Q' (Value.slice P5.op.A P5.op.n P5.op.c).ownBlock → S Q' := fun Q Q' hQ hg' => by rw [hSd]; exact blk_grownT (HA6.out.up hQ) (show World.ownsRow _ Yx.heap.size 41 4 (.slice P5.op.A P5.op.n P5.op.c) _ _ from HO6.out.op.up hQ) (by decide) hg'
  have hS4 : ∀ Q o u, S Q → S (Q.setCell ⟨gs, o, none⟩ u) := fun Q o u h => by rw [hSd] at h ⊢; exact h.far (p := ⟨gs, o, none⟩) (by show w.heap.size + 1 ≠ gs; omega) u
  have hc3 : ∀ Q, Below Y6.heap.size Y6 Q → Q.cell? ⟨gs, 3, none⟩ = some (.slice P5.op.A P5.op.n P5.op.c) := fun Q hQ => (HG6.out.up hQ).box.2 3 _ rfl
  clear hSd
  refine wp_region_held_drew (S := S) (by kernel_rfl) (hS2 _ (bel_drew (Below.refl _ _))) (fun hHeld => ?_)
  have hbd : Below Y6.heap.size Y6 Y6.drew := bel_drew (Below.refl _ _)
  have hbx6 : Below Yx.heap.size Y6 Y6 := Below.refl _ _
  have hZ := hHeld
  generalize Y6.drew = Z at *
  (refine wpAnyH_takeD (i := 0) (d := (some 44)) (v := ?_) rfl rfl (by kernel_rfl) (by kernel_rfl) (by kernel_rfl) (fun _ _ _ h => h) (Or.inl ⟨by rfl, ?_⟩) (by assumption) ?_)
  rotate_left
  focus
    intro wq hSw
    skip
    clear hSw
    go_simp
    all_goals (with_reducible rfl)
  simp only [Act.put, List.setIfInBounds_toArray, List.set_cons_zero, List.set_cons_succ]
  (refine wpAnyH_takeD (i := 1) (d := (some 45)) (v := ?_) rfl rfl (by kernel_rfl) (by kernel_rfl) (by kernel_rfl) (fun _ _ _ h => h) (Or.inl ⟨by rfl, ?_⟩) (by assumption) ?_)
  rotate_left
  focus
    intro wq hSw
    skip
    clear hSw
    go_simp
    all_goals (with_reducible rfl)
  simp only [Act.put, List.setIfInBounds_toArray, List.set_cons_zero, List.set_cons_succ]
  (refine wpAnyH_takeD (i := 2) (d := (some 46)) (v := ?_) rfl rfl (by kernel_rfl) (by kernel_rfl) (by kernel_rfl) (fun _ _ _ h => h) (Or.inl ⟨by rfl, ?_⟩) (by assumption) ?_)
  rotate_left
  focus
    intro wq hSw
    skip
    clear hSw
    go_simp
    all_goals (with_reducible rfl)
  simp only [Act.put, List.setIfInBounds_toArray, List.set_cons_zero, List.set_cons_succ]
  (refine wpAnyH_takeD (i := 3) (d := (some 47)) (v := ?_) rfl rfl (by kernel_rfl) (by kernel_rfl) (by kernel_rfl) (fun _ _ _ h => h) (Or.inl ⟨by rfl, ?_⟩) (by assumption) ?_)
  rotate_left
  focus
    intro wq hSw
    skip
    clear hSw
    go_simp
    all_goals (with_reducible rfl)
  simp only [Act.put, List.setIfInBounds_toArray, List.set_cons_zero, List.set_cons_succ]
  (refine wpAnyH_takeD (i := 4) (d := (some 48)) (v := ?_) rfl rfl (by kernel_rfl) (by kernel_rfl) (by kernel_rfl) (fun _ _ _ h => h) (Or.inl ⟨by rfl, ?_⟩) (by assumption) ?_)
  rotate_left
  focus
    intro wq hSw
    skip
    clear hSw
    go_simp
    all_goals (with_reducible rfl)
  simp only [Act.put, List.setIfInBounds_toArray, List.set_cons_zero, List.set_cons_succ]
  (refine wpAnyH_takeD (i := 6) (d := (some 50)) (v := ?_) rfl rfl (by kernel_rfl) (by kernel_rfl) (by kernel_rfl) (fun _ _ _ h => h) (Or.inl ⟨by rfl, ?_⟩) (by assumption) ?_)
  rotate_left
  focus
    intro wq hSw
    skip
    clear hSw
    go_simp
    all_goals (with_reducible rfl)
  simp only [Act.put, List.setIfInBounds_toArray, List.set_cons_zero, List.set_cons_succ]
  refine wpAnyH_takeD (i := 7) (d := (some 51)) (v := .agg ([.int .i64 a.t.se, .int .i64 a.t.sq, .string a.t.k, .string a.t.v]).toArray) rfl rfl (by kernel_rfl) (by kernel_rfl) (by kernel_rfl) (fun _ _ _ h => h) (yieldsIf_load_mid (by rfl) 41 _ rfl (w.heap.size + 1) 2 (by simp [Act.eval, Act.put]) ([.int .i64 a.t.se, .int .i64 a.t.sq, .string a.t.k, .string a.t.v]) _ (hS1) Tryz.underlying41 (by rfl) (by kernel_rfl)) (by assumption) ?_
  simp only [Act.put, List.setIfInBounds_toArray, List.set_cons_zero, List.set_cons_succ]
  refine wpAnyH_ready (rs := [5, 8]) (by kernel_rfl) (by simp) ?_
  refine AllReadyH.cons (o := _) rfl (fun K hK => ?_) (AllReadyH.cons (o := _) rfl (fun K hK => ?_) AllReadyH.nil)
  · skip
    have q9 := hc3 _ (hbd)
    go_simp
    clear q9
    refine hK.out _ _ (hS2 _ (hbd)) (fun hHeld => ?_)
    clear hK K
    (try simp only [Act.put, List.setIfInBounds_toArray, List.set_cons_zero, List.set_cons_succ])
    refine wpAnyH_ready (rs := [8]) (by kernel_rfl) (by simp) ?_
    refine AllReadyH.cons (o := _) rfl (fun K hK => ?_) AllReadyH.nil
    go_simp
    obtain ⟨NB, hNB⟩ : ∃ N, N = Z.heap.size := ⟨_, rfl⟩
    obtain ⟨ZB, hZB⟩ : ∃ Zq : World, Zq = Z.alloc (.cells #[.int .i64 a.t.se, .int .i64 a.t.sq, .string a.t.k, .string a.t.v] 41) := ⟨_, rfl⟩
    rw [← hNB, ← hZB]
    have hkB : BoxR ZB NB [.int .i64 a.t.se, .int .i64 a.t.sq, .string a.t.k, .string a.t.v] := by rw [hZB, hNB]; exact BoxR.new _ [.int .i64 a.t.se, .int .i64 a.t.sq, .string a.t.k, .string a.t.v] 41
    have hbB : Below Z.heap.size Z ZB := by rw [hZB]; exact bel_alloc (Below.refl _ _)
    have hbB2 := bel_trans (hbd) hbB
    clear hNB hZB
    refine hK.out _ _ (hS2 _ hbB2) (fun hHeld => ?_)
    clear hK K
    (try simp only [Act.put, List.setIfInBounds_toArray, List.set_cons_zero, List.set_cons_succ])
    refine wpAnyH_ready (rs := [9]) (by kernel_rfl) (by simp) ?_
    refine AllReadyH.cons (o := _) rfl (fun K hK => ?_) AllReadyH.nil
    refine step_appX rfl (.tmp 49) (.tmp 52) rfl rfl Yx.heap.size (.slice P5.op.A P5.op.n P5.op.c) D.op (by simp [Act.eval, Act.put]) (HO6.out.op.up hbB2) NB 0 1 1 [a.t] (by simp [Act.eval, Act.put]) rfl (fun j u hu => by (rw [Nat.zero_add]); exact hkB.2 j u (by simpa [flat, encX] using hu)) hlen (Nat.le_trans hbx6s hbB2.size) ?_
    intro v7 w7 hown7 hg7 hb7 hat7
    obtain ⟨A7, c7, e7, _⟩ := OwnX.txs hown7 (by simp; omega)
    obtain ⟨n7, hn7⟩ : ∃ x, (D.op ++ [a.t]).length = x := ⟨_, rfl⟩
    rw [hn7] at e7
    subst e7
    refine hK.out _ _ (hS3 _ _ hbB2 hg7) (fun hHeld => ?_)
    clear hK K
    (try simp only [Act.put, List.setIfInBounds_toArray, List.set_cons_zero, List.set_cons_succ])
    (refine wpAnyH_takeD (i := 10) (d := (some 54)) (v := ?_) rfl rfl (by kernel_rfl) (by kernel_rfl) (by kernel_rfl) (fun _ _ _ h => h) (Or.inl ⟨by rfl, ?_⟩) (by assumption) ?_)
    rotate_left
    focus
      intro wq hSw
      skip
      clear hSw
      go_simp
      all_goals (with_reducible rfl)
    simp only [Act.put, List.setIfInBounds_toArray, List.set_cons_zero, List.set_cons_succ]
    (refine wpAnyH_takeD (i := 11) (d := (some 55)) (v := ?_) rfl rfl (by kernel_rfl) (by kernel_rfl) (by kernel_rfl) (fun _ _ _ h => h) (Or.inl ⟨by rfl, ?_⟩) (by assumption) ?_)
    rotate_left
    focus
      intro wq hSw
      skip
      clear hSw
      go_simp
      all_goals (with_reducible rfl)
    simp only [Act.put, List.setIfInBounds_toArray, List.set_cons_zero, List.set_cons_succ]
    (refine wpAnyH_takeD (i := 12) (d := (some 56)) (v := ?_) rfl rfl (by kernel_rfl) (by kernel_rfl) (by kernel_rfl) (fun _ _ _ h => h) (Or.inl ⟨by rfl, ?_⟩) (by assumption) ?_)
    rotate_left
    focus
      intro wq hSw
      skip
      clear hSw
      go_simp
      all_goals (with_reducible rfl)
    simp only [Act.put, List.setIfInBounds_toArray, List.set_cons_zero, List.set_cons_succ]
    refine wpAnyH_ready (rs := [13]) (by kernel_rfl) (by simp) ?_
    refine AllReadyH.cons (o := _) rfl (fun K hK => ?_) AllReadyH.nil
    have hG7 : Blk w7 gs 70 [.int .i64 D.id, .int .i64 D.nodes, .int .i64 D.next, .slice P5.op.A P5.op.n P5.op.c, .int .i64 D.age, .int .i64 D.clock, .slice P5.wa.A P5.wa.n P5.wa.c, .slice P5.he.A P5.he.n P5.he.c, .slice P5.re.A P5.re.n P5.re.c, .slice none 0 0] := blk_grownT (HG6.out.up hbB2) (show World.ownsRow _ Yx.heap.size 41 4 (.slice P5.op.A P5.op.n P5.op.c) _ _ from HO6.out.op.up hbB2) (by decide) hg7
    have qf := hG7.frozen
    have ql := hG7.lt
    have q9 := hG7.box.2 3 _ rfl
    go_simp
    clear qf ql q9
    have hG8 := hG7.set_ 3 (.slice A7 n7 c7)
    have hs7 := hS3 _ _ hbB2 hg7
    refine hK.out _ _ (hS4 _ 3 (.slice A7 n7 c7) hs7) (fun hHeld => ?_)
    clear hK K
    (try simp only [Act.put, List.setIfInBounds_toArray, List.set_cons_zero, List.set_cons_succ])
    refine wpAnyH_done (by kernel_rfl) ?_ _
    clear hS2 hS3 hS4 hc3 hs7 hHeld hZ
    go_upto_region 14 with fail
    obtain ⟨Yc, hYc⟩ : ∃ Z, Z = w7.setCell ⟨gs, 3, none⟩ (.slice A7 n7 c7) := ⟨_, rfl⟩
    have htg := TKeep.setg (o := 3) (u := .slice A7 n7 c7) hG7
    have hWO7 : WorkO w7 Yx.heap.size ⟨⟨A7, n7, c7⟩, P5.wa, P5.he, P5.re⟩ (addOp D a.t) := ⟨hown7, (HO6.out.wa.up hbB2).farX (HO6.out.op.up hbB2) hg7, ((HH6.out.up hbB2).grownLow hg7 HB26.out).mono hB26, own_farT (HO6.out.re.up hbB2) (HO6.out.op.up hbB2) (by decide) hg7⟩
    have hbut : But Yx.heap.size gs Yx Yc := by rw [hYc]; exact (hbut6.trans ((But.of_below (hbB2.mono hbx6s)).trans (But.of_below hb7))).setg
    rw [← hYc] at hG8 htg ⊢
    have HWOc := Lib.hid (hWO7.tkR htg)
    have HVs : Hid (Blk Yc gs 70 [.int .i64 D.id, .int .i64 D.nodes, .int .i64 D.next, .slice A7 n7 c7, .int .i64 D.age, .int .i64 D.clock, .slice P5.wa.A P5.wa.n P5.wa.c, .slice P5.he.A P5.he.n P5.he.c, .slice P5.re.A P5.re.n P5.re.c, .slice none 0 0]) := Lib.hid hG8
    clear hYc hG7 hG8 htg hWO7 hown7 hg7 hb7 hat7
    have HV1 := Lib.hid (But.blk hbut HX1.out HX1.out.lt (by omega))
    have HV2 := Lib.hid (But.blk hbut HX2.out HX2.out.lt (by omega))
    have HV3 := Lib.hid (But.blk hbut HX3.out HX3.out.lt (by omega))
    have HVi := Lib.hid (But.blk hbut HXi.out HXi.out.lt (by omega))
    have HVx := Lib.hid (But.blk hbut HXx.out HXx.out.lt (by omega))
    have HOV := Lib.hid (HOX.out.tkR (TKeep.of_but HXs.out hbut))
    have hbV : Below w.heap.size w Yc := hbx.trans ((hbut.below (Nat.le_of_lt HXs.out.lt)).mono (by omega))
    have hli := HVi.out.lt
    have hla := HV2.out.lt
    have i_0 := (HVi.out.box).2 0 _ rfl; have i_1 := (HVi.out.box).2 1 _ rfl; have i_2 := (HVi.out.box).2 2 _ rfl; have i_3 := (HVi.out.box).2 3 _ rfl; have i_4 := (HVi.out.box).2 4 _ rfl; have i_5 := (HVi.out.box).2 5 _ rfl; have i_6 := (HVi.out.box).2 6 _ rfl; have i_7 := (HVi.out.box).2 7 _ rfl; have i_8 := (HVi.out.box).2 8 _ rfl
    have b_2 := HV2.out.box.2 2 _ rfl
    have b_3 := HV2.out.box.2 3 _ rfl
    have b_4 := HV2.out.box.2 4 _ rfl
    have b_5 := HV2.out.box.2 5 _ rfl
    go_upto_region 53 with (go_at_call 61; refine (worker_Add_ok Pi D a.t _ (HOV.out.work HS.out) HS.out HZ.out HZ2.out hl64).mono ?_; rintro e wa ⟨P8, he, hO8, hba⟩; simp only [WorkP.val] at he; subst he; have hXa := HVx.out.up hba; have fXa := hXa.frozen; have lXa := hXa.lt; have x_0 := (hXa.box).2 0 _ rfl; have x_1 := (hXa.box).2 1 _ rfl; have x_2 := (hXa.box).2 2 _ rfl; have x_3 := (hXa.box).2 3 _ rfl; have x_4 := (hXa.box).2 4 _ rfl; have x_5 := (hXa.box).2 5 _ rfl; have x_6 := (hXa.box).2 6 _ rfl; have x_7 := (hXa.box).2 7 _ rfl; have x_8 := (hXa.box).2 8 _ rfl; have HXa := Lib.hid hXa; have HO8 := Lib.hid hO8; clear hXa hO8)
    rename_i K9 hK9
    have hsx := set9 HXa.out rfl (.int .i64 (addOp D a.t).id) (.int .i64 (addOp D a.t).nodes) (.int .i64 (addOp D a.t).next) (.slice P8.op.A P8.op.n P8.op.c) (.int .i64 (addOp D a.t).age) (.int .i64 (addOp D a.t).clock) (.slice P8.wa.A P8.wa.n P8.wa.c) (.slice P8.he.A P8.he.n P8.he.c) (.slice P8.re.A P8.re.n P8.re.c)
    have hO8w := HO8.out.tk (TKeep.sets9 HXa.out (.int .i64 (addOp D a.t).id) (.int .i64 (addOp D a.t).nodes) (.int .i64 (addOp D a.t).next) (.slice P8.op.A P8.op.n P8.op.c) (.int .i64 (addOp D a.t).age) (.int .i64 (addOp D a.t).clock) (.slice P8.wa.A P8.wa.n P8.wa.c) (.slice P8.he.A P8.he.n P8.he.c) (.slice P8.re.A P8.re.n P8.re.c)) twWork
    have htk : TKeep 27 Yc (((((((((wa.setCell ⟨gx, 0, none⟩ (.int .i64 (addOp D a.t).id)).setCell ⟨gx, 1, none⟩ (.int .i64 (addOp D a.t).nodes)).setCell ⟨gx, 2, none⟩ (.int .i64 (addOp D a.t).next)).setCell ⟨gx, 3, none⟩ (.slice P8.op.A P8.op.n P8.op.c)).setCell ⟨gx, 4, none⟩ (.int .i64 (addOp D a.t).age)).setCell ⟨gx, 5, none⟩ (.int .i64 (addOp D a.t).clock)).setCell ⟨gx, 6, none⟩ (.slice P8.wa.A P8.wa.n P8.wa.c)).setCell ⟨gx, 7, none⟩ (.slice P8.he.A P8.he.n P8.he.c)).setCell ⟨gx, 8, none⟩ (.slice P8.re.A P8.re.n P8.re.c)) := (TKeep.of_below hba).trans (TKeep.sets9 HXa.out (.int .i64 (addOp D a.t).id) (.int .i64 (addOp D a.t).nodes) (.int .i64 (addOp D a.t).next) (.slice P8.op.A P8.op.n P8.op.c) (.int .i64 (addOp D a.t).age) (.int .i64 (addOp D a.t).clock) (.slice P8.wa.A P8.wa.n P8.wa.c) (.slice P8.he.A P8.he.n P8.he.c) (.slice P8.re.A P8.re.n P8.re.c))
    have hblk : ∀ g t cs, Blk Yc g t cs → g ≠ gx → Blk (((((((((wa.setCell ⟨gx, 0, none⟩ (.int .i64 (addOp D a.t).id)).setCell ⟨gx, 1, none⟩ (.int .i64 (addOp D a.t).nodes)).setCell ⟨gx, 2, none⟩ (.int .i64 (addOp D a.t).next)).setCell ⟨gx, 3, none⟩ (.slice P8.op.A P8.op.n P8.op.c)).setCell ⟨gx, 4, none⟩ (.int .i64 (addOp D a.t).age)).setCell ⟨gx, 5, none⟩ (.int .i64 (addOp D a.t).clock)).setCell ⟨gx, 6, none⟩ (.slice P8.wa.A P8.wa.n P8.wa.c)).setCell ⟨gx, 7, none⟩ (.slice P8.he.A P8.he.n P8.he.c)).setCell ⟨gx, 8, none⟩ (.slice P8.re.A P8.re.n P8.re.c)) g t cs := fun g t cs h hne => (h.up hba).sets9 hne (.int .i64 (addOp D a.t).id) (.int .i64 (addOp D a.t).nodes) (.int .i64 (addOp D a.t).next) (.slice P8.op.A P8.op.n P8.op.c) (.int .i64 (addOp D a.t).age) (.int .i64 (addOp D a.t).clock) (.slice P8.wa.A P8.wa.n P8.wa.c) (.slice P8.he.A P8.he.n P8.he.c) (.slice P8.re.A P8.re.n P8.re.c)
    have hbWw := belw_sets9 (g := gx) (bel_trans hbV hba) (by omega) (.int .i64 (addOp D a.t).id) (.int .i64 (addOp D a.t).nodes) (.int .i64 (addOp D a.t).next) (.slice P8.op.A P8.op.n P8.op.c) (.int .i64 (addOp D a.t).age) (.int .i64 (addOp D a.t).clock) (.slice P8.wa.A P8.wa.n P8.wa.c) (.slice P8.he.A P8.he.n P8.he.c) (.slice P8.re.A P8.re.n P8.re.c)
    have hBW : Yc.heap.size ≤ (((((((((wa.setCell ⟨gx, 0, none⟩ (.int .i64 (addOp D a.t).id)).setCell ⟨gx, 1, none⟩ (.int .i64 (addOp D a.t).nodes)).setCell ⟨gx, 2, none⟩ (.int .i64 (addOp D a.t).next)).setCell ⟨gx, 3, none⟩ (.slice P8.op.A P8.op.n P8.op.c)).setCell ⟨gx, 4, none⟩ (.int .i64 (addOp D a.t).age)).setCell ⟨gx, 5, none⟩ (.int .i64 (addOp D a.t).clock)).setCell ⟨gx, 6, none⟩ (.slice P8.wa.A P8.wa.n P8.wa.c)).setCell ⟨gx, 7, none⟩ (.slice P8.he.A P8.he.n P8.he.c)).setCell ⟨gx, 8, none⟩ (.slice P8.re.A P8.re.n P8.re.c)).heap.size := by have h2 := hba.size; simp [World.setCell]; exact h2
    obtain ⟨W, hW⟩ : ∃ W, W = (((((((((wa.setCell ⟨gx, 0, none⟩ (.int .i64 (addOp D a.t).id)).setCell ⟨gx, 1, none⟩ (.int .i64 (addOp D a.t).nodes)).setCell ⟨gx, 2, none⟩ (.int .i64 (addOp D a.t).next)).setCell ⟨gx, 3, none⟩ (.slice P8.op.A P8.op.n P8.op.c)).setCell ⟨gx, 4, none⟩ (.int .i64 (addOp D a.t).age)).setCell ⟨gx, 5, none⟩ (.int .i64 (addOp D a.t).clock)).setCell ⟨gx, 6, none⟩ (.slice P8.wa.A P8.wa.n P8.wa.c)).setCell ⟨gx, 7, none⟩ (.slice P8.he.A P8.he.n P8.he.c)).setCell ⟨gx, 8, none⟩ (.slice P8.re.A P8.re.n P8.re.c)) := ⟨_, rfl⟩
    rw [← hW] at hsx hO8w htk hblk hbWw hBW ⊢
    clear hW
    have l1 := HV1.out.lt
    have l3 := HV3.out.lt
    have ls := HVs.out.lt
    have hwB := hbV.size
    have hbg8 : BigD (addOp D a.t) := ⟨by show (D.op ++ [a.t]).length ≤ _; simp; omega, HS.out.wa, HS.out.he, HS.out.re⟩
    have hR8 := hO8w.work hbg8
    exact step_tail w W Yc.heap.size w.heap.size (w.heap.size + 1 + 1) gi gs gx P Pi ⟨⟨A7, n7, c7⟩, P5.wa, P5.he, P5.re⟩ P8 D (addOp D a.t) 0 none none 0 0 0 0 hK9 hbWw hwB hBW (by omega) l3 (by omega) (by omega) (by omega)
      (fun Y' hY' => ⟨H.out.up (hbWw.trans (hY'.mono hwB)), (HOV.out.tk (tk_belB htk hY') twWork).work HS.out, (hblk _ _ _ HV1.out (by omega)).below hY' l1, (hblk _ _ _ HVi.out (by omega)).below hY' hli, (hblk _ _ _ HV3.out (by omega)).below hY' l3⟩)
      (fun Y' hY' => ⟨(HWOc.out.tk (tk_belB htk (hY'.mono hBW)) twWork).work hbg8, (hblk _ _ _ HVs.out (by omega)).up hY'⟩) (fun _ Y' hY' => (hblk _ _ _ HVs.out (by omega)).below hY' ls)
      (fun Y' hY' a0 a1 a2 a3 a4 a5 a6 a7 a8 => by rw [if_pos rfl]; exact ((HWOc.out.tk (tk_belB htk hY') twWork).tk (TKeep.sets9 ((hblk _ _ _ HV3.out (by omega)).below hY' l3) a0 a1 a2 a3 a4 a5 a6 a7 a8) twWork).work hbg8)
      hsx hO8w hbg8 (by have e1 := hR8.op.1; show P8.op.n ≤ 1000000; rw [← e1]; simp [addOp]; omega) (by have e1 := hR8.wa.1; rw [← e1]; exact hsm.1) (by have e1 := hR8.he.1; rw [← e1]; exact hsm.2.1) (by have e1 := hR8.re.1; rw [← e1]; exact hsm.2.2.1) hsm.2.2.2.1 hsm.2.2.2.2
      (fun Y' hY' => ref0_EqMessages none 0 0 none 0 0 [] Y' (MsgsR.nil _) (MsgsR.nil _)) (fun Y' hY' hk => (law0_Messages0 Y').mono fun e w' h => ⟨h.1, h.2.mono (Nat.le_trans hBW hY'.size)⟩)
  · skip
    go_simp
    obtain ⟨NB, hNB⟩ : ∃ N, N = Z.heap.size := ⟨_, rfl⟩
    obtain ⟨ZB, hZB⟩ : ∃ Zq : World, Zq = Z.alloc (.cells #[.int .i64 a.t.se, .int .i64 a.t.sq, .string a.t.k, .string a.t.v] 41) := ⟨_, rfl⟩
    rw [← hNB, ← hZB]
    have hkB : BoxR ZB NB [.int .i64 a.t.se, .int .i64 a.t.sq, .string a.t.k, .string a.t.v] := by rw [hZB, hNB]; exact BoxR.new _ [.int .i64 a.t.se, .int .i64 a.t.sq, .string a.t.k, .string a.t.v] 41
    have hbB : Below Z.heap.size Z ZB := by rw [hZB]; exact bel_alloc (Below.refl _ _)
    have hbB2 := bel_trans (hbd) hbB
    clear hNB hZB
    refine hK.out _ _ (hS2 _ hbB2) (fun hHeld => ?_)
    clear hK K
    (try simp only [Act.put, List.setIfInBounds_toArray, List.set_cons_zero, List.set_cons_succ])
    refine wpAnyH_ready (rs := [5]) (by kernel_rfl) (by simp) ?_
    refine AllReadyH.cons (o := _) rfl (fun K hK => ?_) AllReadyH.nil
    have q9 := hc3 _ (hbB2)
    go_simp
    clear q9
    refine hK.out _ _ (hS2 _ (hbB2)) (fun hHeld => ?_)
    clear hK K
    (try simp only [Act.put, List.setIfInBounds_toArray, List.set_cons_zero, List.set_cons_succ])
    refine wpAnyH_ready (rs := [9]) (by kernel_rfl) (by simp) ?_
    refine AllReadyH.cons (o := _) rfl (fun K hK => ?_) AllReadyH.nil
    refine step_appX rfl (.tmp 49) (.tmp 52) rfl rfl Yx.heap.size (.slice P5.op.A P5.op.n P5.op.c) D.op (by simp [Act.eval, Act.put]) (HO6.out.op.up hbB2) NB 0 1 1 [a.t] (by simp [Act.eval, Act.put]) rfl (fun j u hu => by (rw [Nat.zero_add]); exact hkB.2 j u (by simpa [flat, encX] using hu)) hlen (Nat.le_trans hbx6s hbB2.size) ?_
    intro v7 w7 hown7 hg7 hb7 hat7
    obtain ⟨A7, c7, e7, _⟩ := OwnX.txs hown7 (by simp; omega)
    obtain ⟨n7, hn7⟩ : ∃ x, (D.op ++ [a.t]).length = x := ⟨_, rfl⟩
    rw [hn7] at e7
    subst e7
    refine hK.out _ _ (hS3 _ _ hbB2 hg7) (fun hHeld => ?_)
    clear hK K
    (try simp only [Act.put, List.setIfInBounds_toArray, List.set_cons_zero, List.set_cons_succ])
    (refine wpAnyH_takeD (i := 10) (d := (some 54)) (v := ?_) rfl rfl (by kernel_rfl) (by kernel_rfl) (by kernel_rfl) (fun _ _ _ h => h) (Or.inl ⟨by rfl, ?_⟩) (by assumption) ?_)
    rotate_left
    focus
      intro wq hSw
      skip
      clear hSw
      go_simp
      all_goals (with_reducible rfl)
    simp only [Act.put, List.setIfInBounds_toArray, List.set_cons_zero, List.set_cons_succ]
    (refine wpAnyH_takeD (i := 11) (d := (some 55)) (v := ?_) rfl rfl (by kernel_rfl) (by kernel_rfl) (by kernel_rfl) (fun _ _ _ h => h) (Or.inl ⟨by rfl, ?_⟩) (by assumption) ?_)
    rotate_left
    focus
      intro wq hSw
      skip
      clear hSw
      go_simp
      all_goals (with_reducible rfl)
    simp only [Act.put, List.setIfInBounds_toArray, List.set_cons_zero, List.set_cons_succ]
    (refine wpAnyH_takeD (i := 12) (d := (some 56)) (v := ?_) rfl rfl (by kernel_rfl) (by kernel_rfl) (by kernel_rfl) (fun _ _ _ h => h) (Or.inl ⟨by rfl, ?_⟩) (by assumption) ?_)
    rotate_left
    focus
      intro wq hSw
      skip
      clear hSw
      go_simp
      all_goals (with_reducible rfl)
    simp only [Act.put, List.setIfInBounds_toArray, List.set_cons_zero, List.set_cons_succ]
    refine wpAnyH_ready (rs := [13]) (by kernel_rfl) (by simp) ?_
    refine AllReadyH.cons (o := _) rfl (fun K hK => ?_) AllReadyH.nil
    have hG7 : Blk w7 gs 70 [.int .i64 D.id, .int .i64 D.nodes, .int .i64 D.next, .slice P5.op.A P5.op.n P5.op.c, .int .i64 D.age, .int .i64 D.clock, .slice P5.wa.A P5.wa.n P5.wa.c, .slice P5.he.A P5.he.n P5.he.c, .slice P5.re.A P5.re.n P5.re.c, .slice none 0 0] := blk_grownT (HG6.out.up hbB2) (show World.ownsRow _ Yx.heap.size 41 4 (.slice P5.op.A P5.op.n P5.op.c) _ _ from HO6.out.op.up hbB2) (by decide) hg7
    have qf := hG7.frozen
    have ql := hG7.lt
    have q9 := hG7.box.2 3 _ rfl
    go_simp
    clear qf ql q9
    have hG8 := hG7.set_ 3 (.slice A7 n7 c7)
    have hs7 := hS3 _ _ hbB2 hg7
    refine hK.out _ _ (hS4 _ 3 (.slice A7 n7 c7) hs7) (fun hHeld => ?_)
    clear hK K
    (try simp only [Act.put, List.setIfInBounds_toArray, List.set_cons_zero, List.set_cons_succ])
    refine wpAnyH_done (by kernel_rfl) ?_ _
    clear hS2 hS3 hS4 hc3 hs7 hHeld hZ
    go_upto_region 14 with fail
    obtain ⟨Yc, hYc⟩ : ∃ Z, Z = w7.setCell ⟨gs, 3, none⟩ (.slice A7 n7 c7) := ⟨_, rfl⟩
    have htg := TKeep.setg (o := 3) (u := .slice A7 n7 c7) hG7
    have hWO7 : WorkO w7 Yx.heap.size ⟨⟨A7, n7, c7⟩, P5.wa, P5.he, P5.re⟩ (addOp D a.t) := ⟨hown7, (HO6.out.wa.up hbB2).farX (HO6.out.op.up hbB2) hg7, ((HH6.out.up hbB2).grownLow hg7 HB26.out).mono hB26, own_farT (HO6.out.re.up hbB2) (HO6.out.op.up hbB2) (by decide) hg7⟩
    have hbut : But Yx.heap.size gs Yx Yc := by rw [hYc]; exact (hbut6.trans ((But.of_below (hbB2.mono hbx6s)).trans (But.of_below hb7))).setg
    rw [← hYc] at hG8 htg ⊢
    have HWOc := Lib.hid (hWO7.tkR htg)
    have HVs : Hid (Blk Yc gs 70 [.int .i64 D.id, .int .i64 D.nodes, .int .i64 D.next, .slice A7 n7 c7, .int .i64 D.age, .int .i64 D.clock, .slice P5.wa.A P5.wa.n P5.wa.c, .slice P5.he.A P5.he.n P5.he.c, .slice P5.re.A P5.re.n P5.re.c, .slice none 0 0]) := Lib.hid hG8
    clear hYc hG7 hG8 htg hWO7 hown7 hg7 hb7 hat7
    have HV1 := Lib.hid (But.blk hbut HX1.out HX1.out.lt (by omega))
    have HV2 := Lib.hid (But.blk hbut HX2.out HX2.out.lt (by omega))
    have HV3 := Lib.hid (But.blk hbut HX3.out HX3.out.lt (by omega))
    have HVi := Lib.hid (But.blk hbut HXi.out HXi.out.lt (by omega))
    have HVx := Lib.hid (But.blk hbut HXx.out HXx.out.lt (by omega))
    have HOV := Lib.hid (HOX.out.tkR (TKeep.of_but HXs.out hbut))
    have hbV : Below w.heap.size w Yc := hbx.trans ((hbut.below (Nat.le_of_lt HXs.out.lt)).mono (by omega))
    have hli := HVi.out.lt
    have hla := HV2.out.lt
    have i_0 := (HVi.out.box).2 0 _ rfl; have i_1 := (HVi.out.box).2 1 _ rfl; have i_2 := (HVi.out.box).2 2 _ rfl; have i_3 := (HVi.out.box).2 3 _ rfl; have i_4 := (HVi.out.box).2 4 _ rfl; have i_5 := (HVi.out.box).2 5 _ rfl; have i_6 := (HVi.out.box).2 6 _ rfl; have i_7 := (HVi.out.box).2 7 _ rfl; have i_8 := (HVi.out.box).2 8 _ rfl
    have b_2 := HV2.out.box.2 2 _ rfl
    have b_3 := HV2.out.box.2 3 _ rfl
    have b_4 := HV2.out.box.2 4 _ rfl
    have b_5 := HV2.out.box.2 5 _ rfl
    go_upto_region 53 with (go_at_call 61; refine (worker_Add_ok Pi D a.t _ (HOV.out.work HS.out) HS.out HZ.out HZ2.out hl64).mono ?_; rintro e wa ⟨P8, he, hO8, hba⟩; simp only [WorkP.val] at he; subst he; have hXa := HVx.out.up hba; have fXa := hXa.frozen; have lXa := hXa.lt; have x_0 := (hXa.box).2 0 _ rfl; have x_1 := (hXa.box).2 1 _ rfl; have x_2 := (hXa.box).2 2 _ rfl; have x_3 := (hXa.box).2 3 _ rfl; have x_4 := (hXa.box).2 4 _ rfl; have x_5 := (hXa.box).2 5 _ rfl; have x_6 := (hXa.box).2 6 _ rfl; have x_7 := (hXa.box).2 7 _ rfl; have x_8 := (hXa.box).2 8 _ rfl; have HXa := Lib.hid hXa; have HO8 := Lib.hid hO8; clear hXa hO8)
    rename_i K9 hK9
    have hsx := set9 HXa.out rfl (.int .i64 (addOp D a.t).id) (.int .i64 (addOp D a.t).nodes) (.int .i64 (addOp D a.t).next) (.slice P8.op.A P8.op.n P8.op.c) (.int .i64 (addOp D a.t).age) (.int .i64 (addOp D a.t).clock) (.slice P8.wa.A P8.wa.n P8.wa.c) (.slice P8.he.A P8.he.n P8.he.c) (.slice P8.re.A P8.re.n P8.re.c)
    have hO8w := HO8.out.tk (TKeep.sets9 HXa.out (.int .i64 (addOp D a.t).id) (.int .i64 (addOp D a.t).nodes) (.int .i64 (addOp D a.t).next) (.slice P8.op.A P8.op.n P8.op.c) (.int .i64 (addOp D a.t).age) (.int .i64 (addOp D a.t).clock) (.slice P8.wa.A P8.wa.n P8.wa.c) (.slice P8.he.A P8.he.n P8.he.c) (.slice P8.re.A P8.re.n P8.re.c)) twWork
    have htk : TKeep 27 Yc (((((((((wa.setCell ⟨gx, 0, none⟩ (.int .i64 (addOp D a.t).id)).setCell ⟨gx, 1, none⟩ (.int .i64 (addOp D a.t).nodes)).setCell ⟨gx, 2, none⟩ (.int .i64 (addOp D a.t).next)).setCell ⟨gx, 3, none⟩ (.slice P8.op.A P8.op.n P8.op.c)).setCell ⟨gx, 4, none⟩ (.int .i64 (addOp D a.t).age)).setCell ⟨gx, 5, none⟩ (.int .i64 (addOp D a.t).clock)).setCell ⟨gx, 6, none⟩ (.slice P8.wa.A P8.wa.n P8.wa.c)).setCell ⟨gx, 7, none⟩ (.slice P8.he.A P8.he.n P8.he.c)).setCell ⟨gx, 8, none⟩ (.slice P8.re.A P8.re.n P8.re.c)) := (TKeep.of_below hba).trans (TKeep.sets9 HXa.out (.int .i64 (addOp D a.t).id) (.int .i64 (addOp D a.t).nodes) (.int .i64 (addOp D a.t).next) (.slice P8.op.A P8.op.n P8.op.c) (.int .i64 (addOp D a.t).age) (.int .i64 (addOp D a.t).clock) (.slice P8.wa.A P8.wa.n P8.wa.c) (.slice P8.he.A P8.he.n P8.he.c) (.slice P8.re.A P8.re.n P8.re.c))
    have hblk : ∀ g t cs, Blk Yc g t cs → g ≠ gx → Blk (((((((((wa.setCell ⟨gx, 0, none⟩ (.int .i64 (addOp D a.t).id)).setCell ⟨gx, 1, none⟩ (.int .i64 (addOp D a.t).nodes)).setCell ⟨gx, 2, none⟩ (.int .i64 (addOp D a.t).next)).setCell ⟨gx, 3, none⟩ (.slice P8.op.A P8.op.n P8.op.c)).setCell ⟨gx, 4, none⟩ (.int .i64 (addOp D a.t).age)).setCell ⟨gx, 5, none⟩ (.int .i64 (addOp D a.t).clock)).setCell ⟨gx, 6, none⟩ (.slice P8.wa.A P8.wa.n P8.wa.c)).setCell ⟨gx, 7, none⟩ (.slice P8.he.A P8.he.n P8.he.c)).setCell ⟨gx, 8, none⟩ (.slice P8.re.A P8.re.n P8.re.c)) g t cs := fun g t cs h hne => (h.up hba).sets9 hne (.int .i64 (addOp D a.t).id) (.int .i64 (addOp D a.t).nodes) (.int .i64 (addOp D a.t).next) (.slice P8.op.A P8.op.n P8.op.c) (.int .i64 (addOp D a.t).age) (.int .i64 (addOp D a.t).clock) (.slice P8.wa.A P8.wa.n P8.wa.c) (.slice P8.he.A P8.he.n P8.he.c) (.slice P8.re.A P8.re.n P8.re.c)
    have hbWw := belw_sets9 (g := gx) (bel_trans hbV hba) (by omega) (.int .i64 (addOp D a.t).id) (.int .i64 (addOp D a.t).nodes) (.int .i64 (addOp D a.t).next) (.slice P8.op.A P8.op.n P8.op.c) (.int .i64 (addOp D a.t).age) (.int .i64 (addOp D a.t).clock) (.slice P8.wa.A P8.wa.n P8.wa.c) (.slice P8.he.A P8.he.n P8.he.c) (.slice P8.re.A P8.re.n P8.re.c)
    have hBW : Yc.heap.size ≤ (((((((((wa.setCell ⟨gx, 0, none⟩ (.int .i64 (addOp D a.t).id)).setCell ⟨gx, 1, none⟩ (.int .i64 (addOp D a.t).nodes)).setCell ⟨gx, 2, none⟩ (.int .i64 (addOp D a.t).next)).setCell ⟨gx, 3, none⟩ (.slice P8.op.A P8.op.n P8.op.c)).setCell ⟨gx, 4, none⟩ (.int .i64 (addOp D a.t).age)).setCell ⟨gx, 5, none⟩ (.int .i64 (addOp D a.t).clock)).setCell ⟨gx, 6, none⟩ (.slice P8.wa.A P8.wa.n P8.wa.c)).setCell ⟨gx, 7, none⟩ (.slice P8.he.A P8.he.n P8.he.c)).setCell ⟨gx, 8, none⟩ (.slice P8.re.A P8.re.n P8.re.c)).heap.size := by have h2 := hba.size; simp [World.setCell]; exact h2
    obtain ⟨W, hW⟩ : ∃ W, W = (((((((((wa.setCell ⟨gx, 0, none⟩ (.int .i64 (addOp D a.t).id)).setCell ⟨gx, 1, none⟩ (.int .i64 (addOp D a.t).nodes)).setCell ⟨gx, 2, none⟩ (.int .i64 (addOp D a.t).next)).setCell ⟨gx, 3, none⟩ (.slice P8.op.A P8.op.n P8.op.c)).setCell ⟨gx, 4, none⟩ (.int .i64 (addOp D a.t).age)).setCell ⟨gx, 5, none⟩ (.int .i64 (addOp D a.t).clock)).setCell ⟨gx, 6, none⟩ (.slice P8.wa.A P8.wa.n P8.wa.c)).setCell ⟨gx, 7, none⟩ (.slice P8.he.A P8.he.n P8.he.c)).setCell ⟨gx, 8, none⟩ (.slice P8.re.A P8.re.n P8.re.c)) := ⟨_, rfl⟩
    rw [← hW] at hsx hO8w htk hblk hbWw hBW ⊢
    clear hW
    have l1 := HV1.out.lt
    have l3 := HV3.out.lt
    have ls := HVs.out.lt
    have hwB := hbV.size
    have hbg8 : BigD (addOp D a.t) := ⟨by show (D.op ++ [a.t]).length ≤ _; simp; omega, HS.out.wa, HS.out.he, HS.out.re⟩
    have hR8 := hO8w.work hbg8
    exact step_tail w W Yc.heap.size w.heap.size (w.heap.size + 1 + 1) gi gs gx P Pi ⟨⟨A7, n7, c7⟩, P5.wa, P5.he, P5.re⟩ P8 D (addOp D a.t) 0 none none 0 0 0 0 hK9 hbWw hwB hBW (by omega) l3 (by omega) (by omega) (by omega)
      (fun Y' hY' => ⟨H.out.up (hbWw.trans (hY'.mono hwB)), (HOV.out.tk (tk_belB htk hY') twWork).work HS.out, (hblk _ _ _ HV1.out (by omega)).below hY' l1, (hblk _ _ _ HVi.out (by omega)).below hY' hli, (hblk _ _ _ HV3.out (by omega)).below hY' l3⟩)
      (fun Y' hY' => ⟨(HWOc.out.tk (tk_belB htk (hY'.mono hBW)) twWork).work hbg8, (hblk _ _ _ HVs.out (by omega)).up hY'⟩) (fun _ Y' hY' => (hblk _ _ _ HVs.out (by omega)).below hY' ls)
      (fun Y' hY' a0 a1 a2 a3 a4 a5 a6 a7 a8 => by rw [if_pos rfl]; exact ((HWOc.out.tk (tk_belB htk hY') twWork).tk (TKeep.sets9 ((hblk _ _ _ HV3.out (by omega)).below hY' l3) a0 a1 a2 a3 a4 a5 a6 a7 a8) twWork).work hbg8)
      hsx hO8w hbg8 (by have e1 := hR8.op.1; show P8.op.n ≤ 1000000; rw [← e1]; simp [addOp]; omega) (by have e1 := hR8.wa.1; rw [← e1]; exact hsm.1) (by have e1 := hR8.he.1; rw [← e1]; exact hsm.2.1) (by have e1 := hR8.re.1; rw [← e1]; exact hsm.2.2.1) hsm.2.2.2.1 hsm.2.2.2.2
      (fun Y' hY' => ref0_EqMessages none 0 0 none 0 0 [] Y' (MsgsR.nil _) (MsgsR.nil _)) (fun Y' hY' hk => (law0_Messages0 Y').mono fun e w' h => ⟨h.1, h.2.mono (Nat.le_trans hBW hY'.size)⟩)
end Go.Proofs.YtgfakefcmbpboaaGreat
