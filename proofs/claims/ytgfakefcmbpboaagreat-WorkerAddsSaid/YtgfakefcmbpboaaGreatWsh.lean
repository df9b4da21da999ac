/- droverlaw13.step where a transaction is refused. -/
import Derived.Test.YtgfakefcmbpboaaGreatWsg
namespace Go.Proofs.YtgfakefcmbpboaaGreat
open Go.RowKit
set_option linter.unusedSimpArgs false
set_option linter.unusedVariables false

set_option maxRecDepth 100000 in
set_option maxHeartbeats 8000000 in
theorem step_do0_bad (P : WorkP) (D : WorkD) (MP : MsgP) (SP : SlP) (a : JobD) (w : World) (h : WorkR w P D) (hs : BigD D) (hdo : wiI a.doo 11 = 0) (hbad : addE D a.t ≠ 0) :
    Calls Tryz.prog 21 #[P.val D, J26 MP SP a] w fun e w' => ∃ P' D', e = .returned (.tuple #[P'.val D', .bool true]) ∧ WorkR w' P' D' ∧ Below w.heap.size w w' := by
  have H := Lib.hid h
  have HS := Lib.hid hs
  have HDO := Lib.hid hdo
  clear h hs hdo
  show Calls Tryz.prog 21 #[.agg #[.int .i64 D.id, .int .i64 D.nodes, .int .i64 D.next, .slice P.op.A P.op.n P.op.c, .int .i64 D.age, .int .i64 D.clock, .slice P.wa.A P.wa.n P.wa.c, .slice P.he.A P.he.n P.he.c, .slice P.re.A P.re.n P.re.c], .agg #[.int .i64 a.doo, .int .i64 a.d, .int .i64 a.t.se, .int .i64 a.t.sq, .string a.t.k, .string a.t.v, .int .i64 a.m.ki, .int .i64 a.m.fr, .int .i64 a.m.tt, .int .i64 a.m.di, .int .i64 a.m.b.au, .int .i64 a.m.b.n, .slice MP.b.A MP.b.n MP.b.c, .int .i64 a.m.h.au, .int .i64 a.m.h.ro, .slice MP.h.b.A MP.h.b.n MP.h.b.c, .slice MP.h.p.A MP.h.p.n MP.h.p.c, .int .i64 a.m.c.h.au, .int .i64 a.m.c.h.ro, .slice MP.c.h.b.A MP.c.h.b.n MP.c.h.b.c, .slice MP.c.h.p.A MP.c.h.p.n MP.c.h.p.c, .int .i64 a.m.c.di, .slice MP.c.s.A MP.c.s.n MP.c.s.c, .slice MP.ds.A MP.ds.n MP.ds.c, .bool a.fit, .slice SP.A SP.n SP.c]] w _
  go_enter Tryz.func21, Tryz.ntmps21
  obtain ⟨z, hz⟩ : ∃ z, mayW D = z := ⟨_, rfl⟩
  have HZ := Lib.hid hz
  go_wp2_with fail
  have hX1 : Blk (((w.alloc (.cells #[.int .i64 D.id, .int .i64 D.nodes, .int .i64 D.next, .slice P.op.A P.op.n P.op.c, .int .i64 D.age, .int .i64 D.clock, .slice P.wa.A P.wa.n P.wa.c, .slice P.he.A P.he.n P.he.c, .slice P.re.A P.re.n P.re.c] 27)).alloc (.cells #[.int .i64 a.doo, .int .i64 a.d, .int .i64 a.t.se, .int .i64 a.t.sq, .string a.t.k, .string a.t.v, .int .i64 a.m.ki, .int .i64 a.m.fr, .int .i64 a.m.tt, .int .i64 a.m.di, .int .i64 a.m.b.au, .int .i64 a.m.b.n, .slice MP.b.A MP.b.n MP.b.c, .int .i64 a.m.h.au, .int .i64 a.m.h.ro, .slice MP.h.b.A MP.h.b.n MP.h.b.c, .slice MP.h.p.A MP.h.p.n MP.h.p.c, .int .i64 a.m.c.h.au, .int .i64 a.m.c.h.ro, .slice MP.c.h.b.A MP.c.h.b.n MP.c.h.b.c, .slice MP.c.h.p.A MP.c.h.p.n MP.c.h.p.c, .int .i64 a.m.c.di, .slice MP.c.s.A MP.c.s.n MP.c.s.c, .slice MP.ds.A MP.ds.n MP.ds.c, .bool a.fit, .slice SP.A SP.n SP.c] 51)).alloc (.cells #[.int .i64 0, .int .i64 0, .int .i64 0, .slice none 0 0, .int .i64 0, .int .i64 0, .slice none 0 0, .slice none 0 0, .slice none 0 0] 27)) w.heap.size 27 [.int .i64 D.id, .int .i64 D.nodes, .int .i64 D.next, .slice P.op.A P.op.n P.op.c, .int .i64 D.age, .int .i64 D.clock, .slice P.wa.A P.wa.n P.wa.c, .slice P.he.A P.he.n P.he.c, .slice P.re.A P.re.n P.re.c] := (Blk.new w 27 [.int .i64 D.id, .int .i64 D.nodes, .int .i64 D.next, .slice P.op.A P.op.n P.op.c, .int .i64 D.age, .int .i64 D.clock, .slice P.wa.A P.wa.n P.wa.c, .slice P.he.A P.he.n P.he.c, .slice P.re.A P.re.n P.re.c]).up (by (repeat (first | (with_reducible exact Below.refl _ _) | (with_reducible assumption) | (with_reducible apply bel_alloc) | (with_reducible apply bel_drew) | (with_reducible apply bel_drewN) | (with_reducible refine bel_trans ?_ (by with_reducible assumption)) | (with_reducible refine bel_trans ?_ (HF.out _)) | (with_reducible refine bel_set ?_ (by simp) _) | (with_reducible refine bel_set ?_ (by simp; omega) _) | (with_reducible refine bel_set ?_ (by omega) _))))
  have hX2 : Blk (((w.alloc (.cells #[.int .i64 D.id, .int .i64 D.nodes, .int .i64 D.next, .slice P.op.A P.op.n P.op.c, .int .i64 D.age, .int .i64 D.clock, .slice P.wa.A P.wa.n P.wa.c, .slice P.he.A P.he.n P.he.c, .slice P.re.A P.re.n P.re.c] 27)).alloc (.cells #[.int .i64 a.doo, .int .i64 a.d, .int .i64 a.t.se, .int .i64 a.t.sq, .string a.t.k, .string a.t.v, .int .i64 a.m.ki, .int .i64 a.m.fr, .int .i64 a.m.tt, .int .i64 a.m.di, .int .i64 a.m.b.au, .int .i64 a.m.b.n, .slice MP.b.A MP.b.n MP.b.c, .int .i64 a.m.h.au, .int .i64 a.m.h.ro, .slice MP.h.b.A MP.h.b.n MP.h.b.c, .slice MP.h.p.A MP.h.p.n MP.h.p.c, .int .i64 a.m.c.h.au, .int .i64 a.m.c.h.ro, .slice MP.c.h.b.A MP.c.h.b.n MP.c.h.b.c, .slice MP.c.h.p.A MP.c.h.p.n MP.c.h.p.c, .int .i64 a.m.c.di, .slice MP.c.s.A MP.c.s.n MP.c.s.c, .slice MP.ds.A MP.ds.n MP.ds.c, .bool a.fit, .slice SP.A SP.n SP.c] 51)).alloc (.cells #[.int .i64 0, .int .i64 0, .int .i64 0, .slice none 0 0, .int .i64 0, .int .i64 0, .slice none 0 0, .slice none 0 0, .slice none 0 0] 27)) (w.heap.size + 1) 51 [.int .i64 a.doo, .int .i64 a.d, .int .i64 a.t.se, .int .i64 a.t.sq, .string a.t.k, .string a.t.v, .int .i64 a.m.ki, .int .i64 a.m.fr, .int .i64 a.m.tt, .int .i64 a.m.di, .int .i64 a.m.b.au, .int .i64 a.m.b.n, .slice MP.b.A MP.b.n MP.b.c, .int .i64 a.m.h.au, .int .i64 a.m.h.ro, .slice MP.h.b.A MP.h.b.n MP.h.b.c, .slice MP.h.p.A MP.h.p.n MP.h.p.c, .int .i64 a.m.c.h.au, .int .i64 a.m.c.h.ro, .slice MP.c.h.b.A MP.c.h.b.n MP.c.h.b.c, .slice MP.c.h.p.A MP.c.h.p.n MP.c.h.p.c, .int .i64 a.m.c.di, .slice MP.c.s.A MP.c.s.n MP.c.s.c, .slice MP.ds.A MP.ds.n MP.ds.c, .bool a.fit, .slice SP.A SP.n SP.c] := by
    have := (Blk.new (w.alloc (.cells #[.int .i64 D.id, .int .i64 D.nodes, .int .i64 D.next, .slice P.op.A P.op.n P.op.c, .int .i64 D.age, .int .i64 D.clock, .slice P.wa.A P.wa.n P.wa.c, .slice P.he.A P.he.n P.he.c, .slice P.re.A P.re.n P.re.c] 27)) 51 [.int .i64 a.doo, .int .i64 a.d, .int .i64 a.t.se, .int .i64 a.t.sq, .string a.t.k, .string a.t.v, .int .i64 a.m.ki, .int .i64 a.m.fr, .int .i64 a.m.tt, .int .i64 a.m.di, .int .i64 a.m.b.au, .int .i64 a.m.b.n, .slice MP.b.A MP.b.n MP.b.c, .int .i64 a.m.h.au, .int .i64 a.m.h.ro, .slice MP.h.b.A MP.h.b.n MP.h.b.c, .slice MP.h.p.A MP.h.p.n MP.h.p.c, .int .i64 a.m.c.h.au, .int .i64 a.m.c.h.ro, .slice MP.c.h.b.A MP.c.h.b.n MP.c.h.b.c, .slice MP.c.h.p.A MP.c.h.p.n MP.c.h.p.c, .int .i64 a.m.c.di, .slice MP.c.s.A MP.c.s.n MP.c.s.c, .slice MP.ds.A MP.ds.n MP.ds.c, .bool a.fit, .slice SP.A SP.n SP.c]).up (w' := (((w.alloc (.cells #[.int .i64 D.id, .int .i64 D.nodes, .int .i64 D.next, .slice P.op.A P.op.n P.op.c, .int .i64 D.age, .int .i64 D.clock, .slice P.wa.A P.wa.n P.wa.c, .slice P.he.A P.he.n P.he.c, .slice P.re.A P.re.n P.re.c] 27)).alloc (.cells #[.int .i64 a.doo, .int .i64 a.d, .int .i64 a.t.se, .int .i64 a.t.sq, .string a.t.k, .string a.t.v, .int .i64 a.m.ki, .int .i64 a.m.fr, .int .i64 a.m.tt, .int .i64 a.m.di, .int .i64 a.m.b.au, .int .i64 a.m.b.n, .slice MP.b.A MP.b.n MP.b.c, .int .i64 a.m.h.au, .int .i64 a.m.h.ro, .slice MP.h.b.A MP.h.b.n MP.h.b.c, .slice MP.h.p.A MP.h.p.n MP.h.p.c, .int .i64 a.m.c.h.au, .int .i64 a.m.c.h.ro, .slice MP.c.h.b.A MP.c.h.b.n MP.c.h.b.c, .slice MP.c.h.p.A MP.c.h.p.n MP.c.h.p.c, .int .i64 a.m.c.di, .slice MP.c.s.A MP.c.s.n MP.c.s.c, .slice MP.ds.A MP.ds.n MP.ds.c, .bool a.fit, .slice SP.A SP.n SP.c] 51)).alloc (.cells #[.int .i64 0, .int .i64 0, .int .i64 0, .slice none 0 0, .int .i64 0, .int .i64 0, .slice none 0 0, .slice none 0 0, .slice none 0 0] 27))) (by (repeat (first | (with_reducible exact Below.refl _ _) | (with_reducible assumption) | (with_reducible apply bel_alloc) | (with_reducible apply bel_drew) | (with_reducible apply bel_drewN) | (with_reducible refine bel_trans ?_ (by with_reducible assumption)) | (with_reducible refine bel_trans ?_ (HF.out _)) | (with_reducible refine bel_set ?_ (by simp) _) | (with_reducible refine bel_set ?_ (by simp; omega) _) | (with_reducible refine bel_set ?_ (by omega) _))))
    simpa using this
  have hX3 : Blk (((w.alloc (.cells #[.int .i64 D.id, .int .i64 D.nodes, .int .i64 D.next, .slice P.op.A P.op.n P.op.c, .int .i64 D.age, .int .i64 D.clock, .slice P.wa.A P.wa.n P.wa.c, .slice P.he.A P.he.n P.he.c, .slice P.re.A P.re.n P.re.c] 27)).alloc (.cells #[.int .i64 a.doo, .int .i64 a.d, .int .i64 a.t.se, .int .i64 a.t.sq, .string a.t.k, .string a.t.v, .int .i64 a.m.ki, .int .i64 a.m.fr, .int .i64 a.m.tt, .int .i64 a.m.di, .int .i64 a.m.b.au, .int .i64 a.m.b.n, .slice MP.b.A MP.b.n MP.b.c, .int .i64 a.m.h.au, .int .i64 a.m.h.ro, .slice MP.h.b.A MP.h.b.n MP.h.b.c, .slice MP.h.p.A MP.h.p.n MP.h.p.c, .int .i64 a.m.c.h.au, .int .i64 a.m.c.h.ro, .slice MP.c.h.b.A MP.c.h.b.n MP.c.h.b.c, .slice MP.c.h.p.A MP.c.h.p.n MP.c.h.p.c, .int .i64 a.m.c.di, .slice MP.c.s.A MP.c.s.n MP.c.s.c, .slice MP.ds.A MP.ds.n MP.ds.c, .bool a.fit, .slice SP.A SP.n SP.c] 51)).alloc (.cells #[.int .i64 0, .int .i64 0, .int .i64 0, .slice none 0 0, .int .i64 0, .int .i64 0, .slice none 0 0, .slice none 0 0, .slice none 0 0] 27)) (w.heap.size + 2) 27 [.int .i64 0, .int .i64 0, .int .i64 0, .slice none 0 0, .int .i64 0, .int .i64 0, .slice none 0 0, .slice none 0 0, .slice none 0 0] := by
    have := Blk.new ((w.alloc (.cells #[.int .i64 D.id, .int .i64 D.nodes, .int .i64 D.next, .slice P.op.A P.op.n P.op.c, .int .i64 D.age, .int .i64 D.clock, .slice P.wa.A P.wa.n P.wa.c, .slice P.he.A P.he.n P.he.c, .slice P.re.A P.re.n P.re.c] 27)).alloc (.cells #[.int .i64 a.doo, .int .i64 a.d, .int .i64 a.t.se, .int .i64 a.t.sq, .string a.t.k, .string a.t.v, .int .i64 a.m.ki, .int .i64 a.m.fr, .int .i64 a.m.tt, .int .i64 a.m.di, .int .i64 a.m.b.au, .int .i64 a.m.b.n, .slice MP.b.A MP.b.n MP.b.c, .int .i64 a.m.h.au, .int .i64 a.m.h.ro, .slice MP.h.b.A MP.h.b.n MP.h.b.c, .slice MP.h.p.A MP.h.p.n MP.h.p.c, .int .i64 a.m.c.h.au, .int .i64 a.m.c.h.ro, .slice MP.c.h.b.A MP.c.h.b.n MP.c.h.b.c, .slice MP.c.h.p.A MP.c.h.p.n MP.c.h.p.c, .int .i64 a.m.c.di, .slice MP.c.s.A MP.c.s.n MP.c.s.c, .slice MP.ds.A MP.ds.n MP.ds.c, .bool a.fit, .slice SP.A SP.n SP.c] 51)) 27 [.int .i64 0, .int .i64 0, .int .i64 0, .slice none 0 0, .int .i64 0, .int .i64 0, .slice none 0 0, .slice none 0 0, .slice none 0 0]
    simpa using this
  have hbX : Below w.heap.size w (((w.alloc (.cells #[.int .i64 D.id, .int .i64 D.nodes, .int .i64 D.next, .slice P.op.A P.op.n P.op.c, .int .i64 D.age, .int .i64 D.clock, .slice P.wa.A P.wa.n P.wa.c, .slice P.he.A P.he.n P.he.c, .slice P.re.A P.re.n P.re.c] 27)).alloc (.cells #[.int .i64 a.doo, .int .i64 a.d, .int .i64 a.t.se, .int .i64 a.t.sq, .string a.t.k, .string a.t.v, .int .i64 a.m.ki, .int .i64 a.m.fr, .int .i64 a.m.tt, .int .i64 a.m.di, .int .i64 a.m.b.au, .int .i64 a.m.b.n, .slice MP.b.A MP.b.n MP.b.c, .int .i64 a.m.h.au, .int .i64 a.m.h.ro, .slice MP.h.b.A MP.h.b.n MP.h.b.c, .slice MP.h.p.A MP.h.p.n MP.h.p.c, .int .i64 a.m.c.h.au, .int .i64 a.m.c.h.ro, .slice MP.c.h.b.A MP.c.h.b.n MP.c.h.b.c, .slice MP.c.h.p.A MP.c.h.p.n MP.c.h.p.c, .int .i64 a.m.c.di, .slice MP.c.s.A MP.c.s.n MP.c.s.c, .slice MP.ds.A MP.ds.n MP.ds.c, .bool a.fit, .slice SP.A SP.n SP.c] 51)).alloc (.cells #[.int .i64 0, .int .i64 0, .int .i64 0, .slice none 0 0, .int .i64 0, .int .i64 0, .slice none 0 0, .slice none 0 0, .slice none 0 0] 27)) := by (repeat (first | (with_reducible exact Below.refl _ _) | (with_reducible assumption) | (with_reducible apply bel_alloc) | (with_reducible apply bel_drew) | (with_reducible apply bel_drewN) | (with_reducible refine bel_trans ?_ (by with_reducible assumption)) | (with_reducible refine bel_trans ?_ (HF.out _)) | (with_reducible refine bel_set ?_ (by simp) _) | (with_reducible refine bel_set ?_ (by simp; omega) _) | (with_reducible refine bel_set ?_ (by omega) _)))
  generalize (((w.alloc (.cells #[.int .i64 D.id, .int .i64 D.nodes, .int .i64 D.next, .slice P.op.A P.op.n P.op.c, .int .i64 D.age, .int .i64 D.clock, .slice P.wa.A P.wa.n P.wa.c, .slice P.he.A P.he.n P.he.c, .slice P.re.A P.re.n P.re.c] 27)).alloc (.cells #[.int .i64 a.doo, .int .i64 a.d, .int .i64 a.t.se, .int .i64 a.t.sq, .string a.t.k, .string a.t.v, .int .i64 a.m.ki, .int .i64 a.m.fr, .int .i64 a.m.tt, .int .i64 a.m.di, .int .i64 a.m.b.au, .int .i64 a.m.b.n, .slice MP.b.A MP.b.n MP.b.c, .int .i64 a.m.h.au, .int .i64 a.m.h.ro, .slice MP.h.b.A MP.h.b.n MP.h.b.c, .slice MP.h.p.A MP.h.p.n MP.h.p.c, .int .i64 a.m.c.h.au, .int .i64 a.m.c.h.ro, .slice MP.c.h.b.A MP.c.h.b.n MP.c.h.b.c, .slice MP.c.h.p.A MP.c.h.p.n MP.c.h.p.c, .int .i64 a.m.c.di, .slice MP.c.s.A MP.c.s.n MP.c.s.c, .slice MP.ds.A MP.ds.n MP.ds.c, .bool a.fit, .slice SP.A SP.n SP.c] 51)).alloc (.cells #[.int .i64 0, .int .i64 0, .int .i64 0, .slice none 0 0, .int .i64 0, .int .i64 0, .slice none 0 0, .slice none 0 0, .slice none 0 0] 27)) = X at *
  have HX1 := Lib.hid hX1
  have HX2 := Lib.hid hX2
  have HX3 := Lib.hid hX3
  have HBX := Lib.hid hbX
  clear hX1 hX2 hX3
  refine (ref0_CopyWorker P D _ (H.out.up hbX) HS.out).mono ?_
  rintro e w1 ⟨Pi, he1, hOi, hb1⟩
  simp only [WorkP.val] at he1
  subst he1
  have hbI : Below w1.heap.size w1 (w1.alloc (.cells #[.int .i64 D.id, .int .i64 D.nodes, .int .i64 D.next, .slice Pi.op.A Pi.op.n Pi.op.c, .int .i64 D.age, .int .i64 D.clock, .slice Pi.wa.A Pi.wa.n Pi.wa.c, .slice Pi.he.A Pi.he.n Pi.he.c, .slice Pi.re.A Pi.re.n Pi.re.c] 27)) := by (repeat (first | (with_reducible exact Below.refl _ _) | (with_reducible assumption) | (with_reducible apply bel_alloc) | (with_reducible apply bel_drew) | (with_reducible apply bel_drewN) | (with_reducible refine bel_trans ?_ (by with_reducible assumption)) | (with_reducible refine bel_trans ?_ (HF.out _)) | (with_reducible refine bel_set ?_ (by simp) _) | (with_reducible refine bel_set ?_ (by simp; omega) _) | (with_reducible refine bel_set ?_ (by omega) _)))
  have hY1 := (HX1.out.up hb1)
  have HOi := Lib.hid (hOi.up hbI)
  have HI := Lib.hid (Blk.new w1 27 [.int .i64 D.id, .int .i64 D.nodes, .int .i64 D.next, .slice Pi.op.A Pi.op.n Pi.op.c, .int .i64 D.age, .int .i64 D.clock, .slice Pi.wa.A Pi.wa.n Pi.wa.c, .slice Pi.he.A Pi.he.n Pi.he.c, .slice Pi.re.A Pi.re.n Pi.re.c])
  have HY2 := Lib.hid ((HX2.out.up hb1).up hbI)
  have HY3 := Lib.hid ((HX3.out.up hb1).up hbI)
  have HY1 := Lib.hid (hY1.up hbI)
  have hbY := bel_trans (bel_trans hbX hb1) hbI
  have ly1 := hY1.lt
  have a_0 := (hY1.box).2 0 _ rfl; have a_1 := (hY1.box).2 1 _ rfl; have a_2 := (hY1.box).2 2 _ rfl; have a_3 := (hY1.box).2 3 _ rfl; have a_4 := (hY1.box).2 4 _ rfl; have a_5 := (hY1.box).2 5 _ rfl; have a_6 := (hY1.box).2 6 _ rfl; have a_7 := (hY1.box).2 7 _ rfl; have a_8 := (hY1.box).2 8 _ rfl
  have hzX : w.heap.size + 3 ≤ w1.heap.size := by have := (HX3.out.up hb1).lt; omega
  clear hY1 HX1 HX2 HX3 hOi hb1 hbI hbX HBX
  go_wp2_with fail
  clear a_0 a_1 a_2 a_3 a_4 a_5 a_6 a_7 a_8 ly1
  have hgiE : w1.heap.size < (w1.alloc (.cells #[.int .i64 D.id, .int .i64 D.nodes, .int .i64 D.next, .slice Pi.op.A Pi.op.n Pi.op.c, .int .i64 D.age, .int .i64 D.clock, .slice Pi.wa.A Pi.wa.n Pi.wa.c, .slice Pi.he.A Pi.he.n Pi.he.c, .slice Pi.re.A Pi.re.n Pi.re.c] 27)).heap.size := HI.out.lt
  obtain ⟨gi, hgi⟩ : ∃ g, g = w1.heap.size := ⟨_, rfl⟩
  obtain ⟨X1, hX1⟩ : ∃ X1, X1 = (w1.alloc (.cells #[.int .i64 D.id, .int .i64 D.nodes, .int .i64 D.next, .slice Pi.op.A Pi.op.n Pi.op.c, .int .i64 D.age, .int .i64 D.clock, .slice Pi.wa.A Pi.wa.n Pi.wa.c, .slice Pi.he.A Pi.he.n Pi.he.c, .slice Pi.re.A Pi.re.n Pi.re.c] 27)) := ⟨_, rfl⟩
  rw [← hX1, ← hgi] at HI
  rw [← hX1] at HOi HY1 HY2 HY3 hbY
  rw [← hX1, ← hgi]
  rw [← hX1, ← hgi] at hgiE
  rw [← hgi] at hzX
  clear hX1 hgi
  refine (ref13_May P D z _ (H.out.up hbY) HZ.out).mono ?_
  rintro e w2 ⟨rfl, hb2⟩
  have hA2 := HY2.out.up hb2
  have b_0 := hA2.box.2 0 _ rfl
  have lA2 := hA2.lt
  have lA1 : w.heap.size < w2.heap.size := by omega
  clear hA2
  go_upto_region 8 with (go_at_call 40; refine (law0_Within a.doo 11 0 _ (by decide) (by decide) HDO.out).mono ?_; rintro e w' ⟨rfl, rfl⟩)
  clear b_0 lA2 lA1
  have hbz : Below w2.heap.size w2 ((w2.alloc (.cells #[.int .i64 0, .int .i64 0, .int .i64 0, .slice none 0 0, .int .i64 0, .int .i64 0, .slice none 0 0, .slice none 0 0, .slice none 0 0, .slice none 0 0] 70)).alloc (.cells #[.int .i64 0, .int .i64 0, .int .i64 0, .slice none 0 0, .int .i64 0, .int .i64 0, .slice none 0 0, .slice none 0 0, .slice none 0 0] 27)) := by (repeat (first | (with_reducible exact Below.refl _ _) | (with_reducible assumption) | (with_reducible apply bel_alloc) | (with_reducible apply bel_drew) | (with_reducible apply bel_drewN) | (with_reducible refine bel_trans ?_ (by with_reducible assumption)) | (with_reducible refine bel_trans ?_ (HF.out _)) | (with_reducible refine bel_set ?_ (by simp) _) | (with_reducible refine bel_set ?_ (by simp; omega) _) | (with_reducible refine bel_set ?_ (by omega) _)))
  have hs0 : Blk ((w2.alloc (.cells #[.int .i64 0, .int .i64 0, .int .i64 0, .slice none 0 0, .int .i64 0, .int .i64 0, .slice none 0 0, .slice none 0 0, .slice none 0 0, .slice none 0 0] 70)).alloc (.cells #[.int .i64 0, .int .i64 0, .int .i64 0, .slice none 0 0, .int .i64 0, .int .i64 0, .slice none 0 0, .slice none 0 0, .slice none 0 0] 27)) w2.heap.size 70 [.int .i64 0, .int .i64 0, .int .i64 0, .slice none 0 0, .int .i64 0, .int .i64 0, .slice none 0 0, .slice none 0 0, .slice none 0 0, .slice none 0 0] := (Blk.new w2 70 [.int .i64 0, .int .i64 0, .int .i64 0, .slice none 0 0, .int .i64 0, .int .i64 0, .slice none 0 0, .slice none 0 0, .slice none 0 0, .slice none 0 0]).up (by (repeat (first | (with_reducible exact Below.refl _ _) | (with_reducible assumption) | (with_reducible apply bel_alloc) | (with_reducible apply bel_drew) | (with_reducible apply bel_drewN) | (with_reducible refine bel_trans ?_ (by with_reducible assumption)) | (with_reducible refine bel_trans ?_ (HF.out _)) | (with_reducible refine bel_set ?_ (by simp) _) | (with_reducible refine bel_set ?_ (by simp; omega) _) | (with_reducible refine bel_set ?_ (by omega) _))))
  have hx0 : Blk ((w2.alloc (.cells #[.int .i64 0, .int .i64 0, .int .i64 0, .slice none 0 0, .int .i64 0, .int .i64 0, .slice none 0 0, .slice none 0 0, .slice none 0 0, .slice none 0 0] 70)).alloc (.cells #[.int .i64 0, .int .i64 0, .int .i64 0, .slice none 0 0, .int .i64 0, .int .i64 0, .slice none 0 0, .slice none 0 0, .slice none 0 0] 27)) (w2.heap.size + 1) 27 [.int .i64 0, .int .i64 0, .int .i64 0, .slice none 0 0, .int .i64 0, .int .i64 0, .slice none 0 0, .slice none 0 0, .slice none 0 0] := by
    have := Blk.new (w2.alloc (.cells #[.int .i64 0, .int .i64 0, .int .i64 0, .slice none 0 0, .int .i64 0, .int .i64 0, .slice none 0 0, .slice none 0 0, .slice none 0 0, .slice none 0 0] 70)) 27 [.int .i64 0, .int .i64 0, .int .i64 0, .slice none 0 0, .int .i64 0, .int .i64 0, .slice none 0 0, .slice none 0 0, .slice none 0 0]
    simpa using this
  obtain ⟨gx, hgx⟩ : ∃ g, g = w2.heap.size + 1 := ⟨_, rfl⟩
  rw [← hgx] at hx0 ⊢
  obtain ⟨gs, hgs⟩ : ∃ g, g = w2.heap.size := ⟨_, rfl⟩
  rw [← hgs] at hs0 ⊢
  obtain ⟨Y, hY⟩ : ∃ Y, Y = ((w2.alloc (.cells #[.int .i64 0, .int .i64 0, .int .i64 0, .slice none 0 0, .int .i64 0, .int .i64 0, .slice none 0 0, .slice none 0 0, .slice none 0 0, .slice none 0 0] 70)).alloc (.cells #[.int .i64 0, .int .i64 0, .int .i64 0, .slice none 0 0, .int .i64 0, .int .i64 0, .slice none 0 0, .slice none 0 0, .slice none 0 0] 27)) := ⟨_, rfl⟩
  rw [← hY] at hbz hs0 hx0 ⊢
  have hgisz := (HI.out.up hb2).lt
  have hgis : gi < gs := by omega
  have hgsx : gs < gx := by omega
  have hgw : w.heap.size + 2 < gi := by omega
  have HU1 := Lib.hid ((HY1.out.up hb2).up hbz)
  have HU2 := Lib.hid ((HY2.out.up hb2).up hbz)
  have HU3 := Lib.hid ((HY3.out.up hb2).up hbz)
  have HUi := Lib.hid ((HI.out.up hb2).up hbz)
  have HUs := Lib.hid hs0
  have HUx := Lib.hid hx0
  have HOI := Lib.hid ((HOi.out.up hb2).up hbz)
  have hbU := bel_trans (bel_trans hbY hb2) hbz
  clear hY hgx hgs hs0 hx0 hbz hgisz hgiE hzX HY1 HY2 HY3 HI HOi hbY hb2
  cases z
  · have hE : addE D a.t = 1 := by unfold addE; rw [if_neg (by rw [hz]; simp)]
    have HE := Lib.hid hE
    clear hE hz
    have hrf : Below Y.heap.size Y Y := Below.refl _ _
    have HV1 := Lib.hid (HU1.out.up hrf)
    have HV2 := Lib.hid (HU2.out.up hrf)
    have HV3 := Lib.hid (HU3.out.up hrf)
    have HVi := Lib.hid (HUi.out.up hrf)
    have HVs := Lib.hid (HUs.out.up hrf)
    have HVx := Lib.hid (HUx.out.up hrf)
    have HOV := Lib.hid (HOI.out.up hrf)
    have hbV := bel_trans hbU hrf
    have hli := HVi.out.lt
    have hla := HV2.out.lt
    have i_0 := (HVi.out.box).2 0 _ rfl; have i_1 := (HVi.out.box).2 1 _ rfl; have i_2 := (HVi.out.box).2 2 _ rfl; have i_3 := (HVi.out.box).2 3 _ rfl; have i_4 := (HVi.out.box).2 4 _ rfl; have i_5 := (HVi.out.box).2 5 _ rfl; have i_6 := (HVi.out.box).2 6 _ rfl; have i_7 := (HVi.out.box).2 7 _ rfl; have i_8 := (HVi.out.box).2 8 _ rfl
    have b_2 := HV2.out.box.2 2 _ rfl
    have b_3 := HV2.out.box.2 3 _ rfl
    have b_4 := HV2.out.box.2 4 _ rfl
    have b_5 := HV2.out.box.2 5 _ rfl
    go_upto_region 53 with (go_at_call 61; refine (worker_Add_no Pi D a.t 1 _ (HOV.out.work HS.out) HE.out (by decide)).mono ?_; rintro e wa ⟨he, hba⟩; simp only [zeroW] at he; subst he; have hXa := HVx.out.up hba; have fXa := hXa.frozen; have lXa := hXa.lt; have x_0 := (hXa.box).2 0 _ rfl; have x_1 := (hXa.box).2 1 _ rfl; have x_2 := (hXa.box).2 2 _ rfl; have x_3 := (hXa.box).2 3 _ rfl; have x_4 := (hXa.box).2 4 _ rfl; have x_5 := (hXa.box).2 5 _ rfl; have x_6 := (hXa.box).2 6 _ rfl; have x_7 := (hXa.box).2 7 _ rfl; have x_8 := (hXa.box).2 8 _ rfl; have HXa := Lib.hid hXa; clear hXa)
    rename_i K9 hK9
    obtain ⟨gq, hgq⟩ : ∃ g, g = wa.heap.size := ⟨_, rfl⟩
    obtain ⟨W, hW⟩ : ∃ W, W = ((((((((((wa.setCell ⟨gx, 0, none⟩ (.int .i64 0)).setCell ⟨gx, 1, none⟩ (.int .i64 0)).setCell ⟨gx, 2, none⟩ (.int .i64 0)).setCell ⟨gx, 3, none⟩ (.slice none 0 0)).setCell ⟨gx, 4, none⟩ (.int .i64 0)).setCell ⟨gx, 5, none⟩ (.int .i64 0)).setCell ⟨gx, 6, none⟩ (.slice none 0 0)).setCell ⟨gx, 7, none⟩ (.slice none 0 0)).setCell ⟨gx, 8, none⟩ (.slice none 0 0)).alloc (.cells #[.int .i64 0, .int .i64 0, .int .i64 0, .slice none 0 0, .int .i64 0, .int .i64 0, .slice none 0 0, .slice none 0 0, .slice none 0 0, .slice none 0 0] 70)) := ⟨_, rfl⟩
    have hal : Below (((((((((wa.setCell ⟨gx, 0, none⟩ (.int .i64 0)).setCell ⟨gx, 1, none⟩ (.int .i64 0)).setCell ⟨gx, 2, none⟩ (.int .i64 0)).setCell ⟨gx, 3, none⟩ (.slice none 0 0)).setCell ⟨gx, 4, none⟩ (.int .i64 0)).setCell ⟨gx, 5, none⟩ (.int .i64 0)).setCell ⟨gx, 6, none⟩ (.slice none 0 0)).setCell ⟨gx, 7, none⟩ (.slice none 0 0)).setCell ⟨gx, 8, none⟩ (.slice none 0 0)).heap.size (((((((((wa.setCell ⟨gx, 0, none⟩ (.int .i64 0)).setCell ⟨gx, 1, none⟩ (.int .i64 0)).setCell ⟨gx, 2, none⟩ (.int .i64 0)).setCell ⟨gx, 3, none⟩ (.slice none 0 0)).setCell ⟨gx, 4, none⟩ (.int .i64 0)).setCell ⟨gx, 5, none⟩ (.int .i64 0)).setCell ⟨gx, 6, none⟩ (.slice none 0 0)).setCell ⟨gx, 7, none⟩ (.slice none 0 0)).setCell ⟨gx, 8, none⟩ (.slice none 0 0)) W := by rw [hW]; exact bel_alloc (Below.refl _ _)
    have hqB : Blk W gq 70 [.int .i64 0, .int .i64 0, .int .i64 0, .slice none 0 0, .int .i64 0, .int .i64 0, .slice none 0 0, .slice none 0 0, .slice none 0 0, .slice none 0 0] := by
      rw [hW, hgq]
      have := Blk.new (((((((((wa.setCell ⟨gx, 0, none⟩ (.int .i64 0)).setCell ⟨gx, 1, none⟩ (.int .i64 0)).setCell ⟨gx, 2, none⟩ (.int .i64 0)).setCell ⟨gx, 3, none⟩ (.slice none 0 0)).setCell ⟨gx, 4, none⟩ (.int .i64 0)).setCell ⟨gx, 5, none⟩ (.int .i64 0)).setCell ⟨gx, 6, none⟩ (.slice none 0 0)).setCell ⟨gx, 7, none⟩ (.slice none 0 0)).setCell ⟨gx, 8, none⟩ (.slice none 0 0)) 70 [.int .i64 0, .int .i64 0, .int .i64 0, .slice none 0 0, .int .i64 0, .int .i64 0, .slice none 0 0, .slice none 0 0, .slice none 0 0, .slice none 0 0]
      simpa [World.setCell] using this
    rw [← hW, ← hgq]
    clear hW hgq
    have hsx := set9 HXa.out rfl (.int .i64 0) (.int .i64 0) (.int .i64 0) (.slice none 0 0) (.int .i64 0) (.int .i64 0) (.slice none 0 0) (.slice none 0 0) (.slice none 0 0)
    have htk : TKeep 27 Y W := (TKeep.of_below hba).trans ((TKeep.sets9 HXa.out (.int .i64 0) (.int .i64 0) (.int .i64 0) (.slice none 0 0) (.int .i64 0) (.int .i64 0) (.slice none 0 0) (.slice none 0 0) (.slice none 0 0)).trans (TKeep.of_below hal))
    have hblk : ∀ g t cs, Blk Y g t cs → g ≠ gx → Blk W g t cs := fun g t cs h hne => ((h.up hba).sets9 hne (.int .i64 0) (.int .i64 0) (.int .i64 0) (.slice none 0 0) (.int .i64 0) (.int .i64 0) (.slice none 0 0) (.slice none 0 0) (.slice none 0 0)).up hal
    have hbWw : Below w.heap.size w W := (belw_sets9 (bel_trans hbV hba) (by omega) (.int .i64 0) (.int .i64 0) (.int .i64 0) (.slice none 0 0) (.int .i64 0) (.int .i64 0) (.slice none 0 0) (.slice none 0 0) (.slice none 0 0)).trans (hal.mono (by have h1 := hbV.size; have h2 := hba.size; simp [World.setCell]; omega))
    have hBW : Y.heap.size ≤ W.heap.size := by have h2 := hba.size; have h3 := hal.size; simp [World.setCell] at h3; omega
    have l1 := HV1.out.lt
    have l3 := HV3.out.lt
    have hwB := hbV.size
    exact step_tail w W Y.heap.size w.heap.size (w.heap.size + 1 + 1) gi gq gx P Pi nilP nilP D zeroWD 1 none none 0 0 0 0 hK9 hbWw hwB hBW (by omega) l3 (by omega) (by omega) (by intro e; rw [e] at hqB; have h9 := hblk _ _ _ HV3.out (by omega); have h8 : W.heap[w.heap.size + 1 + 1]? = some (.cells #[.int .i64 0, .int .i64 0, .int .i64 0, .slice none 0 0, .int .i64 0, .int .i64 0, .slice none 0 0, .slice none 0 0, .slice none 0 0, .slice none 0 0] 70 (0, 0)) := hqB; have h7 : W.heap[w.heap.size + 1 + 1]? = some (.cells #[.int .i64 0, .int .i64 0, .int .i64 0, .slice none 0 0, .int .i64 0, .int .i64 0, .slice none 0 0, .slice none 0 0, .slice none 0 0] 27 (0, 0)) := h9; rw [h8] at h7; simp at h7)
      (fun Y' hY' => ⟨H.out.up (hbWw.trans (hY'.mono hwB)), (HOV.out.tk (tk_belB htk hY') twWork).work HS.out, (hblk _ _ _ HV1.out (by omega)).below hY' l1, (hblk _ _ _ HVi.out (by omega)).below hY' hli, (hblk _ _ _ HV3.out (by omega)).below hY' l3⟩)
      (fun Y' hY' => ⟨zeroW_R _, hqB.up hY'⟩) (fun h => absurd h (by decide))
      (fun Y' hY' a0 a1 a2 a3 a4 a5 a6 a7 a8 => by rw [if_neg (by decide)]; exact H.out.up (belw_sets9 (hbWw.trans (hY'.mono hwB)) (by omega) a0 a1 a2 a3 a4 a5 a6 a7 a8))
      (hsx.up hal) (zeroW_O _ _) zeroW_big (by decide) (by decide) (by decide) (by decide) (fun x hx => by simp [zeroWD] at hx) (fun x hx => by simp [zeroWD] at hx)
      (fun Y' hY' => ref0_EqMessages none 0 0 none 0 0 [] Y' (MsgsR.nil _) (MsgsR.nil _)) (fun Y' hY' hk => (law0_Messages0 Y').mono fun e w' h => ⟨h.1, h.2.mono (Nat.le_trans hBW hY'.size)⟩)
  · obtain ⟨z2, hz2⟩ : ∃ z, txS a.t = z := ⟨_, rfl⟩
    have HZ2 := Lib.hid hz2
    have hla := HU2.out.lt
    have b_2 := HU2.out.box.2 2 _ rfl
    have b_3 := HU2.out.box.2 3 _ rfl
    have b_4 := HU2.out.box.2 4 _ rfl
    have b_5 := HU2.out.box.2 5 _ rfl
    cases z2
    · have hE : addE D a.t = 1 := by unfold addE; rw [if_neg (by rw [hz2]; simp)]
      have HE := Lib.hid hE
      clear hE hz hz2
      go_upto_region 14 with (go_at_call 60; refine (ref4_Tx a.t false _ HZ2.out).mono ?_; rintro e w5 ⟨rfl, hb5⟩)
      clear hla b_2 b_3 b_4 b_5
      have HV1 := Lib.hid (HU1.out.up hb5)
      have HV2 := Lib.hid (HU2.out.up hb5)
      have HV3 := Lib.hid (HU3.out.up hb5)
      have HVi := Lib.hid (HUi.out.up hb5)
      have HVs := Lib.hid (HUs.out.up hb5)
      have HVx := Lib.hid (HUx.out.up hb5)
      have HOV := Lib.hid (HOI.out.up hb5)
      have hbV := bel_trans hbU hb5
      have hli := HVi.out.lt
      have hla := HV2.out.lt
      have i_0 := (HVi.out.box).2 0 _ rfl; have i_1 := (HVi.out.box).2 1 _ rfl; have i_2 := (HVi.out.box).2 2 _ rfl; have i_3 := (HVi.out.box).2 3 _ rfl; have i_4 := (HVi.out.box).2 4 _ rfl; have i_5 := (HVi.out.box).2 5 _ rfl; have i_6 := (HVi.out.box).2 6 _ rfl; have i_7 := (HVi.out.box).2 7 _ rfl; have i_8 := (HVi.out.box).2 8 _ rfl
      have b_2 := HV2.out.box.2 2 _ rfl
      have b_3 := HV2.out.box.2 3 _ rfl
      have b_4 := HV2.out.box.2 4 _ rfl
      have b_5 := HV2.out.box.2 5 _ rfl
      go_upto_region 53 with (go_at_call 61; refine (worker_Add_no Pi D a.t 1 _ (HOV.out.work HS.out) HE.out (by decide)).mono ?_; rintro e wa ⟨he, hba⟩; simp only [zeroW] at he; subst he; have hXa := HVx.out.up hba; have fXa := hXa.frozen; have lXa := hXa.lt; have x_0 := (hXa.box).2 0 _ rfl; have x_1 := (hXa.box).2 1 _ rfl; have x_2 := (hXa.box).2 2 _ rfl; have x_3 := (hXa.box).2 3 _ rfl; have x_4 := (hXa.box).2 4 _ rfl; have x_5 := (hXa.box).2 5 _ rfl; have x_6 := (hXa.box).2 6 _ rfl; have x_7 := (hXa.box).2 7 _ rfl; have x_8 := (hXa.box).2 8 _ rfl; have HXa := Lib.hid hXa; clear hXa)
      rename_i K9 hK9
      obtain ⟨gq, hgq⟩ : ∃ g, g = wa.heap.size := ⟨_, rfl⟩
      obtain ⟨W, hW⟩ : ∃ W, W = ((((((((((wa.setCell ⟨gx, 0, none⟩ (.int .i64 0)).setCell ⟨gx, 1, none⟩ (.int .i64 0)).setCell ⟨gx, 2, none⟩ (.int .i64 0)).setCell ⟨gx, 3, none⟩ (.slice none 0 0)).setCell ⟨gx, 4, none⟩ (.int .i64 0)).setCell ⟨gx, 5, none⟩ (.int .i64 0)).setCell ⟨gx, 6, none⟩ (.slice none 0 0)).setCell ⟨gx, 7, none⟩ (.slice none 0 0)).setCell ⟨gx, 8, none⟩ (.slice none 0 0)).alloc (.cells #[.int .i64 0, .int .i64 0, .int .i64 0, .slice none 0 0, .int .i64 0, .int .i64 0, .slice none 0 0, .slice none 0 0, .slice none 0 0, .slice none 0 0] 70)) := ⟨_, rfl⟩
      have hal : Below (((((((((wa.setCell ⟨gx, 0, none⟩ (.int .i64 0)).setCell ⟨gx, 1, none⟩ (.int .i64 0)).setCell ⟨gx, 2, none⟩ (.int .i64 0)).setCell ⟨gx, 3, none⟩ (.slice none 0 0)).setCell ⟨gx, 4, none⟩ (.int .i64 0)).setCell ⟨gx, 5, none⟩ (.int .i64 0)).setCell ⟨gx, 6, none⟩ (.slice none 0 0)).setCell ⟨gx, 7, none⟩ (.slice none 0 0)).setCell ⟨gx, 8, none⟩ (.slice none 0 0)).heap.size (((((((((wa.setCell ⟨gx, 0, none⟩ (.int .i64 0)).setCell ⟨gx, 1, none⟩ (.int .i64 0)).setCell ⟨gx, 2, none⟩ (.int .i64 0)).setCell ⟨gx, 3, none⟩ (.slice none 0 0)).setCell ⟨gx, 4, none⟩ (.int .i64 0)).setCell ⟨gx, 5, none⟩ (.int .i64 0)).setCell ⟨gx, 6, none⟩ (.slice none 0 0)).setCell ⟨gx, 7, none⟩ (.slice none 0 0)).setCell ⟨gx, 8, none⟩ (.slice none 0 0)) W := by rw [hW]; exact bel_alloc (Below.refl _ _)
      have hqB : Blk W gq 70 [.int .i64 0, .int .i64 0, .int .i64 0, .slice none 0 0, .int .i64 0, .int .i64 0, .slice none 0 0, .slice none 0 0, .slice none 0 0, .slice none 0 0] := by
        rw [hW, hgq]
        have := Blk.new (((((((((wa.setCell ⟨gx, 0, none⟩ (.int .i64 0)).setCell ⟨gx, 1, none⟩ (.int .i64 0)).setCell ⟨gx, 2, none⟩ (.int .i64 0)).setCell ⟨gx, 3, none⟩ (.slice none 0 0)).setCell ⟨gx, 4, none⟩ (.int .i64 0)).setCell ⟨gx, 5, none⟩ (.int .i64 0)).setCell ⟨gx, 6, none⟩ (.slice none 0 0)).setCell ⟨gx, 7, none⟩ (.slice none 0 0)).setCell ⟨gx, 8, none⟩ (.slice none 0 0)) 70 [.int .i64 0, .int .i64 0, .int .i64 0, .slice none 0 0, .int .i64 0, .int .i64 0, .slice none 0 0, .slice none 0 0, .slice none 0 0, .slice none 0 0]
        simpa [World.setCell] using this
      rw [← hW, ← hgq]
      clear hW hgq
      have hsx := set9 HXa.out rfl (.int .i64 0) (.int .i64 0) (.int .i64 0) (.slice none 0 0) (.int .i64 0) (.int .i64 0) (.slice none 0 0) (.slice none 0 0) (.slice none 0 0)
      have htk : TKeep 27 w5 W := (TKeep.of_below hba).trans ((TKeep.sets9 HXa.out (.int .i64 0) (.int .i64 0) (.int .i64 0) (.slice none 0 0) (.int .i64 0) (.int .i64 0) (.slice none 0 0) (.slice none 0 0) (.slice none 0 0)).trans (TKeep.of_below hal))
      have hblk : ∀ g t cs, Blk w5 g t cs → g ≠ gx → Blk W g t cs := fun g t cs h hne => ((h.up hba).sets9 hne (.int .i64 0) (.int .i64 0) (.int .i64 0) (.slice none 0 0) (.int .i64 0) (.int .i64 0) (.slice none 0 0) (.slice none 0 0) (.slice none 0 0)).up hal
      have hbWw : Below w.heap.size w W := (belw_sets9 (bel_trans hbV hba) (by omega) (.int .i64 0) (.int .i64 0) (.int .i64 0) (.slice none 0 0) (.int .i64 0) (.int .i64 0) (.slice none 0 0) (.slice none 0 0) (.slice none 0 0)).trans (hal.mono (by have h1 := hbV.size; have h2 := hba.size; simp [World.setCell]; omega))
      have hBW : w5.heap.size ≤ W.heap.size := by have h2 := hba.size; have h3 := hal.size; simp [World.setCell] at h3; omega
      have l1 := HV1.out.lt
      have l3 := HV3.out.lt
      have hwB := hbV.size
      exact step_tail w W w5.heap.size w.heap.size (w.heap.size + 1 + 1) gi gq gx P Pi nilP nilP D zeroWD 1 none none 0 0 0 0 hK9 hbWw hwB hBW (by omega) l3 (by omega) (by omega) (by intro e; rw [e] at hqB; have h9 := hblk _ _ _ HV3.out (by omega); have h8 : W.heap[w.heap.size + 1 + 1]? = some (.cells #[.int .i64 0, .int .i64 0, .int .i64 0, .slice none 0 0, .int .i64 0, .int .i64 0, .slice none 0 0, .slice none 0 0, .slice none 0 0, .slice none 0 0] 70 (0, 0)) := hqB; have h7 : W.heap[w.heap.size + 1 + 1]? = some (.cells #[.int .i64 0, .int .i64 0, .int .i64 0, .slice none 0 0, .int .i64 0, .int .i64 0, .slice none 0 0, .slice none 0 0, .slice none 0 0] 27 (0, 0)) := h9; rw [h8] at h7; simp at h7)
        (fun Y' hY' => ⟨H.out.up (hbWw.trans (hY'.mono hwB)), (HOV.out.tk (tk_belB htk hY') twWork).work HS.out, (hblk _ _ _ HV1.out (by omega)).below hY' l1, (hblk _ _ _ HVi.out (by omega)).below hY' hli, (hblk _ _ _ HV3.out (by omega)).below hY' l3⟩)
        (fun Y' hY' => ⟨zeroW_R _, hqB.up hY'⟩) (fun h => absurd h (by decide))
        (fun Y' hY' a0 a1 a2 a3 a4 a5 a6 a7 a8 => by rw [if_neg (by decide)]; exact H.out.up (belw_sets9 (hbWw.trans (hY'.mono hwB)) (by omega) a0 a1 a2 a3 a4 a5 a6 a7 a8))
        (hsx.up hal) (zeroW_O _ _) zeroW_big (by decide) (by decide) (by decide) (by decide) (fun x hx => by simp [zeroWD] at hx) (fun x hx => by simp [zeroWD] at hx)
        (fun Y' hY' => ref0_EqMessages none 0 0 none 0 0 [] Y' (MsgsR.nil _) (MsgsR.nil _)) (fun Y' hY' hk => (law0_Messages0 Y').mono fun e w' h => ⟨h.1, h.2.mono (Nat.le_trans hBW hY'.size)⟩)
    · have hon : D.op.length = P.op.n := H.out.op.1
      have hE2 : addE D a.t = if D.op.length < 64 then 0 else 8 := by unfold addE; rw [if_pos ⟨hz, hz2⟩]
      by_cases hl64 : D.op.length < 64
      · exact absurd (by rw [hE2, if_pos hl64]) hbad
      · have hE : addE D a.t = 8 := by rw [hE2, if_neg hl64]
        have HE := Lib.hid hE
        have hn64 : ¬ P.op.n < 64 := by omega
        have hnd : decide ((P.op.n : Int) < 64) = false := by simp; omega
        clear hE hz hz2 hE2 hon hl64
        go_upto_region 10 with (go_at_call 60; refine (ref4_Tx a.t true _ HZ2.out).mono ?_; rintro e w5 ⟨rfl, hb5⟩)
        clear hla b_2 b_3 b_4 b_5
        have HV1 := Lib.hid (HU1.out.up hb5)
        have HV2 := Lib.hid (HU2.out.up hb5)
        have HV3 := Lib.hid (HU3.out.up hb5)
        have HVi := Lib.hid (HUi.out.up hb5)
        have HVs := Lib.hid (HUs.out.up hb5)
        have HVx := Lib.hid (HUx.out.up hb5)
        have HOV := Lib.hid (HOI.out.up hb5)
        have hbV := bel_trans hbU hb5
        have a_3 := HV1.out.box.2 3 _ rfl
        have la3 := HV1.out.lt
        go_upto_region 14 with fail
        clear a_3 la3
        have hli := HVi.out.lt
        have hla := HV2.out.lt
        have i_0 := (HVi.out.box).2 0 _ rfl; have i_1 := (HVi.out.box).2 1 _ rfl; have i_2 := (HVi.out.box).2 2 _ rfl; have i_3 := (HVi.out.box).2 3 _ rfl; have i_4 := (HVi.out.box).2 4 _ rfl; have i_5 := (HVi.out.box).2 5 _ rfl; have i_6 := (HVi.out.box).2 6 _ rfl; have i_7 := (HVi.out.box).2 7 _ rfl; have i_8 := (HVi.out.box).2 8 _ rfl
        have b_2 := HV2.out.box.2 2 _ rfl
        have b_3 := HV2.out.box.2 3 _ rfl
        have b_4 := HV2.out.box.2 4 _ rfl
        have b_5 := HV2.out.box.2 5 _ rfl
        go_upto_region 53 with (go_at_call 61; refine (worker_Add_no Pi D a.t 8 _ (HOV.out.work HS.out) HE.out (by decide)).mono ?_; rintro e wa ⟨he, hba⟩; simp only [zeroW] at he; subst he; have hXa := HVx.out.up hba; have fXa := hXa.frozen; have lXa := hXa.lt; have x_0 := (hXa.box).2 0 _ rfl; have x_1 := (hXa.box).2 1 _ rfl; have x_2 := (hXa.box).2 2 _ rfl; have x_3 := (hXa.box).2 3 _ rfl; have x_4 := (hXa.box).2 4 _ rfl; have x_5 := (hXa.box).2 5 _ rfl; have x_6 := (hXa.box).2 6 _ rfl; have x_7 := (hXa.box).2 7 _ rfl; have x_8 := (hXa.box).2 8 _ rfl; have HXa := Lib.hid hXa; clear hXa)
        rename_i K9 hK9
        obtain ⟨gq, hgq⟩ : ∃ g, g = wa.heap.size := ⟨_, rfl⟩
        obtain ⟨W, hW⟩ : ∃ W, W = ((((((((((wa.setCell ⟨gx, 0, none⟩ (.int .i64 0)).setCell ⟨gx, 1, none⟩ (.int .i64 0)).setCell ⟨gx, 2, none⟩ (.int .i64 0)).setCell ⟨gx, 3, none⟩ (.slice none 0 0)).setCell ⟨gx, 4, none⟩ (.int .i64 0)).setCell ⟨gx, 5, none⟩ (.int .i64 0)).setCell ⟨gx, 6, none⟩ (.slice none 0 0)).setCell ⟨gx, 7, none⟩ (.slice none 0 0)).setCell ⟨gx, 8, none⟩ (.slice none 0 0)).alloc (.cells #[.int .i64 0, .int .i64 0, .int .i64 0, .slice none 0 0, .int .i64 0, .int .i64 0, .slice none 0 0, .slice none 0 0, .slice none 0 0, .slice none 0 0] 70)) := ⟨_, rfl⟩
        have hal : Below (((((((((wa.setCell ⟨gx, 0, none⟩ (.int .i64 0)).setCell ⟨gx, 1, none⟩ (.int .i64 0)).setCell ⟨gx, 2, none⟩ (.int .i64 0)).setCell ⟨gx, 3, none⟩ (.slice none 0 0)).setCell ⟨gx, 4, none⟩ (.int .i64 0)).setCell ⟨gx, 5, none⟩ (.int .i64 0)).setCell ⟨gx, 6, none⟩ (.slice none 0 0)).setCell ⟨gx, 7, none⟩ (.slice none 0 0)).setCell ⟨gx, 8, none⟩ (.slice none 0 0)).heap.size (((((((((wa.setCell ⟨gx, 0, none⟩ (.int .i64 0)).setCell ⟨gx, 1, none⟩ (.int .i64 0)).setCell ⟨gx, 2, none⟩ (.int .i64 0)).setCell ⟨gx, 3, none⟩ (.slice none 0 0)).setCell ⟨gx, 4, none⟩ (.int .i64 0)).setCell ⟨gx, 5, none⟩ (.int .i64 0)).setCell ⟨gx, 6, none⟩ (.slice none 0 0)).setCell ⟨gx, 7, none⟩ (.slice none 0 0)).setCell ⟨gx, 8, none⟩ (.slice none 0 0)) W := by rw [hW]; exact bel_alloc (Below.refl _ _)
        have hqB : Blk W gq 70 [.int .i64 0, .int .i64 0, .int .i64 0, .slice none 0 0, .int .i64 0, .int .i64 0, .slice none 0 0, .slice none 0 0, .slice none 0 0, .slice none 0 0] := by
          rw [hW, hgq]
          have := Blk.new (((((((((wa.setCell ⟨gx, 0, none⟩ (.int .i64 0)).setCell ⟨gx, 1, none⟩ (.int .i64 0)).setCell ⟨gx, 2, none⟩ (.int .i64 0)).setCell ⟨gx, 3, none⟩ (.slice none 0 0)).setCell ⟨gx, 4, none⟩ (.int .i64 0)).setCell ⟨gx, 5, none⟩ (.int .i64 0)).setCell ⟨gx, 6, none⟩ (.slice none 0 0)).setCell ⟨gx, 7, none⟩ (.slice none 0 0)).setCell ⟨gx, 8, none⟩ (.slice none 0 0)) 70 [.int .i64 0, .int .i64 0, .int .i64 0, .slice none 0 0, .int .i64 0, .int .i64 0, .slice none 0 0, .slice none 0 0, .slice none 0 0, .slice none 0 0]
          simpa [World.setCell] using this
        rw [← hW, ← hgq]
        clear hW hgq
        have hsx := set9 HXa.out rfl (.int .i64 0) (.int .i64 0) (.int .i64 0) (.slice none 0 0) (.int .i64 0) (.int .i64 0) (.slice none 0 0) (.slice none 0 0) (.slice none 0 0)
        have htk : TKeep 27 w5 W := (TKeep.of_below hba).trans ((TKeep.sets9 HXa.out (.int .i64 0) (.int .i64 0) (.int .i64 0) (.slice none 0 0) (.int .i64 0) (.int .i64 0) (.slice none 0 0) (.slice none 0 0) (.slice none 0 0)).trans (TKeep.of_below hal))
        have hblk : ∀ g t cs, Blk w5 g t cs → g ≠ gx → Blk W g t cs := fun g t cs h hne => ((h.up hba).sets9 hne (.int .i64 0) (.int .i64 0) (.int .i64 0) (.slice none 0 0) (.int .i64 0) (.int .i64 0) (.slice none 0 0) (.slice none 0 0) (.slice none 0 0)).up hal
        have hbWw : Below w.heap.size w W := (belw_sets9 (bel_trans hbV hba) (by omega) (.int .i64 0) (.int .i64 0) (.int .i64 0) (.slice none 0 0) (.int .i64 0) (.int .i64 0) (.slice none 0 0) (.slice none 0 0) (.slice none 0 0)).trans (hal.mono (by have h1 := hbV.size; have h2 := hba.size; simp [World.setCell]; omega))
        have hBW : w5.heap.size ≤ W.heap.size := by have h2 := hba.size; have h3 := hal.size; simp [World.setCell] at h3; omega
        have l1 := HV1.out.lt
        have l3 := HV3.out.lt
        have hwB := hbV.size
        exact step_tail w W w5.heap.size w.heap.size (w.heap.size + 1 + 1) gi gq gx P Pi nilP nilP D zeroWD 8 none none 0 0 0 0 hK9 hbWw hwB hBW (by omega) l3 (by omega) (by omega) (by intro e; rw [e] at hqB; have h9 := hblk _ _ _ HV3.out (by omega); have h8 : W.heap[w.heap.size + 1 + 1]? = some (.cells #[.int .i64 0, .int .i64 0, .int .i64 0, .slice none 0 0, .int .i64 0, .int .i64 0, .slice none 0 0, .slice none 0 0, .slice none 0 0, .slice none 0 0] 70 (0, 0)) := hqB; have h7 : W.heap[w.heap.size + 1 + 1]? = some (.cells #[.int .i64 0, .int .i64 0, .int .i64 0, .slice none 0 0, .int .i64 0, .int .i64 0, .slice none 0 0, .slice none 0 0, .slice none 0 0] 27 (0, 0)) := h9; rw [h8] at h7; simp at h7)
          (fun Y' hY' => ⟨H.out.up (hbWw.trans (hY'.mono hwB)), (HOV.out.tk (tk_belB htk hY') twWork).work HS.out, (hblk _ _ _ HV1.out (by omega)).below hY' l1, (hblk _ _ _ HVi.out (by omega)).below hY' hli, (hblk _ _ _ HV3.out (by omega)).below hY' l3⟩)
          (fun Y' hY' => ⟨zeroW_R _, hqB.up hY'⟩) (fun h => absurd h (by decide))
          (fun Y' hY' a0 a1 a2 a3 a4 a5 a6 a7 a8 => by rw [if_neg (by decide)]; exact H.out.up (belw_sets9 (hbWw.trans (hY'.mono hwB)) (by omega) a0 a1 a2 a3 a4 a5 a6 a7 a8))
          (hsx.up hal) (zeroW_O _ _) zeroW_big (by decide) (by decide) (by decide) (by decide) (fun x hx => by simp [zeroWD] at hx) (fun x hx => by simp [zeroWD] at hx)
          (fun Y' hY' => ref0_EqMessages none 0 0 none 0 0 [] Y' (MsgsR.nil _) (MsgsR.nil _)) (fun Y' hY' hk => (law0_Messages0 Y').mono fun e w' h => ⟨h.1, h.2.mono (Nat.le_trans hBW hY'.size)⟩)
end Go.Proofs.YtgfakefcmbpboaaGreat
