/- Make; droverlaw13.step at a batch that is made. -/
import Derived.Test.YtgfakefcmbpboaaGreatWsf
import Derived.Test.YtgfakefcmbpboaaGreatWma
namespace Go.Proofs.YtgfakefcmbpboaaGreat
open Go.RowKit
set_option linter.unusedSimpArgs false
set_option linter.unusedVariables false

theorem mkB_len (D : WorkD) : (mkB D).tx.length ≤ 1000000 := by
  unfold mkB
  split
  · exact nxB_len D
  · exact Nat.zero_le _
set_option maxRecDepth 100000 in
set_option maxHeartbeats 8000000 in
theorem step_do2 (P : WorkP) (D : WorkD) (MP : MsgP) (SP : SlP) (a : JobD) (w : World) (h : WorkR w P D) (hs : BigD D) (hdo : wiI a.doo 11 = 2) (hon : D.op.length ≤ 800000000) :
    Calls Tryz.prog 21 #[P.val D, J26 MP SP a] w fun e w' => (∃ P' D', e = .returned (.tuple #[WorkP.val P' D', .bool true])) ∧ Below w.heap.size w w' := by
  have H := Lib.hid h
  have HS := Lib.hid hs
  have HDO := Lib.hid hdo
  have HON := Lib.hid hon
  have HBL := Lib.hid (mkB_len D)
  clear h hs hdo hon
  show Calls Tryz.prog 21 #[.agg #[.int .i64 D.id, .int .i64 D.nodes, .int .i64 D.next, .slice P.op.A P.op.n P.op.c, .int .i64 D.age, .int .i64 D.clock, .slice P.wa.A P.wa.n P.wa.c, .slice P.he.A P.he.n P.he.c, .slice P.re.A P.re.n P.re.c], .agg #[.int .i64 a.doo, .int .i64 a.d, .int .i64 a.t.se, .int .i64 a.t.sq, .string a.t.k, .string a.t.v, .int .i64 a.m.ki, .int .i64 a.m.fr, .int .i64 a.m.tt, .int .i64 a.m.di, .int .i64 a.m.b.au, .int .i64 a.m.b.n, .slice MP.b.A MP.b.n MP.b.c, .int .i64 a.m.h.au, .int .i64 a.m.h.ro, .slice MP.h.b.A MP.h.b.n MP.h.b.c, .slice MP.h.p.A MP.h.p.n MP.h.p.c, .int .i64 a.m.c.h.au, .int .i64 a.m.c.h.ro, .slice MP.c.h.b.A MP.c.h.b.n MP.c.h.b.c, .slice MP.c.h.p.A MP.c.h.p.n MP.c.h.p.c, .int .i64 a.m.c.di, .slice MP.c.s.A MP.c.s.n MP.c.s.c, .slice MP.ds.A MP.ds.n MP.ds.c, .bool a.fit, .slice SP.A SP.n SP.c]] w _
  go_enter Tryz.func21, Tryz.ntmps21
  obtain ⟨z, hz⟩ : ∃ z, mayW D = z := ⟨_, rfl⟩
  have HZ := Lib.hid hz
  go_wp2_with fail
  have hX1 : Blk (((w.alloc (.cells #[.int .i64 D.id, .int .i64 D.nodes, .int .i64 D.next, .slice P.op.A P.op.n P.op.c, .int .i64 D.age, .int .i64 D.clock, .slice P.wa.A P.wa.n P.wa.c, .slice P.he.A P.he.n P.he.c, .slice P.re.A P.re.n P.re.c] 27)).alloc (.cells #[.int .i64 a.doo, .int .i64 a.d, .int .i64 a.t.se, .int .i64 a.t.sq, .string a.t.k, .string a.t.v, .int .i64 a.m.ki, .int .i64 a.m.fr, .int .i64 a.m.tt, .int .i64 a.m.di, .int .i64 a.m.b.au, .int .i64 a.m.b.n, .slice MP.b.A MP.b.n MP.b.c, .int .i64 a.m.h.au, .int .i64 a.m.h.ro, .slice MP.h.b.A MP.h.b.n MP.h.b.c, .slice MP.h.p.A MP.h.p.n MP.h.p.c, .int .i64 a.m.c.h.au, .int .i64 a.m.c.h.ro, .slice MP.c.h.b.A MP.c.h.b.n MP.c.h.b.c, .slice MP.c.h.p.A MP.c.h.p.n MP.c.h.p.c, .int .i64 a.m.c.di, .slice MP.c.s.A MP.c.s.n MP.c.s.c, .slice MP.ds.A MP.ds.n MP.ds.c, .bool a.fit, .slice SP.A SP.n SP.c] 51)).alloc (.cells #[.int .i64 0, .int .i64 0, .int .i64 0, .slice none 0 0, .int .i64 0, .int .i64 0, .slice none 0 0, .slice none 0 0, .slice none 0 0] 27)) w.heap.size 27 [.int .i64 D.id, .int .i64 D.nodes, .int .i64 D.next, .slice P.op.A P.op.n P.op.c, .int .i64 D.age, .int .i64 D.clock, .slice P.wa.A P.wa.n P.wa.c, .slice P.he.A P.he.n P.he.c, .slice P.re.A P.re.n P.re.c] := (Blk.new w 27 [.int .i64 D.id, .int .i64 D.nodes, .int .i64 D.next, .slice P.op.A P.op.n P.op.c, .int .i64 D.age, .int .i64 D.clock, .slice P.wa.A P.wa.n P.wa.c, .slice P.he.A P.he.n P.he.c, .slice P.re.A P.re.n P.re.c]).up (by (repeat (first | (with_reducible exact Below.refl _ _) | (with_reducible assumption) | (with_reducible apply bel_alloc) | (with_reducible apply bel_drew) | (with_reducible apply bel_drewN) | (with_reducible refine bel_trans ?_ (by with_reducible assumption)) | (with_reducible refine bel_trans ?_ (HF.out _)) | (with_reducible refine bel_set ?_ (by simp) _) | (with_reducible refine bel_set ?_ (by simp; omega) _) | (with_reducible refine bel_set ?_ (by omega) _))))
  have hX2 : Blk (((w.alloc (.cells #[.int .i64 D.id, .int .i64 D.nodes, .int .i64 D.next, .slice P.op.A P.op.n P.op.c, .int .i64 D.age, .int .i64 D.clock, .slice P.wa.A P.wa.n P.wa.c, .slice P.he.A P.he.n P.he.c, .slice P.re.A P.re.n P.re.c] 27)).alloc (.cells #[.int .i64 a.doo, .int .i64 a.d, .int .i64 a.t.se, .int .i64 a.t.sq, .string a.t.k, .string a.t.v, .int .i64 a.m.ki, .int .i64 a.m.fr, .int .i64 a.m.tt, .int .i64 a.m.di, .int .i64 a.m.b.au, .int .i64 a.m.b.n, .slice MP.b.A MP.b.n MP.b.c, .int .i64 a.m.h.au, .int .i64 a.m.h.ro, .slice MP.h.b.A MP.h.b.n MP.h.b.c, .slice MP.h.p.A MP.h.p.n MP.h.p.c, .int .i64 a.m.c.h.au, .int .i64 a.m.c.h.ro, .slice MP.c.h.b.A MP.c.h.b.n MP.c.h.b.c, .slice MP.c.h.p.A MP.c.h.p.n MP.c.h.p.c, .int .i64 a.m.c.di, .slice MP.c.s.A MP.c.s.n MP.c.s.c, .slice MP.ds.A MP.ds.n MP.ds.c, .bool a.fit, .slice SP.A SP.n SP.c] 51)).alloc (.cells #[.int .i64 0, .int .i64 0, .int .i64 0, .slice none 0 0, .int .i64 0, .int .i64 0, .slice none 0 0, .slice none 0 0, .slice none 0 0] 27)) (w.heap.size + 1) 51 [.int .i64 a.doo, .int .i64 a.d, .int .i64 a.t.se, .int .i64 a.t.sq, .string a.t.k, .string a.t.v, .int .i64 a.m.ki, .int .i64 a.m.fr, .int .i64 a.m.tt, .int .i64 a.m.di, .int .i64 a.m.b.au, .int .i64 a.m.b.n, .slice MP.b.A MP.b.n MP.b.c, .int .i64 a.m.h.au, .int .i64 a.m.h.ro, .slice MP.h.b.A MP.h.b.n MP.h.b.c, .slice MP.h.p.A MP.h.p.n MP.h.p.c, .int .i64 a.m.c.h.au, .int .i64 a.m.c.h.ro, .slice MP.c.h.b.A MP.c.h.b.n MP.c.h.b.c, .slice MP.c.h.p.A MP.c.h.p.n MP.c.h.p.c, .int .i64 a.m.c.di, .slice MP.c.s.A MP.c.s.n MP.c.s.c, .slice MP.ds.A MP.ds.n MP.ds.c, .bool a.fit, .slice SP.A SP.n SP.c] := by
    have := (Blk.new (w.alloc (.cells #[.int .i64 D.id, .int .i64 D.nodes, .int .i64 D.next, .slice P.op.A P.op.n P.op.c, .int .i64 D.age, .int .i64 D.clock, .slice P.wa.A P.wa.n P.wa.c, .slice P.he.A P.he.n P.he.c, .slice P.re.A P.re.n P.re.c] 27)) 51 [.int .i64 a.doo, .int .i64 a.d, .int .i64 a.t.se, .int .i64 a.t.sq, .string a.t.k, .string a.t.v, .int .i64 a.m.ki, .int .i64 a.m.fr, .int .i64 a.m.tt, .int .i64 a.m.di, .int .i64 a.m.b.au, .int .i64 a.m.b.n, .slice MP.b.A MP.b.n MP.b.c, .int .i64 a.m.h.au, .int .i64 a.m.h.ro, .slice MP.h.b.A MP.h.b.n MP.h.b.c, .slice MP.h.p.A MP.h.p.n MP.h.p.c, .int .i64 a.m.c.h.au, .int .i64 a.m.c.h.ro, .slice MP.c.h.b.A MP.c.h.b.n MP.c.h.b.c, .slice MP.c.h.p.A MP.c.h.p.n MP.c.h.p.c, .int .i64 a.m.c.di, .slice MP.c.s.A MP.c.s.n MP.c.s.c, .slice MP.ds.A MP.ds.n MP.ds.c, .bool a.fit, .slice SP.A SP.n SP.c]).up (w' := (((w.alloc (.cells #[.int .i64 D.id, .int .i64 D.nodes, .int .i64 D.next, .slice P.op.A P.op.n P.op.c, .int .i64 D.age, .int .i64 D.clock, .slice P.wa.A P.wa.n P.wa.c, .slice P.he.A P.he.n P.he.c, .slice P.re.A P.re.n P.re.c] 27)).alloc (.cells #[.int .i64 a.doo, .int .i64 a.d, .int .i64 a.t.se, .int .i64 a.t.sq, .string a.t.k, .string a.t.v, .int .i64 a.m.ki, .int .i64 a.m.fr, .int .i64 a.m.tt, .int .i64 a.m.di, .int .i64 a.m.b.au, .int .i64 a.m.b.n, .slice MP.b.A MP.b.n MP.b.c, .int .i64 a.m.h.au, .int .i64 a.m.h.ro, .slice MP.h.b.A MP.h.b.n MP.h.b.c, .slice MP.h.p.A MP.h.p.n MP.h.p.c, .int .i64 a.m.c.h.au, .int .i64 a.m.c.h.ro, .slice MP.c.h.b.A MP.c.h.b.n MP.c.h.b.c, .slice MP.c.h.p.A MP.c.h.p.n MP.c.h.p.c, .int .i64 a.m.c.di, .slice MP.c.s.A MP.c.s.n MP.c.s.c, .slice MP.ds.A MP.ds.n MP.ds.c, .bool a.fit, .slice SP.A SP.n SP.c] 51)).alloc (.cells #[.int .i64 0, .int .i64 0, .int .i64 0, .slice none 0 0, .int .i64 0, .int .i64 0, .slice none 0 0, .slice none 0 0, .slice none 0 0] 27))) (by (repeat (first | (with_reducible exact Below.refl _ _) | (with_reducible assumption) | (with_reducible apply bel_alloc) | (with_reducible apply bel_drew) | (with_reducible apply bel_drewN) | (with_reducible refine bel_trans ?_ (by with_reducible assumption)) | (with_reducible refine bel_trans ?_ (HF.out _)) | (with_reducible refine bel_set ?_ (by simp) _) | (with_reducible refine bel_set ?_ (by simp; omega) _) | (with_reducible refine bel_set ?_ (by omega) _))))
    simpa using this
  have hX3 : Blk (((w.alloc (.cells #[.int .i64 D.id, .int .i64 D.nodes, .int .i64 D.next, .slice P.op.A P.op.n P.op.c, .int .i64 D.age, .int .i64 D.clock, .slice P.wa.A P.wa.n P.wa.c, .slice P.he.A P.he.n P.he.c, .slice P.re.A P.re.n P.re.c] 27)).alloc (.cells #[.int .i64 a.doo, .int .i64 a.d, .int .i64 a.t.se, .int .i64 a.t.sq, .string a.t.k, .string a.t.v, .int .i64 a.m.ki, .int .i64 a.m.fr, .int .i64 a.m.tt, .int .i64 a.m.di, .int .i64 a.m.b.au, .int .i64 a.m.b.n, .slice MP.b.A MP.b.n MP.b.c, .int .i64 a.m.h.au, .int .i64 a.m.h.ro, .slice MP.h.b.A MP.h.b.n MP.h.b.c, .slice MP.h.p.A MP.h.p.n MP.h.p.c, .int .i64 a.m.c.h.au, .int .i64 a.m.c.h.ro, .slice MP.c.h.b.A MP.c.h.b.n MP.c.h.b.c, .slice MP.c.h.p.A MP.c.h.p.n MP.c.h.p.c, .int .i64 a.m.c.di, .slice MP.c.s.A MP.c.s.n MP.c.s.c, .slice MP.ds.A MP.ds.n MP.ds.c, .bool a.fit, .slice SP.A SP.n SP.c] 51)).alloc (.cells #[.int .i64 0, .int .i64 0, .int .i64 0, .slice none 0 0, .int .i64 0, .int .i64 0, .slice none 0 0, .slice none 0 0, .slice none 0 0] 27)) (w.heap.size + 2) 27 [.int .i64 0, .int .i64 0, .int .i64 0, .slice none 0 0, .int .i64 0, .int .i64 0, .slice none 0 0, .slice none 0 0, .slice none 0 0] := by
    have := Blk.new ((w.alloc (.cells #[.int .i64 D.id, .int .i64 D.nodes, .int .i64 D.next, .slice P.op.A P.op.n P.op.c, .int .i64 D.age, .int .i64 D.clock, .slice P.wa.A P.wa.n P.wa.c, .slice P.he.A P.he.n P.he.c, .slice P.re.A P.re.n P.re.c] 27)).alloc (.cells #[.int .i64 a.doo, .int .i64 a.d, .int .i64 a.t.se, .int .i64 a.t.sq, .string a.t.k, .string a.t.v, .int .i64 a.m.ki, .int .i64 a.m.fr, .int .i64 a.m.tt, .int .i64 a.m.di, .int .i64 a.m.b.au, .int .i64 a.m.b.n, .slice MP.b.A MP.b.n MP.b.c, .int .i64 a.m.h.au, .int .i64 a.m.h.ro, .slice MP.h.b.A MP.h.b.n MP.h.b.c, .slice MP.h.p.A MP.h.p.n MP.h.p.c, .int .i64 a.m.c.h.au, .int .i64 a.m.c.h.ro, .slice MP.c.h.b.A MP.c.h.b.n MP.c.h.b.c, .slice MP.c.h.p.A MP.c.h.p.n MP.c.h.p.c, .int .i64 a.m.c.di, .slice MP.c.s.A MP.c.s.n MP.c.s.c, .slice MP.ds.A MP.ds.n MP.ds.c, .bool a.fit, .slice SP.A SP.n SP.c] 51)) 27 [.int .i64 0, .int .i64 0, .int .i64 0, .slice none 0 0, .int .i64 0, .int .i64 0, .slice none 0 0, .slice none 0 0, .slice none 0 0]
    simpa using this
  have hbX : Below w.heap.size w (((w.alloc (.cells #[.int .i64 D.id, .int .i64 D.nodes, .int .i64 D.next, .slice P.op.A P.op.n P.op.c, .int .i64 D.age, .int .i64 D.clock, .slice P.wa.A P.wa.n P.wa.c, .slice P.he.A P.he.n P.he.c, .slice P.re.A P.re.n P.re.c] 27)).alloc (.cells #[.int .i64 a.doo, .int .i64 a.d, .int .i64 a.t.se, .int .i64 a.t.sq, .string a.t.k, .string a.t.v, .int .i64 a.m.ki, .int .i64 a.m.fr, .int .i64 a.m.tt, .int .i64 a.m.di, .int .i64 a.m.b.au, .int .i64 a.m.b.n, .slice MP.b.A MP.b.n MP.b.c, .int .i64 a.m.h.au, .int .i64 a.m.h.ro, .slice MP.h.b.A MP.h.b.n MP.h.b.c, .slice MP.h.p.A MP.h.p.n MP.h.p.c, .int .i64 a.m.c.h.au, .int .i64 a.m.c.h.ro, .slice MP.c.h.b.A MP.c.h.b.n MP.c.h.b.c, .slice MP.c.h.p.A MP.c.h.p.n MP.c.h.p.c, .int .i64 a.m.c.di, .slice MP.c.s.A MP.c.s.n MP.c.s.c, .slice MP.ds.A MP.ds.n MP.ds.c, .bool a.fit, .slice SP.A SP.n SP.c] 51)).alloc (.cells #[.int .i64 0, .int .i64 0, .int .i64 0, .slice none 0 0, .int .i64 0, .int .i64 0, .slice none 0 0, .slice none 0 0, .slice none 0 0] 27)) := by (repeat (first | (with_reducible exact Below.refl _ _) | (with_reducible assumption) | (with_reducible apply bel_alloc) | (with_reducible apply bel_drew) | (with_reducible apply bel_drewN) | (with_reducible refine bel_trans ?_ (by with_reducible assumption)) | (with_reducible refine bel_trans ?_ (HF.out _)) | (with_reducible refine bel_set ?_ (by simp) _) | (with_reducible refine bel_set ?_ (by simp; omega) _) | (with_reducible refine bel_set ?_ (by omega) _)))
  generalize (((w.alloc (.cells #[.int .i64 D.id, .int .i64 D.nodes, .int .i64 D.next, .slice P.op.A P.op.n P.op.c, .int .i64 D.age, .int .i64 D.clock, .slice P.wa.A P.wa.n P.wa.c, .slice P.he.A P.he.n P.he.c, .slice P.re.A P.re.n P.re.c] 27)).alloc (.cells #[.int .i64 a.doo, .int .i64 a.d, .int .i64 a.t.se, .int .i64 a.t.sq, .string a.t.k, .string a.t.v, .int .i64 a.m.ki, .int .i64 a.m.fr, .int .i64 a.m.tt, .int .i64 a.m.di, .int .i64 a.m.b.au, .int .i64 a.m.b.n, .slice MP.b.A MP.b.n MP.b.c, .int .i64 a.m.h.au, .int .i64 a.m.h.ro, .slice MP.h.b.A MP.h.b.n MP.h.b.c, .slice MP.h.p.A MP.h.p.n MP.h.p.c, .int .i64 a.m.c.h.au, .int .i64 a.m.c.h.ro, .slice MP.c.h.b.A MP.c.h.b.n MP.c.h.b.c, .slice MP.c.h.p.A MP.c.h.p.n MP.c.h.p.c, .int .i64 a.m.c.di, .slice MP.c.s.A MP.c.s.n MP.c.s.c, .slice MP.ds.A MP.ds.n MP.ds.c, .bool a.fit, .slice SP.A SP.n SP.c] 51)).alloc (.cells #[.int .i64 0, .int .i64 0, .int .i64 0, .slice none 0 0, .int .i64 0, .int .i64 0, .slice none 0 0, .slice none 0 0, .slice none 0 0] 27)) = X at *
  have HX1 := Lib.hid hX1
  have HX2 := Lib.hid hX2
  have HX3 := Lib.hid hX3
  have HBX := Lib.hid hbX
  clear hX1 hX2 hX3
  refine (ref0_CopyWorker P D _ (H.out.up hbX) HS.out).mono ?_
  rintro e w1 ⟨Pi, he1, hOi, hb1⟩
  simp only [WorkP.val] at he1
  subst he1
  have hbI : Below w1.heap.size w1 (w1.alloc (.cells #[.int .i64 D.id, .int .i64 D.nodes, .int .i64 D.next, .slice Pi.op.A Pi.op.n Pi.op.c, .int .i64 D.age, .int .i64 D.clock, .slice Pi.wa.A Pi.wa.n Pi.wa.c, .slice Pi.he.A Pi.he.n Pi.he.c, .slice Pi.re.A Pi.re.n Pi.re.c] 27)) := by (repeat (first | (with_reducible exact Below.refl _ _) | (with_reducible assumption) | (with_reducible apply bel_alloc) | (with_reducible apply bel_drew) | (with_reducible apply bel_drewN) | (with_reducible refine bel_trans ?_ (by with_reducible assumption)) | (with_reducible refine bel_trans ?_ (HF.out _)) | (with_reducible refine bel_set ?_ (by simp) _) | (with_reducible refine bel_set ?_ (by simp; omega) _) | (with_reducible refine bel_set ?_ (by omega) _)))
  have hY1 := (HX1.out.up hb1)
  have HOi := Lib.hid (hOi.up hbI)
  have HI := Lib.hid (Blk.new w1 27 [.int .i64 D.id, .int .i64 D.nodes, .int .i64 D.next, .slice Pi.op.A Pi.op.n Pi.op.c, .int .i64 D.age, .int .i64 D.clock, .slice Pi.wa.A Pi.wa.n Pi.wa.c, .slice Pi.he.A Pi.he.n Pi.he.c, .slice Pi.re.A Pi.re.n Pi.re.c])
  have HY2 := Lib.hid ((HX2.out.up hb1).up hbI)
  have HY3 := Lib.hid ((HX3.out.up hb1).up hbI)
  have HY1 := Lib.hid (hY1.up hbI)
  have hbY := bel_trans (bel_trans hbX hb1) hbI
  have ly1 := hY1.lt
  have a_0 := (hY1.box).2 0 _ rfl; have a_1 := (hY1.box).2 1 _ rfl; have a_2 := (hY1.box).2 2 _ rfl; have a_3 := (hY1.box).2 3 _ rfl; have a_4 := (hY1.box).2 4 _ rfl; have a_5 := (hY1.box).2 5 _ rfl; have a_6 := (hY1.box).2 6 _ rfl; have a_7 := (hY1.box).2 7 _ rfl; have a_8 := (hY1.box).2 8 _ rfl
  have hzX : w.heap.size + 3 ≤ w1.heap.size := by have := (HX3.out.up hb1).lt; omega
  clear hY1 HX1 HX2 HX3 hOi hb1 hbI hbX HBX
  go_wp2_with fail
  clear a_0 a_1 a_2 a_3 a_4 a_5 a_6 a_7 a_8 ly1
  have hgiE : w1.heap.size < (w1.alloc (.cells #[.int .i64 D.id, .int .i64 D.nodes, .int .i64 D.next, .slice Pi.op.A Pi.op.n Pi.op.c, .int .i64 D.age, .int .i64 D.clock, .slice Pi.wa.A Pi.wa.n Pi.wa.c, .slice Pi.he.A Pi.he.n Pi.he.c, .slice Pi.re.A Pi.re.n Pi.re.c] 27)).heap.size := HI.out.lt
  obtain ⟨gi, hgi⟩ : ∃ g, g = w1.heap.size := ⟨_, rfl⟩
  obtain ⟨X1, hX1⟩ : ∃ X1, X1 = (w1.alloc (.cells #[.int .i64 D.id, .int .i64 D.nodes, .int .i64 D.next, .slice Pi.op.A Pi.op.n Pi.op.c, .int .i64 D.age, .int .i64 D.clock, .slice Pi.wa.A Pi.wa.n Pi.wa.c, .slice Pi.he.A Pi.he.n Pi.he.c, .slice Pi.re.A Pi.re.n Pi.re.c] 27)) := ⟨_, rfl⟩
  rw [← hX1, ← hgi] at HI
  rw [← hX1] at HOi HY1 HY2 HY3 hbY
  rw [← hX1, ← hgi]
  rw [← hX1, ← hgi] at hgiE
  rw [← hgi] at hzX
  clear hX1 hgi
  refine (ref13_May P D z _ (H.out.up hbY) HZ.out).mono ?_
  rintro e w2 ⟨rfl, hb2⟩
  have hA2 := HY2.out.up hb2
  have b_0 := hA2.box.2 0 _ rfl
  have lA2 := hA2.lt
  have lA1 : w.heap.size < w2.heap.size := by omega
  clear hA2
  go_upto_region 16 with (go_at_call 40; refine (law0_Within a.doo 11 2 _ (by decide) (by decide) HDO.out).mono ?_; rintro e w' ⟨rfl, rfl⟩)
  clear b_0 lA2 lA1
  have hbz : Below w2.heap.size w2 ((w2.alloc (.cells #[.int .i64 0, .int .i64 0, .int .i64 0, .slice none 0 0, .int .i64 0, .int .i64 0, .slice none 0 0, .slice none 0 0, .slice none 0 0, .slice none 0 0] 70)).alloc (.cells #[.int .i64 0, .int .i64 0, .int .i64 0, .slice none 0 0, .int .i64 0, .int .i64 0, .slice none 0 0, .slice none 0 0, .slice none 0 0] 27)) := by (repeat (first | (with_reducible exact Below.refl _ _) | (with_reducible assumption) | (with_reducible apply bel_alloc) | (with_reducible apply bel_drew) | (with_reducible apply bel_drewN) | (with_reducible refine bel_trans ?_ (by with_reducible assumption)) | (with_reducible refine bel_trans ?_ (HF.out _)) | (with_reducible refine bel_set ?_ (by simp) _) | (with_reducible refine bel_set ?_ (by simp; omega) _) | (with_reducible refine bel_set ?_ (by omega) _)))
  have hs0 : Blk ((w2.alloc (.cells #[.int .i64 0, .int .i64 0, .int .i64 0, .slice none 0 0, .int .i64 0, .int .i64 0, .slice none 0 0, .slice none 0 0, .slice none 0 0, .slice none 0 0] 70)).alloc (.cells #[.int .i64 0, .int .i64 0, .int .i64 0, .slice none 0 0, .int .i64 0, .int .i64 0, .slice none 0 0, .slice none 0 0, .slice none 0 0] 27)) w2.heap.size 70 [.int .i64 0, .int .i64 0, .int .i64 0, .slice none 0 0, .int .i64 0, .int .i64 0, .slice none 0 0, .slice none 0 0, .slice none 0 0, .slice none 0 0] := (Blk.new w2 70 [.int .i64 0, .int .i64 0, .int .i64 0, .slice none 0 0, .int .i64 0, .int .i64 0, .slice none 0 0, .slice none 0 0, .slice none 0 0, .slice none 0 0]).up (by (repeat (first | (with_reducible exact Below.refl _ _) | (with_reducible assumption) | (with_reducible apply bel_alloc) | (with_reducible apply bel_drew) | (with_reducible apply bel_drewN) | (with_reducible refine bel_trans ?_ (by with_reducible assumption)) | (with_reducible refine bel_trans ?_ (HF.out _)) | (with_reducible refine bel_set ?_ (by simp) _) | (with_reducible refine bel_set ?_ (by simp; omega) _) | (with_reducible refine bel_set ?_ (by omega) _))))
  have hx0 : Blk ((w2.alloc (.cells #[.int .i64 0, .int .i64 0, .int .i64 0, .slice none 0 0, .int .i64 0, .int .i64 0, .slice none 0 0, .slice none 0 0, .slice none 0 0, .slice none 0 0] 70)).alloc (.cells #[.int .i64 0, .int .i64 0, .int .i64 0, .slice none 0 0, .int .i64 0, .int .i64 0, .slice none 0 0, .slice none 0 0, .slice none 0 0] 27)) (w2.heap.size + 1) 27 [.int .i64 0, .int .i64 0, .int .i64 0, .slice none 0 0, .int .i64 0, .int .i64 0, .slice none 0 0, .slice none 0 0, .slice none 0 0] := by
    have := Blk.new (w2.alloc (.cells #[.int .i64 0, .int .i64 0, .int .i64 0, .slice none 0 0, .int .i64 0, .int .i64 0, .slice none 0 0, .slice none 0 0, .slice none 0 0, .slice none 0 0] 70)) 27 [.int .i64 0, .int .i64 0, .int .i64 0, .slice none 0 0, .int .i64 0, .int .i64 0, .slice none 0 0, .slice none 0 0, .slice none 0 0]
    simpa using this
  obtain ⟨gx, hgx⟩ : ∃ g, g = w2.heap.size + 1 := ⟨_, rfl⟩
  rw [← hgx] at hx0 ⊢
  obtain ⟨gs, hgs⟩ : ∃ g, g = w2.heap.size := ⟨_, rfl⟩
  rw [← hgs] at hs0 ⊢
  obtain ⟨Y, hY⟩ : ∃ Y, Y = ((w2.alloc (.cells #[.int .i64 0, .int .i64 0, .int .i64 0, .slice none 0 0, .int .i64 0, .int .i64 0, .slice none 0 0, .slice none 0 0, .slice none 0 0, .slice none 0 0] 70)).alloc (.cells #[.int .i64 0, .int .i64 0, .int .i64 0, .slice none 0 0, .int .i64 0, .int .i64 0, .slice none 0 0, .slice none 0 0, .slice none 0 0] 27)) := ⟨_, rfl⟩
  rw [← hY] at hbz hs0 hx0 ⊢
  have hgisz := (HI.out.up hb2).lt
  have hgis : gi < gs := by omega
  have hgsx : gs < gx := by omega
  have hgw : w.heap.size + 2 < gi := by omega
  have HU1 := Lib.hid ((HY1.out.up hb2).up hbz)
  have HU2 := Lib.hid ((HY2.out.up hb2).up hbz)
  have HU3 := Lib.hid ((HY3.out.up hb2).up hbz)
  have HUi := Lib.hid ((HI.out.up hb2).up hbz)
  have HUs := Lib.hid hs0
  have HUx := Lib.hid hx0
  have HOI := Lib.hid ((HOi.out.up hb2).up hbz)
  have hbU := bel_trans (bel_trans hbY hb2) hbz
  clear hY hgx hgs hs0 hx0 hbz hgisz hgiE hzX HY1 HY2 HY3 HI HOi hbY hb2
  have hbB : Below Y.heap.size Y (Y.alloc (.cells #[.int .i64 0, .int .i64 0, .slice none 0 0] 43)) := by (repeat (first | (with_reducible exact Below.refl _ _) | (with_reducible assumption) | (with_reducible apply bel_alloc) | (with_reducible apply bel_drew) | (with_reducible apply bel_drewN) | (with_reducible refine bel_trans ?_ (by with_reducible assumption)) | (with_reducible refine bel_trans ?_ (HF.out _)) | (with_reducible refine bel_set ?_ (by simp) _) | (with_reducible refine bel_set ?_ (by simp; omega) _) | (with_reducible refine bel_set ?_ (by omega) _)))
  have hNB : Blk (Y.alloc (.cells #[.int .i64 0, .int .i64 0, .slice none 0 0] 43)) Y.heap.size 43 [.int .i64 0, .int .i64 0, .slice none 0 0] := Blk.new Y 43 [.int .i64 0, .int .i64 0, .slice none 0 0]
  cases z
  · have e1 : mkE D = 1 := by unfold mkE; rw [if_neg (by rw [hz]; simp)]
    have e2 : mkB D = noB := by unfold mkB; rw [if_neg (by rw [hz]; simp)]
    have hNil : TxsR (Y.alloc (.cells #[.int .i64 0, .int .i64 0, .slice none 0 0] 43)) none 0 [] := ⟨rfl, by simp [flat], by omega, fun h => absurd h (by omega)⟩
    have HB0 : Blk (Y.alloc (.cells #[.int .i64 0, .int .i64 0, .slice none 0 0] 43)) Y.heap.size 43 [.int .i64 (mkB D).au, .int .i64 (mkB D).n, .slice none 0 0] := by rw [e2]; exact hNB
    have HBT0 : TxsR (Y.alloc (.cells #[.int .i64 0, .int .i64 0, .slice none 0 0] 43)) none 0 (mkB D).tx := by rw [e2]; exact hNil
    have HE1 := Lib.hid e1
    clear e1 e2 hz hNB hNil
    go_upto_region 19 with fail
    obtain ⟨gb, hgb⟩ : ∃ g, g = Y.heap.size := ⟨_, rfl⟩
    obtain ⟨Yc, hYc⟩ : ∃ Z, Z = (Y.alloc (.cells #[.int .i64 0, .int .i64 0, .slice none 0 0] 43)) := ⟨_, rfl⟩
    rw [← hYc, ← hgb]
    rw [← hYc, ← hgb] at HB0
    rw [← hYc] at HBT0 hbB
    clear hYc hgb
    have HB := Lib.hid HB0
    have HBT := Lib.hid HBT0
    clear HB0 HBT0
    have HV1 := Lib.hid (HU1.out.up hbB)
    have HV3 := Lib.hid (HU3.out.up hbB)
    have HVi := Lib.hid (HUi.out.up hbB)
    have HP := Lib.hid (H.out.up (bel_trans hbU hbB))
    have HPi := Lib.hid ((HOI.out.up hbB).work HS.out)
    have hbV := bel_trans hbU hbB
    clear HU1 HU2 HU3 HUi HUs HUx HOI
    have hV1 := HV1.out
    have l1 := hV1.lt
    have hVi := HVi.out
    have li := hVi.lt
    have i_0 := (hVi.box).2 0 _ rfl; have i_1 := (hVi.box).2 1 _ rfl; have i_2 := (hVi.box).2 2 _ rfl; have i_3 := (hVi.box).2 3 _ rfl; have i_4 := (hVi.box).2 4 _ rfl; have i_5 := (hVi.box).2 5 _ rfl; have i_6 := (hVi.box).2 6 _ rfl; have i_7 := (hVi.box).2 7 _ rfl; have i_8 := (hVi.box).2 8 _ rfl
    have lb := HB.out.lt
    clear hVi hV1
    go_upto_region 20 with (go_at_call 42; refine (worker_Make Pi D _ HPi.out HON.out).mono ?_; rintro e wm ⟨v, rfl, ho, hbm⟩; obtain ⟨yA, yc, rfl, hy1, hy2, hy3⟩ := ho.txs (Nat.le_trans HBL.out (by decide)); have HY1 := Lib.hid ho; have HY2 := Lib.hid hy1; clear ho hy1)
    obtain ⟨yn, hyn⟩ : ∃ n, (mkB D).tx.length = n := ⟨_, rfl⟩
    have hyl : yn ≤ 1000000 := by rw [← hyn]; exact HBL.out
    rw [hyn] at HY1 HY2 hy2 ⊢
    have HYB : Hid (Blk (wm.alloc (.cells #[.int .i64 (mkB D).au, .int .i64 (mkB D).n, .slice yA yn yc] 43)) wm.heap.size 43 [.int .i64 (mkB D).au, .int .i64 (mkB D).n, .slice yA yn yc]) := Lib.hid (Blk.new wm 43 [.int .i64 (mkB D).au, .int .i64 (mkB D).n, .slice yA yn yc])
    have hba : Below wm.heap.size wm (wm.alloc (.cells #[.int .i64 (mkB D).au, .int .i64 (mkB D).n, .slice yA yn yc] 43)) := by (repeat (first | (with_reducible exact Below.refl _ _) | (with_reducible assumption) | (with_reducible apply bel_alloc) | (with_reducible apply bel_drew) | (with_reducible apply bel_drewN) | (with_reducible refine bel_trans ?_ (by with_reducible assumption)) | (with_reducible refine bel_trans ?_ (HF.out _)) | (with_reducible refine bel_set ?_ (by simp) _) | (with_reducible refine bel_set ?_ (by simp; omega) _) | (with_reducible refine bel_set ?_ (by omega) _)))
    have hbd : Below Yc.heap.size Yc (wm.alloc (.cells #[.int .i64 (mkB D).au, .int .i64 (mkB D).n, .slice yA yn yc] 43)) := bel_trans hbm hba
    obtain ⟨gy, hgy⟩ : ∃ g, g = wm.heap.size := ⟨_, rfl⟩
    obtain ⟨Yd, hYd⟩ : ∃ Y, Y = (wm.alloc (.cells #[.int .i64 (mkB D).au, .int .i64 (mkB D).n, .slice yA yn yc] 43)) := ⟨_, rfl⟩
    rw [← hYd, ← hgy] at HYB
    rw [← hYd] at hbd hba
    rw [← hYd, ← hgy]
    have HYT := Lib.hid (HY1.out.up hba)
    have HYX := Lib.hid (HY2.out.up hba)
    clear hYd hgy HY1 HY2 i_0 i_1 i_2 i_3 i_4 i_5 i_6 i_7 i_8
    have HB2 := Lib.hid (HB.out.up hbd)
    have HBX := Lib.hid (HBT.out.up hbd)
    have b_0 := (HB2.out.box).2 0 _ rfl; have b_1 := (HB2.out.box).2 1 _ rfl; have b_2 := (HB2.out.box).2 2 _ rfl
    have y_0 := (HYB.out.box).2 0 _ rfl; have y_1 := (HYB.out.box).2 1 _ rfl; have y_2 := (HYB.out.box).2 2 _ rfl
    have lb2 := HB2.out.lt
    have ly2 := HYB.out.lt
    have hyy : (mkE D == 1) = true := by rw [HE1.out]; rfl
    go_upto_region 21 with (first
      | (go_at_call 19; refine (law13_num _ _).mono ?_; rintro e w' ⟨rfl, rfl⟩)
      | (go_at_call 43; refine (ref0_EqBatch (mkB D) _ _ _ _ _ _ _ HYX.out HBX.out).mono ?_; rintro e wa ⟨rfl, hwa⟩; have hbwa := bel_trans hbd hwa; have hi2 := HVi.out.up hbwa; have hw2 := HV1.out.up hbwa; have li2 := hi2.lt; have lw2 := hw2.lt; have i_0 := (hi2.box).2 0 _ rfl; have i_1 := (hi2.box).2 1 _ rfl; have i_2 := (hi2.box).2 2 _ rfl; have i_3 := (hi2.box).2 3 _ rfl; have i_4 := (hi2.box).2 4 _ rfl; have i_5 := (hi2.box).2 5 _ rfl; have i_6 := (hi2.box).2 6 _ rfl; have i_7 := (hi2.box).2 7 _ rfl; have i_8 := (hi2.box).2 8 _ rfl; have w_0 := (hw2.box).2 0 _ rfl; have w_1 := (hw2.box).2 1 _ rfl; have w_2 := (hw2.box).2 2 _ rfl; have w_3 := (hw2.box).2 3 _ rfl; have w_4 := (hw2.box).2 4 _ rfl; have w_5 := (hw2.box).2 5 _ rfl; have w_6 := (hw2.box).2 6 _ rfl; have w_7 := (hw2.box).2 7 _ rfl; have w_8 := (hw2.box).2 8 _ rfl; clear hi2 hw2)
      | (go_at_call 44; refine (ref0_EqWorker Pi P D _ (HPi.out.up hbwa) (HP.out.up hbwa)).mono ?_; rintro e wb ⟨rfl, hwb⟩))
    have hbwb := bel_trans hwa hwb
    have HYB3 := Lib.hid (HYB.out.up hbwb)
    have HYT3 := Lib.hid (HYT.out.up hbwb)
    have hbc := bel_trans hbd hbwb
    have ly3 := HYB3.out.lt
    have y_3 := HYB3.out.box.2 2 _ rfl
    have hYs := hbc.size
    clear b_0 b_1 b_2 y_0 y_1 y_2 i_0 i_1 i_2 i_3 i_4 i_5 i_6 i_7 i_8 w_0 w_1 w_2 w_3 w_4 w_5 w_6 w_7 w_8 lb2 ly2
    go_upto_region 22 with (go_at_call 45; refine (law0_TxsS ⟨yA, yn, yc⟩ Yc.heap.size _ (own_rowT (show World.ownsRow _ Yc.heap.size 41 4 (SlP.v ⟨yA, yn, yc⟩) _ _ from HYT3.out)) hyl hYs).mono ?_; rintro e Wt ⟨rfl, hbt, hkt⟩)
    have hbW : Below Yc.heap.size Yc Wt := hbc.trans hbt
    have HT1 := Lib.hid (HV1.out.up hbW)
    have HTi := Lib.hid (HVi.out.up hbW)
    obtain ⟨gr, hgr⟩ : ∃ g, g = w.heap.size + 1 + 1 := ⟨_, rfl⟩
    have HT3 : Hid (Blk Wt gr 27 [.int .i64 0, .int .i64 0, .int .i64 0, .slice none 0 0, .int .i64 0, .int .i64 0, .slice none 0 0, .slice none 0 0, .slice none 0 0]) := Lib.hid (by rw [hgr]; exact HV3.out.up hbW)
    have hgw0 : w.heap.size ≠ gr := by omega
    have hgi0 : gi ≠ gr := by omega
    have hgrw : w.heap.size ≤ gr := by omega
    first | rw [← hgr] | (rw [show w.heap.size + 1 + 1 = w.heap.size + 2 from rfl] at hgr; rw [← hgr])
    clear hgr
    have HTP := Lib.hid (HP.out.up hbW)
    have HTI := Lib.hid (HPi.out.up hbW)
    have HTB := Lib.hid (bel_trans hbV hbW)
    clear hbW hbt hkt hbc hbwb hwa hwb hbwa hbd hba hbm y_3 ly3 hYs HYB3 HYT3 HYB HYT HYX HB2
    obtain ⟨S', hSd⟩ : ∃ S : World → Prop, S = fun Q => Blk Q w.heap.size 27 [.int .i64 D.id, .int .i64 D.nodes, .int .i64 D.next, .slice P.op.A P.op.n P.op.c, .int .i64 D.age, .int .i64 D.clock, .slice P.wa.A P.wa.n P.wa.c, .slice P.he.A P.he.n P.he.c, .slice P.re.A P.re.n P.re.c] ∧ Blk Q gi 27 [.int .i64 D.id, .int .i64 D.nodes, .int .i64 D.next, .slice Pi.op.A Pi.op.n Pi.op.c, .int .i64 D.age, .int .i64 D.clock, .slice Pi.wa.A Pi.wa.n Pi.wa.c, .slice Pi.he.A Pi.he.n Pi.he.c, .slice Pi.re.A Pi.re.n Pi.re.c] := ⟨_, rfl⟩
    have hSb : ∀ Q, Below Wt.heap.size Wt Q → S' Q := fun Q hQ => by rw [hSd]; exact ⟨HT1.out.up hQ, HTi.out.up hQ⟩
    have hSr : ∀ Q, S' Q → ∀ (a0 a1 a2 a3 a4 a5 a6 a7 a8 : Value), S' (((((((((Q.setCell ⟨gr, 0, none⟩ a0).setCell ⟨gr, 1, none⟩ a1).setCell ⟨gr, 2, none⟩ a2).setCell ⟨gr, 3, none⟩ a3).setCell ⟨gr, 4, none⟩ a4).setCell ⟨gr, 5, none⟩ a5).setCell ⟨gr, 6, none⟩ a6).setCell ⟨gr, 7, none⟩ a7).setCell ⟨gr, 8, none⟩ a8) := fun Q h a0 a1 a2 a3 a4 a5 a6 a7 a8 => by rw [hSd] at h ⊢; exact ⟨h.1.sets9 hgw0 a0 a1 a2 a3 a4 a5 a6 a7 a8, h.2.sets9 hgi0 a0 a1 a2 a3 a4 a5 a6 a7 a8⟩
    have hS3 : ∀ Q, S' Q → Q.rangeAt gi 0 [.int .i64 D.id, .int .i64 D.nodes, .int .i64 D.next, .slice Pi.op.A Pi.op.n Pi.op.c, .int .i64 D.age, .int .i64 D.clock, .slice Pi.wa.A Pi.wa.n Pi.wa.c, .slice Pi.he.A Pi.he.n Pi.he.c, .slice Pi.re.A Pi.re.n Pi.re.c] := fun Q h => by rw [hSd] at h; exact fun j u hu => by (rw [Nat.zero_add]); exact (h.2).box.2 j u hu
    have hS4 : ∀ Q, S' Q → Q.rangeAt w.heap.size 0 [.int .i64 D.id, .int .i64 D.nodes, .int .i64 D.next, .slice P.op.A P.op.n P.op.c, .int .i64 D.age, .int .i64 D.clock, .slice P.wa.A P.wa.n P.wa.c, .slice P.he.A P.he.n P.he.c, .slice P.re.A P.re.n P.re.c] := fun Q h => by rw [hSd] at h; exact fun j u hu => by (rw [Nat.zero_add]); exact (h.1).box.2 j u hu
    clear hSd
    refine wp_region_held_drew (S := S') (by kernel_rfl) (hSb _ (bel_drew (Below.refl _ _))) (fun hHeld => ?_)
    have hbZ : Below Wt.heap.size Wt Wt.drew := bel_drew (Below.refl _ _)
    have hZ := hHeld
    generalize Wt.drew = Z' at *
    refine wpAnyH_takeD (i := 0) (d := (some 94)) (v := .agg ([.int .i64 D.id, .int .i64 D.nodes, .int .i64 D.next, .slice P.op.A P.op.n P.op.c, .int .i64 D.age, .int .i64 D.clock, .slice P.wa.A P.wa.n P.wa.c, .slice P.he.A P.he.n P.he.c, .slice P.re.A P.re.n P.re.c]).toArray) rfl rfl (by kernel_rfl) (by kernel_rfl) (by kernel_rfl) (fun _ _ _ h => h) (yieldsIf_load_mid (by rfl) 27 _ rfl w.heap.size 0 (by simp [Act.eval, Act.put]) ([.int .i64 D.id, .int .i64 D.nodes, .int .i64 D.next, .slice P.op.A P.op.n P.op.c, .int .i64 D.age, .int .i64 D.clock, .slice P.wa.A P.wa.n P.wa.c, .slice P.he.A P.he.n P.he.c, .slice P.re.A P.re.n P.re.c]) _ (hS4) Tryz.underlying27 (by rfl) (by kernel_rfl)) (by assumption) ?_
    simp only [Act.put, List.setIfInBounds_toArray, List.set_cons_zero, List.set_cons_succ]
    (refine wpAnyH_takeD (i := 1) (d := (some 95)) (v := ?_) rfl rfl (by kernel_rfl) (by kernel_rfl) (by kernel_rfl) (fun _ _ _ h => h) (Or.inl ⟨by rfl, ?_⟩) (by assumption) ?_)
    rotate_left
    focus
      intro wq hSw
      skip
      clear hSw
      go_simp
      all_goals (with_reducible rfl)
    simp only [Act.put, List.setIfInBounds_toArray, List.set_cons_zero, List.set_cons_succ]
    (refine wpAnyH_takeD (i := 2) (d := (some 96)) (v := ?_) rfl rfl (by kernel_rfl) (by kernel_rfl) (by kernel_rfl) (fun _ _ _ h => h) (Or.inl ⟨by rfl, ?_⟩) (by assumption) ?_)
    rotate_left
    focus
      intro wq hSw
      skip
      clear hSw
      go_simp
      all_goals (with_reducible rfl)
    simp only [Act.put, List.setIfInBounds_toArray, List.set_cons_zero, List.set_cons_succ]
    refine wpAnyH_takeD (i := 3) (d := (some 97)) (v := .agg ([.int .i64 D.id, .int .i64 D.nodes, .int .i64 D.next, .slice Pi.op.A Pi.op.n Pi.op.c, .int .i64 D.age, .int .i64 D.clock, .slice Pi.wa.A Pi.wa.n Pi.wa.c, .slice Pi.he.A Pi.he.n Pi.he.c, .slice Pi.re.A Pi.re.n Pi.re.c]).toArray) rfl rfl (by kernel_rfl) (by kernel_rfl) (by kernel_rfl) (fun _ _ _ h => h) (yieldsIf_load_mid (by rfl) 27 _ rfl gi 0 (by simp [Act.eval, Act.put]) ([.int .i64 D.id, .int .i64 D.nodes, .int .i64 D.next, .slice Pi.op.A Pi.op.n Pi.op.c, .int .i64 D.age, .int .i64 D.clock, .slice Pi.wa.A Pi.wa.n Pi.wa.c, .slice Pi.he.A Pi.he.n Pi.he.c, .slice Pi.re.A Pi.re.n Pi.re.c]) _ (hS3) Tryz.underlying27 (by rfl) (by kernel_rfl)) (by assumption) ?_
    simp only [Act.put, List.setIfInBounds_toArray, List.set_cons_zero, List.set_cons_succ]
    refine wpAnyH_takeD (i := 4) (d := (some 98)) (v := .agg ([.int .i64 D.id, .int .i64 D.nodes, .int .i64 D.next, .slice P.op.A P.op.n P.op.c, .int .i64 D.age, .int .i64 D.clock, .slice P.wa.A P.wa.n P.wa.c, .slice P.he.A P.he.n P.he.c, .slice P.re.A P.re.n P.re.c]).toArray) rfl rfl (by kernel_rfl) (by kernel_rfl) (by kernel_rfl) (fun _ _ _ h => h) (yieldsIf_load_mid (by rfl) 27 _ rfl w.heap.size 0 (by simp [Act.eval, Act.put]) ([.int .i64 D.id, .int .i64 D.nodes, .int .i64 D.next, .slice P.op.A P.op.n P.op.c, .int .i64 D.age, .int .i64 D.clock, .slice P.wa.A P.wa.n P.wa.c, .slice P.he.A P.he.n P.he.c, .slice P.re.A P.re.n P.re.c]) _ (hS4) Tryz.underlying27 (by rfl) (by kernel_rfl)) (by assumption) ?_
    simp only [Act.put, List.setIfInBounds_toArray, List.set_cons_zero, List.set_cons_succ]
    refine wpAnyH_ready (rs := [5]) (by kernel_rfl) (by simp) ?_
    refine AllReadyH.cons (o := _) rfl (fun K hK => ?_) AllReadyH.nil
    go_simp
    (go_at_call 44; refine (ref0_EqWorker Pi P D _ (HTI.out.up hbZ) (HTP.out.up hbZ)).mono ?_; rintro e we ⟨rfl, hwe⟩)
    have hbe : Below Wt.heap.size Wt we := bel_trans hbZ hwe
    refine hK.out _ _ (hSb _ hbe) (fun hHeld => ?_)
    clear hK K
    (try simp only [Act.put, List.setIfInBounds_toArray, List.set_cons_zero, List.set_cons_succ])
    (refine wpAnyH_takeD (i := 6) (d := (some 100)) (v := ?_) rfl rfl (by kernel_rfl) (by kernel_rfl) (by kernel_rfl) (fun _ _ _ h => h) (Or.inl ⟨by rfl, ?_⟩) (by assumption) ?_)
    rotate_left
    focus
      intro wq hSw
      skip
      clear hSw
      go_simp
      all_goals (with_reducible rfl)
    simp only [Act.put, List.setIfInBounds_toArray, List.set_cons_zero, List.set_cons_succ]
    refine wpAnyH_ready (rs := [7]) (by kernel_rfl) (by simp) ?_
    refine AllReadyH.cons (o := _) rfl (fun K hK => ?_) AllReadyH.nil
    have hR := HT3.out.up hbe
    have qf := hR.frozen
    have ql := hR.lt
    have h9 := hR.box
    have q0 := h9.2 0 _ rfl
    have q1 := h9.2 1 _ rfl
    have q2 := h9.2 2 _ rfl
    have q3 := h9.2 3 _ rfl
    have q4 := h9.2 4 _ rfl
    have q5 := h9.2 5 _ rfl
    have q6 := h9.2 6 _ rfl
    have q7 := h9.2 7 _ rfl
    have q8 := h9.2 8 _ rfl
    clear h9
    go_simp
    clear qf ql q0 q1 q2 q3 q4 q5 q6 q7 q8
    have hR9 := set9 hR rfl (.int .i64 D.id) (.int .i64 D.nodes) (.int .i64 D.next) (.slice P.op.A P.op.n P.op.c) (.int .i64 D.age) (.int .i64 D.clock) (.slice P.wa.A P.wa.n P.wa.c) (.slice P.he.A P.he.n P.he.c) (.slice P.re.A P.re.n P.re.c)
    have hse := hSb _ hbe
    refine hK.out _ _ (hSr _ hse (.int .i64 D.id) (.int .i64 D.nodes) (.int .i64 D.next) (.slice P.op.A P.op.n P.op.c) (.int .i64 D.age) (.int .i64 D.clock) (.slice P.wa.A P.wa.n P.wa.c) (.slice P.he.A P.he.n P.he.c) (.slice P.re.A P.re.n P.re.c)) (fun hHeld => ?_)
    clear hK K
    (try simp only [Act.put, List.setIfInBounds_toArray, List.set_cons_zero, List.set_cons_succ])
    (refine wpAnyH_takeD (i := 8) (d := (some 5)) (v := ?_) rfl rfl (by kernel_rfl) (by kernel_rfl) (by kernel_rfl) (fun _ _ _ h => h) (Or.inl ⟨by rfl, ?_⟩) (by assumption) ?_)
    rotate_left
    focus
      intro wq hSw
      skip
      clear hSw
      go_simp
      all_goals (with_reducible rfl)
    simp only [Act.put, List.setIfInBounds_toArray, List.set_cons_zero, List.set_cons_succ]
    refine wpAnyH_done (by kernel_rfl) ?_ _
    have r_0 := (hR9.box).2 0 _ rfl; have r_1 := (hR9.box).2 1 _ rfl; have r_2 := (hR9.box).2 2 _ rfl; have r_3 := (hR9.box).2 3 _ rfl; have r_4 := (hR9.box).2 4 _ rfl; have r_5 := (hR9.box).2 5 _ rfl; have r_6 := (hR9.box).2 6 _ rfl; have r_7 := (hR9.box).2 7 _ rfl; have r_8 := (hR9.box).2 8 _ rfl
    have hbw := belw_sets9 (g := gr) (bel_trans HTB.out hbe) hgrw (.int .i64 D.id) (.int .i64 D.nodes) (.int .i64 D.next) (.slice P.op.A P.op.n P.op.c) (.int .i64 D.age) (.int .i64 D.clock) (.slice P.wa.A P.wa.n P.wa.c) (.slice P.he.A P.he.n P.he.c) (.slice P.re.A P.re.n P.re.c)
    have HBW := Lib.hid hbw
    clear hbw hR9
    go_wp2_with fail
    exact bodyPost_ret (v := .tuple #[.agg #[.int .i64 D.id, .int .i64 D.nodes, .int .i64 D.next, .slice P.op.A P.op.n P.op.c, .int .i64 D.age, .int .i64 D.clock, .slice P.wa.A P.wa.n P.wa.c, .slice P.he.A P.he.n P.he.c, .slice P.re.A P.re.n P.re.c], .bool true]) (by simp [results, Tryz.results21, go_sem, r_0, r_1, r_2, r_3, r_4, r_5, r_6, r_7, r_8]) rfl ⟨⟨P, D, rfl⟩, HBW.out⟩
  · go_upto_region 18 with fail
    obtain ⟨gb, hgb⟩ : ∃ g, g = Y.heap.size := ⟨_, rfl⟩
    obtain ⟨Yb, hYb⟩ : ∃ Z, Z = (Y.alloc (.cells #[.int .i64 0, .int .i64 0, .slice none 0 0] 43)) := ⟨_, rfl⟩
    rw [← hYb, ← hgb]
    rw [← hYb, ← hgb] at hNB
    rw [← hYb] at hbB
    have hgb0 : Y.heap.size ≤ gb := by omega
    have hgbs := hNB.lt
    clear hYb hgb
    have HNB := Lib.hid hNB
    have HPb := Lib.hid (H.out.up (bel_trans hbU hbB))
    have hw1 := HU1.out.up hbB
    have lw1 := hw1.lt
    have w_0 := (hw1.box).2 0 _ rfl; have w_1 := (hw1.box).2 1 _ rfl; have w_2 := (hw1.box).2 2 _ rfl; have w_3 := (hw1.box).2 3 _ rfl; have w_4 := (hw1.box).2 4 _ rfl; have w_5 := (hw1.box).2 5 _ rfl; have w_6 := (hw1.box).2 6 _ rfl; have w_7 := (hw1.box).2 7 _ rfl; have w_8 := (hw1.box).2 8 _ rfl
    clear hNB hw1 hz
    go_upto_region 19 with (go_at_call 41; refine (ref13_Make' P D _ HPb.out HON.out HZ.out).mono ?_; rintro e wk ⟨v, rfl, ho, hbk⟩; obtain ⟨bA, bc, rfl, hq1, hq2, hq3⟩ := ho.txs (Nat.le_trans HBL.out (by decide)); have hNk := HNB.out.up hbk; have fk := hNk.frozen; have lk := hNk.lt; have b_0 := (hNk.box).2 0 _ rfl; have b_1 := (hNk.box).2 1 _ rfl; have b_2 := (hNk.box).2 2 _ rfl; have HNK := Lib.hid hNk; have HOK := Lib.hid ho; clear hNk ho hq1 hq2 hq3)
    obtain ⟨bn, hbn⟩ : ∃ n, (mkB D).tx.length = n := ⟨_, rfl⟩
    rw [hbn] at HOK ⊢
    have hK0 := ((HNK.out.set_ 0 (.int .i64 (mkB D).au)).set_ 1 (.int .i64 (mkB D).n)).set_ 2 (.slice bA bn bc)
    have hO0 := ((HOK.out.set3 (o := 0) hgbs (.int .i64 (mkB D).au)).set3 (o := 1) hgbs (.int .i64 (mkB D).n)).set3 (o := 2) hgbs (.slice bA bn bc)
    have hbK := (((hbB.trans (hbk.mono hbB.size)).setCell (p := ⟨gb, 0, none⟩) hgb0 (.int .i64 (mkB D).au)).setCell (p := ⟨gb, 1, none⟩) hgb0 (.int .i64 (mkB D).n)).setCell (p := ⟨gb, 2, none⟩) hgb0 (.slice bA bn bc)
    obtain ⟨Yc, hYc⟩ : ∃ Z, Z = (((wk.setCell ⟨gb, 0, none⟩ (.int .i64 (mkB D).au)).setCell ⟨gb, 1, none⟩ (.int .i64 (mkB D).n)).setCell ⟨gb, 2, none⟩ (.slice bA bn bc)) := ⟨_, rfl⟩
    rw [← hYc] at hK0 hO0 hbK ⊢
    clear hYc
    have HB : Hid (Blk Yc gb 43 [.int .i64 (mkB D).au, .int .i64 (mkB D).n, .slice bA bn bc]) := Lib.hid hK0
    have HBT : Hid (TxsR Yc bA bn (mkB D).tx) := Lib.hid (by
      obtain ⟨A2, c2, e2, ht, _⟩ := hO0.txs (Nat.le_trans HBL.out (by decide))
      rw [hbn] at e2 ht
      injection e2 with e3 e4 e5
      rw [e3]; exact ht)
    clear hbn hK0 hO0 b_0 b_1 b_2 w_0 w_1 w_2 w_3 w_4 w_5 w_6 w_7 w_8 fk lk lw1 HNB HNK HOK hbk hbB
    have HV1 := Lib.hid (HU1.out.up hbK)
    have HV3 := Lib.hid (HU3.out.up hbK)
    have HVi := Lib.hid (HUi.out.up hbK)
    have HP := Lib.hid (H.out.up (bel_trans hbU hbK))
    have HPi := Lib.hid ((HOI.out.up hbK).work HS.out)
    have hbV := bel_trans hbU hbK
    clear HU1 HU2 HU3 HUi HUs HUx HOI
    have hV1 := HV1.out
    have l1 := hV1.lt
    have hVi := HVi.out
    have li := hVi.lt
    have i_0 := (hVi.box).2 0 _ rfl; have i_1 := (hVi.box).2 1 _ rfl; have i_2 := (hVi.box).2 2 _ rfl; have i_3 := (hVi.box).2 3 _ rfl; have i_4 := (hVi.box).2 4 _ rfl; have i_5 := (hVi.box).2 5 _ rfl; have i_6 := (hVi.box).2 6 _ rfl; have i_7 := (hVi.box).2 7 _ rfl; have i_8 := (hVi.box).2 8 _ rfl
    have lb := HB.out.lt
    clear hVi hV1
    go_upto_region 20 with (go_at_call 42; refine (worker_Make Pi D _ HPi.out HON.out).mono ?_; rintro e wm ⟨v, rfl, ho, hbm⟩; obtain ⟨yA, yc, rfl, hy1, hy2, hy3⟩ := ho.txs (Nat.le_trans HBL.out (by decide)); have HY1 := Lib.hid ho; have HY2 := Lib.hid hy1; clear ho hy1)
    obtain ⟨yn, hyn⟩ : ∃ n, (mkB D).tx.length = n := ⟨_, rfl⟩
    have hyl : yn ≤ 1000000 := by rw [← hyn]; exact HBL.out
    rw [hyn] at HY1 HY2 hy2 ⊢
    have HYB : Hid (Blk (wm.alloc (.cells #[.int .i64 (mkB D).au, .int .i64 (mkB D).n, .slice yA yn yc] 43)) wm.heap.size 43 [.int .i64 (mkB D).au, .int .i64 (mkB D).n, .slice yA yn yc]) := Lib.hid (Blk.new wm 43 [.int .i64 (mkB D).au, .int .i64 (mkB D).n, .slice yA yn yc])
    have hba : Below wm.heap.size wm (wm.alloc (.cells #[.int .i64 (mkB D).au, .int .i64 (mkB D).n, .slice yA yn yc] 43)) := by (repeat (first | (with_reducible exact Below.refl _ _) | (with_reducible assumption) | (with_reducible apply bel_alloc) | (with_reducible apply bel_drew) | (with_reducible apply bel_drewN) | (with_reducible refine bel_trans ?_ (by with_reducible assumption)) | (with_reducible refine bel_trans ?_ (HF.out _)) | (with_reducible refine bel_set ?_ (by simp) _) | (with_reducible refine bel_set ?_ (by simp; omega) _) | (with_reducible refine bel_set ?_ (by omega) _)))
    have hbd : Below Yc.heap.size Yc (wm.alloc (.cells #[.int .i64 (mkB D).au, .int .i64 (mkB D).n, .slice yA yn yc] 43)) := bel_trans hbm hba
    obtain ⟨gy, hgy⟩ : ∃ g, g = wm.heap.size := ⟨_, rfl⟩
    obtain ⟨Yd, hYd⟩ : ∃ Y, Y = (wm.alloc (.cells #[.int .i64 (mkB D).au, .int .i64 (mkB D).n, .slice yA yn yc] 43)) := ⟨_, rfl⟩
    rw [← hYd, ← hgy] at HYB
    rw [← hYd] at hbd hba
    rw [← hYd, ← hgy]
    have HYT := Lib.hid (HY1.out.up hba)
    have HYX := Lib.hid (HY2.out.up hba)
    clear hYd hgy HY1 HY2 i_0 i_1 i_2 i_3 i_4 i_5 i_6 i_7 i_8
    have HB2 := Lib.hid (HB.out.up hbd)
    have HBX := Lib.hid (HBT.out.up hbd)
    have b_0 := (HB2.out.box).2 0 _ rfl; have b_1 := (HB2.out.box).2 1 _ rfl; have b_2 := (HB2.out.box).2 2 _ rfl
    have y_0 := (HYB.out.box).2 0 _ rfl; have y_1 := (HYB.out.box).2 1 _ rfl; have y_2 := (HYB.out.box).2 2 _ rfl
    have lb2 := HB2.out.lt
    have ly2 := HYB.out.lt
    have hyy : (mkE D == mkE D) = true := by simp
    go_upto_region 21 with (first
      | (go_at_call 19; refine (law13_num _ _).mono ?_; rintro e w' ⟨rfl, rfl⟩)
      | (go_at_call 43; refine (ref0_EqBatch (mkB D) _ _ _ _ _ _ _ HYX.out HBX.out).mono ?_; rintro e wa ⟨rfl, hwa⟩; have hbwa := bel_trans hbd hwa; have hi2 := HVi.out.up hbwa; have hw2 := HV1.out.up hbwa; have li2 := hi2.lt; have lw2 := hw2.lt; have i_0 := (hi2.box).2 0 _ rfl; have i_1 := (hi2.box).2 1 _ rfl; have i_2 := (hi2.box).2 2 _ rfl; have i_3 := (hi2.box).2 3 _ rfl; have i_4 := (hi2.box).2 4 _ rfl; have i_5 := (hi2.box).2 5 _ rfl; have i_6 := (hi2.box).2 6 _ rfl; have i_7 := (hi2.box).2 7 _ rfl; have i_8 := (hi2.box).2 8 _ rfl; have w_0 := (hw2.box).2 0 _ rfl; have w_1 := (hw2.box).2 1 _ rfl; have w_2 := (hw2.box).2 2 _ rfl; have w_3 := (hw2.box).2 3 _ rfl; have w_4 := (hw2.box).2 4 _ rfl; have w_5 := (hw2.box).2 5 _ rfl; have w_6 := (hw2.box).2 6 _ rfl; have w_7 := (hw2.box).2 7 _ rfl; have w_8 := (hw2.box).2 8 _ rfl; clear hi2 hw2)
      | (go_at_call 44; refine (ref0_EqWorker Pi P D _ (HPi.out.up hbwa) (HP.out.up hbwa)).mono ?_; rintro e wb ⟨rfl, hwb⟩))
    have hbwb := bel_trans hwa hwb
    have HYB3 := Lib.hid (HYB.out.up hbwb)
    have HYT3 := Lib.hid (HYT.out.up hbwb)
    have hbc := bel_trans hbd hbwb
    have ly3 := HYB3.out.lt
    have y_3 := HYB3.out.box.2 2 _ rfl
    have hYs := hbc.size
    clear b_0 b_1 b_2 y_0 y_1 y_2 i_0 i_1 i_2 i_3 i_4 i_5 i_6 i_7 i_8 w_0 w_1 w_2 w_3 w_4 w_5 w_6 w_7 w_8 lb2 ly2
    go_upto_region 22 with (go_at_call 45; refine (law0_TxsS ⟨yA, yn, yc⟩ Yc.heap.size _ (own_rowT (show World.ownsRow _ Yc.heap.size 41 4 (SlP.v ⟨yA, yn, yc⟩) _ _ from HYT3.out)) hyl hYs).mono ?_; rintro e Wt ⟨rfl, hbt, hkt⟩)
    have hbW : Below Yc.heap.size Yc Wt := hbc.trans hbt
    have HT1 := Lib.hid (HV1.out.up hbW)
    have HTi := Lib.hid (HVi.out.up hbW)
    obtain ⟨gr, hgr⟩ : ∃ g, g = w.heap.size + 1 + 1 := ⟨_, rfl⟩
    have HT3 : Hid (Blk Wt gr 27 [.int .i64 0, .int .i64 0, .int .i64 0, .slice none 0 0, .int .i64 0, .int .i64 0, .slice none 0 0, .slice none 0 0, .slice none 0 0]) := Lib.hid (by rw [hgr]; exact HV3.out.up hbW)
    have hgw0 : w.heap.size ≠ gr := by omega
    have hgi0 : gi ≠ gr := by omega
    have hgrw : w.heap.size ≤ gr := by omega
    first | rw [← hgr] | (rw [show w.heap.size + 1 + 1 = w.heap.size + 2 from rfl] at hgr; rw [← hgr])
    clear hgr
    have HTP := Lib.hid (HP.out.up hbW)
    have HTI := Lib.hid (HPi.out.up hbW)
    have HTB := Lib.hid (bel_trans hbV hbW)
    clear hbW hbt hkt hbc hbwb hwa hwb hbwa hbd hba hbm y_3 ly3 hYs HYB3 HYT3 HYB HYT HYX HB2
    obtain ⟨S', hSd⟩ : ∃ S : World → Prop, S = fun Q => Blk Q w.heap.size 27 [.int .i64 D.id, .int .i64 D.nodes, .int .i64 D.next, .slice P.op.A P.op.n P.op.c, .int .i64 D.age, .int .i64 D.clock, .slice P.wa.A P.wa.n P.wa.c, .slice P.he.A P.he.n P.he.c, .slice P.re.A P.re.n P.re.c] ∧ Blk Q gi 27 [.int .i64 D.id, .int .i64 D.nodes, .int .i64 D.next, .slice Pi.op.A Pi.op.n Pi.op.c, .int .i64 D.age, .int .i64 D.clock, .slice Pi.wa.A Pi.wa.n Pi.wa.c, .slice Pi.he.A Pi.he.n Pi.he.c, .slice Pi.re.A Pi.re.n Pi.re.c] := ⟨_, rfl⟩
    have hSb : ∀ Q, Below Wt.heap.size Wt Q → S' Q := fun Q hQ => by rw [hSd]; exact ⟨HT1.out.up hQ, HTi.out.up hQ⟩
    have hSr : ∀ Q, S' Q → ∀ (a0 a1 a2 a3 a4 a5 a6 a7 a8 : Value), S' (((((((((Q.setCell ⟨gr, 0, none⟩ a0).setCell ⟨gr, 1, none⟩ a1).setCell ⟨gr, 2, none⟩ a2).setCell ⟨gr, 3, none⟩ a3).setCell ⟨gr, 4, none⟩ a4).setCell ⟨gr, 5, none⟩ a5).setCell ⟨gr, 6, none⟩ a6).setCell ⟨gr, 7, none⟩ a7).setCell ⟨gr, 8, none⟩ a8) := fun Q h a0 a1 a2 a3 a4 a5 a6 a7 a8 => by rw [hSd] at h ⊢; exact ⟨h.1.sets9 hgw0 a0 a1 a2 a3 a4 a5 a6 a7 a8, h.2.sets9 hgi0 a0 a1 a2 a3 a4 a5 a6 a7 a8⟩
    have hS3 : ∀ Q, S' Q → Q.rangeAt gi 0 [.int .i64 D.id, .int .i64 D.nodes, .int .i64 D.next, .slice Pi.op.A Pi.op.n Pi.op.c, .int .i64 D.age, .int .i64 D.clock, .slice Pi.wa.A Pi.wa.n Pi.wa.c, .slice Pi.he.A Pi.he.n Pi.he.c, .slice Pi.re.A Pi.re.n Pi.re.c] := fun Q h => by rw [hSd] at h; exact fun j u hu => by (rw [Nat.zero_add]); exact (h.2).box.2 j u hu
    have hS4 : ∀ Q, S' Q → Q.rangeAt w.heap.size 0 [.int .i64 D.id, .int .i64 D.nodes, .int .i64 D.next, .slice P.op.A P.op.n P.op.c, .int .i64 D.age, .int .i64 D.clock, .slice P.wa.A P.wa.n P.wa.c, .slice P.he.A P.he.n P.he.c, .slice P.re.A P.re.n P.re.c] := fun Q h => by rw [hSd] at h; exact fun j u hu => by (rw [Nat.zero_add]); exact (h.1).box.2 j u hu
    clear hSd
    refine wp_region_held_drew (S := S') (by kernel_rfl) (hSb _ (bel_drew (Below.refl _ _))) (fun hHeld => ?_)
    have hbZ : Below Wt.heap.size Wt Wt.drew := bel_drew (Below.refl _ _)
    have hZ := hHeld
    generalize Wt.drew = Z' at *
    refine wpAnyH_takeD (i := 0) (d := (some 94)) (v := .agg ([.int .i64 D.id, .int .i64 D.nodes, .int .i64 D.next, .slice P.op.A P.op.n P.op.c, .int .i64 D.age, .int .i64 D.clock, .slice P.wa.A P.wa.n P.wa.c, .slice P.he.A P.he.n P.he.c, .slice P.re.A P.re.n P.re.c]).toArray) rfl rfl (by kernel_rfl) (by kernel_rfl) (by kernel_rfl) (fun _ _ _ h => h) (yieldsIf_load_mid (by rfl) 27 _ rfl w.heap.size 0 (by simp [Act.eval, Act.put]) ([.int .i64 D.id, .int .i64 D.nodes, .int .i64 D.next, .slice P.op.A P.op.n P.op.c, .int .i64 D.age, .int .i64 D.clock, .slice P.wa.A P.wa.n P.wa.c, .slice P.he.A P.he.n P.he.c, .slice P.re.A P.re.n P.re.c]) _ (hS4) Tryz.underlying27 (by rfl) (by kernel_rfl)) (by assumption) ?_
    simp only [Act.put, List.setIfInBounds_toArray, List.set_cons_zero, List.set_cons_succ]
    (refine wpAnyH_takeD (i := 1) (d := (some 95)) (v := ?_) rfl rfl (by kernel_rfl) (by kernel_rfl) (by kernel_rfl) (fun _ _ _ h => h) (Or.inl ⟨by rfl, ?_⟩) (by assumption) ?_)
    rotate_left
    focus
      intro wq hSw
      skip
      clear hSw
      go_simp
      all_goals (with_reducible rfl)
    simp only [Act.put, List.setIfInBounds_toArray, List.set_cons_zero, List.set_cons_succ]
    (refine wpAnyH_takeD (i := 2) (d := (some 96)) (v := ?_) rfl rfl (by kernel_rfl) (by kernel_rfl) (by kernel_rfl) (fun _ _ _ h => h) (Or.inl ⟨by rfl, ?_⟩) (by assumption) ?_)
    rotate_left
    focus
      intro wq hSw
      skip
      clear hSw
      go_simp
      all_goals (with_reducible rfl)
    simp only [Act.put, List.setIfInBounds_toArray, List.set_cons_zero, List.set_cons_succ]
    refine wpAnyH_takeD (i := 3) (d := (some 97)) (v := .agg ([.int .i64 D.id, .int .i64 D.nodes, .int .i64 D.next, .slice Pi.op.A Pi.op.n Pi.op.c, .int .i64 D.age, .int .i64 D.clock, .slice Pi.wa.A Pi.wa.n Pi.wa.c, .slice Pi.he.A Pi.he.n Pi.he.c, .slice Pi.re.A Pi.re.n Pi.re.c]).toArray) rfl rfl (by kernel_rfl) (by kernel_rfl) (by kernel_rfl) (fun _ _ _ h => h) (yieldsIf_load_mid (by rfl) 27 _ rfl gi 0 (by simp [Act.eval, Act.put]) ([.int .i64 D.id, .int .i64 D.nodes, .int .i64 D.next, .slice Pi.op.A Pi.op.n Pi.op.c, .int .i64 D.age, .int .i64 D.clock, .slice Pi.wa.A Pi.wa.n Pi.wa.c, .slice Pi.he.A Pi.he.n Pi.he.c, .slice Pi.re.A Pi.re.n Pi.re.c]) _ (hS3) Tryz.underlying27 (by rfl) (by kernel_rfl)) (by assumption) ?_
    simp only [Act.put, List.setIfInBounds_toArray, List.set_cons_zero, List.set_cons_succ]
    refine wpAnyH_takeD (i := 4) (d := (some 98)) (v := .agg ([.int .i64 D.id, .int .i64 D.nodes, .int .i64 D.next, .slice P.op.A P.op.n P.op.c, .int .i64 D.age, .int .i64 D.clock, .slice P.wa.A P.wa.n P.wa.c, .slice P.he.A P.he.n P.he.c, .slice P.re.A P.re.n P.re.c]).toArray) rfl rfl (by kernel_rfl) (by kernel_rfl) (by kernel_rfl) (fun _ _ _ h => h) (yieldsIf_load_mid (by rfl) 27 _ rfl w.heap.size 0 (by simp [Act.eval, Act.put]) ([.int .i64 D.id, .int .i64 D.nodes, .int .i64 D.next, .slice P.op.A P.op.n P.op.c, .int .i64 D.age, .int .i64 D.clock, .slice P.wa.A P.wa.n P.wa.c, .slice P.he.A P.he.n P.he.c, .slice P.re.A P.re.n P.re.c]) _ (hS4) Tryz.underlying27 (by rfl) (by kernel_rfl)) (by assumption) ?_
    simp only [Act.put, List.setIfInBounds_toArray, List.set_cons_zero, List.set_cons_succ]
    refine wpAnyH_ready (rs := [5]) (by kernel_rfl) (by simp) ?_
    refine AllReadyH.cons (o := _) rfl (fun K hK => ?_) AllReadyH.nil
    go_simp
    (go_at_call 44; refine (ref0_EqWorker Pi P D _ (HTI.out.up hbZ) (HTP.out.up hbZ)).mono ?_; rintro e we ⟨rfl, hwe⟩)
    have hbe : Below Wt.heap.size Wt we := bel_trans hbZ hwe
    refine hK.out _ _ (hSb _ hbe) (fun hHeld => ?_)
    clear hK K
    (try simp only [Act.put, List.setIfInBounds_toArray, List.set_cons_zero, List.set_cons_succ])
    (refine wpAnyH_takeD (i := 6) (d := (some 100)) (v := ?_) rfl rfl (by kernel_rfl) (by kernel_rfl) (by kernel_rfl) (fun _ _ _ h => h) (Or.inl ⟨by rfl, ?_⟩) (by assumption) ?_)
    rotate_left
    focus
      intro wq hSw
      skip
      clear hSw
      go_simp
      all_goals (with_reducible rfl)
    simp only [Act.put, List.setIfInBounds_toArray, List.set_cons_zero, List.set_cons_succ]
    refine wpAnyH_ready (rs := [7]) (by kernel_rfl) (by simp) ?_
    refine AllReadyH.cons (o := _) rfl (fun K hK => ?_) AllReadyH.nil
    have hR := HT3.out.up hbe
    have qf := hR.frozen
    have ql := hR.lt
    have h9 := hR.box
    have q0 := h9.2 0 _ rfl
    have q1 := h9.2 1 _ rfl
    have q2 := h9.2 2 _ rfl
    have q3 := h9.2 3 _ rfl
    have q4 := h9.2 4 _ rfl
    have q5 := h9.2 5 _ rfl
    have q6 := h9.2 6 _ rfl
    have q7 := h9.2 7 _ rfl
    have q8 := h9.2 8 _ rfl
    clear h9
    go_simp
    clear qf ql q0 q1 q2 q3 q4 q5 q6 q7 q8
    have hR9 := set9 hR rfl (.int .i64 D.id) (.int .i64 D.nodes) (.int .i64 D.next) (.slice P.op.A P.op.n P.op.c) (.int .i64 D.age) (.int .i64 D.clock) (.slice P.wa.A P.wa.n P.wa.c) (.slice P.he.A P.he.n P.he.c) (.slice P.re.A P.re.n P.re.c)
    have hse := hSb _ hbe
    refine hK.out _ _ (hSr _ hse (.int .i64 D.id) (.int .i64 D.nodes) (.int .i64 D.next) (.slice P.op.A P.op.n P.op.c) (.int .i64 D.age) (.int .i64 D.clock) (.slice P.wa.A P.wa.n P.wa.c) (.slice P.he.A P.he.n P.he.c) (.slice P.re.A P.re.n P.re.c)) (fun hHeld => ?_)
    clear hK K
    (try simp only [Act.put, List.setIfInBounds_toArray, List.set_cons_zero, List.set_cons_succ])
    (refine wpAnyH_takeD (i := 8) (d := (some 5)) (v := ?_) rfl rfl (by kernel_rfl) (by kernel_rfl) (by kernel_rfl) (fun _ _ _ h => h) (Or.inl ⟨by rfl, ?_⟩) (by assumption) ?_)
    rotate_left
    focus
      intro wq hSw
      skip
      clear hSw
      go_simp
      all_goals (with_reducible rfl)
    simp only [Act.put, List.setIfInBounds_toArray, List.set_cons_zero, List.set_cons_succ]
    refine wpAnyH_done (by kernel_rfl) ?_ _
    have r_0 := (hR9.box).2 0 _ rfl; have r_1 := (hR9.box).2 1 _ rfl; have r_2 := (hR9.box).2 2 _ rfl; have r_3 := (hR9.box).2 3 _ rfl; have r_4 := (hR9.box).2 4 _ rfl; have r_5 := (hR9.box).2 5 _ rfl; have r_6 := (hR9.box).2 6 _ rfl; have r_7 := (hR9.box).2 7 _ rfl; have r_8 := (hR9.box).2 8 _ rfl
    have hbw := belw_sets9 (g := gr) (bel_trans HTB.out hbe) hgrw (.int .i64 D.id) (.int .i64 D.nodes) (.int .i64 D.next) (.slice P.op.A P.op.n P.op.c) (.int .i64 D.age) (.int .i64 D.clock) (.slice P.wa.A P.wa.n P.wa.c) (.slice P.he.A P.he.n P.he.c) (.slice P.re.A P.re.n P.re.c)
    have HBW := Lib.hid hbw
    clear hbw hR9
    go_wp2_with fail
    exact bodyPost_ret (v := .tuple #[.agg #[.int .i64 D.id, .int .i64 D.nodes, .int .i64 D.next, .slice P.op.A P.op.n P.op.c, .int .i64 D.age, .int .i64 D.clock, .slice P.wa.A P.wa.n P.wa.c, .slice P.he.A P.he.n P.he.c, .slice P.re.A P.re.n P.re.c], .bool true]) (by simp [results, Tryz.results21, go_sem, r_0, r_1, r_2, r_3, r_4, r_5, r_6, r_7, r_8]) rfl ⟨⟨P, D, rfl⟩, HBW.out⟩
end Go.Proofs.YtgfakefcmbpboaaGreat
