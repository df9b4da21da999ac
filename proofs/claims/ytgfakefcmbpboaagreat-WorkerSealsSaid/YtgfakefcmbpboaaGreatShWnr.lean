/- A batch is not sealed: at the program, at the page. -/
import Derived.Test.YtgfakefcmbpboaaGreatShWma
import Derived.Test.YtgfakefcmbpboaaGreatShWtl
import Derived.Test.YtgfakefcmbpboaaGreatShWse
namespace Go.Proofs.YtgfakefcmbpboaaGreat
open Go.RowKit
set_option linter.unusedSimpArgs false
set_option linter.unusedVariables false

/-- Why a batch is not sealed. -/
noncomputable def sealE (D : WorkD) (d : Int) : Int := if nxE D ≠ 0 then nxE D else if digS d = false then 1 else if khasH D.he d = true then 4 else 0
theorem sealE_cases {D : WorkD} {d : Int} (h : sealE D d ≠ 0) : (∃ y, nxE D = y ∧ y ≠ 0 ∧ sealE D d = y) ∨ (nxE D = 0 ∧ digS d = false ∧ sealE D d = 1) ∨ (nxE D = 0 ∧ digS d = true ∧ khasH D.he d = true ∧ sealE D d = 4) := by
  unfold sealE at h ⊢
  by_cases h1 : nxE D = 0
  · rw [if_neg (by simpa using h1)] at h ⊢
    cases h2 : digS d
    · exact .inr (.inl ⟨h1, rfl, by rw [if_pos rfl]⟩)
    · rw [h2] at h
      rw [if_neg (by simp)] at h ⊢
      cases h3 : khasH D.he d
      · rw [h3, if_neg (by simp)] at h; exact absurd rfl h
      · exact .inr (.inr ⟨h1, rfl, rfl, by rw [if_pos rfl]⟩)
  · exact .inl ⟨_, rfl, h1, by rw [if_pos h1]⟩
theorem sealE_zero {D : WorkD} {d : Int} (h : sealE D d = 0) : nxE D = 0 ∧ digS d = true ∧ khasH D.he d = false := by
  unfold sealE at h
  by_cases h1 : nxE D = 0
  · rw [if_neg (by simpa using h1)] at h
    cases h2 : digS d
    · rw [h2, if_pos rfl] at h; cases h
    · rw [if_neg (by rw [h2]; simp)] at h
      cases h3 : khasH D.he d
      · exact ⟨h1, rfl, rfl⟩
      · rw [h3, if_pos rfl] at h; cases h
  · rw [if_pos h1] at h; exact absurd h h1
set_option maxRecDepth 100000 in
set_option maxHeartbeats 4000000 in
theorem worker_Seal_no (P : WorkP) (D : WorkD) (d : Int) (w : World) (h : WorkR w P D) (hs : BigD D) (hm : mayW D = true) (hE : sealE D d ≠ 0) :
    Calls Tryz.prog 88 #[P.val D, .int .i64 d] w fun e w' => e = .returned (.tuple #[zeroW, .slice none 0 0, .int .i64 (sealE D d)]) ∧ Below w.heap.size w w' := by
  have hM := mayW_iff.1 hm
  have H := Lib.hid h
  have HS := Lib.hid hs
  have HSH : Hid (SortedH D.he) := Lib.hid (hdB_iff.1 hM.2.2.2.2.2.2.2.2.2.2.1).sorted
  have HHL := Lib.hid hM.2.2.2.2.2.2.2.1
  clear h hs hm hM
  rcases sealE_cases hE with ⟨y, hy, hy0, he⟩ | ⟨hy, hd, he⟩ | ⟨hy, hd, hk, he⟩
  · rw [he]
    have HY := Lib.hid hy
    have hyy : (y != 0) = true := by simpa using hy0
    have HY0 := Lib.hid hy0
    clear hE hy he hy0
    show Calls Tryz.prog 88 #[.agg #[.int .i64 D.id, .int .i64 D.nodes, .int .i64 D.next, .slice P.op.A P.op.n P.op.c, .int .i64 D.age, .int .i64 D.clock, .slice P.wa.A P.wa.n P.wa.c, .slice P.he.A P.he.n P.he.c, .slice P.re.A P.re.n P.re.c], .int .i64 d] w _
    go_enter Tryz.func88, Tryz.ntmps88
    go_wp2_with fail
    have hX1 : Blk ((w.alloc (.cells #[.int .i64 D.id, .int .i64 D.nodes, .int .i64 D.next, .slice P.op.A P.op.n P.op.c, .int .i64 D.age, .int .i64 D.clock, .slice P.wa.A P.wa.n P.wa.c, .slice P.he.A P.he.n P.he.c, .slice P.re.A P.re.n P.re.c] 27)).alloc (.cells #[.int .i64 0, .int .i64 0, .int .i64 0, .slice none 0 0, .int .i64 0, .int .i64 0, .slice none 0 0, .slice none 0 0, .slice none 0 0] 27)) w.heap.size 27 [.int .i64 D.id, .int .i64 D.nodes, .int .i64 D.next, .slice P.op.A P.op.n P.op.c, .int .i64 D.age, .int .i64 D.clock, .slice P.wa.A P.wa.n P.wa.c, .slice P.he.A P.he.n P.he.c, .slice P.re.A P.re.n P.re.c] := (Blk.new w 27 [.int .i64 D.id, .int .i64 D.nodes, .int .i64 D.next, .slice P.op.A P.op.n P.op.c, .int .i64 D.age, .int .i64 D.clock, .slice P.wa.A P.wa.n P.wa.c, .slice P.he.A P.he.n P.he.c, .slice P.re.A P.re.n P.re.c]).up (by (repeat (first | (with_reducible exact Below.refl _ _) | (with_reducible assumption) | (with_reducible apply bel_alloc) | (with_reducible apply bel_drew) | (with_reducible apply bel_drewN) | (with_reducible refine bel_trans ?_ (by with_reducible assumption)) | (with_reducible refine bel_trans ?_ (HF.out _)) | (with_reducible refine bel_set ?_ (by simp) _) | (with_reducible refine bel_set ?_ (by simp; omega) _) | (with_reducible refine bel_set ?_ (by omega) _))))
    have hX3 : Blk ((w.alloc (.cells #[.int .i64 D.id, .int .i64 D.nodes, .int .i64 D.next, .slice P.op.A P.op.n P.op.c, .int .i64 D.age, .int .i64 D.clock, .slice P.wa.A P.wa.n P.wa.c, .slice P.he.A P.he.n P.he.c, .slice P.re.A P.re.n P.re.c] 27)).alloc (.cells #[.int .i64 0, .int .i64 0, .int .i64 0, .slice none 0 0, .int .i64 0, .int .i64 0, .slice none 0 0, .slice none 0 0, .slice none 0 0] 27)) (w.heap.size + 1) 27 [.int .i64 0, .int .i64 0, .int .i64 0, .slice none 0 0, .int .i64 0, .int .i64 0, .slice none 0 0, .slice none 0 0, .slice none 0 0] := by
      have := Blk.new (w.alloc (.cells #[.int .i64 D.id, .int .i64 D.nodes, .int .i64 D.next, .slice P.op.A P.op.n P.op.c, .int .i64 D.age, .int .i64 D.clock, .slice P.wa.A P.wa.n P.wa.c, .slice P.he.A P.he.n P.he.c, .slice P.re.A P.re.n P.re.c] 27)) 27 [.int .i64 0, .int .i64 0, .int .i64 0, .slice none 0 0, .int .i64 0, .int .i64 0, .slice none 0 0, .slice none 0 0, .slice none 0 0]
      simpa using this
    have hbX : Below w.heap.size w ((w.alloc (.cells #[.int .i64 D.id, .int .i64 D.nodes, .int .i64 D.next, .slice P.op.A P.op.n P.op.c, .int .i64 D.age, .int .i64 D.clock, .slice P.wa.A P.wa.n P.wa.c, .slice P.he.A P.he.n P.he.c, .slice P.re.A P.re.n P.re.c] 27)).alloc (.cells #[.int .i64 0, .int .i64 0, .int .i64 0, .slice none 0 0, .int .i64 0, .int .i64 0, .slice none 0 0, .slice none 0 0, .slice none 0 0] 27)) := by (repeat (first | (with_reducible exact Below.refl _ _) | (with_reducible assumption) | (with_reducible apply bel_alloc) | (with_reducible apply bel_drew) | (with_reducible apply bel_drewN) | (with_reducible refine bel_trans ?_ (by with_reducible assumption)) | (with_reducible refine bel_trans ?_ (HF.out _)) | (with_reducible refine bel_set ?_ (by simp) _) | (with_reducible refine bel_set ?_ (by simp; omega) _) | (with_reducible refine bel_set ?_ (by omega) _)))
    generalize ((w.alloc (.cells #[.int .i64 D.id, .int .i64 D.nodes, .int .i64 D.next, .slice P.op.A P.op.n P.op.c, .int .i64 D.age, .int .i64 D.clock, .slice P.wa.A P.wa.n P.wa.c, .slice P.he.A P.he.n P.he.c, .slice P.re.A P.re.n P.re.c] 27)).alloc (.cells #[.int .i64 0, .int .i64 0, .int .i64 0, .slice none 0 0, .int .i64 0, .int .i64 0, .slice none 0 0, .slice none 0 0, .slice none 0 0] 27)) = X at *
    have HX1 := Lib.hid hX1
    have HX3 := Lib.hid hX3
    clear hX1 hX3
    refine (worker_Next_no P D y _ (H.out.up hbX) HY.out HY0.out HHL.out).mono ?_
    rintro e w1 ⟨rfl, hb1⟩
    have hY1 := HX1.out.up hb1; have l1 := hY1.lt; have a_0 := (hY1.box).2 0 _ rfl; have a_1 := (hY1.box).2 1 _ rfl; have a_2 := (hY1.box).2 2 _ rfl; have a_3 := (hY1.box).2 3 _ rfl; have a_4 := (hY1.box).2 4 _ rfl; have a_5 := (hY1.box).2 5 _ rfl; have a_6 := (hY1.box).2 6 _ rfl; have a_7 := (hY1.box).2 7 _ rfl; have a_8 := (hY1.box).2 8 _ rfl; have hY3 := HX3.out.up hb1; have l3 := hY3.lt; have f3 := hY3.frozen; have c_0 := (hY3.box).2 0 _ rfl; have c_1 := (hY3.box).2 1 _ rfl; have c_2 := (hY3.box).2 2 _ rfl; have c_3 := (hY3.box).2 3 _ rfl; have c_4 := (hY3.box).2 4 _ rfl; have c_5 := (hY3.box).2 5 _ rfl; have c_6 := (hY3.box).2 6 _ rfl; have c_7 := (hY3.box).2 7 _ rfl; have c_8 := (hY3.box).2 8 _ rfl; have hbY := bel_trans hbX hb1; clear hY1 hY3 HX1 HX3 hb1 hbX
    go_wp2_with fail
    exact bodyPost_ret (v := .tuple #[.agg #[.int .i64 0, .int .i64 0, .int .i64 0, .slice none 0 0, .int .i64 0, .int .i64 0, .slice none 0 0, .slice none 0 0, .slice none 0 0], .slice none 0 0, .int .i64 y]) (by simp [results, Tryz.results88, go_sem, *]) rfl ⟨rfl, by (repeat (first | (with_reducible exact Below.refl _ _) | (with_reducible assumption) | (with_reducible apply bel_alloc) | (with_reducible apply bel_drew) | (with_reducible apply bel_drewN) | (with_reducible refine bel_trans ?_ (by with_reducible assumption)) | (with_reducible refine bel_trans ?_ (HF.out _)) | ((with_reducible refine bel_set3 ?_ ?_); rotate_left; omega)))⟩
  · rw [he]
    have HE := Lib.hid hy
    have HD := Lib.hid hd
    clear hE hy he hd
    show Calls Tryz.prog 88 #[.agg #[.int .i64 D.id, .int .i64 D.nodes, .int .i64 D.next, .slice P.op.A P.op.n P.op.c, .int .i64 D.age, .int .i64 D.clock, .slice P.wa.A P.wa.n P.wa.c, .slice P.he.A P.he.n P.he.c, .slice P.re.A P.re.n P.re.c], .int .i64 d] w _
    go_enter Tryz.func88, Tryz.ntmps88
    go_wp2_with fail
    have hX1 : Blk ((w.alloc (.cells #[.int .i64 D.id, .int .i64 D.nodes, .int .i64 D.next, .slice P.op.A P.op.n P.op.c, .int .i64 D.age, .int .i64 D.clock, .slice P.wa.A P.wa.n P.wa.c, .slice P.he.A P.he.n P.he.c, .slice P.re.A P.re.n P.re.c] 27)).alloc (.cells #[.int .i64 0, .int .i64 0, .int .i64 0, .slice none 0 0, .int .i64 0, .int .i64 0, .slice none 0 0, .slice none 0 0, .slice none 0 0] 27)) w.heap.size 27 [.int .i64 D.id, .int .i64 D.nodes, .int .i64 D.next, .slice P.op.A P.op.n P.op.c, .int .i64 D.age, .int .i64 D.clock, .slice P.wa.A P.wa.n P.wa.c, .slice P.he.A P.he.n P.he.c, .slice P.re.A P.re.n P.re.c] := (Blk.new w 27 [.int .i64 D.id, .int .i64 D.nodes, .int .i64 D.next, .slice P.op.A P.op.n P.op.c, .int .i64 D.age, .int .i64 D.clock, .slice P.wa.A P.wa.n P.wa.c, .slice P.he.A P.he.n P.he.c, .slice P.re.A P.re.n P.re.c]).up (by (repeat (first | (with_reducible exact Below.refl _ _) | (with_reducible assumption) | (with_reducible apply bel_alloc) | (with_reducible apply bel_drew) | (with_reducible apply bel_drewN) | (with_reducible refine bel_trans ?_ (by with_reducible assumption)) | (with_reducible refine bel_trans ?_ (HF.out _)) | (with_reducible refine bel_set ?_ (by simp) _) | (with_reducible refine bel_set ?_ (by simp; omega) _) | (with_reducible refine bel_set ?_ (by omega) _))))
    have hX3 : Blk ((w.alloc (.cells #[.int .i64 D.id, .int .i64 D.nodes, .int .i64 D.next, .slice P.op.A P.op.n P.op.c, .int .i64 D.age, .int .i64 D.clock, .slice P.wa.A P.wa.n P.wa.c, .slice P.he.A P.he.n P.he.c, .slice P.re.A P.re.n P.re.c] 27)).alloc (.cells #[.int .i64 0, .int .i64 0, .int .i64 0, .slice none 0 0, .int .i64 0, .int .i64 0, .slice none 0 0, .slice none 0 0, .slice none 0 0] 27)) (w.heap.size + 1) 27 [.int .i64 0, .int .i64 0, .int .i64 0, .slice none 0 0, .int .i64 0, .int .i64 0, .slice none 0 0, .slice none 0 0, .slice none 0 0] := by
      have := Blk.new (w.alloc (.cells #[.int .i64 D.id, .int .i64 D.nodes, .int .i64 D.next, .slice P.op.A P.op.n P.op.c, .int .i64 D.age, .int .i64 D.clock, .slice P.wa.A P.wa.n P.wa.c, .slice P.he.A P.he.n P.he.c, .slice P.re.A P.re.n P.re.c] 27)) 27 [.int .i64 0, .int .i64 0, .int .i64 0, .slice none 0 0, .int .i64 0, .int .i64 0, .slice none 0 0, .slice none 0 0, .slice none 0 0]
      simpa using this
    have hbX : Below w.heap.size w ((w.alloc (.cells #[.int .i64 D.id, .int .i64 D.nodes, .int .i64 D.next, .slice P.op.A P.op.n P.op.c, .int .i64 D.age, .int .i64 D.clock, .slice P.wa.A P.wa.n P.wa.c, .slice P.he.A P.he.n P.he.c, .slice P.re.A P.re.n P.re.c] 27)).alloc (.cells #[.int .i64 0, .int .i64 0, .int .i64 0, .slice none 0 0, .int .i64 0, .int .i64 0, .slice none 0 0, .slice none 0 0, .slice none 0 0] 27)) := by (repeat (first | (with_reducible exact Below.refl _ _) | (with_reducible assumption) | (with_reducible apply bel_alloc) | (with_reducible apply bel_drew) | (with_reducible apply bel_drewN) | (with_reducible refine bel_trans ?_ (by with_reducible assumption)) | (with_reducible refine bel_trans ?_ (HF.out _)) | (with_reducible refine bel_set ?_ (by simp) _) | (with_reducible refine bel_set ?_ (by simp; omega) _) | (with_reducible refine bel_set ?_ (by omega) _)))
    generalize ((w.alloc (.cells #[.int .i64 D.id, .int .i64 D.nodes, .int .i64 D.next, .slice P.op.A P.op.n P.op.c, .int .i64 D.age, .int .i64 D.clock, .slice P.wa.A P.wa.n P.wa.c, .slice P.he.A P.he.n P.he.c, .slice P.re.A P.re.n P.re.c] 27)).alloc (.cells #[.int .i64 0, .int .i64 0, .int .i64 0, .slice none 0 0, .int .i64 0, .int .i64 0, .slice none 0 0, .slice none 0 0, .slice none 0 0] 27)) = X at *
    have HX1 := Lib.hid hX1
    have HX3 := Lib.hid hX3
    clear hX1 hX3
    refine (worker_Next_ok P D _ (H.out.up hbX) HE.out HS.out.op).mono ?_
    rintro e w1 ⟨v1, rfl, ho1, hb1⟩
    obtain ⟨vA, vc, rfl, -⟩ := ho1.txs (by rw [List.length_take]; omega)
    clear ho1
    have hY1 := HX1.out.up hb1; have l1 := hY1.lt; have a_0 := (hY1.box).2 0 _ rfl; have a_1 := (hY1.box).2 1 _ rfl; have a_2 := (hY1.box).2 2 _ rfl; have a_3 := (hY1.box).2 3 _ rfl; have a_4 := (hY1.box).2 4 _ rfl; have a_5 := (hY1.box).2 5 _ rfl; have a_6 := (hY1.box).2 6 _ rfl; have a_7 := (hY1.box).2 7 _ rfl; have a_8 := (hY1.box).2 8 _ rfl; have hY3 := HX3.out.up hb1; have l3 := hY3.lt; have f3 := hY3.frozen; have c_0 := (hY3.box).2 0 _ rfl; have c_1 := (hY3.box).2 1 _ rfl; have c_2 := (hY3.box).2 2 _ rfl; have c_3 := (hY3.box).2 3 _ rfl; have c_4 := (hY3.box).2 4 _ rfl; have c_5 := (hY3.box).2 5 _ rfl; have c_6 := (hY3.box).2 6 _ rfl; have c_7 := (hY3.box).2 7 _ rfl; have c_8 := (hY3.box).2 8 _ rfl; have hbY := bel_trans hbX hb1; clear hY1 hY3 HX1 HX3 hb1 hbX
    go_wp2_with (go_at_call 110; refine (comm_Digest d false _ HD.out).mono ?_; rintro e w' ⟨rfl, rfl⟩)
    exact bodyPost_ret (v := .tuple #[.agg #[.int .i64 0, .int .i64 0, .int .i64 0, .slice none 0 0, .int .i64 0, .int .i64 0, .slice none 0 0, .slice none 0 0, .slice none 0 0], .slice none 0 0, .int .i64 1]) (by simp [results, Tryz.results88, go_sem, *]) rfl ⟨rfl, by (repeat (first | (with_reducible exact Below.refl _ _) | (with_reducible assumption) | (with_reducible apply bel_alloc) | (with_reducible apply bel_drew) | (with_reducible apply bel_drewN) | (with_reducible refine bel_trans ?_ (by with_reducible assumption)) | (with_reducible refine bel_trans ?_ (HF.out _)) | ((with_reducible refine bel_set3 ?_ ?_); rotate_left; omega)))⟩
  · rw [he]
    have HE := Lib.hid hy
    have HD := Lib.hid hd
    have HK := Lib.hid hk
    have hen : P.he.n ≤ 1000000000 := by have e1 := H.out.he.1; have := HHL.out; omega
    clear hE hy he hd hk
    show Calls Tryz.prog 88 #[.agg #[.int .i64 D.id, .int .i64 D.nodes, .int .i64 D.next, .slice P.op.A P.op.n P.op.c, .int .i64 D.age, .int .i64 D.clock, .slice P.wa.A P.wa.n P.wa.c, .slice P.he.A P.he.n P.he.c, .slice P.re.A P.re.n P.re.c], .int .i64 d] w _
    go_enter Tryz.func88, Tryz.ntmps88
    go_wp2_with fail
    have hX1 : Blk ((w.alloc (.cells #[.int .i64 D.id, .int .i64 D.nodes, .int .i64 D.next, .slice P.op.A P.op.n P.op.c, .int .i64 D.age, .int .i64 D.clock, .slice P.wa.A P.wa.n P.wa.c, .slice P.he.A P.he.n P.he.c, .slice P.re.A P.re.n P.re.c] 27)).alloc (.cells #[.int .i64 0, .int .i64 0, .int .i64 0, .slice none 0 0, .int .i64 0, .int .i64 0, .slice none 0 0, .slice none 0 0, .slice none 0 0] 27)) w.heap.size 27 [.int .i64 D.id, .int .i64 D.nodes, .int .i64 D.next, .slice P.op.A P.op.n P.op.c, .int .i64 D.age, .int .i64 D.clock, .slice P.wa.A P.wa.n P.wa.c, .slice P.he.A P.he.n P.he.c, .slice P.re.A P.re.n P.re.c] := (Blk.new w 27 [.int .i64 D.id, .int .i64 D.nodes, .int .i64 D.next, .slice P.op.A P.op.n P.op.c, .int .i64 D.age, .int .i64 D.clock, .slice P.wa.A P.wa.n P.wa.c, .slice P.he.A P.he.n P.he.c, .slice P.re.A P.re.n P.re.c]).up (by (repeat (first | (with_reducible exact Below.refl _ _) | (with_reducible assumption) | (with_reducible apply bel_alloc) | (with_reducible apply bel_drew) | (with_reducible apply bel_drewN) | (with_reducible refine bel_trans ?_ (by with_reducible assumption)) | (with_reducible refine bel_trans ?_ (HF.out _)) | (with_reducible refine bel_set ?_ (by simp) _) | (with_reducible refine bel_set ?_ (by simp; omega) _) | (with_reducible refine bel_set ?_ (by omega) _))))
    have hX3 : Blk ((w.alloc (.cells #[.int .i64 D.id, .int .i64 D.nodes, .int .i64 D.next, .slice P.op.A P.op.n P.op.c, .int .i64 D.age, .int .i64 D.clock, .slice P.wa.A P.wa.n P.wa.c, .slice P.he.A P.he.n P.he.c, .slice P.re.A P.re.n P.re.c] 27)).alloc (.cells #[.int .i64 0, .int .i64 0, .int .i64 0, .slice none 0 0, .int .i64 0, .int .i64 0, .slice none 0 0, .slice none 0 0, .slice none 0 0] 27)) (w.heap.size + 1) 27 [.int .i64 0, .int .i64 0, .int .i64 0, .slice none 0 0, .int .i64 0, .int .i64 0, .slice none 0 0, .slice none 0 0, .slice none 0 0] := by
      have := Blk.new (w.alloc (.cells #[.int .i64 D.id, .int .i64 D.nodes, .int .i64 D.next, .slice P.op.A P.op.n P.op.c, .int .i64 D.age, .int .i64 D.clock, .slice P.wa.A P.wa.n P.wa.c, .slice P.he.A P.he.n P.he.c, .slice P.re.A P.re.n P.re.c] 27)) 27 [.int .i64 0, .int .i64 0, .int .i64 0, .slice none 0 0, .int .i64 0, .int .i64 0, .slice none 0 0, .slice none 0 0, .slice none 0 0]
      simpa using this
    have hbX : Below w.heap.size w ((w.alloc (.cells #[.int .i64 D.id, .int .i64 D.nodes, .int .i64 D.next, .slice P.op.A P.op.n P.op.c, .int .i64 D.age, .int .i64 D.clock, .slice P.wa.A P.wa.n P.wa.c, .slice P.he.A P.he.n P.he.c, .slice P.re.A P.re.n P.re.c] 27)).alloc (.cells #[.int .i64 0, .int .i64 0, .int .i64 0, .slice none 0 0, .int .i64 0, .int .i64 0, .slice none 0 0, .slice none 0 0, .slice none 0 0] 27)) := by (repeat (first | (with_reducible exact Below.refl _ _) | (with_reducible assumption) | (with_reducible apply bel_alloc) | (with_reducible apply bel_drew) | (with_reducible apply bel_drewN) | (with_reducible refine bel_trans ?_ (by with_reducible assumption)) | (with_reducible refine bel_trans ?_ (HF.out _)) | (with_reducible refine bel_set ?_ (by simp) _) | (with_reducible refine bel_set ?_ (by simp; omega) _) | (with_reducible refine bel_set ?_ (by omega) _)))
    generalize ((w.alloc (.cells #[.int .i64 D.id, .int .i64 D.nodes, .int .i64 D.next, .slice P.op.A P.op.n P.op.c, .int .i64 D.age, .int .i64 D.clock, .slice P.wa.A P.wa.n P.wa.c, .slice P.he.A P.he.n P.he.c, .slice P.re.A P.re.n P.re.c] 27)).alloc (.cells #[.int .i64 0, .int .i64 0, .int .i64 0, .slice none 0 0, .int .i64 0, .int .i64 0, .slice none 0 0, .slice none 0 0, .slice none 0 0] 27)) = X at *
    have HX1 := Lib.hid hX1
    have HX3 := Lib.hid hX3
    clear hX1 hX3
    refine (worker_Next_ok P D _ (H.out.up hbX) HE.out HS.out.op).mono ?_
    rintro e w1 ⟨v1, rfl, ho1, hb1⟩
    obtain ⟨vA, vc, rfl, -⟩ := ho1.txs (by rw [List.length_take]; omega)
    clear ho1
    have HZ1 := Lib.hid (HX1.out.up hb1)
    have HZ3 := Lib.hid (HX3.out.up hb1)
    have hbY0 := bel_trans hbX hb1
    have hY1 := HX1.out.up hb1; have l1 := hY1.lt; have a_0 := (hY1.box).2 0 _ rfl; have a_1 := (hY1.box).2 1 _ rfl; have a_2 := (hY1.box).2 2 _ rfl; have a_3 := (hY1.box).2 3 _ rfl; have a_4 := (hY1.box).2 4 _ rfl; have a_5 := (hY1.box).2 5 _ rfl; have a_6 := (hY1.box).2 6 _ rfl; have a_7 := (hY1.box).2 7 _ rfl; have a_8 := (hY1.box).2 8 _ rfl; have hY3 := HX3.out.up hb1; have l3 := hY3.lt; have f3 := hY3.frozen; have c_0 := (hY3.box).2 0 _ rfl; have c_1 := (hY3.box).2 1 _ rfl; have c_2 := (hY3.box).2 2 _ rfl; have c_3 := (hY3.box).2 3 _ rfl; have c_4 := (hY3.box).2 4 _ rfl; have c_5 := (hY3.box).2 5 _ rfl; have c_6 := (hY3.box).2 6 _ rfl; have c_7 := (hY3.box).2 7 _ rfl; have c_8 := (hY3.box).2 8 _ rfl; clear hY1 hY3 HX1 HX3 hb1 hbX
    have hyy : (4 : Int) ≠ 0 := by decide
    have hdp : True := trivial
    obtain ⟨lo, hlo⟩ : ∃ x, kposH D.he d = x := ⟨_, rfl⟩
    have HLO := Lib.hid hlo
    clear hlo
    go_wp2_with (first
      | (go_at_call 110; refine (comm_Digest d true _ HD.out).mono ?_; rintro e w' ⟨rfl, rfl⟩)
      | (go_at_call 118; refine (worker_At P.he.A P.he.n P.he.c D.he d lo true _ (H.out.he.up (bel_alloc hbY0)) HSH.out hen HLO.out HK.out).mono ?_; rintro e w5 ⟨rfl, hb5⟩; have h15 := bel_trans (bel_alloc (Below.refl w1.heap.size w1)) hb5; have hZ5 := HZ3.out.up h15; have l5 := hZ5.lt; have f5 := hZ5.frozen; clear a_0 a_1 a_2 a_3 a_4 a_5 a_6 a_7 a_8 c_0 c_1 c_2 c_3 c_4 c_5 c_6 c_7 c_8 l1 l3 f3; have c_0 := (hZ5.box).2 0 _ rfl; have c_1 := (hZ5.box).2 1 _ rfl; have c_2 := (hZ5.box).2 2 _ rfl; have c_3 := (hZ5.box).2 3 _ rfl; have c_4 := (hZ5.box).2 4 _ rfl; have c_5 := (hZ5.box).2 5 _ rfl; have c_6 := (hZ5.box).2 6 _ rfl; have c_7 := (hZ5.box).2 7 _ rfl; have c_8 := (hZ5.box).2 8 _ rfl; have hbY5 := bel_trans hbY0 h15; clear hZ5 hb5 h15))
    exact bodyPost_ret (v := .tuple #[.agg #[.int .i64 0, .int .i64 0, .int .i64 0, .slice none 0 0, .int .i64 0, .int .i64 0, .slice none 0 0, .slice none 0 0, .slice none 0 0], .slice none 0 0, .int .i64 4]) (by simp [results, Tryz.results88, go_sem, *]) rfl ⟨rfl, by (repeat (first | (with_reducible exact Below.refl _ _) | (with_reducible assumption) | (with_reducible apply bel_alloc) | (with_reducible apply bel_drew) | (with_reducible apply bel_drewN) | (with_reducible refine bel_trans ?_ (by with_reducible assumption)) | (with_reducible refine bel_trans ?_ (HF.out _)) | ((with_reducible refine bel_set3 ?_ ?_); rotate_left; omega)))⟩
set_option maxRecDepth 100000 in
set_option maxHeartbeats 4000000 in
theorem worker_Sealed_no (P : WorkP) (D : WorkD) (d : Int) (w : World) (h : WorkR w P D) (hs : BigD D) (hm : mayW D = true) (hE : sealE D d ≠ 0) :
    Calls Tryz.prog 47 #[P.val D, .int .i64 d] w fun e w' => e = .returned (.tuple #[zeroW, .slice none 0 0, .int .i64 (sealE D d)]) ∧ Below w.heap.size w w' := by
  have H := Lib.hid h
  have HS := Lib.hid hs
  have HM := Lib.hid hm
  have HE := Lib.hid hE
  obtain ⟨se, hse⟩ : ∃ x, sealE D d = x := ⟨_, rfl⟩
  have HSE := Lib.hid hse
  rw [hse]
  clear h hs hm hE hse
  show Calls Tryz.prog 47 #[.agg #[.int .i64 D.id, .int .i64 D.nodes, .int .i64 D.next, .slice P.op.A P.op.n P.op.c, .int .i64 D.age, .int .i64 D.clock, .slice P.wa.A P.wa.n P.wa.c, .slice P.he.A P.he.n P.he.c, .slice P.re.A P.re.n P.re.c], .int .i64 d] w _
  go_enter Tryz.func47, Tryz.ntmps47
  go_wp2_with fail
  have hX1 : Blk ((w.alloc (.cells #[.int .i64 D.id, .int .i64 D.nodes, .int .i64 D.next, .slice P.op.A P.op.n P.op.c, .int .i64 D.age, .int .i64 D.clock, .slice P.wa.A P.wa.n P.wa.c, .slice P.he.A P.he.n P.he.c, .slice P.re.A P.re.n P.re.c] 27)).alloc (.cells #[.int .i64 0, .int .i64 0, .int .i64 0, .slice none 0 0, .int .i64 0, .int .i64 0, .slice none 0 0, .slice none 0 0, .slice none 0 0] 27)) w.heap.size 27 [.int .i64 D.id, .int .i64 D.nodes, .int .i64 D.next, .slice P.op.A P.op.n P.op.c, .int .i64 D.age, .int .i64 D.clock, .slice P.wa.A P.wa.n P.wa.c, .slice P.he.A P.he.n P.he.c, .slice P.re.A P.re.n P.re.c] := (Blk.new w 27 [.int .i64 D.id, .int .i64 D.nodes, .int .i64 D.next, .slice P.op.A P.op.n P.op.c, .int .i64 D.age, .int .i64 D.clock, .slice P.wa.A P.wa.n P.wa.c, .slice P.he.A P.he.n P.he.c, .slice P.re.A P.re.n P.re.c]).up (by (repeat (first | (with_reducible exact Below.refl _ _) | (with_reducible assumption) | (with_reducible apply bel_alloc) | (with_reducible apply bel_drew) | (with_reducible apply bel_drewN) | (with_reducible refine bel_trans ?_ (by with_reducible assumption)) | (with_reducible refine bel_trans ?_ (HF.out _)) | (with_reducible refine bel_set ?_ (by simp) _) | (with_reducible refine bel_set ?_ (by simp; omega) _) | (with_reducible refine bel_set ?_ (by omega) _))))
  have hX3 : Blk ((w.alloc (.cells #[.int .i64 D.id, .int .i64 D.nodes, .int .i64 D.next, .slice P.op.A P.op.n P.op.c, .int .i64 D.age, .int .i64 D.clock, .slice P.wa.A P.wa.n P.wa.c, .slice P.he.A P.he.n P.he.c, .slice P.re.A P.re.n P.re.c] 27)).alloc (.cells #[.int .i64 0, .int .i64 0, .int .i64 0, .slice none 0 0, .int .i64 0, .int .i64 0, .slice none 0 0, .slice none 0 0, .slice none 0 0] 27)) (w.heap.size + 1) 27 [.int .i64 0, .int .i64 0, .int .i64 0, .slice none 0 0, .int .i64 0, .int .i64 0, .slice none 0 0, .slice none 0 0, .slice none 0 0] := by
    have := Blk.new (w.alloc (.cells #[.int .i64 D.id, .int .i64 D.nodes, .int .i64 D.next, .slice P.op.A P.op.n P.op.c, .int .i64 D.age, .int .i64 D.clock, .slice P.wa.A P.wa.n P.wa.c, .slice P.he.A P.he.n P.he.c, .slice P.re.A P.re.n P.re.c] 27)) 27 [.int .i64 0, .int .i64 0, .int .i64 0, .slice none 0 0, .int .i64 0, .int .i64 0, .slice none 0 0, .slice none 0 0, .slice none 0 0]
    simpa using this
  have hbX : Below w.heap.size w ((w.alloc (.cells #[.int .i64 D.id, .int .i64 D.nodes, .int .i64 D.next, .slice P.op.A P.op.n P.op.c, .int .i64 D.age, .int .i64 D.clock, .slice P.wa.A P.wa.n P.wa.c, .slice P.he.A P.he.n P.he.c, .slice P.re.A P.re.n P.re.c] 27)).alloc (.cells #[.int .i64 0, .int .i64 0, .int .i64 0, .slice none 0 0, .int .i64 0, .int .i64 0, .slice none 0 0, .slice none 0 0, .slice none 0 0] 27)) := by (repeat (first | (with_reducible exact Below.refl _ _) | (with_reducible assumption) | (with_reducible apply bel_alloc) | (with_reducible apply bel_drew) | (with_reducible apply bel_drewN) | (with_reducible refine bel_trans ?_ (by with_reducible assumption)) | (with_reducible refine bel_trans ?_ (HF.out _)) | (with_reducible refine bel_set ?_ (by simp) _) | (with_reducible refine bel_set ?_ (by simp; omega) _) | (with_reducible refine bel_set ?_ (by omega) _)))
  generalize ((w.alloc (.cells #[.int .i64 D.id, .int .i64 D.nodes, .int .i64 D.next, .slice P.op.A P.op.n P.op.c, .int .i64 D.age, .int .i64 D.clock, .slice P.wa.A P.wa.n P.wa.c, .slice P.he.A P.he.n P.he.c, .slice P.re.A P.re.n P.re.c] 27)).alloc (.cells #[.int .i64 0, .int .i64 0, .int .i64 0, .slice none 0 0, .int .i64 0, .int .i64 0, .slice none 0 0, .slice none 0 0, .slice none 0 0] 27)) = X at *
  have HX1 := Lib.hid hX1
  have HX3 := Lib.hid hX3
  clear hX1 hX3
  refine (worker_May P D true _ (H.out.up hbX) HM.out).mono ?_
  rintro e w1 ⟨rfl, hb1⟩
  have hY1 := HX1.out.up hb1
  have l1 := hY1.lt
  have a_0 := (hY1.box).2 0 _ rfl; have a_1 := (hY1.box).2 1 _ rfl; have a_2 := (hY1.box).2 2 _ rfl; have a_3 := (hY1.box).2 3 _ rfl; have a_4 := (hY1.box).2 4 _ rfl; have a_5 := (hY1.box).2 5 _ rfl; have a_6 := (hY1.box).2 6 _ rfl; have a_7 := (hY1.box).2 7 _ rfl; have a_8 := (hY1.box).2 8 _ rfl
  have HY3 := Lib.hid (HX3.out.up hb1)
  have hbY := bel_trans hbX hb1
  clear hY1 HX1 HX3 hb1 hbX
  go_wp2_with fail
  refine (worker_Own P D _ (H.out.up hbY) HS.out).mono ?_
  rintro e w3 ⟨P2, he3, hO3, -, hb3⟩
  simp only [WorkP.val] at he3
  subst he3
  have HO3 := Lib.hid hO3
  have HV3 := Lib.hid (HY3.out.up hb3)
  have hbV := bel_trans hbY hb3
  clear hO3 HY3 hb3 hbY l1 a_0 a_1 a_2 a_3 a_4 a_5 a_6 a_7 a_8
  go_wp2_with fail
  refine (worker_Seal_no P2 D d _ (HO3.out.work HS.out) HS.out HM.out HE.out).mono ?_
  rintro e w4 ⟨he4, hb4⟩
  rw [HSE.out] at he4
  simp only [zeroW] at he4
  subst he4
  have hU3 := HV3.out.up hb4
  have lU := hU3.lt
  have fU := hU3.frozen
  have c_0 := (hU3.box).2 0 _ rfl; have c_1 := (hU3.box).2 1 _ rfl; have c_2 := (hU3.box).2 2 _ rfl; have c_3 := (hU3.box).2 3 _ rfl; have c_4 := (hU3.box).2 4 _ rfl; have c_5 := (hU3.box).2 5 _ rfl; have c_6 := (hU3.box).2 6 _ rfl; have c_7 := (hU3.box).2 7 _ rfl; have c_8 := (hU3.box).2 8 _ rfl
  have hbU := bel_trans hbV hb4
  clear hU3 HV3 HO3 hbV hb4
  go_wp2_with fail
  exact bodyPost_ret (v := .tuple #[.agg #[.int .i64 0, .int .i64 0, .int .i64 0, .slice none 0 0, .int .i64 0, .int .i64 0, .slice none 0 0, .slice none 0 0, .slice none 0 0], .slice none 0 0, .int .i64 se]) (by simp [results, Tryz.results47, go_sem, *]) rfl ⟨rfl, by (repeat (first | (with_reducible exact Below.refl _ _) | (with_reducible assumption) | (with_reducible apply bel_alloc) | (with_reducible apply bel_drew) | (with_reducible apply bel_drewN) | (with_reducible refine bel_trans ?_ (by with_reducible assumption)) | (with_reducible refine bel_trans ?_ (HF.out _)) | ((with_reducible refine bel_set3 ?_ ?_); rotate_left; omega)))⟩
set_option maxRecDepth 100000 in
set_option maxHeartbeats 4000000 in
theorem worker_Sealed_may (P : WorkP) (D : WorkD) (d : Int) (w : World) (h : WorkR w P D) (hm : mayW D = false) :
    Calls Tryz.prog 47 #[P.val D, .int .i64 d] w fun e w' => e = .returned (.tuple #[zeroW, .slice none 0 0, .int .i64 1]) ∧ Below w.heap.size w w' := by
  have H := Lib.hid h
  have HM := Lib.hid hm
  clear h hm
  show Calls Tryz.prog 47 #[.agg #[.int .i64 D.id, .int .i64 D.nodes, .int .i64 D.next, .slice P.op.A P.op.n P.op.c, .int .i64 D.age, .int .i64 D.clock, .slice P.wa.A P.wa.n P.wa.c, .slice P.he.A P.he.n P.he.c, .slice P.re.A P.re.n P.re.c], .int .i64 d] w _
  go_enter Tryz.func47, Tryz.ntmps47
  go_wp2_with fail
  have hX1 : Blk ((w.alloc (.cells #[.int .i64 D.id, .int .i64 D.nodes, .int .i64 D.next, .slice P.op.A P.op.n P.op.c, .int .i64 D.age, .int .i64 D.clock, .slice P.wa.A P.wa.n P.wa.c, .slice P.he.A P.he.n P.he.c, .slice P.re.A P.re.n P.re.c] 27)).alloc (.cells #[.int .i64 0, .int .i64 0, .int .i64 0, .slice none 0 0, .int .i64 0, .int .i64 0, .slice none 0 0, .slice none 0 0, .slice none 0 0] 27)) w.heap.size 27 [.int .i64 D.id, .int .i64 D.nodes, .int .i64 D.next, .slice P.op.A P.op.n P.op.c, .int .i64 D.age, .int .i64 D.clock, .slice P.wa.A P.wa.n P.wa.c, .slice P.he.A P.he.n P.he.c, .slice P.re.A P.re.n P.re.c] := (Blk.new w 27 [.int .i64 D.id, .int .i64 D.nodes, .int .i64 D.next, .slice P.op.A P.op.n P.op.c, .int .i64 D.age, .int .i64 D.clock, .slice P.wa.A P.wa.n P.wa.c, .slice P.he.A P.he.n P.he.c, .slice P.re.A P.re.n P.re.c]).up (by (repeat (first | (with_reducible exact Below.refl _ _) | (with_reducible assumption) | (with_reducible apply bel_alloc) | (with_reducible apply bel_drew) | (with_reducible apply bel_drewN) | (with_reducible refine bel_trans ?_ (by with_reducible assumption)) | (with_reducible refine bel_trans ?_ (HF.out _)) | (with_reducible refine bel_set ?_ (by simp) _) | (with_reducible refine bel_set ?_ (by simp; omega) _) | (with_reducible refine bel_set ?_ (by omega) _))))
  have hX3 : Blk ((w.alloc (.cells #[.int .i64 D.id, .int .i64 D.nodes, .int .i64 D.next, .slice P.op.A P.op.n P.op.c, .int .i64 D.age, .int .i64 D.clock, .slice P.wa.A P.wa.n P.wa.c, .slice P.he.A P.he.n P.he.c, .slice P.re.A P.re.n P.re.c] 27)).alloc (.cells #[.int .i64 0, .int .i64 0, .int .i64 0, .slice none 0 0, .int .i64 0, .int .i64 0, .slice none 0 0, .slice none 0 0, .slice none 0 0] 27)) (w.heap.size + 1) 27 [.int .i64 0, .int .i64 0, .int .i64 0, .slice none 0 0, .int .i64 0, .int .i64 0, .slice none 0 0, .slice none 0 0, .slice none 0 0] := by
    have := Blk.new (w.alloc (.cells #[.int .i64 D.id, .int .i64 D.nodes, .int .i64 D.next, .slice P.op.A P.op.n P.op.c, .int .i64 D.age, .int .i64 D.clock, .slice P.wa.A P.wa.n P.wa.c, .slice P.he.A P.he.n P.he.c, .slice P.re.A P.re.n P.re.c] 27)) 27 [.int .i64 0, .int .i64 0, .int .i64 0, .slice none 0 0, .int .i64 0, .int .i64 0, .slice none 0 0, .slice none 0 0, .slice none 0 0]
    simpa using this
  have hbX : Below w.heap.size w ((w.alloc (.cells #[.int .i64 D.id, .int .i64 D.nodes, .int .i64 D.next, .slice P.op.A P.op.n P.op.c, .int .i64 D.age, .int .i64 D.clock, .slice P.wa.A P.wa.n P.wa.c, .slice P.he.A P.he.n P.he.c, .slice P.re.A P.re.n P.re.c] 27)).alloc (.cells #[.int .i64 0, .int .i64 0, .int .i64 0, .slice none 0 0, .int .i64 0, .int .i64 0, .slice none 0 0, .slice none 0 0, .slice none 0 0] 27)) := by (repeat (first | (with_reducible exact Below.refl _ _) | (with_reducible assumption) | (with_reducible apply bel_alloc) | (with_reducible apply bel_drew) | (with_reducible apply bel_drewN) | (with_reducible refine bel_trans ?_ (by with_reducible assumption)) | (with_reducible refine bel_trans ?_ (HF.out _)) | (with_reducible refine bel_set ?_ (by simp) _) | (with_reducible refine bel_set ?_ (by simp; omega) _) | (with_reducible refine bel_set ?_ (by omega) _)))
  generalize ((w.alloc (.cells #[.int .i64 D.id, .int .i64 D.nodes, .int .i64 D.next, .slice P.op.A P.op.n P.op.c, .int .i64 D.age, .int .i64 D.clock, .slice P.wa.A P.wa.n P.wa.c, .slice P.he.A P.he.n P.he.c, .slice P.re.A P.re.n P.re.c] 27)).alloc (.cells #[.int .i64 0, .int .i64 0, .int .i64 0, .slice none 0 0, .int .i64 0, .int .i64 0, .slice none 0 0, .slice none 0 0, .slice none 0 0] 27)) = X at *
  have HX1 := Lib.hid hX1
  have HX3 := Lib.hid hX3
  clear hX1 hX3
  refine (worker_May P D false _ (H.out.up hbX) HM.out).mono ?_
  rintro e w1 ⟨rfl, hb1⟩
  have hY1 := HX1.out.up hb1; have l1 := hY1.lt; have a_0 := (hY1.box).2 0 _ rfl; have a_1 := (hY1.box).2 1 _ rfl; have a_2 := (hY1.box).2 2 _ rfl; have a_3 := (hY1.box).2 3 _ rfl; have a_4 := (hY1.box).2 4 _ rfl; have a_5 := (hY1.box).2 5 _ rfl; have a_6 := (hY1.box).2 6 _ rfl; have a_7 := (hY1.box).2 7 _ rfl; have a_8 := (hY1.box).2 8 _ rfl; have hY3 := HX3.out.up hb1; have l3 := hY3.lt; have f3 := hY3.frozen; have c_0 := (hY3.box).2 0 _ rfl; have c_1 := (hY3.box).2 1 _ rfl; have c_2 := (hY3.box).2 2 _ rfl; have c_3 := (hY3.box).2 3 _ rfl; have c_4 := (hY3.box).2 4 _ rfl; have c_5 := (hY3.box).2 5 _ rfl; have c_6 := (hY3.box).2 6 _ rfl; have c_7 := (hY3.box).2 7 _ rfl; have c_8 := (hY3.box).2 8 _ rfl; have hbY := bel_trans hbX hb1; clear hY1 hY3 HX1 HX3 hb1 hbX
  go_wp2_with fail
  exact bodyPost_ret (v := .tuple #[.agg #[.int .i64 0, .int .i64 0, .int .i64 0, .slice none 0 0, .int .i64 0, .int .i64 0, .slice none 0 0, .slice none 0 0, .slice none 0 0], .slice none 0 0, .int .i64 1]) (by simp [results, Tryz.results47, go_sem, *]) rfl ⟨rfl, by (repeat (first | (with_reducible exact Below.refl _ _) | (with_reducible assumption) | (with_reducible apply bel_alloc) | (with_reducible apply bel_drew) | (with_reducible apply bel_drewN) | (with_reducible refine bel_trans ?_ (by with_reducible assumption)) | (with_reducible refine bel_trans ?_ (HF.out _)) | ((with_reducible refine bel_set3 ?_ ?_); rotate_left; omega)))⟩
set_option maxRecDepth 100000 in
set_option maxHeartbeats 4000000 in
theorem ref13_Sealed_no (P : WorkP) (D : WorkD) (d : Int) (w : World) (h : WorkR w P D) (hs : BigD D) (hm : mayW D = true) (hE : sealE D d ≠ 0) :
    Calls Tryz.prog 46 #[P.val D, .int .i64 d] w fun e w' => ∃ gs, e = .returned (.tuple #[.pointer (some ⟨gs, 0, none⟩), .int .i64 (sealE D d)]) ∧ Below w.heap.size w w' := by
  have hM := mayW_iff.1 hm
  have HSH : Hid (SortedH D.he) := Lib.hid (hdB_iff.1 hM.2.2.2.2.2.2.2.2.2.2.1).sorted
  have HHL := Lib.hid hM.2.2.2.2.2.2.2.1
  have H := Lib.hid h
  have HS := Lib.hid hs
  have HE := Lib.hid hE
  obtain ⟨se, hse⟩ : ∃ x, sealE D d = x := ⟨_, rfl⟩
  have HSE := Lib.hid hse
  rw [hse]
  clear h hs hm hE hM hse
  show Calls Tryz.prog 46 #[.agg #[.int .i64 D.id, .int .i64 D.nodes, .int .i64 D.next, .slice P.op.A P.op.n P.op.c, .int .i64 D.age, .int .i64 D.clock, .slice P.wa.A P.wa.n P.wa.c, .slice P.he.A P.he.n P.he.c, .slice P.re.A P.re.n P.re.c], .int .i64 d] w _
  go_enter Tryz.func46, Tryz.ntmps46
  go_wp2_with fail
  have hX1 : Blk (w.alloc (.cells #[.int .i64 D.id, .int .i64 D.nodes, .int .i64 D.next, .slice P.op.A P.op.n P.op.c, .int .i64 D.age, .int .i64 D.clock, .slice P.wa.A P.wa.n P.wa.c, .slice P.he.A P.he.n P.he.c, .slice P.re.A P.re.n P.re.c] 27)) w.heap.size 27 [.int .i64 D.id, .int .i64 D.nodes, .int .i64 D.next, .slice P.op.A P.op.n P.op.c, .int .i64 D.age, .int .i64 D.clock, .slice P.wa.A P.wa.n P.wa.c, .slice P.he.A P.he.n P.he.c, .slice P.re.A P.re.n P.re.c] := Blk.new w 27 [.int .i64 D.id, .int .i64 D.nodes, .int .i64 D.next, .slice P.op.A P.op.n P.op.c, .int .i64 D.age, .int .i64 D.clock, .slice P.wa.A P.wa.n P.wa.c, .slice P.he.A P.he.n P.he.c, .slice P.re.A P.re.n P.re.c]
  have hbX : Below w.heap.size w (w.alloc (.cells #[.int .i64 D.id, .int .i64 D.nodes, .int .i64 D.next, .slice P.op.A P.op.n P.op.c, .int .i64 D.age, .int .i64 D.clock, .slice P.wa.A P.wa.n P.wa.c, .slice P.he.A P.he.n P.he.c, .slice P.re.A P.re.n P.re.c] 27)) := by (repeat (first | (with_reducible exact Below.refl _ _) | (with_reducible assumption) | (with_reducible apply bel_alloc) | (with_reducible apply bel_drew) | (with_reducible apply bel_drewN) | (with_reducible refine bel_trans ?_ (by with_reducible assumption)) | (with_reducible refine bel_trans ?_ (HF.out _)) | (with_reducible refine bel_set ?_ (by simp) _) | (with_reducible refine bel_set ?_ (by simp; omega) _) | (with_reducible refine bel_set ?_ (by omega) _)))
  generalize (w.alloc (.cells #[.int .i64 D.id, .int .i64 D.nodes, .int .i64 D.next, .slice P.op.A P.op.n P.op.c, .int .i64 D.age, .int .i64 D.clock, .slice P.wa.A P.wa.n P.wa.c, .slice P.he.A P.he.n P.he.c, .slice P.re.A P.re.n P.re.c] 27)) = X at *
  refine (ref0_CopyWorker P D _ (H.out.up hbX) HS.out).mono ?_
  rintro e w1 ⟨⟨⟨oA, on, oc⟩, ⟨tA, tn, tc⟩, ⟨eA, en, ec⟩, ⟨rA, rn, rc⟩⟩, he1, hO1, hb1⟩
  simp only [WorkP.val] at he1
  subst he1
  have hB1 := hX1.up hb1
  have lb1 := hB1.lt
  have a_0 := (hB1.box).2 0 _ rfl; have a_1 := (hB1.box).2 1 _ rfl; have a_2 := (hB1.box).2 2 _ rfl; have a_3 := (hB1.box).2 3 _ rfl; have a_4 := (hB1.box).2 4 _ rfl; have a_5 := (hB1.box).2 5 _ rfl; have a_6 := (hB1.box).2 6 _ rfl; have a_7 := (hB1.box).2 7 _ rfl; have a_8 := (hB1.box).2 8 _ rfl
  have hbw1 := bel_trans hbX hb1
  have HO1 := Lib.hid hO1
  have HB1 := Lib.hid hB1
  clear hX1 hO1 hb1 hbX hB1
  go_upto_region 2 with fail
  have hba : Below w1.heap.size w1 (w1.alloc (.cells #[.int .i64 D.id, .int .i64 D.nodes, .int .i64 D.next, .slice oA on oc, .int .i64 D.age, .int .i64 D.clock, .slice tA tn tc, .slice eA en ec, .slice rA rn rc, .slice none 0 0] 70)) := bel_alloc (Below.refl _ _)
  have HG2 : Hid (Blk (w1.alloc (.cells #[.int .i64 D.id, .int .i64 D.nodes, .int .i64 D.next, .slice oA on oc, .int .i64 D.age, .int .i64 D.clock, .slice tA tn tc, .slice eA en ec, .slice rA rn rc, .slice none 0 0] 70)) w1.heap.size 70 [.int .i64 D.id, .int .i64 D.nodes, .int .i64 D.next, .slice oA on oc, .int .i64 D.age, .int .i64 D.clock, .slice tA tn tc, .slice eA en ec, .slice rA rn rc, .slice none 0 0]) := Lib.hid (Blk.new w1 70 [.int .i64 D.id, .int .i64 D.nodes, .int .i64 D.next, .slice oA on oc, .int .i64 D.age, .int .i64 D.clock, .slice tA tn tc, .slice eA en ec, .slice rA rn rc, .slice none 0 0])
  obtain ⟨gs, hgs⟩ : ∃ g, g = w1.heap.size := ⟨_, rfl⟩
  obtain ⟨W2, hW2⟩ : ∃ Z, Z = w1.alloc (.cells #[.int .i64 D.id, .int .i64 D.nodes, .int .i64 D.next, .slice oA on oc, .int .i64 D.age, .int .i64 D.clock, .slice tA tn tc, .slice eA en ec, .slice rA rn rc, .slice none 0 0] 70) := ⟨_, rfl⟩
  rw [← hW2, ← hgs] at HG2 ⊢
  rw [← hW2] at hba
  clear hW2 hgs a_0 a_1 a_2 a_3 a_4 a_5 a_6 a_7 a_8 lb1
  have hbw2 := bel_trans hbw1 hba
  have hB2 := HB1.out.up hba
  have lb2 := hB2.lt
  have a_0 := (hB2.box).2 0 _ rfl; have a_1 := (hB2.box).2 1 _ rfl; have a_2 := (hB2.box).2 2 _ rfl; have a_3 := (hB2.box).2 3 _ rfl; have a_4 := (hB2.box).2 4 _ rfl; have a_5 := (hB2.box).2 5 _ rfl; have a_6 := (hB2.box).2 6 _ rfl; have a_7 := (hB2.box).2 7 _ rfl; have a_8 := (hB2.box).2 8 _ rfl
  have HO2 := Lib.hid (HO1.out.up hba)
  clear hB2 HB1 HO1 hbw1 hba
  rcases sealE_cases HE.out with ⟨y, hy, hy0, he⟩ | ⟨hy, hd, he⟩ | ⟨hy, hd, hk, he⟩
  · have e9 : se = y := by rw [← HSE.out, he]
    subst e9
    have HY := Lib.hid hy
    have hyy : (se != 0) = true := by simpa using hy0
    have HY0 := Lib.hid hy0
    clear hy he hy0
    go_wp2_with (go_at_call 41; refine (ref13_Make_no P D se _ (H.out.up hbw2) HY.out HY0.out HHL.out).mono ?_; rintro e w3 ⟨rfl, hb3⟩; have hbw3 := bel_trans hbw2 hb3; clear a_0 a_1 a_2 a_3 a_4 a_5 a_6 a_7 a_8 lb2)
    exact bodyPost_ret (v := .tuple #[.pointer (some ⟨gs, 0, none⟩), .int .i64 se]) (by simp [results, Tryz.results46, go_sem]) rfl ⟨_, rfl, bel_alloc hbw3⟩
  · have e9 : se = 1 := by rw [← HSE.out, he]
    subst e9
    have HE0 := Lib.hid hy
    have HD := Lib.hid hd
    clear hy he hd
    go_wp2_with (first
      | (go_at_call 41; refine (ref13_Make_ok P D _ (H.out.up hbw2) HE0.out HS.out.op).mono ?_; rintro e w3 ⟨v3, rfl, ho3, hb3⟩; obtain ⟨bA, bc, rfl, -⟩ := ho3.txs (by rw [List.length_take]; omega); have hbw3 := bel_trans hbw2 hb3; clear ho3 a_0 a_1 a_2 a_3 a_4 a_5 a_6 a_7 a_8 lb2)
      | (go_at_call 36; refine (refd_Digest d false _ HD.out).mono ?_; rintro e w' ⟨rfl, rfl⟩))
    exact bodyPost_ret (v := .tuple #[.pointer (some ⟨gs, 0, none⟩), .int .i64 1]) (by simp [results, Tryz.results46, go_sem]) rfl ⟨_, rfl, bel_alloc hbw3⟩
  · have e9 : se = 4 := by rw [← HSE.out, he]
    subst e9
    have HE0 := Lib.hid hy
    have HD := Lib.hid hd
    have hF : findI D.he d = (kposH D.he d : Int) := by unfold findI; rw [if_pos hk]
    have HFI := Lib.hid hF
    have hdp : decide (0 ≤ (kposH D.he d : Int)) = true := by simp only [decide_eq_true_eq]; omega
    clear hy he hd hk hF
    go_wp2_with (first
      | (go_at_call 41; refine (ref13_Make_ok P D _ (H.out.up hbw2) HE0.out HS.out.op).mono ?_; rintro e w3 ⟨v3, rfl, ho3, hb3⟩; obtain ⟨bA, bc, rfl, -⟩ := ho3.txs (by rw [List.length_take]; omega); have hbw3 := bel_trans hbw2 hb3; have HG3 := Lib.hid (HG2.out.up hb3); have HO3 := Lib.hid (HO2.out.up hb3); clear ho3 a_0 a_1 a_2 a_3 a_4 a_5 a_6 a_7 a_8 lb2)
      | (go_at_call 36; refine (refd_Digest d true _ HD.out).mono ?_; rintro e w' ⟨rfl, rfl⟩)
      | (go_at_call 83; refine (ref13_find gs _ _ _ _ _ _ _ _ _ eA en ec D.he d _ (HG3.out.up (bel_alloc (Below.refl _ _))) (((HO3.out.work HS.out).he).up (bel_alloc (Below.refl _ _))) HSH.out).mono ?_; rintro e w' ⟨rfl, rfl⟩; rw [HFI.out]))
    exact bodyPost_ret (v := .tuple #[.pointer (some ⟨gs, 0, none⟩), .int .i64 4]) (by simp [results, Tryz.results46, go_sem]) rfl ⟨_, rfl, bel_alloc hbw3⟩
end Go.Proofs.YtgfakefcmbpboaaGreat
