/- A transaction more that is refused, at the program: Add. -/
import Derived.Test.YtgfakefcmbpboaaSxWsc
import Derived.Test.YtgfakefcmbpboaaSxWsd
import Derived.Test.YtgfakefcmbpboaaSxWh
import Derived.Test.YtgfakefcmbpboaaSxWx2
namespace Go.Proofs.Ytgfakefcmbpboaa
open Go.RowKit
set_option linter.unusedSimpArgs false
set_option linter.unusedVariables false

def zeroW : Value := .agg #[.int .i64 0, .int .i64 0, .int .i64 0, .slice none 0 0, .int .i64 0, .int .i64 0, .slice none 0 0, .slice none 0 0, .slice none 0 0]
noncomputable def addE (D : WorkD) (t : TxD) : Int := if mayW D = true ∧ txS t = true then (if D.op.length < 64 then 0 else 8) else 1
set_option maxRecDepth 100000 in
set_option maxHeartbeats 4000000 in
theorem worker_Add_no (P : WorkP) (D : WorkD) (t : TxD) (y : Int) (w : World) (h : WorkR w P D) (hy : addE D t = y) (hy0 : y ≠ 0) :
    Calls Try.prog 8 #[P.val D, .agg #[.int .i64 t.se, .int .i64 t.sq, .string t.k, .string t.v]] w fun e w' => e = .returned (.tuple #[zeroW, .int .i64 y]) ∧ Below w.heap.size w w' := by
  have H := Lib.hid h
  obtain ⟨⟨oA, on, oc⟩, ⟨tA, tn, tc⟩, ⟨eA, en, ec⟩, ⟨rA, rn, rc⟩⟩ := P
  have HON : Hid (D.op.length = on) := Lib.hid h.op.1
  obtain ⟨z, hz⟩ : ∃ z, mayW D = z := ⟨_, rfl⟩
  have HZ := Lib.hid hz
  clear h
  show Calls Try.prog 8 #[.agg #[.int .i64 D.id, .int .i64 D.nodes, .int .i64 D.next, .slice oA on oc, .int .i64 D.age, .int .i64 D.clock, .slice tA tn tc, .slice eA en ec, .slice rA rn rc], .agg #[.int .i64 t.se, .int .i64 t.sq, .string t.k, .string t.v]] w _
  go_enter Try.func8, Try.ntmps8
  go_wp2_with fail
  have hX1 : Blk (((w.alloc (.cells #[.int .i64 D.id, .int .i64 D.nodes, .int .i64 D.next, .slice oA on oc, .int .i64 D.age, .int .i64 D.clock, .slice tA tn tc, .slice eA en ec, .slice rA rn rc] 27)).alloc (.cells #[.int .i64 t.se, .int .i64 t.sq, .string t.k, .string t.v] 37)).alloc (.cells #[.int .i64 0, .int .i64 0, .int .i64 0, .slice none 0 0, .int .i64 0, .int .i64 0, .slice none 0 0, .slice none 0 0, .slice none 0 0] 27)) w.heap.size 27 [.int .i64 D.id, .int .i64 D.nodes, .int .i64 D.next, .slice oA on oc, .int .i64 D.age, .int .i64 D.clock, .slice tA tn tc, .slice eA en ec, .slice rA rn rc] := (Blk.new w 27 [.int .i64 D.id, .int .i64 D.nodes, .int .i64 D.next, .slice oA on oc, .int .i64 D.age, .int .i64 D.clock, .slice tA tn tc, .slice eA en ec, .slice rA rn rc]).up (belA)
  have hX2 : Blk (((w.alloc (.cells #[.int .i64 D.id, .int .i64 D.nodes, .int .i64 D.next, .slice oA on oc, .int .i64 D.age, .int .i64 D.clock, .slice tA tn tc, .slice eA en ec, .slice rA rn rc] 27)).alloc (.cells #[.int .i64 t.se, .int .i64 t.sq, .string t.k, .string t.v] 37)).alloc (.cells #[.int .i64 0, .int .i64 0, .int .i64 0, .slice none 0 0, .int .i64 0, .int .i64 0, .slice none 0 0, .slice none 0 0, .slice none 0 0] 27)) (w.heap.size + 1) 37 [.int .i64 t.se, .int .i64 t.sq, .string t.k, .string t.v] := by
    have := (Blk.new (w.alloc (.cells #[.int .i64 D.id, .int .i64 D.nodes, .int .i64 D.next, .slice oA on oc, .int .i64 D.age, .int .i64 D.clock, .slice tA tn tc, .slice eA en ec, .slice rA rn rc] 27)) 37 [.int .i64 t.se, .int .i64 t.sq, .string t.k, .string t.v]).up (w' := (((w.alloc (.cells #[.int .i64 D.id, .int .i64 D.nodes, .int .i64 D.next, .slice oA on oc, .int .i64 D.age, .int .i64 D.clock, .slice tA tn tc, .slice eA en ec, .slice rA rn rc] 27)).alloc (.cells #[.int .i64 t.se, .int .i64 t.sq, .string t.k, .string t.v] 37)).alloc (.cells #[.int .i64 0, .int .i64 0, .int .i64 0, .slice none 0 0, .int .i64 0, .int .i64 0, .slice none 0 0, .slice none 0 0, .slice none 0 0] 27))) (belA)
    simpa using this
  have hX3 : Blk (((w.alloc (.cells #[.int .i64 D.id, .int .i64 D.nodes, .int .i64 D.next, .slice oA on oc, .int .i64 D.age, .int .i64 D.clock, .slice tA tn tc, .slice eA en ec, .slice rA rn rc] 27)).alloc (.cells #[.int .i64 t.se, .int .i64 t.sq, .string t.k, .string t.v] 37)).alloc (.cells #[.int .i64 0, .int .i64 0, .int .i64 0, .slice none 0 0, .int .i64 0, .int .i64 0, .slice none 0 0, .slice none 0 0, .slice none 0 0] 27)) (w.heap.size + 2) 27 [.int .i64 0, .int .i64 0, .int .i64 0, .slice none 0 0, .int .i64 0, .int .i64 0, .slice none 0 0, .slice none 0 0, .slice none 0 0] := by
    have := Blk.new ((w.alloc (.cells #[.int .i64 D.id, .int .i64 D.nodes, .int .i64 D.next, .slice oA on oc, .int .i64 D.age, .int .i64 D.clock, .slice tA tn tc, .slice eA en ec, .slice rA rn rc] 27)).alloc (.cells #[.int .i64 t.se, .int .i64 t.sq, .string t.k, .string t.v] 37)) 27 [.int .i64 0, .int .i64 0, .int .i64 0, .slice none 0 0, .int .i64 0, .int .i64 0, .slice none 0 0, .slice none 0 0, .slice none 0 0]
    simpa using this
  have hbX : Below w.heap.size w (((w.alloc (.cells #[.int .i64 D.id, .int .i64 D.nodes, .int .i64 D.next, .slice oA on oc, .int .i64 D.age, .int .i64 D.clock, .slice tA tn tc, .slice eA en ec, .slice rA rn rc] 27)).alloc (.cells #[.int .i64 t.se, .int .i64 t.sq, .string t.k, .string t.v] 37)).alloc (.cells #[.int .i64 0, .int .i64 0, .int .i64 0, .slice none 0 0, .int .i64 0, .int .i64 0, .slice none 0 0, .slice none 0 0, .slice none 0 0] 27)) := belA
  generalize (((w.alloc (.cells #[.int .i64 D.id, .int .i64 D.nodes, .int .i64 D.next, .slice oA on oc, .int .i64 D.age, .int .i64 D.clock, .slice tA tn tc, .slice eA en ec, .slice rA rn rc] 27)).alloc (.cells #[.int .i64 t.se, .int .i64 t.sq, .string t.k, .string t.v] 37)).alloc (.cells #[.int .i64 0, .int .i64 0, .int .i64 0, .slice none 0 0, .int .i64 0, .int .i64 0, .slice none 0 0, .slice none 0 0, .slice none 0 0] 27)) = X at *
  have HX1 := Lib.hid hX1
  have HX2 := Lib.hid hX2
  have HX3 := Lib.hid hX3
  clear hX1 hX2 hX3
  refine (worker_May ⟨⟨oA, on, oc⟩, ⟨tA, tn, tc⟩, ⟨eA, en, ec⟩, ⟨rA, rn, rc⟩⟩ D z _ (H.out.up hbX) HZ.out).mono ?_
  rintro e w1 ⟨rfl, hb1⟩
  have hY1 := HX1.out.up hb1
  have hY2 := HX2.out.up hb1
  have hY3 := HX3.out.up hb1
  have hbY := bel_trans hbX hb1
  have l1 := hY1.lt
  have l2 := hY2.lt
  have l3 := hY3.lt
  have f3 := hY3.frozen
  have a_0 := (hY1.box).2 0 _ rfl; have a_1 := (hY1.box).2 1 _ rfl; have a_2 := (hY1.box).2 2 _ rfl; have a_3 := (hY1.box).2 3 _ rfl; have a_4 := (hY1.box).2 4 _ rfl; have a_5 := (hY1.box).2 5 _ rfl; have a_6 := (hY1.box).2 6 _ rfl; have a_7 := (hY1.box).2 7 _ rfl; have a_8 := (hY1.box).2 8 _ rfl
  have b_0 := (hY2.box).2 0 _ rfl; have b_1 := (hY2.box).2 1 _ rfl; have b_2 := (hY2.box).2 2 _ rfl; have b_3 := (hY2.box).2 3 _ rfl
  have c_0 := (hY3.box).2 0 _ rfl; have c_1 := (hY3.box).2 1 _ rfl; have c_2 := (hY3.box).2 2 _ rfl; have c_3 := (hY3.box).2 3 _ rfl; have c_4 := (hY3.box).2 4 _ rfl; have c_5 := (hY3.box).2 5 _ rfl; have c_6 := (hY3.box).2 6 _ rfl; have c_7 := (hY3.box).2 7 _ rfl; have c_8 := (hY3.box).2 8 _ rfl
  have HY1 := Lib.hid hY1
  have HY3 := Lib.hid hY3
  have HY2 := Lib.hid hY2
  clear hY1 hY2 hY3 HX1 HX2 HX3 hb1 hbX
  cases z
  · have hy1 : y = 1 := by rw [← hy]; unfold addE; rw [if_neg (by rw [hz]; simp)]
    subst hy1
    clear hy
    go_wp2_with fail
    exact bodyPost_ret (v := .tuple #[.agg #[.int .i64 0, .int .i64 0, .int .i64 0, .slice none 0 0, .int .i64 0, .int .i64 0, .slice none 0 0, .slice none 0 0, .slice none 0 0], .int .i64 1]) (by simp [results, Try.results8, go_sem, *]) rfl ⟨rfl, belB⟩
  · obtain ⟨z2, hz2⟩ : ∃ z, txS t = z := ⟨_, rfl⟩
    have HZ2 := Lib.hid hz2
    go_wp2_with fail
    refine (batch_MayTx t z2 _ HZ2.out).mono ?_
    rintro e w2 ⟨rfl, hb2⟩
    have hZ1 := HY1.out.up hb2
    have hZ3 := HY3.out.up hb2
    have hbZ := bel_trans hbY hb2
    have m1 := hZ1.lt
    have m3 := hZ3.lt
    have f4 := hZ3.frozen
    clear a_0 a_1 a_2 a_3 a_4 a_5 a_6 a_7 a_8 b_0 b_1 b_2 b_3 c_0 c_1 c_2 c_3 c_4 c_5 c_6 c_7 c_8 l1 l2 l3 f3 HY1 HY2 HY3 hbY hb2
    have a_0 := (hZ1.box).2 0 _ rfl; have a_1 := (hZ1.box).2 1 _ rfl; have a_2 := (hZ1.box).2 2 _ rfl; have a_3 := (hZ1.box).2 3 _ rfl; have a_4 := (hZ1.box).2 4 _ rfl; have a_5 := (hZ1.box).2 5 _ rfl; have a_6 := (hZ1.box).2 6 _ rfl; have a_7 := (hZ1.box).2 7 _ rfl; have a_8 := (hZ1.box).2 8 _ rfl
    have c_0 := (hZ3.box).2 0 _ rfl; have c_1 := (hZ3.box).2 1 _ rfl; have c_2 := (hZ3.box).2 2 _ rfl; have c_3 := (hZ3.box).2 3 _ rfl; have c_4 := (hZ3.box).2 4 _ rfl; have c_5 := (hZ3.box).2 5 _ rfl; have c_6 := (hZ3.box).2 6 _ rfl; have c_7 := (hZ3.box).2 7 _ rfl; have c_8 := (hZ3.box).2 8 _ rfl
    clear hZ1 hZ3
    cases z2
    · have hy1 : y = 1 := by rw [← hy]; unfold addE; rw [if_neg (by rw [hz2]; simp)]
      subst hy1
      clear hy hz2
      go_wp2_with fail
      exact bodyPost_ret (v := .tuple #[.agg #[.int .i64 0, .int .i64 0, .int .i64 0, .slice none 0 0, .int .i64 0, .int .i64 0, .slice none 0 0, .slice none 0 0, .slice none 0 0], .int .i64 1]) (by simp [results, Try.results8, go_sem, *]) rfl ⟨rfl, belB⟩
    · have hm := (mayW_iff.1 hz).2.2.2.2.2.2.1
      have hy1 : y = if D.op.length < 64 then 0 else 8 := by rw [← hy]; unfold addE; rw [if_pos ⟨hz, hz2⟩]
      have hon : on = 64 := by
        rw [HON.out] at hm hy1
        rcases Nat.lt_or_ge on 64 with h | h
        · rw [if_pos h] at hy1; exact absurd hy1 hy0
        · omega
      have hy8 : y = 8 := by rw [hy1, HON.out, if_neg (by omega)]
      subst hy8
      subst hon
      clear hy hz2 hm hy1
      go_wp2_with fail
      exact bodyPost_ret (v := .tuple #[.agg #[.int .i64 0, .int .i64 0, .int .i64 0, .slice none 0 0, .int .i64 0, .int .i64 0, .slice none 0 0, .slice none 0 0, .slice none 0 0], .int .i64 8]) (by simp [results, Try.results8, go_sem, *]) rfl ⟨rfl, belB⟩
end Go.Proofs.Ytgfakefcmbpboaa
namespace Go.Proofs.Ytgfakefcmbpboaa
open Go.RowKit
set_option linter.unusedSimpArgs false
set_option linter.unusedVariables false

def cSnd : Code → Code
  | .seq _ c => c
  | c => c
def cFst : Code → Code
  | .seq c _ => c
  | c => c
def cAfter : Nat → Code → Code
  | 0, c => c
  | n + 1, c => cAfter n (cSnd c)
theorem box_app {w : World} {g : Nat} {l m : List Value} (h : BoxR w g (l ++ m)) {j : Nat} {u : Value} (hu : l[j]? = some u) : w.cell? ⟨g, j, none⟩ = some u := h.2 j u ((List.getElem?_append_left ((List.getElem?_eq_some_iff.1 hu).1)).trans hu)
theorem belw_sets9 {n : Nat} {w Y : World} {g : Nat} (h : Below n w Y) (hp : n ≤ g) (a0 a1 a2 a3 a4 a5 a6 a7 a8 : Value) : Below n w (((((((((Y.setCell ⟨g, 0, none⟩ a0).setCell ⟨g, 1, none⟩ a1).setCell ⟨g, 2, none⟩ a2).setCell ⟨g, 3, none⟩ a3).setCell ⟨g, 4, none⟩ a4).setCell ⟨g, 5, none⟩ a5).setCell ⟨g, 6, none⟩ a6).setCell ⟨g, 7, none⟩ a7).setCell ⟨g, 8, none⟩ a8) :=
  ((((((((h.setCell (p := ⟨g, 0, none⟩) hp a0).setCell (p := ⟨g, 1, none⟩) hp a1).setCell (p := ⟨g, 2, none⟩) hp a2).setCell (p := ⟨g, 3, none⟩) hp a3).setCell (p := ⟨g, 4, none⟩) hp a4).setCell (p := ⟨g, 5, none⟩) hp a5).setCell (p := ⟨g, 6, none⟩) hp a6).setCell (p := ⟨g, 7, none⟩) hp a7).setCell (p := ⟨g, 8, none⟩) hp a8
end Go.Proofs.Ytgfakefcmbpboaa
