/- A new worker; a transaction more; a tick where nothing waits: at the program. -/
import Derived.Test.YtgfakefcmbpboaaSxWj
import Derived.Test.YtgfakefcmbpboaaSxWf
namespace Go.Proofs.Ytgfakefcmbpboaa
open Go.RowKit
set_option linter.unusedSimpArgs false
set_option linter.unusedVariables false

theorem own_grownLow {w w' : World} {B k n : Nat} {t : TypeId} {v : Value} {xs : List Value} {blk : Option Nat} (h : w.ownsRow B t k v n xs) (hg : w.grownBy w' blk) (hb : ∀ q, blk = some q → q < B) : w'.ownsRow B t k v n xs := by
  refine ⟨h.1, ?_⟩
  rcases h.2 with hn | ⟨g, cap, cur, rfl, hB, hgg, rest⟩
  · exact .inl hn
  · exact .inr ⟨g, cap, cur, rfl, hB, (hg.block g (Array.getElem?_eq_some_iff.1 hgg).1 (fun e => by have := hb g e.symm; omega)).trans hgg, rest⟩
theorem OwnHs.grownLow {w w' : World} {B : Nat} {v : Value} {l : List HeldD} {blk : Option Nat} (h : OwnHs w B v l) (hg : w.grownBy w' blk) (hb : ∀ q, blk = some q → q < B) : OwnHs w' B v l := by
  obtain ⟨ps, h1, h2, h3⟩ := h
  exact ⟨ps, own_grownLow h1 hg hb, h2, fun j hj => own_grownLow (h3 j hj) hg hb⟩
theorem OwnWs.farX {w w' : World} {B B' n' : Nat} {u v : Value} {l : List WaitD} {ys : List Value} (h : OwnWs w B u l) (hv : w.ownsRow B' 37 4 v n' ys) (hg : w.grownBy w' v.ownBlock) : OwnWs w' B u l := by
  obtain ⟨ps, h1, h2, h3⟩ := h
  exact ⟨ps, own_farT h1 hv (by decide) hg, h2, fun j hj => own_farT (h3 j hj) hv (by decide) hg⟩
theorem OwnHs.low9 {w : World} {B g : Nat} {v : Value} {l : List HeldD} (h : OwnHs w B v l) (hp : g < B) (a0 a1 a2 a3 a4 a5 a6 a7 a8 : Value) : OwnHs (((((((((w.setCell ⟨g, 0, none⟩ a0).setCell ⟨g, 1, none⟩ a1).setCell ⟨g, 2, none⟩ a2).setCell ⟨g, 3, none⟩ a3).setCell ⟨g, 4, none⟩ a4).setCell ⟨g, 5, none⟩ a5).setCell ⟨g, 6, none⟩ a6).setCell ⟨g, 7, none⟩ a7).setCell ⟨g, 8, none⟩ a8) B v l :=
  ((((((((h.low hp).low hp).low hp).low hp).low hp).low hp).low hp).low hp).low hp
theorem Blk.sets9 {w : World} {b g : Nat} {cs : List Value} {t : TypeId} (h : Blk w b t cs) (hne : b ≠ g) (a0 a1 a2 a3 a4 a5 a6 a7 a8 : Value) : Blk (((((((((w.setCell ⟨g, 0, none⟩ a0).setCell ⟨g, 1, none⟩ a1).setCell ⟨g, 2, none⟩ a2).setCell ⟨g, 3, none⟩ a3).setCell ⟨g, 4, none⟩ a4).setCell ⟨g, 5, none⟩ a5).setCell ⟨g, 6, none⟩ a6).setCell ⟨g, 7, none⟩ a7).setCell ⟨g, 8, none⟩ a8) b t cs :=
  ((((((((h.far (p := ⟨g, 0, none⟩) hne a0).far (p := ⟨g, 1, none⟩) hne a1).far (p := ⟨g, 2, none⟩) hne a2).far (p := ⟨g, 3, none⟩) hne a3).far (p := ⟨g, 4, none⟩) hne a4).far (p := ⟨g, 5, none⟩) hne a5).far (p := ⟨g, 6, none⟩) hne a6).far (p := ⟨g, 7, none⟩) hne a7).far (p := ⟨g, 8, none⟩) hne a8
theorem WorkO.low9 {w : World} {B g : Nat} {P D} (h : WorkO w B P D) (hp : g < B) (a0 a1 a2 a3 a4 a5 a6 a7 a8 : Value) : WorkO (((((((((w.setCell ⟨g, 0, none⟩ a0).setCell ⟨g, 1, none⟩ a1).setCell ⟨g, 2, none⟩ a2).setCell ⟨g, 3, none⟩ a3).setCell ⟨g, 4, none⟩ a4).setCell ⟨g, 5, none⟩ a5).setCell ⟨g, 6, none⟩ a6).setCell ⟨g, 7, none⟩ a7).setCell ⟨g, 8, none⟩ a8) B P D :=
  ((((((((h.low hp).low hp).low hp).low hp).low hp).low hp).low hp).low hp).low hp
theorem bel_sets9 {w x : World} {g : Nat} (h : Below w.heap.size w x) (hp : w.heap.size ≤ g) (a0 a1 a2 a3 a4 a5 a6 a7 a8 : Value) : Below w.heap.size w (((((((((x.setCell ⟨g, 0, none⟩ a0).setCell ⟨g, 1, none⟩ a1).setCell ⟨g, 2, none⟩ a2).setCell ⟨g, 3, none⟩ a3).setCell ⟨g, 4, none⟩ a4).setCell ⟨g, 5, none⟩ a5).setCell ⟨g, 6, none⟩ a6).setCell ⟨g, 7, none⟩ a7).setCell ⟨g, 8, none⟩ a8) :=
  ((((((((h.setCell (p := ⟨g, 0, none⟩) hp a0).setCell (p := ⟨g, 1, none⟩) hp a1).setCell (p := ⟨g, 2, none⟩) hp a2).setCell (p := ⟨g, 3, none⟩) hp a3).setCell (p := ⟨g, 4, none⟩) hp a4).setCell (p := ⟨g, 5, none⟩) hp a5).setCell (p := ⟨g, 6, none⟩) hp a6).setCell (p := ⟨g, 7, none⟩) hp a7).setCell (p := ⟨g, 8, none⟩) hp a8
def nilP : WorkP := ⟨⟨none, 0, 0⟩, ⟨none, 0, 0⟩, ⟨none, 0, 0⟩, ⟨none, 0, 0⟩⟩
def newD : WorkD := ⟨1, 1, 1, [], 0, 0, [], [], []⟩
theorem txsB_nil : txsB [] = true := txsB_iff.2 (fun j hj => absurd hj (by simp))
theorem wtB_nil (n : Int) : wtB [] n = true := wtB_iff.2 (fun j hj => absurd hj (by simp))
theorem hdB_nil : hdB [] = true := hdB_iff.2 (fun j hj => absurd hj (by simp))
theorem seenB_nil : seenB [] = true := seenB_iff.2 ⟨fun j hj => absurd hj (by simp), List.nodup_nil⟩
theorem newD_may : mayW newD = true := mayW_iff.2 ⟨by decide, by decide, by decide, numB_iff.2 (by decide), numB_iff.2 (by decide), numB_iff.2 (by decide), by decide, by decide, txsB_nil, wtB_nil _, hdB_nil, seenB_nil⟩
theorem nilP_new (w : World) : WorkR w nilP newD :=
  ⟨⟨rfl, by simp [flat, newD, nilP], by show 0 ≤ _; omega, fun h => absurd h (by show ¬ 0 < 0; omega)⟩, ⟨rfl, by show 0 ≤ _; omega, fun h => absurd h (by show ¬ 0 < 0; omega)⟩, ⟨rfl, by show 0 ≤ _; omega, fun h => absurd h (by show ¬ 0 < 0; omega)⟩, ⟨rfl, by show 0 ≤ _; omega, fun h => absurd h (by show ¬ 0 < 0; omega)⟩, Nat.le_refl _, by show 0 ≤ _; omega, Nat.le_refl _⟩
set_option maxRecDepth 100000 in
set_option maxHeartbeats 1000000 in
theorem worker_New11 (w : World) : Calls Try.prog 6 #[.int .i64 1, .int .i64 1] w fun e w' => e = .returned (.tuple #[.agg #[.int .i64 1, .int .i64 1, .int .i64 1, .slice none 0 0, .int .i64 0, .int .i64 0, .slice none 0 0, .slice none 0 0, .slice none 0 0], .int .i64 0]) ∧ Below w.heap.size w w' := by
  go_enter Try.func6, Try.ntmps6
  go_wp2_with fail
  refine (worker_May nilP newD true _ (nilP_new _) newD_may).mono ?_
  rintro e w1 ⟨rfl, hb1⟩
  have hz_w1 : w.heap.size + 2 ≤ w1.heap.size := (by have hq := (hb1).size; (try simp at hq); omega); have hc0_w1 := fun o => (bcell hb1).1 (w.heap.size) o (by first | (simp; done) | (simp; omega) | omega); have hc1_w1 := fun o => (bcell hb1).1 (w.heap.size + 1) o (by first | (simp; done) | (simp; omega) | omega); have hf0_w1 := fun o => (bcell hb1).2 (w.heap.size) o (by first | (simp; done) | (simp; omega) | omega); have hf1_w1 := fun o => (bcell hb1).2 (w.heap.size + 1) o (by first | (simp; done) | (simp; omega) | omega)
  go_wp2_with fail
  exact bodyPost_ret (v := .tuple #[.agg #[.int .i64 1, .int .i64 1, .int .i64 1, .slice none 0 0, .int .i64 0, .int .i64 0, .slice none 0 0, .slice none 0 0, .slice none 0 0], .int .i64 0]) (by simp [results, Try.results6, go_sem, *]) rfl ⟨rfl, belB⟩
def addOp (D : WorkD) (t : TxD) : WorkD := { D with op := D.op ++ [t] }
set_option maxRecDepth 100000 in
set_option maxHeartbeats 8000000 in
theorem worker_Add_ok (P : WorkP) (D : WorkD) (t : TxD) (w : World) (h : WorkR w P D) (hs : BigD D) (hm : mayW D = true) (ht : txS t = true) (hl : D.op.length < 64) :
    Calls Try.prog 8 #[P.val D, .agg #[.int .i64 t.se, .int .i64 t.sq, .string t.k, .string t.v]] w fun e w' => ∃ P', e = .returned (.tuple #[P'.val (addOp D t), .int .i64 0]) ∧ WorkO w' w.heap.size P' (addOp D t) ∧ Below w.heap.size w w' := by
  have H := Lib.hid h
  have HS := Lib.hid hs
  have HM := Lib.hid hm
  have HT := Lib.hid ht
  obtain ⟨⟨oA, on, oc⟩, ⟨tA, tn, tc⟩, ⟨eA, en, ec⟩, ⟨rA, rn, rc⟩⟩ := P
  have HON : Hid (D.op.length = on) := Lib.hid h.op.1
  have hon : on < 64 := by rw [← HON.out]; exact hl
  have hond : ((on : Int) == 64) = false := by simp; omega
  clear h hs hm ht hl
  show Calls Try.prog 8 #[.agg #[.int .i64 D.id, .int .i64 D.nodes, .int .i64 D.next, .slice oA on oc, .int .i64 D.age, .int .i64 D.clock, .slice tA tn tc, .slice eA en ec, .slice rA rn rc], .agg #[.int .i64 t.se, .int .i64 t.sq, .string t.k, .string t.v]] w _
  go_enter Try.func8, Try.ntmps8
  go_wp2_with fail
  have hX1 : Blk (((w.alloc (.cells #[.int .i64 D.id, .int .i64 D.nodes, .int .i64 D.next, .slice oA on oc, .int .i64 D.age, .int .i64 D.clock, .slice tA tn tc, .slice eA en ec, .slice rA rn rc] 27)).alloc (.cells #[.int .i64 t.se, .int .i64 t.sq, .string t.k, .string t.v] 37)).alloc (.cells #[.int .i64 0, .int .i64 0, .int .i64 0, .slice none 0 0, .int .i64 0, .int .i64 0, .slice none 0 0, .slice none 0 0, .slice none 0 0] 27)) w.heap.size 27 [.int .i64 D.id, .int .i64 D.nodes, .int .i64 D.next, .slice oA on oc, .int .i64 D.age, .int .i64 D.clock, .slice tA tn tc, .slice eA en ec, .slice rA rn rc] := (Blk.new w 27 [.int .i64 D.id, .int .i64 D.nodes, .int .i64 D.next, .slice oA on oc, .int .i64 D.age, .int .i64 D.clock, .slice tA tn tc, .slice eA en ec, .slice rA rn rc]).up (belA)
  have hX2 : Blk (((w.alloc (.cells #[.int .i64 D.id, .int .i64 D.nodes, .int .i64 D.next, .slice oA on oc, .int .i64 D.age, .int .i64 D.clock, .slice tA tn tc, .slice eA en ec, .slice rA rn rc] 27)).alloc (.cells #[.int .i64 t.se, .int .i64 t.sq, .string t.k, .string t.v] 37)).alloc (.cells #[.int .i64 0, .int .i64 0, .int .i64 0, .slice none 0 0, .int .i64 0, .int .i64 0, .slice none 0 0, .slice none 0 0, .slice none 0 0] 27)) (w.heap.size + 1) 37 [.int .i64 t.se, .int .i64 t.sq, .string t.k, .string t.v] := by
    have := (Blk.new (w.alloc (.cells #[.int .i64 D.id, .int .i64 D.nodes, .int .i64 D.next, .slice oA on oc, .int .i64 D.age, .int .i64 D.clock, .slice tA tn tc, .slice eA en ec, .slice rA rn rc] 27)) 37 [.int .i64 t.se, .int .i64 t.sq, .string t.k, .string t.v]).up (w' := (((w.alloc (.cells #[.int .i64 D.id, .int .i64 D.nodes, .int .i64 D.next, .slice oA on oc, .int .i64 D.age, .int .i64 D.clock, .slice tA tn tc, .slice eA en ec, .slice rA rn rc] 27)).alloc (.cells #[.int .i64 t.se, .int .i64 t.sq, .string t.k, .string t.v] 37)).alloc (.cells #[.int .i64 0, .int .i64 0, .int .i64 0, .slice none 0 0, .int .i64 0, .int .i64 0, .slice none 0 0, .slice none 0 0, .slice none 0 0] 27))) (belA)
    simpa using this
  have hX3 : Blk (((w.alloc (.cells #[.int .i64 D.id, .int .i64 D.nodes, .int .i64 D.next, .slice oA on oc, .int .i64 D.age, .int .i64 D.clock, .slice tA tn tc, .slice eA en ec, .slice rA rn rc] 27)).alloc (.cells #[.int .i64 t.se, .int .i64 t.sq, .string t.k, .string t.v] 37)).alloc (.cells #[.int .i64 0, .int .i64 0, .int .i64 0, .slice none 0 0, .int .i64 0, .int .i64 0, .slice none 0 0, .slice none 0 0, .slice none 0 0] 27)) (w.heap.size + 2) 27 [.int .i64 0, .int .i64 0, .int .i64 0, .slice none 0 0, .int .i64 0, .int .i64 0, .slice none 0 0, .slice none 0 0, .slice none 0 0] := by
    have := Blk.new ((w.alloc (.cells #[.int .i64 D.id, .int .i64 D.nodes, .int .i64 D.next, .slice oA on oc, .int .i64 D.age, .int .i64 D.clock, .slice tA tn tc, .slice eA en ec, .slice rA rn rc] 27)).alloc (.cells #[.int .i64 t.se, .int .i64 t.sq, .string t.k, .string t.v] 37)) 27 [.int .i64 0, .int .i64 0, .int .i64 0, .slice none 0 0, .int .i64 0, .int .i64 0, .slice none 0 0, .slice none 0 0, .slice none 0 0]
    simpa using this
  have hbX : Below w.heap.size w (((w.alloc (.cells #[.int .i64 D.id, .int .i64 D.nodes, .int .i64 D.next, .slice oA on oc, .int .i64 D.age, .int .i64 D.clock, .slice tA tn tc, .slice eA en ec, .slice rA rn rc] 27)).alloc (.cells #[.int .i64 t.se, .int .i64 t.sq, .string t.k, .string t.v] 37)).alloc (.cells #[.int .i64 0, .int .i64 0, .int .i64 0, .slice none 0 0, .int .i64 0, .int .i64 0, .slice none 0 0, .slice none 0 0, .slice none 0 0] 27)) := belA
  have hzX : w.heap.size + 3 ≤ (((w.alloc (.cells #[.int .i64 D.id, .int .i64 D.nodes, .int .i64 D.next, .slice oA on oc, .int .i64 D.age, .int .i64 D.clock, .slice tA tn tc, .slice eA en ec, .slice rA rn rc] 27)).alloc (.cells #[.int .i64 t.se, .int .i64 t.sq, .string t.k, .string t.v] 37)).alloc (.cells #[.int .i64 0, .int .i64 0, .int .i64 0, .slice none 0 0, .int .i64 0, .int .i64 0, .slice none 0 0, .slice none 0 0, .slice none 0 0] 27)).heap.size := by simp
  generalize (((w.alloc (.cells #[.int .i64 D.id, .int .i64 D.nodes, .int .i64 D.next, .slice oA on oc, .int .i64 D.age, .int .i64 D.clock, .slice tA tn tc, .slice eA en ec, .slice rA rn rc] 27)).alloc (.cells #[.int .i64 t.se, .int .i64 t.sq, .string t.k, .string t.v] 37)).alloc (.cells #[.int .i64 0, .int .i64 0, .int .i64 0, .slice none 0 0, .int .i64 0, .int .i64 0, .slice none 0 0, .slice none 0 0, .slice none 0 0] 27)) = X at *
  have HX1 := Lib.hid hX1
  have HX2 := Lib.hid hX2
  have HX3 := Lib.hid hX3
  clear hX1 hX2 hX3
  refine (worker_May ⟨⟨oA, on, oc⟩, ⟨tA, tn, tc⟩, ⟨eA, en, ec⟩, ⟨rA, rn, rc⟩⟩ D true _ (H.out.up hbX) HM.out).mono ?_
  rintro e w1 ⟨rfl, hb1⟩
  have hY1 := HX1.out.up hb1
  have hY2 := HX2.out.up hb1
  have HY3 := Lib.hid (HX3.out.up hb1)
  have hbY := bel_trans hbX hb1
  have hzY : w.heap.size + 3 ≤ w1.heap.size := Nat.le_trans hzX hb1.size
  have a_0 := (hY1.box).2 0 _ rfl; have a_1 := (hY1.box).2 1 _ rfl; have a_2 := (hY1.box).2 2 _ rfl; have a_3 := (hY1.box).2 3 _ rfl; have a_4 := (hY1.box).2 4 _ rfl; have a_5 := (hY1.box).2 5 _ rfl; have a_6 := (hY1.box).2 6 _ rfl; have a_7 := (hY1.box).2 7 _ rfl; have a_8 := (hY1.box).2 8 _ rfl
  have b_0 := (hY2.box).2 0 _ rfl; have b_1 := (hY2.box).2 1 _ rfl; have b_2 := (hY2.box).2 2 _ rfl; have b_3 := (hY2.box).2 3 _ rfl
  have HY1 := Lib.hid hY1
  have HY2 := Lib.hid hY2
  clear hY1 hY2 HX1 HX2 HX3 hb1 hzX hbX
  go_wp2_with fail
  refine (batch_MayTx t true _ HT.out).mono ?_
  rintro e w2 ⟨rfl, hb2⟩
  have hZ1 := HY1.out.up hb2
  have HZ2 := Lib.hid (HY2.out.up hb2)
  have HZ3 := Lib.hid (HY3.out.up hb2)
  have hbZ := bel_trans hbY hb2
  have hzZ : w.heap.size + 3 ≤ w2.heap.size := Nat.le_trans hzY hb2.size
  clear a_0 a_1 a_2 a_3 a_4 a_5 a_6 a_7 a_8 b_0 b_1 b_2 b_3
  have a_0 := (hZ1.box).2 0 _ rfl; have a_1 := (hZ1.box).2 1 _ rfl; have a_2 := (hZ1.box).2 2 _ rfl; have a_3 := (hZ1.box).2 3 _ rfl; have a_4 := (hZ1.box).2 4 _ rfl; have a_5 := (hZ1.box).2 5 _ rfl; have a_6 := (hZ1.box).2 6 _ rfl; have a_7 := (hZ1.box).2 7 _ rfl; have a_8 := (hZ1.box).2 8 _ rfl
  have HZ1 := Lib.hid hZ1
  clear hZ1 HY1 HY2 HY3 hbY hzY hb2
  go_wp2_with fail
  refine (worker_Own ⟨⟨oA, on, oc⟩, ⟨tA, tn, tc⟩, ⟨eA, en, ec⟩, ⟨rA, rn, rc⟩⟩ D _ (H.out.up hbZ) HS.out).mono ?_
  rintro e w3 ⟨⟨⟨oA2, on2, oc2⟩, ⟨tA2, tn2, tc2⟩, ⟨eA2, en2, ec2⟩, ⟨rA2, rn2, rc2⟩⟩, he3, hO3, ⟨B2, hB1, hB4, hH3⟩, hb3⟩
  simp only [WorkP.val] at he3
  subst he3
  have hV1 := HZ1.out.up hb3
  have hV2 := HZ2.out.up hb3
  have hV3 := HZ3.out.up hb3
  have hbV := bel_trans hbZ hb3
  have hzV : w.heap.size + 3 ≤ w3.heap.size := Nat.le_trans hzZ hb3.size
  have fV1 := hV1.frozen
  have lV1 := hV1.lt
  have v_0 := (hV1.box).2 0 _ rfl; have v_1 := (hV1.box).2 1 _ rfl; have v_2 := (hV1.box).2 2 _ rfl; have v_3 := (hV1.box).2 3 _ rfl; have v_4 := (hV1.box).2 4 _ rfl; have v_5 := (hV1.box).2 5 _ rfl; have v_6 := (hV1.box).2 6 _ rfl; have v_7 := (hV1.box).2 7 _ rfl; have v_8 := (hV1.box).2 8 _ rfl
  have hO4 : WorkO w3 (w.heap.size + 3) ⟨⟨oA2, on2, oc2⟩, ⟨tA2, tn2, tc2⟩, ⟨eA2, en2, ec2⟩, ⟨rA2, rn2, rc2⟩⟩ D := hO3.mono (by omega)
  have HO4 := Lib.hid hO4
  have HH3 := Lib.hid hH3
  have HB4 := Lib.hid hB4
  have hB2 : w.heap.size + 3 ≤ B2 := by omega
  have HV1 := Lib.hid hV1
  have HV2 := Lib.hid hV2
  have HV3 := Lib.hid hV3
  have hon2 : on2 = on := by have e1 := (hO3.work HS.out).op.1; have e2 := HON.out; dsimp only at e1; omega
  subst hon2
  clear hH3 hB4 hO3 hO4 hV1 hV2 hV3 HZ1 HZ2 HZ3 hbZ hzZ hb3 a_0 a_1 a_2 a_3 a_4 a_5 a_6 a_7 a_8
  go_upto_region 6 with fail
  have hR := set9 HV1.out rfl (.int .i64 D.id) (.int .i64 D.nodes) (.int .i64 D.next) (.slice oA2 on2 oc2) (.int .i64 D.age) (.int .i64 D.clock) (.slice tA2 tn2 tc2) (.slice eA2 en2 ec2) (.slice rA2 rn2 rc2)
  have hS := (HV2.out.sets9 (g := w.heap.size) (by omega) (.int .i64 D.id) (.int .i64 D.nodes) (.int .i64 D.next) (.slice oA2 on2 oc2) (.int .i64 D.age) (.int .i64 D.clock) (.slice tA2 tn2 tc2) (.slice eA2 en2 ec2) (.slice rA2 rn2 rc2))
  have hU := (HV3.out.sets9 (g := w.heap.size) (by omega) (.int .i64 D.id) (.int .i64 D.nodes) (.int .i64 D.next) (.slice oA2 on2 oc2) (.int .i64 D.age) (.int .i64 D.clock) (.slice tA2 tn2 tc2) (.slice eA2 en2 ec2) (.slice rA2 rn2 rc2))
  have hW := HO4.out.low9 (g := w.heap.size) (by omega) (.int .i64 D.id) (.int .i64 D.nodes) (.int .i64 D.next) (.slice oA2 on2 oc2) (.int .i64 D.age) (.int .i64 D.clock) (.slice tA2 tn2 tc2) (.slice eA2 en2 ec2) (.slice rA2 rn2 rc2)
  have hHB := HH3.out.low9 (g := w.heap.size) (by omega) (.int .i64 D.id) (.int .i64 D.nodes) (.int .i64 D.next) (.slice oA2 on2 oc2) (.int .i64 D.age) (.int .i64 D.clock) (.slice tA2 tn2 tc2) (.slice eA2 en2 ec2) (.slice rA2 rn2 rc2)
  have hbR := bel_sets9 hbV (Nat.le_refl _) (.int .i64 D.id) (.int .i64 D.nodes) (.int .i64 D.next) (.slice oA2 on2 oc2) (.int .i64 D.age) (.int .i64 D.clock) (.slice tA2 tn2 tc2) (.slice eA2 en2 ec2) (.slice rA2 rn2 rc2)
  obtain ⟨Y, hY⟩ : ∃ Y, Y = (((((((((w3.setCell ⟨w.heap.size, 0, none⟩ (.int .i64 D.id)).setCell ⟨w.heap.size, 1, none⟩ (.int .i64 D.nodes)).setCell ⟨w.heap.size, 2, none⟩ (.int .i64 D.next)).setCell ⟨w.heap.size, 3, none⟩ (.slice oA2 on2 oc2)).setCell ⟨w.heap.size, 4, none⟩ (.int .i64 D.age)).setCell ⟨w.heap.size, 5, none⟩ (.int .i64 D.clock)).setCell ⟨w.heap.size, 6, none⟩ (.slice tA2 tn2 tc2)).setCell ⟨w.heap.size, 7, none⟩ (.slice eA2 en2 ec2)).setCell ⟨w.heap.size, 8, none⟩ (.slice rA2 rn2 rc2)) := ⟨_, rfl⟩
  rw [← hY] at hR hS hU hW hbR hHB
  rw [← hY]
  clear hY v_0 v_1 v_2 v_3 v_4 v_5 v_6 v_7 v_8 HV1 HV2 HV3 HO4 fV1 lV1 hbV hzV
  have HR := Lib.hid hR
  have HSx := Lib.hid hS
  have HU := Lib.hid hU
  have HW := Lib.hid hW
  have HHB := Lib.hid (hHB.up (w' := Y.alloc (.cells #[.int .i64 t.se, .int .i64 t.sq, .string t.k, .string t.v] 37)) (belB))
  have fR := hR.frozen
  have lR := hR.lt
  have lS := hS.lt
  have a_0 := (hR.box).2 0 _ rfl; have a_1 := (hR.box).2 1 _ rfl; have a_2 := (hR.box).2 2 _ rfl; have a_3 := (hR.box).2 3 _ rfl; have a_4 := (hR.box).2 4 _ rfl; have a_5 := (hR.box).2 5 _ rfl; have a_6 := (hR.box).2 6 _ rfl; have a_7 := (hR.box).2 7 _ rfl; have a_8 := (hR.box).2 8 _ rfl
  have b_0 := (hS.box).2 0 _ rfl; have b_1 := (hS.box).2 1 _ rfl; have b_2 := (hS.box).2 2 _ rfl; have b_3 := (hS.box).2 3 _ rfl
  have hzY : w.heap.size + 3 ≤ Y.heap.size := by have := hU.lt; omega
  have hbx := BoxR.new Y [.int .i64 t.se, .int .i64 t.sq, .string t.k, .string t.v] 37
  have hba : Below Y.heap.size Y (Y.alloc (.cells #[.int .i64 t.se, .int .i64 t.sq, .string t.k, .string t.v] 37)) := belB
  have HBX := Lib.hid hbx
  have hOPx : OwnX (Y.alloc (.cells #[.int .i64 t.se, .int .i64 t.sq, .string t.k, .string t.v] 37)) (w.heap.size + 3) (.slice oA2 on2 oc2) D.op := HW.out.op.up hba
  have hlen1 : D.op.length + 1 ≤ 900000000 := by rw [HON.out]; omega
  have HOPX := Lib.hid hOPx
  have hsz1 : w.heap.size + 3 ≤ (Y.alloc (.cells #[.int .i64 t.se, .int .i64 t.sq, .string t.k, .string t.v] 37)).heap.size := Nat.le_trans hzY hba.size
  have HSZ := Lib.hid hsz1
  clear hR hS hU hW hHB hbx hOPx hsz1
  go_wp2_with (at_builtin; refine wpList_appX rfl (.tmp 25) (.tmp 27) rfl rfl (w.heap.size + 3) (.slice oA2 on2 oc2) D.op rfl HOPX.out Y.heap.size 0 1 1 [t] rfl rfl (fun j u hu => (by rw [Nat.zero_add]; exact HBX.out.2 j u (by simpa [flat, encX] using hu))) hlen1 HSZ.out ?_; intro v5 w5 hown5 hg5 hb5 hat5; obtain ⟨A5, c5, e5, _⟩ := OwnX.txs hown5 (by simp; omega); obtain ⟨n5, hn5⟩ : ∃ x, (D.op ++ [t]).length = x := ⟨_, rfl⟩; rw [hn5] at e5; clear hn5; subst e5; have hK5 := (HR.out.up hba).grown2 hg5 (fun e => (by have := (own_lt HOPX.out _ e).1; omega)); have hL5 := (HU.out.up hba).grown2 hg5 (fun e => (by have := (own_lt HOPX.out _ e).1; omega)); have f5 := hK5.frozen; have l5 := hK5.lt; have fL5 := hL5.frozen; have lL5 := hL5.lt; have c_0 := (hK5.box).2 0 _ rfl; have c_1 := (hK5.box).2 1 _ rfl; have c_2 := (hK5.box).2 2 _ rfl; have c_3 := (hK5.box).2 3 _ rfl; have c_4 := (hK5.box).2 4 _ rfl; have c_5 := (hK5.box).2 5 _ rfl; have c_6 := (hK5.box).2 6 _ rfl; have c_7 := (hK5.box).2 7 _ rfl; have c_8 := (hK5.box).2 8 _ rfl; have d_0 := (hL5.box).2 0 _ rfl; have d_1 := (hL5.box).2 1 _ rfl; have d_2 := (hL5.box).2 2 _ rfl; have d_3 := (hL5.box).2 3 _ rfl; have d_4 := (hL5.box).2 4 _ rfl; have d_5 := (hL5.box).2 5 _ rfl; have d_6 := (hL5.box).2 6 _ rfl; have d_7 := (hL5.box).2 7 _ rfl; have d_8 := (hL5.box).2 8 _ rfl; have HK5 := Lib.hid hK5; have HL5 := Lib.hid hL5; have HO5 := Lib.hid hown5; have HG5 := Lib.hid hg5; clear hK5 hL5 hown5 hg5)
  have hQ := HL5.out.far (p := ⟨w.heap.size, 3, none⟩) (by simp) (.slice A5 n5 c5)
  have hR5 := set9 hQ rfl (.int .i64 D.id) (.int .i64 D.nodes) (.int .i64 D.next) (.slice A5 n5 c5) (.int .i64 D.age) (.int .i64 D.clock) (.slice tA2 tn2 tc2) (.slice eA2 en2 ec2) (.slice rA2 rn2 rc2)
  have r_0 := (hR5.box).2 0 _ rfl; have r_1 := (hR5.box).2 1 _ rfl; have r_2 := (hR5.box).2 2 _ rfl; have r_3 := (hR5.box).2 3 _ rfl; have r_4 := (hR5.box).2 4 _ rfl; have r_5 := (hR5.box).2 5 _ rfl; have r_6 := (hR5.box).2 6 _ rfl; have r_7 := (hR5.box).2 7 _ rfl; have r_8 := (hR5.box).2 8 _ rfl
  have hbw5 : Below w.heap.size w w5 := Below.trans (bel_trans hbR hba) (hb5.mono (by omega))
  have hWO : WorkO w5 (w.heap.size + 3) ⟨⟨A5, n5, c5⟩, ⟨tA2, tn2, tc2⟩, ⟨eA2, en2, ec2⟩, ⟨rA2, rn2, rc2⟩⟩ (addOp D t) :=
    ⟨HO5.out, (HW.out.wa.up hba).farX HOPX.out HG5.out, (HHB.out.grownLow HG5.out HB4.out).mono hB2, own_farT (HW.out.re.up hba) HOPX.out (by decide) HG5.out⟩
  have HWO := Lib.hid hWO
  clear hQ hR5 hWO
  exact bodyPost_ret (v := .tuple #[.agg #[.int .i64 D.id, .int .i64 D.nodes, .int .i64 D.next, .slice A5 n5 c5, .int .i64 D.age, .int .i64 D.clock, .slice tA2 tn2 tc2, .slice eA2 en2 ec2, .slice rA2 rn2 rc2], .int .i64 0]) (by simp [results, Try.results8, go_sem, r_0, r_1, r_2, r_3, r_4, r_5, r_6, r_7, r_8]) rfl ⟨⟨⟨A5, n5, c5⟩, ⟨tA2, tn2, tc2⟩, ⟨eA2, en2, ec2⟩, ⟨rA2, rn2, rc2⟩⟩, rfl, (by (refine WorkO.mono (B := w.heap.size + 3) ?_ (by omega)); (repeat ((with_reducible refine WorkO.low ?_ ?_); rotate_left; (omega))); exact HWO.out), belB⟩
end Go.Proofs.Ytgfakefcmbpboaa
