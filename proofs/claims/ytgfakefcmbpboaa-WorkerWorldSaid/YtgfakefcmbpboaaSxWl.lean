/- Which batch a worker would make: at the program, at the reference. -/
import Derived.Test.YtgfakefcmbpboaaSxWi
import Derived.Deep.CutBlock
import Derived.Deep.RegionHeld3
namespace Go.Proofs.Ytgfakefcmbpboaa
open Go.RowKit
set_option linter.unusedSimpArgs false
set_option linter.unusedVariables false

def nxE (D : WorkD) : Int := if (D.op.length < 8 ∧ (D.op.length = 0 ∨ D.age < 4)) ∨ 1099511627776 ≤ D.next then 10 else if 1024 ≤ D.he.length then 8 else 0
theorem nxE_zero {D : WorkD} (h : nxE D = 0) : (8 ≤ D.op.length ∨ (D.op.length ≠ 0 ∧ 4 ≤ D.age)) ∧ D.next < 1099511627776 ∧ D.he.length < 1024 := by
  unfold nxE at h
  split at h
  · omega
  · split at h
    · omega
    · omega
def nxD (D : WorkD) : BatchD := ⟨D.id, D.next, D.op.take 8⟩
set_option maxRecDepth 100000 in
set_option maxHeartbeats 4000000 in
theorem worker_Next_no (P : WorkP) (D : WorkD) (y : Int) (w : World) (h : WorkR w P D) (hy : nxE D = y) (hy0 : y ≠ 0) (hhe : D.he.length ≤ 1024) :
    Calls Try.prog 23 #[P.val D] w fun e w' => e = .returned (.tuple #[.agg #[.int .i64 0, .int .i64 0, .slice none 0 0], .int .i64 y]) ∧ Below w.heap.size w w' := by
  obtain ⟨⟨oA, on, oc⟩, ⟨tA, tn, tc⟩, ⟨eA, en, ec⟩, ⟨rA, rn, rc⟩⟩ := P
  have HO : Hid (TxsR w oA on D.op) := Lib.hid h.op
  have HON : Hid (D.op.length = on) := Lib.hid h.op.1
  have HEN : Hid (D.he.length = en) := Lib.hid h.he.1
  have hoc : on ≤ oc := h.oc
  have hom : oc ≤ 9223372036854775807 := h.om
  have hen : en ≤ 9223372036854775807 := h.he.2.1
  obtain ⟨next, hnx⟩ : ∃ z, D.next = z := ⟨_, rfl⟩
  obtain ⟨age, hag⟩ : ∃ z, D.age = z := ⟨_, rfl⟩
  have hen2 : en ≤ 1024 := by rw [← HEN.out]; exact hhe
  have hY : y = if (on < 8 ∧ (on = 0 ∨ age < 4)) ∨ 1099511627776 ≤ next then 10 else if 1024 ≤ en then 8 else 0 := by rw [← hy]; unfold nxE; rw [HON.out, HEN.out, hnx, hag]
  have HY := Lib.hid hY
  have HY0 := Lib.hid hy0
  show Calls Try.prog 23 #[.agg #[.int .i64 D.id, .int .i64 D.nodes, .int .i64 D.next, .slice oA on oc, .int .i64 D.age, .int .i64 D.clock, .slice tA tn tc, .slice eA en ec, .slice rA rn rc]] w _
  rw [hnx, hag]
  clear h hy hy0 hhe hnx hag hY
  have H10 : Hid (((on < 8 ∧ (on = 0 ∨ age < 4)) ∨ 1099511627776 ≤ next) → y = 10) := Lib.hid (fun q => by rw [HY.out, if_pos q])
  have H8 : Hid (¬ ((on < 8 ∧ (on = 0 ∨ age < 4)) ∨ 1099511627776 ≤ next) → 1024 ≤ en → y = 8) := Lib.hid (fun q r => by rw [HY.out, if_neg q, if_pos r])
  have H0 : Hid (¬ ((on < 8 ∧ (on = 0 ∨ age < 4)) ∨ 1099511627776 ≤ next) → ¬ 1024 ≤ en → y = 0) := Lib.hid (fun q r => by rw [HY.out, if_neg q, if_neg r])
  have hc : (on < 8 ∧ on = 0 ∧ y = 10) ∨ (on < 8 ∧ 0 < on ∧ age < 4 ∧ y = 10) ∨ (on < 8 ∧ 0 < on ∧ 4 ≤ age ∧ 1099511627776 ≤ next ∧ y = 10) ∨ (on < 8 ∧ 0 < on ∧ 4 ≤ age ∧ next < 1099511627776 ∧ 1024 ≤ en ∧ y = 8) ∨ (8 ≤ on ∧ 1099511627776 ≤ next ∧ y = 10) ∨ (8 ≤ on ∧ next < 1099511627776 ∧ 1024 ≤ en ∧ y = 8) := by
    by_cases a1 : on < 8
    · by_cases a2 : on = 0
      · exact .inl ⟨a1, a2, H10.out (.inl ⟨a1, .inl a2⟩)⟩
      · by_cases a3 : age < 4
        · exact .inr (.inl ⟨a1, by omega, a3, H10.out (.inl ⟨a1, .inr a3⟩)⟩)
        · by_cases a4 : 1099511627776 ≤ next
          · exact .inr (.inr (.inl ⟨a1, by omega, by omega, a4, H10.out (.inr a4)⟩))
          · have q : ¬ ((on < 8 ∧ (on = 0 ∨ age < 4)) ∨ 1099511627776 ≤ next) := by rintro (⟨_, q | q⟩ | q) <;> omega
            by_cases a5 : 1024 ≤ en
            · exact .inr (.inr (.inr (.inl ⟨a1, by omega, by omega, by omega, a5, H8.out q a5⟩)))
            · exact absurd (H0.out q a5) HY0.out
    · by_cases a4 : 1099511627776 ≤ next
      · exact .inr (.inr (.inr (.inr (.inl ⟨by omega, a4, H10.out (.inr a4)⟩))))
      · have q : ¬ ((on < 8 ∧ (on = 0 ∨ age < 4)) ∨ 1099511627776 ≤ next) := by rintro (⟨q, _⟩ | q) <;> omega
        by_cases a5 : 1024 ≤ en
        · exact .inr (.inr (.inr (.inr (.inr ⟨by omega, by omega, a5, H8.out q a5⟩))))
        · exact absurd (H0.out q a5) HY0.out
  clear H10 H8 H0 HY HY0
  rcases hc with ⟨c1, c2, e⟩ | ⟨c1, c2, c3, e⟩ | ⟨c1, c2, c3, c4, e⟩ | ⟨c1, c2, c3, c4, c5, e⟩ | ⟨c1, c4, e⟩ | ⟨c1, c4, c5, e⟩
  all_goals
    subst e
    (try have c1d : decide ((on : Int) < 8) = true := by (simp; omega))
    (try have c1d : decide ((on : Int) < 8) = false := by (simp; omega))
    (try have c2d : ((on : Int) == 0) = true := by (simp; omega))
    (try have c2d : ((on : Int) == 0) = false := by (simp; omega))
    (try have c2e : decide ((0 : Int) < (on : Int)) = true := by (simp; omega))
    (try have c2e : decide ((0 : Int) < (on : Int)) = false := by (simp; omega))
    (try have c2f : decide (0 < on) = false := by (simp; omega))
    (try have c2f : decide (0 < on) = true := by (simp; omega))
    (try have c2g : 0 < on := by omega)
    (try have c2g : ¬ 0 < on := by omega)
    (try have c3d : decide (age < 4) = true := by (simp; omega))
    (try have c3d : decide (age < 4) = false := by (simp; omega))
    (try have c3e : decide (4 ≤ age) = true := by (simp; omega))
    (try have c3e : decide (4 ≤ age) = false := by (simp; omega))
    (try have c4d : decide (1099511627776 ≤ next) = true := by (simp; omega))
    (try have c4d : decide (1099511627776 ≤ next) = false := by (simp; omega))
    (try have c5d : ((en : Int) == 1024) = true := by (simp; omega))
    (try have c5e : decide ((1024 : Int) ≤ (en : Int)) = true := by (simp; omega))
    (try clear c2)
    go_enter Try.func23, Try.ntmps23
    go_wp2_with fail
    first
      | exact bodyPost_ret (v := .tuple #[.agg #[.int .i64 0, .int .i64 0, .slice none 0 0], .int .i64 10]) (by simp [results, Try.results23, go_sem]) rfl ⟨rfl, belB⟩
      | exact bodyPost_ret (v := .tuple #[.agg #[.int .i64 0, .int .i64 0, .slice none 0 0], .int .i64 8]) (by simp [results, Try.results23, go_sem]) rfl ⟨rfl, belB⟩
end Go.Proofs.Ytgfakefcmbpboaa
namespace Go.Proofs.Ytgfakefcmbpboaa
open Go.RowKit
set_option linter.unusedSimpArgs false
set_option linter.unusedVariables false

set_option maxRecDepth 100000 in
set_option maxHeartbeats 8000000 in
theorem worker_Next_ok (P : WorkP) (D : WorkD) (w : World) (h : WorkR w P D) (hE : nxE D = 0) (hon : D.op.length ≤ 800000000) :
    Calls Try.prog 23 #[P.val D] w fun e w' => ∃ v, e = .returned (.tuple #[.agg #[.int .i64 D.id, .int .i64 D.next, v], .int .i64 0]) ∧ OwnX w' w.heap.size v (D.op.take 8) ∧ Below w.heap.size w w' := by
  obtain ⟨⟨oA, on, oc⟩, ⟨tA, tn, tc⟩, ⟨eA, en, ec⟩, ⟨rA, rn, rc⟩⟩ := P
  have HO : Hid (TxsR w oA on D.op) := Lib.hid h.op
  have HON : Hid (D.op.length = on) := Lib.hid h.op.1
  have HEN : Hid (D.he.length = en) := Lib.hid h.he.1
  have hoc : on ≤ oc := h.oc
  have hom : oc ≤ 9223372036854775807 := h.om
  have hen : en ≤ 9223372036854775807 := h.he.2.1
  obtain ⟨next, hnx⟩ : ∃ z, D.next = z := ⟨_, rfl⟩
  obtain ⟨age, hag⟩ : ∃ z, D.age = z := ⟨_, rfl⟩
  obtain ⟨z1, z2, z3⟩ := nxE_zero hE
  rw [HON.out] at z1 hon
  rw [HEN.out] at z3
  rw [hnx] at z2
  rw [hag] at z1
  show Calls Try.prog 23 #[.agg #[.int .i64 D.id, .int .i64 D.nodes, .int .i64 D.next, .slice oA on oc, .int .i64 D.age, .int .i64 D.clock, .slice tA tn tc, .slice eA en ec, .slice rA rn rc]] w _
  rw [hnx, hag]
  obtain ⟨m, hm⟩ : ∃ m, m = min on 8 := ⟨_, rfl⟩
  have hmon : m ≤ on := by omega
  have hmoc : (m : Int) ≤ (oc : Int) := by omega
  have hm0 : (0 : Int) ≤ (m : Int) := by omega
  have HTK : Hid (TxsR w oA m (D.op.take 8)) := Lib.hid (by
    have := h.op.take hmon
    rw [hm, show D.op.take (min on 8) = D.op.take 8 by rw [← HON.out]; exact List.take_eq_take_iff.2 (by omega)] at this
    rw [hm]; exact this)
  have c4d : decide (1099511627776 ≤ next) = false := by simp; omega
  have c5d : ((en : Int) == 1024) = false := by simp; omega
  have c5e : decide ((1024 : Int) ≤ (en : Int)) = false := by simp; omega
  have hm8 : m ≤ 8 := by omega
  have hmo : m ≤ oc := by omega
  have hoci : (on : Int) ≤ (oc : Int) := by omega
  clear h hE hnx hag
  rcases Nat.lt_trichotomy on 8 with c1 | c1 | c1
  · have hmm : m = on := by omega
    subst hmm
    have c1d : decide ((m : Int) < 8) = true := by simp; omega
    have c2d : ((m : Int) == 0) = false := by simp; omega
    have c2e : decide ((0 : Int) < (m : Int)) = true := by simp; omega
    have c2f : decide (0 < m) = true := by simp; omega
    have c2g : 0 < m := by omega
    have c3d : decide (age < 4) = false := by simp; omega
    have c3e : decide (4 ≤ age) = true := by simp; omega
    have hmin : min (m : Int) 8 = (m : Int) := by omega
    have hm8d : decide (8 < (m : Int)) = false := by simp; omega
    have hm8n : ¬ 8 < (m : Int) := by omega
    have hm8i : (m : Int) ≤ 8 := by omega
    have hmwr : IntKind.i64.wrap (m : Int) = m := IntWalk.i64_in _ (by omega)
    have hm8m' : min 8 (m : Int) = m := by omega
    clear z1 hm
    go_enter Try.func23, Try.ntmps23
    go_upto_region 6 with fail
    have hX1 : Blk ((w.alloc (.cells #[.int .i64 D.id, .int .i64 D.nodes, .int .i64 next, .slice oA m oc, .int .i64 age, .int .i64 D.clock, .slice tA tn tc, .slice eA en ec, .slice rA rn rc] 27)).alloc (.cells #[.int .i64 0, .int .i64 0, .slice none 0 0] 40)) w.heap.size 27 [.int .i64 D.id, .int .i64 D.nodes, .int .i64 next, .slice oA m oc, .int .i64 age, .int .i64 D.clock, .slice tA tn tc, .slice eA en ec, .slice rA rn rc] := (Blk.new w 27 [.int .i64 D.id, .int .i64 D.nodes, .int .i64 next, .slice oA m oc, .int .i64 age, .int .i64 D.clock, .slice tA tn tc, .slice eA en ec, .slice rA rn rc]).up (belA)
    have hX2 : Blk ((w.alloc (.cells #[.int .i64 D.id, .int .i64 D.nodes, .int .i64 next, .slice oA m oc, .int .i64 age, .int .i64 D.clock, .slice tA tn tc, .slice eA en ec, .slice rA rn rc] 27)).alloc (.cells #[.int .i64 0, .int .i64 0, .slice none 0 0] 40)) (w.heap.size + 1) 40 [.int .i64 0, .int .i64 0, .slice none 0 0] := by
      have := Blk.new (w.alloc (.cells #[.int .i64 D.id, .int .i64 D.nodes, .int .i64 next, .slice oA m oc, .int .i64 age, .int .i64 D.clock, .slice tA tn tc, .slice eA en ec, .slice rA rn rc] 27)) 40 [.int .i64 0, .int .i64 0, .slice none 0 0]
      simpa using this
    have hbX : Below w.heap.size w ((w.alloc (.cells #[.int .i64 D.id, .int .i64 D.nodes, .int .i64 next, .slice oA m oc, .int .i64 age, .int .i64 D.clock, .slice tA tn tc, .slice eA en ec, .slice rA rn rc] 27)).alloc (.cells #[.int .i64 0, .int .i64 0, .slice none 0 0] 40)) := belA
    have hzX : w.heap.size + 2 ≤ ((w.alloc (.cells #[.int .i64 D.id, .int .i64 D.nodes, .int .i64 next, .slice oA m oc, .int .i64 age, .int .i64 D.clock, .slice tA tn tc, .slice eA en ec, .slice rA rn rc] 27)).alloc (.cells #[.int .i64 0, .int .i64 0, .slice none 0 0] 40)).heap.size := by simp
    generalize ((w.alloc (.cells #[.int .i64 D.id, .int .i64 D.nodes, .int .i64 next, .slice oA m oc, .int .i64 age, .int .i64 D.clock, .slice tA tn tc, .slice eA en ec, .slice rA rn rc] 27)).alloc (.cells #[.int .i64 0, .int .i64 0, .slice none 0 0] 40)) = X at *
    have HX1 := Lib.hid hX1
    have HX2 := Lib.hid hX2
    have hl1 := hX1.lt
    have HCL : Hid (∀ Y, Below (w.heap.size + 1) X Y → Y.cell? ⟨w.heap.size, 0, none⟩ = some (.int .i64 D.id) ∧ Y.cell? ⟨w.heap.size, 2, none⟩ = some (.int .i64 next) ∧ Y.cell? ⟨w.heap.size, 3, none⟩ = some (.slice oA m oc)) := Lib.hid (fun Y hY => ⟨(HX1.out.below hY (by omega)).box.2 0 _ rfl, (HX1.out.below hY (by omega)).box.2 2 _ rfl, (HX1.out.below hY (by omega)).box.2 3 _ rfl⟩)
    clear hX1 hX2
    have hl2 := HX2.out.lt
    have hf2 := HX2.out.frozen
    have g_0 := (HX1.out.box).2 0 _ rfl; have g_1 := (HX1.out.box).2 1 _ rfl; have g_2 := (HX1.out.box).2 2 _ rfl; have g_3 := (HX1.out.box).2 3 _ rfl; have g_4 := (HX1.out.box).2 4 _ rfl; have g_5 := (HX1.out.box).2 5 _ rfl; have g_6 := (HX1.out.box).2 6 _ rfl; have g_7 := (HX1.out.box).2 7 _ rfl; have g_8 := (HX1.out.box).2 8 _ rfl
    go_region_held3 (fun Y => Y.cell? ⟨w.heap.size, 0, none⟩ = some (.int .i64 D.id) ∧ Y.cell? ⟨w.heap.size, 2, none⟩ = some (.int .i64 next) ∧ Y.cell? ⟨w.heap.size, 3, none⟩ = some (.slice oA m oc))
      ((refine HCL.out _ ?_; (repeat (first | (with_reducible exact Below.refl _ _) | (exact ((((HZ7.out.setCell (Nat.le_refl _) _)).setCell (Nat.le_refl _) _).setCell (Nat.le_refl _) _)) | ((with_reducible refine Below.setCell ?_ ?_ _); rotate_left; (first | (simp; done) | (simp; omega) | omega)) | (with_reducible refine Below.drew ?_) | ((refine Below.trans ?_ (hb7.mono ?_)); rotate_left; (first | (simp; omega) | omega)))); done))
      ((go_at_call 45; refine ((clone_Txs) oA m oc (D.op.take 8) _ (HTK.out.up (belB)) (by omega)).mono ?_; rintro e9 w7 ⟨v7, rfl, ho7, hb7⟩; obtain ⟨A7, c7, e7, _⟩ := OwnX.txs ho7 (by simp; omega); obtain ⟨n7, hn7⟩ : ∃ x, (D.op.take 8).length = x := ⟨_, rfl⟩; rw [hn7] at e7; clear hn7; subst e7; have hb7X : Below X.heap.size X w7 := bel_trans (bel_drew (Below.refl _ _)) hb7; have hK7 := HX2.out.up hb7X; have HZ7 : Hid (Below (w.heap.size + 1) X w7) := Lib.hid (hb7X.mono (by omega)); have hz7 := hb7.size; (try simp at hz7); have hc7 := fun o => (bcell hb7).1 w.heap.size o (by first | (simp; done) | (simp; omega) | omega); have hf7 := hK7.frozen; have hl7 := hK7.lt; have z_0 := (hK7.box).2 0 _ rfl; have z_1 := (hK7.box).2 1 _ rfl; have z_2 := (hK7.box).2 2 _ rfl; have HK7 := Lib.hid hK7; have HO7 := Lib.hid ho7; clear ho7 hK7))
    all_goals
      have hq7 : OwnX w7 (w.heap.size + 2) (.slice A7 n7 c7) (D.op.take 8) := HO7.out.mono (by first | omega | (simp; omega))
      have HQ7 := Lib.hid hq7
      have hR := ((HK7.out.set_ 0 (.int .i64 D.id)).set_ 1 (.int .i64 next)).set_ 2 (.slice A7 n7 c7)
      have r_0 := (hR.box).2 0 _ rfl; have r_1 := (hR.box).2 1 _ rfl; have r_2 := (hR.box).2 2 _ rfl
      clear hq7 hR
      go_wp2_with fail
      exact bodyPost_ret (v := .tuple #[.agg #[.int .i64 D.id, .int .i64 next, .slice A7 n7 c7], .int .i64 0]) (by simp [results, Try.results23, go_sem, r_0, r_1, r_2]) rfl ⟨_, rfl, (((HQ7.out.set3 (by omega) _).set3 (by omega) _).set3 (by omega) _).mono (by omega), belB⟩
  · subst c1
    have hmm : m = 8 := by omega
    subst hmm
    have ho8 : (8 : Int) ≤ (oc : Int) := by omega
    have ho8n : 8 ≤ oc := by omega
    clear z1 hm
    go_enter Try.func23, Try.ntmps23
    go_upto_region 6 with fail
    have hX1 : Blk ((w.alloc (.cells #[.int .i64 D.id, .int .i64 D.nodes, .int .i64 next, .slice oA 8 oc, .int .i64 age, .int .i64 D.clock, .slice tA tn tc, .slice eA en ec, .slice rA rn rc] 27)).alloc (.cells #[.int .i64 0, .int .i64 0, .slice none 0 0] 40)) w.heap.size 27 [.int .i64 D.id, .int .i64 D.nodes, .int .i64 next, .slice oA 8 oc, .int .i64 age, .int .i64 D.clock, .slice tA tn tc, .slice eA en ec, .slice rA rn rc] := (Blk.new w 27 [.int .i64 D.id, .int .i64 D.nodes, .int .i64 next, .slice oA 8 oc, .int .i64 age, .int .i64 D.clock, .slice tA tn tc, .slice eA en ec, .slice rA rn rc]).up (belA)
    have hX2 : Blk ((w.alloc (.cells #[.int .i64 D.id, .int .i64 D.nodes, .int .i64 next, .slice oA 8 oc, .int .i64 age, .int .i64 D.clock, .slice tA tn tc, .slice eA en ec, .slice rA rn rc] 27)).alloc (.cells #[.int .i64 0, .int .i64 0, .slice none 0 0] 40)) (w.heap.size + 1) 40 [.int .i64 0, .int .i64 0, .slice none 0 0] := by
      have := Blk.new (w.alloc (.cells #[.int .i64 D.id, .int .i64 D.nodes, .int .i64 next, .slice oA 8 oc, .int .i64 age, .int .i64 D.clock, .slice tA tn tc, .slice eA en ec, .slice rA rn rc] 27)) 40 [.int .i64 0, .int .i64 0, .slice none 0 0]
      simpa using this
    have hbX : Below w.heap.size w ((w.alloc (.cells #[.int .i64 D.id, .int .i64 D.nodes, .int .i64 next, .slice oA 8 oc, .int .i64 age, .int .i64 D.clock, .slice tA tn tc, .slice eA en ec, .slice rA rn rc] 27)).alloc (.cells #[.int .i64 0, .int .i64 0, .slice none 0 0] 40)) := belA
    have hzX : w.heap.size + 2 ≤ ((w.alloc (.cells #[.int .i64 D.id, .int .i64 D.nodes, .int .i64 next, .slice oA 8 oc, .int .i64 age, .int .i64 D.clock, .slice tA tn tc, .slice eA en ec, .slice rA rn rc] 27)).alloc (.cells #[.int .i64 0, .int .i64 0, .slice none 0 0] 40)).heap.size := by simp
    generalize ((w.alloc (.cells #[.int .i64 D.id, .int .i64 D.nodes, .int .i64 next, .slice oA 8 oc, .int .i64 age, .int .i64 D.clock, .slice tA tn tc, .slice eA en ec, .slice rA rn rc] 27)).alloc (.cells #[.int .i64 0, .int .i64 0, .slice none 0 0] 40)) = X at *
    have HX1 := Lib.hid hX1
    have HX2 := Lib.hid hX2
    have hl1 := hX1.lt
    have HCL : Hid (∀ Y, Below (w.heap.size + 1) X Y → Y.cell? ⟨w.heap.size, 0, none⟩ = some (.int .i64 D.id) ∧ Y.cell? ⟨w.heap.size, 2, none⟩ = some (.int .i64 next) ∧ Y.cell? ⟨w.heap.size, 3, none⟩ = some (.slice oA 8 oc)) := Lib.hid (fun Y hY => ⟨(HX1.out.below hY (by omega)).box.2 0 _ rfl, (HX1.out.below hY (by omega)).box.2 2 _ rfl, (HX1.out.below hY (by omega)).box.2 3 _ rfl⟩)
    clear hX1 hX2
    have hl2 := HX2.out.lt
    have hf2 := HX2.out.frozen
    have g_0 := (HX1.out.box).2 0 _ rfl; have g_1 := (HX1.out.box).2 1 _ rfl; have g_2 := (HX1.out.box).2 2 _ rfl; have g_3 := (HX1.out.box).2 3 _ rfl; have g_4 := (HX1.out.box).2 4 _ rfl; have g_5 := (HX1.out.box).2 5 _ rfl; have g_6 := (HX1.out.box).2 6 _ rfl; have g_7 := (HX1.out.box).2 7 _ rfl; have g_8 := (HX1.out.box).2 8 _ rfl
    go_region_held3 (fun Y => Y.cell? ⟨w.heap.size, 0, none⟩ = some (.int .i64 D.id) ∧ Y.cell? ⟨w.heap.size, 2, none⟩ = some (.int .i64 next) ∧ Y.cell? ⟨w.heap.size, 3, none⟩ = some (.slice oA 8 oc))
      ((refine HCL.out _ ?_; (repeat (first | (with_reducible exact Below.refl _ _) | (exact ((((HZ7.out.setCell (Nat.le_refl _) _)).setCell (Nat.le_refl _) _).setCell (Nat.le_refl _) _)) | ((with_reducible refine Below.setCell ?_ ?_ _); rotate_left; (first | (simp; done) | (simp; omega) | omega)) | (with_reducible refine Below.drew ?_) | ((refine Below.trans ?_ (hb7.mono ?_)); rotate_left; (first | (simp; omega) | omega)))); done))
      ((go_at_call 45; refine ((clone_Txs) oA 8 oc (D.op.take 8) _ (HTK.out.up (belB)) (by omega)).mono ?_; rintro e9 w7 ⟨v7, rfl, ho7, hb7⟩; obtain ⟨A7, c7, e7, _⟩ := OwnX.txs ho7 (by simp; omega); obtain ⟨n7, hn7⟩ : ∃ x, (D.op.take 8).length = x := ⟨_, rfl⟩; rw [hn7] at e7; clear hn7; subst e7; have hb7X : Below X.heap.size X w7 := bel_trans (bel_drew (Below.refl _ _)) hb7; have hK7 := HX2.out.up hb7X; have HZ7 : Hid (Below (w.heap.size + 1) X w7) := Lib.hid (hb7X.mono (by omega)); have hz7 := hb7.size; (try simp at hz7); have hc7 := fun o => (bcell hb7).1 w.heap.size o (by first | (simp; done) | (simp; omega) | omega); have hf7 := hK7.frozen; have hl7 := hK7.lt; have z_0 := (hK7.box).2 0 _ rfl; have z_1 := (hK7.box).2 1 _ rfl; have z_2 := (hK7.box).2 2 _ rfl; have HK7 := Lib.hid hK7; have HO7 := Lib.hid ho7; clear ho7 hK7))
    all_goals
      have hq7 : OwnX w7 (w.heap.size + 2) (.slice A7 n7 c7) (D.op.take 8) := HO7.out.mono (by first | omega | (simp; omega))
      have HQ7 := Lib.hid hq7
      have hR := ((HK7.out.set_ 0 (.int .i64 D.id)).set_ 1 (.int .i64 next)).set_ 2 (.slice A7 n7 c7)
      have r_0 := (hR.box).2 0 _ rfl; have r_1 := (hR.box).2 1 _ rfl; have r_2 := (hR.box).2 2 _ rfl
      clear hq7 hR
      go_wp2_with fail
      exact bodyPost_ret (v := .tuple #[.agg #[.int .i64 D.id, .int .i64 next, .slice A7 n7 c7], .int .i64 0]) (by simp [results, Try.results23, go_sem, r_0, r_1, r_2]) rfl ⟨_, rfl, (((HQ7.out.set3 (by omega) _).set3 (by omega) _).set3 (by omega) _).mono (by omega), belB⟩
  · have hmm : m = 8 := by omega
    subst hmm
    have c1d : decide ((on : Int) < 8) = false := by simp; omega
    have hmin : min (on : Int) 8 = 8 := by omega
    have hm8d : decide (8 < (on : Int)) = true := by simp; omega
    have hm8n : 8 < (on : Int) := by omega
    have hm8i : ¬ (on : Int) ≤ 8 := by omega
    have hm8m' : min 8 (on : Int) = 8 := by omega
    have ho8 : (8 : Int) ≤ (oc : Int) := by omega
    clear z1 hm
    go_enter Try.func23, Try.ntmps23
    go_upto_region 6 with fail
    have hX1 : Blk ((w.alloc (.cells #[.int .i64 D.id, .int .i64 D.nodes, .int .i64 next, .slice oA on oc, .int .i64 age, .int .i64 D.clock, .slice tA tn tc, .slice eA en ec, .slice rA rn rc] 27)).alloc (.cells #[.int .i64 0, .int .i64 0, .slice none 0 0] 40)) w.heap.size 27 [.int .i64 D.id, .int .i64 D.nodes, .int .i64 next, .slice oA on oc, .int .i64 age, .int .i64 D.clock, .slice tA tn tc, .slice eA en ec, .slice rA rn rc] := (Blk.new w 27 [.int .i64 D.id, .int .i64 D.nodes, .int .i64 next, .slice oA on oc, .int .i64 age, .int .i64 D.clock, .slice tA tn tc, .slice eA en ec, .slice rA rn rc]).up (belA)
    have hX2 : Blk ((w.alloc (.cells #[.int .i64 D.id, .int .i64 D.nodes, .int .i64 next, .slice oA on oc, .int .i64 age, .int .i64 D.clock, .slice tA tn tc, .slice eA en ec, .slice rA rn rc] 27)).alloc (.cells #[.int .i64 0, .int .i64 0, .slice none 0 0] 40)) (w.heap.size + 1) 40 [.int .i64 0, .int .i64 0, .slice none 0 0] := by
      have := Blk.new (w.alloc (.cells #[.int .i64 D.id, .int .i64 D.nodes, .int .i64 next, .slice oA on oc, .int .i64 age, .int .i64 D.clock, .slice tA tn tc, .slice eA en ec, .slice rA rn rc] 27)) 40 [.int .i64 0, .int .i64 0, .slice none 0 0]
      simpa using this
    have hbX : Below w.heap.size w ((w.alloc (.cells #[.int .i64 D.id, .int .i64 D.nodes, .int .i64 next, .slice oA on oc, .int .i64 age, .int .i64 D.clock, .slice tA tn tc, .slice eA en ec, .slice rA rn rc] 27)).alloc (.cells #[.int .i64 0, .int .i64 0, .slice none 0 0] 40)) := belA
    have hzX : w.heap.size + 2 ≤ ((w.alloc (.cells #[.int .i64 D.id, .int .i64 D.nodes, .int .i64 next, .slice oA on oc, .int .i64 age, .int .i64 D.clock, .slice tA tn tc, .slice eA en ec, .slice rA rn rc] 27)).alloc (.cells #[.int .i64 0, .int .i64 0, .slice none 0 0] 40)).heap.size := by simp
    generalize ((w.alloc (.cells #[.int .i64 D.id, .int .i64 D.nodes, .int .i64 next, .slice oA on oc, .int .i64 age, .int .i64 D.clock, .slice tA tn tc, .slice eA en ec, .slice rA rn rc] 27)).alloc (.cells #[.int .i64 0, .int .i64 0, .slice none 0 0] 40)) = X at *
    have HX1 := Lib.hid hX1
    have HX2 := Lib.hid hX2
    have hl1 := hX1.lt
    have HCL : Hid (∀ Y, Below (w.heap.size + 1) X Y → Y.cell? ⟨w.heap.size, 0, none⟩ = some (.int .i64 D.id) ∧ Y.cell? ⟨w.heap.size, 2, none⟩ = some (.int .i64 next) ∧ Y.cell? ⟨w.heap.size, 3, none⟩ = some (.slice oA on oc)) := Lib.hid (fun Y hY => ⟨(HX1.out.below hY (by omega)).box.2 0 _ rfl, (HX1.out.below hY (by omega)).box.2 2 _ rfl, (HX1.out.below hY (by omega)).box.2 3 _ rfl⟩)
    clear hX1 hX2
    have hl2 := HX2.out.lt
    have hf2 := HX2.out.frozen
    have g_0 := (HX1.out.box).2 0 _ rfl; have g_1 := (HX1.out.box).2 1 _ rfl; have g_2 := (HX1.out.box).2 2 _ rfl; have g_3 := (HX1.out.box).2 3 _ rfl; have g_4 := (HX1.out.box).2 4 _ rfl; have g_5 := (HX1.out.box).2 5 _ rfl; have g_6 := (HX1.out.box).2 6 _ rfl; have g_7 := (HX1.out.box).2 7 _ rfl; have g_8 := (HX1.out.box).2 8 _ rfl
    go_region_held3 (fun Y => Y.cell? ⟨w.heap.size, 0, none⟩ = some (.int .i64 D.id) ∧ Y.cell? ⟨w.heap.size, 2, none⟩ = some (.int .i64 next) ∧ Y.cell? ⟨w.heap.size, 3, none⟩ = some (.slice oA on oc))
      ((refine HCL.out _ ?_; (repeat (first | (with_reducible exact Below.refl _ _) | (exact ((((HZ7.out.setCell (Nat.le_refl _) _)).setCell (Nat.le_refl _) _).setCell (Nat.le_refl _) _)) | ((with_reducible refine Below.setCell ?_ ?_ _); rotate_left; (first | (simp; done) | (simp; omega) | omega)) | (with_reducible refine Below.drew ?_) | ((refine Below.trans ?_ (hb7.mono ?_)); rotate_left; (first | (simp; omega) | omega)))); done))
      ((go_at_call 45; refine ((clone_Txs) oA 8 oc (D.op.take 8) _ (HTK.out.up (belB)) (by omega)).mono ?_; rintro e9 w7 ⟨v7, rfl, ho7, hb7⟩; obtain ⟨A7, c7, e7, _⟩ := OwnX.txs ho7 (by simp; omega); obtain ⟨n7, hn7⟩ : ∃ x, (D.op.take 8).length = x := ⟨_, rfl⟩; rw [hn7] at e7; clear hn7; subst e7; have hb7X : Below X.heap.size X w7 := bel_trans (bel_drew (Below.refl _ _)) hb7; have hK7 := HX2.out.up hb7X; have HZ7 : Hid (Below (w.heap.size + 1) X w7) := Lib.hid (hb7X.mono (by omega)); have hz7 := hb7.size; (try simp at hz7); have hc7 := fun o => (bcell hb7).1 w.heap.size o (by first | (simp; done) | (simp; omega) | omega); have hf7 := hK7.frozen; have hl7 := hK7.lt; have z_0 := (hK7.box).2 0 _ rfl; have z_1 := (hK7.box).2 1 _ rfl; have z_2 := (hK7.box).2 2 _ rfl; have HK7 := Lib.hid hK7; have HO7 := Lib.hid ho7; clear ho7 hK7))
    all_goals
      have hq7 : OwnX w7 (w.heap.size + 2) (.slice A7 n7 c7) (D.op.take 8) := HO7.out.mono (by first | omega | (simp; omega))
      have HQ7 := Lib.hid hq7
      have hR := ((HK7.out.set_ 0 (.int .i64 D.id)).set_ 1 (.int .i64 next)).set_ 2 (.slice A7 n7 c7)
      have r_0 := (hR.box).2 0 _ rfl; have r_1 := (hR.box).2 1 _ rfl; have r_2 := (hR.box).2 2 _ rfl
      clear hq7 hR
      go_wp2_with fail
      exact bodyPost_ret (v := .tuple #[.agg #[.int .i64 D.id, .int .i64 next, .slice A7 n7 c7], .int .i64 0]) (by simp [results, Try.results23, go_sem, r_0, r_1, r_2]) rfl ⟨_, rfl, (((HQ7.out.set3 (by omega) _).set3 (by omega) _).set3 (by omega) _).mono (by omega), belB⟩
end Go.Proofs.Ytgfakefcmbpboaa
