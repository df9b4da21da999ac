/- Which batch a worker would make: at the program, at the reference. -/
import Derived.Test.YtgfakefcmbpboaaGreatShWi
import Derived.Deep.CutBlock
namespace Go.Proofs.YtgfakefcmbpboaaGreat
open Go.RowKit
set_option linter.unusedSimpArgs false
set_option linter.unusedVariables false

def nxE (D : WorkD) : Int := if (D.op.length < 8 ∧ (D.op.length = 0 ∨ D.age < 4)) ∨ 1099511627776 ≤ D.next then 10 else if 1024 ≤ D.he.length then 8 else 0
theorem nxE_zero {D : WorkD} (h : nxE D = 0) : (8 ≤ D.op.length ∨ (D.op.length ≠ 0 ∧ 4 ≤ D.age)) ∧ D.next < 1099511627776 ∧ D.he.length < 1024 := by
  unfold nxE at h
  split at h
  · omega
  · split at h
    · omega
    · omega
def nxD (D : WorkD) : BatchD := ⟨D.id, D.next, D.op.take 8⟩
set_option maxRecDepth 100000 in
set_option maxHeartbeats 4000000 in
theorem worker_Next_no (P : WorkP) (D : WorkD) (y : Int) (w : World) (h : WorkR w P D) (hy : nxE D = y) (hy0 : y ≠ 0) (hhe : D.he.length ≤ 1024) :
    Calls Tryz.prog 79 #[P.val D] w fun e w' => e = .returned (.tuple #[.agg #[.int .i64 0, .int .i64 0, .slice none 0 0], .int .i64 y]) ∧ Below w.heap.size w w' := by
  obtain ⟨⟨oA, on, oc⟩, ⟨tA, tn, tc⟩, ⟨eA, en, ec⟩, ⟨rA, rn, rc⟩⟩ := P
  have HO : Hid (TxsR w oA on D.op) := Lib.hid h.op
  have HON : Hid (D.op.length = on) := Lib.hid h.op.1
  have HEN : Hid (D.he.length = en) := Lib.hid h.he.1
  have hoc : on ≤ oc := h.oc
  have hom : oc ≤ 9223372036854775807 := h.om
  have hen : en ≤ 9223372036854775807 := h.he.2.1
  obtain ⟨next, hnx⟩ : ∃ z, D.next = z := ⟨_, rfl⟩
  obtain ⟨age, hag⟩ : ∃ z, D.age = z := ⟨_, rfl⟩
  have hen2 : en ≤ 1024 := by rw [← HEN.out]; exact hhe
  have hY : y = if (on < 8 ∧ (on = 0 ∨ age < 4)) ∨ 1099511627776 ≤ next then 10 else if 1024 ≤ en then 8 else 0 := by rw [← hy]; unfold nxE; rw [HON.out, HEN.out, hnx, hag]
  have HY := Lib.hid hY
  have HY0 := Lib.hid hy0
  show Calls Tryz.prog 79 #[.agg #[.int .i64 D.id, .int .i64 D.nodes, .int .i64 D.next, .slice oA on oc, .int .i64 D.age, .int .i64 D.clock, .slice tA tn tc, .slice eA en ec, .slice rA rn rc]] w _
  rw [hnx, hag]
  clear h hy hy0 hhe hnx hag hY
  have H10 : Hid (((on < 8 ∧ (on = 0 ∨ age < 4)) ∨ 1099511627776 ≤ next) → y = 10) := Lib.hid (fun q => by rw [HY.out, if_pos q])
  have H8 : Hid (¬ ((on < 8 ∧ (on = 0 ∨ age < 4)) ∨ 1099511627776 ≤ next) → 1024 ≤ en → y = 8) := Lib.hid (fun q r => by rw [HY.out, if_neg q, if_pos r])
  have H0 : Hid (¬ ((on < 8 ∧ (on = 0 ∨ age < 4)) ∨ 1099511627776 ≤ next) → ¬ 1024 ≤ en → y = 0) := Lib.hid (fun q r => by rw [HY.out, if_neg q, if_neg r])
  have hc : (on < 8 ∧ on = 0 ∧ y = 10) ∨ (on < 8 ∧ 0 < on ∧ age < 4 ∧ y = 10) ∨ (on < 8 ∧ 0 < on ∧ 4 ≤ age ∧ 1099511627776 ≤ next ∧ y = 10) ∨ (on < 8 ∧ 0 < on ∧ 4 ≤ age ∧ next < 1099511627776 ∧ 1024 ≤ en ∧ y = 8) ∨ (8 ≤ on ∧ 1099511627776 ≤ next ∧ y = 10) ∨ (8 ≤ on ∧ next < 1099511627776 ∧ 1024 ≤ en ∧ y = 8) := by
    by_cases a1 : on < 8
    · by_cases a2 : on = 0
      · exact .inl ⟨a1, a2, H10.out (.inl ⟨a1, .inl a2⟩)⟩
      · by_cases a3 : age < 4
        · exact .inr (.inl ⟨a1, by omega, a3, H10.out (.inl ⟨a1, .inr a3⟩)⟩)
        · by_cases a4 : 1099511627776 ≤ next
          · exact .inr (.inr (.inl ⟨a1, by omega, by omega, a4, H10.out (.inr a4)⟩))
          · have q : ¬ ((on < 8 ∧ (on = 0 ∨ age < 4)) ∨ 1099511627776 ≤ next) := by rintro (⟨_, q | q⟩ | q) <;> omega
            by_cases a5 : 1024 ≤ en
            · exact .inr (.inr (.inr (.inl ⟨a1, by omega, by omega, by omega, a5, H8.out q a5⟩)))
            · exact absurd (H0.out q a5) HY0.out
    · by_cases a4 : 1099511627776 ≤ next
      · exact .inr (.inr (.inr (.inr (.inl ⟨by omega, a4, H10.out (.inr a4)⟩))))
      · have q : ¬ ((on < 8 ∧ (on = 0 ∨ age < 4)) ∨ 1099511627776 ≤ next) := by rintro (⟨q, _⟩ | q) <;> omega
        by_cases a5 : 1024 ≤ en
        · exact .inr (.inr (.inr (.inr (.inr ⟨by omega, by omega, a5, H8.out q a5⟩))))
        · exact absurd (H0.out q a5) HY0.out
  clear H10 H8 H0 HY HY0
  rcases hc with ⟨c1, c2, e⟩ | ⟨c1, c2, c3, e⟩ | ⟨c1, c2, c3, c4, e⟩ | ⟨c1, c2, c3, c4, c5, e⟩ | ⟨c1, c4, e⟩ | ⟨c1, c4, c5, e⟩
  all_goals
    subst e
    (try have c1d : decide ((on : Int) < 8) = true := by (simp; omega))
    (try have c1d : decide ((on : Int) < 8) = false := by (simp; omega))
    (try have c2d : ((on : Int) == 0) = true := by (simp; omega))
    (try have c2d : ((on : Int) == 0) = false := by (simp; omega))
    (try have c2e : decide ((0 : Int) < (on : Int)) = true := by (simp; omega))
    (try have c2e : decide ((0 : Int) < (on : Int)) = false := by (simp; omega))
    (try have c2f : decide (0 < on) = false := by (simp; omega))
    (try have c2f : decide (0 < on) = true := by (simp; omega))
    (try have c2g : 0 < on := by omega)
    (try have c2g : ¬ 0 < on := by omega)
    (try have c3d : decide (age < 4) = true := by (simp; omega))
    (try have c3d : decide (age < 4) = false := by (simp; omega))
    (try have c3e : decide (4 ≤ age) = true := by (simp; omega))
    (try have c3e : decide (4 ≤ age) = false := by (simp; omega))
    (try have c4d : decide (1099511627776 ≤ next) = true := by (simp; omega))
    (try have c4d : decide (1099511627776 ≤ next) = false := by (simp; omega))
    (try have c5d : ((en : Int) == 1024) = true := by (simp; omega))
    (try have c5e : decide ((1024 : Int) ≤ (en : Int)) = true := by (simp; omega))
    (try clear c2)
    go_enter Tryz.func79, Tryz.ntmps79
    go_wp2_with fail
    first
      | exact bodyPost_ret (v := .tuple #[.agg #[.int .i64 0, .int .i64 0, .slice none 0 0], .int .i64 10]) (by simp [results, Tryz.results79, go_sem]) rfl ⟨rfl, by (repeat (first | (with_reducible exact Below.refl _ _) | (with_reducible assumption) | (with_reducible apply bel_alloc) | (with_reducible apply bel_drew) | (with_reducible apply bel_drewN) | (with_reducible refine bel_trans ?_ (by with_reducible assumption)) | (with_reducible refine bel_trans ?_ (HF.out _)) | ((with_reducible refine bel_set3 ?_ ?_); rotate_left; omega)))⟩
      | exact bodyPost_ret (v := .tuple #[.agg #[.int .i64 0, .int .i64 0, .slice none 0 0], .int .i64 8]) (by simp [results, Tryz.results79, go_sem]) rfl ⟨rfl, by (repeat (first | (with_reducible exact Below.refl _ _) | (with_reducible assumption) | (with_reducible apply bel_alloc) | (with_reducible apply bel_drew) | (with_reducible apply bel_drewN) | (with_reducible refine bel_trans ?_ (by with_reducible assumption)) | (with_reducible refine bel_trans ?_ (HF.out _)) | ((with_reducible refine bel_set3 ?_ ?_); rotate_left; omega)))⟩
set_option maxRecDepth 100000 in
set_option maxHeartbeats 4000000 in
theorem ref13_Make_no (P : WorkP) (D : WorkD) (y : Int) (w : World) (h : WorkR w P D) (hy : nxE D = y) (hy0 : y ≠ 0) (hhe : D.he.length ≤ 1024) :
    Calls Tryz.prog 41 #[P.val D] w fun e w' => e = .returned (.tuple #[.agg #[.int .i64 0, .int .i64 0, .slice none 0 0], .int .i64 y]) ∧ Below w.heap.size w w' := by
  obtain ⟨⟨oA, on, oc⟩, ⟨tA, tn, tc⟩, ⟨eA, en, ec⟩, ⟨rA, rn, rc⟩⟩ := P
  have HO : Hid (TxsR w oA on D.op) := Lib.hid h.op
  have HON : Hid (D.op.length = on) := Lib.hid h.op.1
  have HEN : Hid (D.he.length = en) := Lib.hid h.he.1
  have hoc : on ≤ oc := h.oc
  have hom : oc ≤ 9223372036854775807 := h.om
  have hen : en ≤ 9223372036854775807 := h.he.2.1
  obtain ⟨next, hnx⟩ : ∃ z, D.next = z := ⟨_, rfl⟩
  obtain ⟨age, hag⟩ : ∃ z, D.age = z := ⟨_, rfl⟩
  have hen2 : en ≤ 1024 := by rw [← HEN.out]; exact hhe
  have hY : y = if (on < 8 ∧ (on = 0 ∨ age < 4)) ∨ 1099511627776 ≤ next then 10 else if 1024 ≤ en then 8 else 0 := by rw [← hy]; unfold nxE; rw [HON.out, HEN.out, hnx, hag]
  have HY := Lib.hid hY
  have HY0 := Lib.hid hy0
  show Calls Tryz.prog 41 #[.agg #[.int .i64 D.id, .int .i64 D.nodes, .int .i64 D.next, .slice oA on oc, .int .i64 D.age, .int .i64 D.clock, .slice tA tn tc, .slice eA en ec, .slice rA rn rc]] w _
  rw [hnx, hag]
  clear h hy hy0 hhe hnx hag hY
  have H10 : Hid (((on < 8 ∧ (on = 0 ∨ age < 4)) ∨ 1099511627776 ≤ next) → y = 10) := Lib.hid (fun q => by rw [HY.out, if_pos q])
  have H8 : Hid (¬ ((on < 8 ∧ (on = 0 ∨ age < 4)) ∨ 1099511627776 ≤ next) → 1024 ≤ en → y = 8) := Lib.hid (fun q r => by rw [HY.out, if_neg q, if_pos r])
  have H0 : Hid (¬ ((on < 8 ∧ (on = 0 ∨ age < 4)) ∨ 1099511627776 ≤ next) → ¬ 1024 ≤ en → y = 0) := Lib.hid (fun q r => by rw [HY.out, if_neg q, if_neg r])
  have hc : (on < 8 ∧ on = 0 ∧ y = 10) ∨ (on < 8 ∧ 0 < on ∧ age < 4 ∧ y = 10) ∨ (on < 8 ∧ 0 < on ∧ 4 ≤ age ∧ 1099511627776 ≤ next ∧ y = 10) ∨ (on < 8 ∧ 0 < on ∧ 4 ≤ age ∧ next < 1099511627776 ∧ 1024 ≤ en ∧ y = 8) ∨ (8 ≤ on ∧ 1099511627776 ≤ next ∧ y = 10) ∨ (8 ≤ on ∧ next < 1099511627776 ∧ 1024 ≤ en ∧ y = 8) := by
    by_cases a1 : on < 8
    · by_cases a2 : on = 0
      · exact .inl ⟨a1, a2, H10.out (.inl ⟨a1, .inl a2⟩)⟩
      · by_cases a3 : age < 4
        · exact .inr (.inl ⟨a1, by omega, a3, H10.out (.inl ⟨a1, .inr a3⟩)⟩)
        · by_cases a4 : 1099511627776 ≤ next
          · exact .inr (.inr (.inl ⟨a1, by omega, by omega, a4, H10.out (.inr a4)⟩))
          · have q : ¬ ((on < 8 ∧ (on = 0 ∨ age < 4)) ∨ 1099511627776 ≤ next) := by rintro (⟨_, q | q⟩ | q) <;> omega
            by_cases a5 : 1024 ≤ en
            · exact .inr (.inr (.inr (.inl ⟨a1, by omega, by omega, by omega, a5, H8.out q a5⟩)))
            · exact absurd (H0.out q a5) HY0.out
    · by_cases a4 : 1099511627776 ≤ next
      · exact .inr (.inr (.inr (.inr (.inl ⟨by omega, a4, H10.out (.inr a4)⟩))))
      · have q : ¬ ((on < 8 ∧ (on = 0 ∨ age < 4)) ∨ 1099511627776 ≤ next) := by rintro (⟨q, _⟩ | q) <;> omega
        by_cases a5 : 1024 ≤ en
        · exact .inr (.inr (.inr (.inr (.inr ⟨by omega, by omega, a5, H8.out q a5⟩))))
        · exact absurd (H0.out q a5) HY0.out
  clear H10 H8 H0 HY HY0
  rcases hc with ⟨c1, c2, e⟩ | ⟨c1, c2, c3, e⟩ | ⟨c1, c2, c3, c4, e⟩ | ⟨c1, c2, c3, c4, c5, e⟩ | ⟨c1, c4, e⟩ | ⟨c1, c4, c5, e⟩
  all_goals
    subst e
    (try have c1d : decide ((on : Int) < 8) = true := by (simp; omega))
    (try have c1d : decide ((on : Int) < 8) = false := by (simp; omega))
    (try have c2d : ((on : Int) == 0) = true := by (simp; omega))
    (try have c2d : ((on : Int) == 0) = false := by (simp; omega))
    (try have c2e : decide ((0 : Int) < (on : Int)) = true := by (simp; omega))
    (try have c2e : decide ((0 : Int) < (on : Int)) = false := by (simp; omega))
    (try have c2f : decide (0 < on) = false := by (simp; omega))
    (try have c2f : decide (0 < on) = true := by (simp; omega))
    (try have c2g : 0 < on := by omega)
    (try have c2g : ¬ 0 < on := by omega)
    (try have c3d : decide (age < 4) = true := by (simp; omega))
    (try have c3d : decide (age < 4) = false := by (simp; omega))
    (try have c3e : decide (4 ≤ age) = true := by (simp; omega))
    (try have c3e : decide (4 ≤ age) = false := by (simp; omega))
    (try have c4d : decide (1099511627776 ≤ next) = true := by (simp; omega))
    (try have c4d : decide (1099511627776 ≤ next) = false := by (simp; omega))
    (try have c5d : ((en : Int) == 1024) = true := by (simp; omega))
    (try have c5e : decide ((1024 : Int) ≤ (en : Int)) = true := by (simp; omega))
    (try clear c2)
    go_enter Tryz.func41, Tryz.ntmps41
    go_wp2_with fail
    first
      | exact bodyPost_ret (v := .tuple #[.agg #[.int .i64 0, .int .i64 0, .slice none 0 0], .int .i64 10]) (by simp [results, Tryz.results41, go_sem]) rfl ⟨rfl, by (repeat (first | (with_reducible exact Below.refl _ _) | (with_reducible assumption) | (with_reducible apply bel_alloc) | (with_reducible apply bel_drew) | (with_reducible apply bel_drewN) | (with_reducible refine bel_trans ?_ (by with_reducible assumption)) | (with_reducible refine bel_trans ?_ (HF.out _)) | ((with_reducible refine bel_set3 ?_ ?_); rotate_left; omega)))⟩
      | exact bodyPost_ret (v := .tuple #[.agg #[.int .i64 0, .int .i64 0, .slice none 0 0], .int .i64 8]) (by simp [results, Tryz.results41, go_sem]) rfl ⟨rfl, by (repeat (first | (with_reducible exact Below.refl _ _) | (with_reducible assumption) | (with_reducible apply bel_alloc) | (with_reducible apply bel_drew) | (with_reducible apply bel_drewN) | (with_reducible refine bel_trans ?_ (by with_reducible assumption)) | (with_reducible refine bel_trans ?_ (HF.out _)) | ((with_reducible refine bel_set3 ?_ ?_); rotate_left; omega)))⟩
end Go.Proofs.YtgfakefcmbpboaaGreat
