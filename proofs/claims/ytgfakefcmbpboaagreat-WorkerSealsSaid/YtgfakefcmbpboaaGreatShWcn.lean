/- How many of a committee stand in a list, at the page: droverref2.Count, Quorum. -/
import Derived.Test.YtgfakefcmbpboaaGreatShWt
namespace Go.Proofs.YtgfakefcmbpboaaGreat
open Go.RowKit
set_option linter.unusedSimpArgs false
set_option linter.unusedVariables false

theorem ref2_Quo (n : Int) (w : World) (h0 : 0 ≤ n) (h1 : n ≤ 1000) : Calls Tryz.prog 117 #[.int .i64 n] w fun e w' => e = .returned (.int .i64 (2 * (n / 3) + 1)) ∧ w = w' := by
  go_enter Tryz.func117, Tryz.ntmps117
  go_wp2
  go_ret
  exact ⟨rfl, rfl⟩
theorem inS_ge (l : List Int) (x : Int) (y : Bool) (h : memS l x = y) : decide (0 ≤ inS l x) = y := by
  subst h
  unfold memS
  by_cases hm : x ∈ l
  · have : ¬ inS l x < 0 := fun q => inS_neg.1 q hm
    simp [hm]; omega
  · have : inS l x < 0 := inS_neg.2 hm
    simp [hm, this]
/-- How many of 1 to k stand in l. -/
def cntK (l : List Int) : Nat → Nat
  | 0 => 0
  | k + 1 => cntK l k + if memS l ((k : Int) + 1) = true then 1 else 0
theorem cntK_filter {l : List Int} (hd : l.Nodup) (h1 : ∀ x ∈ l, 1 ≤ x) : ∀ k : Nat, cntK l k = (l.filter fun x => decide (x ≤ (k : Int))).length
  | 0 => by
    have : l.filter (fun x => decide (x ≤ ((0 : Nat) : Int))) = [] := List.filter_eq_nil_iff.2 (fun x hx => by have := h1 x hx; simp; omega)
    rw [this]; rfl
  | k + 1 => by
    rw [cntK, cntK_filter hd h1 k]
    clear h1
    induction l with
    | nil => simp [memS]
    | cons a l ih =>
      have hda := List.nodup_cons.1 hd
      have ih := ih hda.2
      by_cases ha : a = (k : Int) + 1
      · subst ha
        have hm : memS l ((k : Int) + 1) = false := by unfold memS; simp [hda.1]
        have hm2 : memS (((k : Int) + 1) :: l) ((k : Int) + 1) = true := by unfold memS; simp
        rw [hm] at ih
        rw [hm2]
        have e1 : decide (((k : Int) + 1) ≤ (k : Int)) = false := by simp; omega
        have e2 : decide (((k : Int) + 1) ≤ ((k + 1 : Nat) : Int)) = true := by simp
        rw [List.filter_cons, List.filter_cons, e1, e2]
        simp only [Bool.false_eq_true, if_false, if_true, List.length_cons]
        simp only [Bool.false_eq_true, if_false, Nat.add_zero] at ih
        omega
      · have hm : memS (a :: l) ((k : Int) + 1) = memS l ((k : Int) + 1) := by unfold memS; simp [Ne.symm ha]
        rw [hm, List.filter_cons, List.filter_cons]
        have e1 : decide (a ≤ ((k + 1 : Nat) : Int)) = decide (a ≤ (k : Int)) := by
          rw [Bool.eq_iff_iff]; simp only [decide_eq_true_eq]; omega
        rw [e1]
        split <;> (try simp only [List.length_cons]) <;> omega
theorem RisesIn.nodup {l : List Int} {m : Int} (h : RisesIn l m) : l.Nodup := by
  rw [List.nodup_iff_pairwise_ne, List.pairwise_iff_getElem]
  intro i j hi hj hij
  have := h.1 i j hij hj
  simp only [nth, List.getD_eq_getElem?_getD, List.getElem?_eq_getElem hi, List.getElem?_eq_getElem hj, Option.getD_some] at this
  omega
theorem RisesIn.cnt {l : List Int} {m : Int} (h : RisesIn l m) (hm : 0 ≤ m) : cntK l m.toNat = l.length := by
  have hb : ∀ x ∈ l, 1 ≤ x ∧ x ≤ m := fun x hx => by
    obtain ⟨j, hj, e⟩ := List.getElem_of_mem hx
    have := h.2 j hj
    simp only [nth, List.getD_eq_getElem?_getD, List.getElem?_eq_getElem hj, Option.getD_some] at this
    rw [← e]; exact this
  rw [cntK_filter h.nodup (fun x hx => (hb x hx).1), List.filter_eq_self.2 (fun x hx => by have := (hb x hx).2; simp; omega)]
set_option maxRecDepth 100000 in
set_option maxHeartbeats 1000000 in
theorem ref2_Count (A : Option Addr) (n c : Nat) (l : List Int) (nodes : Int) (w : World) (hl : IntsR w A n l) (hr : RisesIn l nodes) (h0 : 0 ≤ nodes) (hm : nodes ≤ 16) :
    Calls Tryz.prog 116 #[.int .i64 nodes, .slice A n c] w fun e w' => e = .returned (.int .i64 (n : Int)) ∧ w = w' := by
  have HL := Lib.hid hl
  have HN := Lib.hid hl.1
  have HC := Lib.hid (hr.cnt h0)
  have hle : ∀ k, cntK l k ≤ k := fun k => by
    induction k with
    | zero => exact Nat.le_refl _
    | succ k ih => unfold cntK; split <;> omega
  have HLE := Lib.hid hle
  clear hl hr hle
  go_enter Tryz.func116, Tryz.ntmps116
  go_wp2_with fail
  go_loop [5, 6] (fun v iv => ∃ k : Nat, (k : Int) ≤ nodes ∧ iv = .int .i64 ((k : Int) + 1) ∧ v = .int .i64 (cntK l k : Nat)) (fun _ iv => 18 - (intOf iv).toNat)
  case atStart => exact ⟨0, h0, by go_num, rfl⟩
  case round =>
    obtain ⟨k, hk, rfl, rfl⟩ := hrel
    obtain ⟨cn, hcn⟩ : ∃ x, cntK l k = x := ⟨_, rfl⟩
    have hcb := HLE.out k
    have HCN := Lib.hid hcn
    rw [hcn] at hcb ⊢
    clear hcn
    by_cases hlt : (k : Int) < nodes
    · have hd : decide ((k : Int) + 1 ≤ nodes) = true := by simp only [decide_eq_true_eq]; omega
      obtain ⟨y, hy⟩ : ∃ y, memS l ((k : Int) + 1) = y := ⟨_, rfl⟩
      have hI := inS_ge l ((k : Int) + 1) y hy
      have HY := Lib.hid hy
      clear hy
      cases y
      · have hs : cntK l (k + 1) = cn := by rw [cntK, HY.out, HCN.out]; simp
        have HS := Lib.hid hs
        clear hs
        go_wp2_with (go_at_call 70; refine (ref0_In A n c l ((k : Int) + 1) _ HL.out).mono ?_; rintro e w' ⟨rfl, rfl⟩)
        (first | (go_round; (case rel => exact ⟨k + 1, by omega, by go_num, by (rw [HS.out])⟩); (case measure => (simp [intOf] <;> omega))) | (go_roundw; (case rel => exact ⟨k + 1, by omega, by go_num, by (rw [HS.out])⟩); (case measure => (simp [intOf] <;> omega))) | (refine ⟨?_, by simp [intOf] <;> omega⟩; (repeat apply Exists.intro); refine ⟨?rel, ?fr⟩; (case fr => ((repeat' apply And.intro) <;> rfl)); (case rel => exact ⟨k + 1, by omega, by go_num, by (rw [HS.out])⟩)))
      · have hs : cntK l (k + 1) = cn + 1 := by rw [cntK, HY.out, HCN.out]; simp
        have HS := Lib.hid hs
        clear hs
        go_wp2_with (go_at_call 70; refine (ref0_In A n c l ((k : Int) + 1) _ HL.out).mono ?_; rintro e w' ⟨rfl, rfl⟩)
        (first | (go_round; (case rel => exact ⟨k + 1, by omega, by go_num, by (rw [HS.out]; go_num)⟩); (case measure => (simp [intOf] <;> omega))) | (go_roundw; (case rel => exact ⟨k + 1, by omega, by go_num, by (rw [HS.out]; go_num)⟩); (case measure => (simp [intOf] <;> omega))) | (refine ⟨?_, by simp [intOf] <;> omega⟩; (repeat apply Exists.intro); refine ⟨?rel, ?fr⟩; (case fr => ((repeat' apply And.intro) <;> rfl)); (case rel => exact ⟨k + 1, by omega, by go_num, by (rw [HS.out]; go_num)⟩)))
    · have hd : decide ((k : Int) + 1 ≤ nodes) = false := by simp only [decide_eq_false_iff_not]; omega
      have hkn : nodes.toNat = k := by omega
      have hfin : cn = n := by rw [← HCN.out, ← hkn, HC.out, HN.out]
      have HF := Lib.hid hfin
      clear hfin hkn
      go_wp2_with fail
      go_ret
      exact ⟨by rw [← HF.out]; rfl, rfl⟩
end Go.Proofs.YtgfakefcmbpboaaGreat
