/- How many of a committee stand in a list, at the page: droverref2.Count, Quorum. -/
import Derived.Test.YtgfakefcmbpboaaSxWt
namespace Go.Proofs.Ytgfakefcmbpboaa
open Go.RowKit
set_option linter.unusedSimpArgs false
set_option linter.unusedVariables false

theorem ref2_Quo (n : Int) (w : World) (h0 : 0 ≤ n) (h1 : n ≤ 1000) : Calls Try.prog 11 #[.int .i64 n] w fun e w' => e = .returned (.int .i64 (2 * (n / 3) + 1)) ∧ w = w' := by
  go_enter Try.func11, Try.ntmps11
  go_wp2
  go_ret
  exact ⟨rfl, rfl⟩
/-- How many of 1 to k stand in l. -/
def cntK (l : List Int) : Nat → Nat
  | 0 => 0
  | k + 1 => cntK l k + if memS l ((k : Int) + 1) = true then 1 else 0
theorem cntK_filter {l : List Int} (hd : l.Nodup) (h1 : ∀ x ∈ l, 1 ≤ x) : ∀ k : Nat, cntK l k = (l.filter fun x => decide (x ≤ (k : Int))).length
  | 0 => by
    have : l.filter (fun x => decide (x ≤ ((0 : Nat) : Int))) = [] := List.filter_eq_nil_iff.2 (fun x hx => by have := h1 x hx; simp; omega)
    rw [this]; rfl
  | k + 1 => by
    rw [cntK, cntK_filter hd h1 k]
    clear h1
    induction l with
    | nil => simp [memS]
    | cons a l ih =>
      have hda := List.nodup_cons.1 hd
      have ih := ih hda.2
      by_cases ha : a = (k : Int) + 1
      · subst ha
        have hm : memS l ((k : Int) + 1) = false := by unfold memS; simp [hda.1]
        have hm2 : memS (((k : Int) + 1) :: l) ((k : Int) + 1) = true := by unfold memS; simp
        rw [hm] at ih
        rw [hm2]
        have e1 : decide (((k : Int) + 1) ≤ (k : Int)) = false := by simp; omega
        have e2 : decide (((k : Int) + 1) ≤ ((k + 1 : Nat) : Int)) = true := by simp
        rw [List.filter_cons, List.filter_cons, e1, e2]
        simp only [Bool.false_eq_true, if_false, if_true, List.length_cons]
        simp only [Bool.false_eq_true, if_false, Nat.add_zero] at ih
        omega
      · have hm : memS (a :: l) ((k : Int) + 1) = memS l ((k : Int) + 1) := by unfold memS; simp [Ne.symm ha]
        rw [hm, List.filter_cons, List.filter_cons]
        have e1 : decide (a ≤ ((k + 1 : Nat) : Int)) = decide (a ≤ (k : Int)) := by
          rw [Bool.eq_iff_iff]; simp only [decide_eq_true_eq]; omega
        rw [e1]
        split <;> (try simp only [List.length_cons]) <;> omega
theorem RisesIn.nodup {l : List Int} {m : Int} (h : RisesIn l m) : l.Nodup := by
  rw [List.nodup_iff_pairwise_ne, List.pairwise_iff_getElem]
  intro i j hi hj hij
  have := h.1 i j hij hj
  simp only [nth, List.getD_eq_getElem?_getD, List.getElem?_eq_getElem hi, List.getElem?_eq_getElem hj, Option.getD_some] at this
  omega
theorem RisesIn.cnt {l : List Int} {m : Int} (h : RisesIn l m) (hm : 0 ≤ m) : cntK l m.toNat = l.length := by
  have hb : ∀ x ∈ l, 1 ≤ x ∧ x ≤ m := fun x hx => by
    obtain ⟨j, hj, e⟩ := List.getElem_of_mem hx
    have := h.2 j hj
    simp only [nth, List.getD_eq_getElem?_getD, List.getElem?_eq_getElem hj, Option.getD_some] at this
    rw [← e]; exact this
  rw [cntK_filter h.nodup (fun x hx => (hb x hx).1), List.filter_eq_self.2 (fun x hx => by have := (hb x hx).2; simp; omega)]
end Go.Proofs.Ytgfakefcmbpboaa
