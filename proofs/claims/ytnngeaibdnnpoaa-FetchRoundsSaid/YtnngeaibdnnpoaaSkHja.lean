/- Fetch: rounds: whom one asks, what is asked: plain law. -/
import Derived.Test.YtnngeaibdnnpoaaSkHm
import Derived.Test.YtnngeaibdnnpoaaSkHw
import Derived.Test.YtnngeaibdnnpoaaSkHt
namespace Go.Proofs.Ytnngeaibdnnpoaa
open Go.RowKit
set_option linter.unusedSimpArgs false
set_option linter.unusedVariables false

def rR (a t : Int) : List FRowD := [⟨7, 3, a, t⟩, ⟨7, 9, a, t⟩]
theorem here_nil (k d : Int) : hereQ k d [] = false := by
  unfold hereQ
  exact (dec_false (fun g => absurd g.1 (by simp))).symm
theorem want_93 : wantQ 7 [] [9, 3, 9] = (rR 0 0, rR 0 0) := by
  have h1 : stepQ 7 ([], []) 9 = ([⟨7, 9, 0, 0⟩], [⟨7, 9, 0, 0⟩]) := by
    unfold stepQ
    rw [if_neg (by rw [here_nil]; simp)]
    rfl
  have p2 : posQ 7 3 [⟨7, 9, 0, 0⟩] = 0 := by decide
  have h2 : hereQ 7 3 [⟨7, 9, 0, 0⟩] = false := by
    unfold hereQ
    rw [p2]
    exact (dec_false (fun g => absurd g.2.2 (by decide))).symm
  have h3 : stepQ 7 ([⟨7, 9, 0, 0⟩], [⟨7, 9, 0, 0⟩]) 3 = (rR 0 0, rR 0 0) := by
    unfold stepQ
    rw [if_neg (by rw [h2]; simp)]
    rfl
  have p4 : posQ 7 9 (rR 0 0) = 1 := by decide
  have h4 : hereQ 7 9 (rR 0 0) = true := by
    unfold hereQ
    rw [p4]
    exact (dec_true ⟨by decide, by decide, by decide⟩).symm
  have h5 : stepQ 7 (rR 0 0, rR 0 0) 9 = (rR 0 0, rR 0 0) := by
    unfold stepQ
    rw [if_pos (.inl h4)]
  show stepQ 7 (stepQ 7 (stepQ 7 ([], []) 9) 3) 9 = _
  rw [h1, h3, h5]
theorem dsel_rR (id n k tt a t : Int) : dsel id n k tt (rR a t) = if k = 7 ∧ peerI id n t = tt then [3, 9] else [] := by
  unfold dsel rR
  by_cases h : k = 7 ∧ peerI id n t = tt
  · obtain ⟨rfl, rfl⟩ := h
    simp
  · rw [if_neg h]
    have h' : ¬ ((7 : Int) = k ∧ peerI id n t = tt) := fun g => h ⟨g.1.symm, g.2⟩
    simp [h']
theorem fS_rR (id n k tt a t : Int) : fS id n (rR a t) k tt = if k = 7 ∧ peerI id n t = tt then [fMk 7 id tt [3, 9]] else [] := by
  unfold fS
  rw [dsel_rR]
  by_cases h : k = 7 ∧ peerI id n t = tt
  · rw [if_pos h, if_pos h, h.1]
    rfl
  · rw [if_neg h, if_neg h]
    rfl
theorem fN_rR {id n t : Int} {p : Nat} (a : Int) (hp : peerI id n t = (p : Int)) (h1 : 1 ≤ p) : ∀ s, fN id n (rR a t) s = if 2 * (p - 1) < s then [fMk 7 id (p : Int) [3, 9]] else []
  | 0 => by rw [if_neg (by omega)]; rfl
  | s + 1 => by
    rw [fN, fN_rR a hp h1 s, fS_rR, hp]
    rcases Nat.lt_trichotomy (2 * (p - 1)) s with h | h | h
    · rw [if_pos h, if_neg (by omega), if_pos (by omega), List.append_nil]
    · rw [if_neg (by omega), if_pos (by omega), if_pos (by omega), List.nil_append, show ((s / 2 : Nat) : Int) + 1 = (p : Int) by omega]
    · rw [if_neg (by omega), if_neg (by omega), if_neg (by omega), List.append_nil]
theorem peer_pos {id n t : Int} (h1 : 1 ≤ id) (h2 : id ≤ n) (h3 : 2 ≤ n) (h4 : n ≤ 16) : 1 ≤ peerI id n t ∧ peerI id n t ≤ n := by
  have h5 := Int.emod_nonneg (id + t % (n - 1)) (show n ≠ 0 by omega)
  have h6 := Int.emod_lt_of_pos (id + t % (n - 1)) (show 0 < n by omega)
  unfold peerI
  omega
theorem fL_rR {id n : Int} (a t : Int) (h1 : 1 ≤ id) (h2 : id ≤ n) (h3 : 2 ≤ n) (h4 : n ≤ 16) : fL id n (rR a t) = [fMk 7 id (peerI id n t) [3, 9]] := by
  have hb := peer_pos (t := t) h1 h2 h3 h4
  obtain ⟨p, hp⟩ : ∃ p : Nat, peerI id n t = (p : Int) := ⟨(peerI id n t).toNat, by omega⟩
  unfold fL
  rw [if_neg (by omega), fN_rR a hp (by omega), if_pos (by omega), hp]
theorem fL_nil {id n : Int} (h3 : 2 ≤ n) : fL id n [] = [] := by
  have h : ∀ s, fN id n [] s = [] := fun s => by
    induction s with
    | zero => rfl
    | succ s ih => rw [fN, ih]; simp [fS, dsel, chM]
  unfold fL
  rw [if_neg (by omega), h]
def atI (id n : Int) : Nat → Int
  | 0 => id
  | t + 1 => peerI id n (t : Int)
def four (n : Int) : Prop := n = 4 ∨ n = 7 ∨ n = 10 ∨ n = 16
theorem at_next {id n : Int} (hn : four n) (h1 : 1 ≤ id) (h2 : id ≤ n) (t : Nat) : (0 ≤ atI id n t % n ∧ atI id n t % n ≤ 15) ∧ (0 ≤ (atI id n t % n + 1) % n ∧ (atI id n t % n + 1) % n ≤ 15) ∧ (atI id n t % n + 1 = id → (atI id n t % n + 1) % n + 1 = peerI id n (t : Int)) ∧ (atI id n t % n + 1 ≠ id → atI id n t % n + 1 = peerI id n (t : Int)) := by
  cases t with
  | zero =>
    rcases hn with rfl | rfl | rfl | rfl
    all_goals (simp only [atI, peerI]; refine ⟨by omega, by omega, fun h => ?_, fun h => ?_⟩ <;> simp <;> omega)
  | succ t =>
    rcases hn with rfl | rfl | rfl | rfl
    all_goals
      simp only [atI, peerI, show (4 : Int) - 1 = 3 from rfl, show (7 : Int) - 1 = 6 from rfl, show (10 : Int) - 1 = 9 from rfl, show (16 : Int) - 1 = 15 from rfl]
      refine ⟨by omega, by omega, fun h => by omega, fun h => by omega⟩
theorem peer_ne {id n : Int} (hn : four n) (h1 : 1 ≤ id) (h2 : id ≤ n) (t : Nat) : peerI id n (t : Int) ≠ id := by
  rcases hn with rfl | rfl | rfl | rfl
  all_goals
    simp only [peerI, show (4 : Int) - 1 = 3 from rfl, show (7 : Int) - 1 = 6 from rfl, show (10 : Int) - 1 = 9 from rfl, show (16 : Int) - 1 = 15 from rfl]
    omega
theorem tick_rR {a t : Int} (ha : a = 0 ∨ a = 1) : tickQ (rR a t) = rR (a + 1) t ∧ dueL (rR a t) = [] := by
  rcases ha with rfl | rfl <;> exact ⟨rfl, rfl⟩
theorem tick_rR2 {t : Int} (h : t + 1 < 1099511627776) : tickQ (rR 2 t) = rR 0 (t + 1) ∧ dueL (rR 2 t) = rR 0 (t + 1) := by
  have e : lim (t + 1) = t + 1 := by unfold lim; rw [if_pos h]
  have h1 : tickQ (rR 2 t) = [⟨7, 3, 0, lim (t + 1)⟩, ⟨7, 9, 0, lim (t + 1)⟩] := rfl
  have h2 : dueL (rR 2 t) = [⟨7, 3, 0, lim (t + 1)⟩, ⟨7, 9, 0, lim (t + 1)⟩] := rfl
  rw [h1, h2, e]
  exact ⟨rfl, rfl⟩
theorem may_rR {id n a t : Int} (hs : isS n = true) (h1 : 1 ≤ id) (h2 : id ≤ n) (ha : 0 ≤ a ∧ a ≤ 3) (ht : 0 ≤ t ∧ t ≤ 1000) : mayF ⟨id, n, rR a t⟩ = true := by
  have r3 : rowS ⟨7, 3, a, t⟩ = true := rowS_iff.2 ⟨(by decide : kdS 7 = true), (by decide : digS 3 = true), numB_iff.2 ⟨by show 0 ≤ a; omega, by show a ≤ 1099511627776; omega⟩, numB_iff.2 ⟨by show 0 ≤ t; omega, by show t ≤ 1099511627776; omega⟩⟩
  have r9 : rowS ⟨7, 9, a, t⟩ = true := rowS_iff.2 ⟨(by decide : kdS 7 = true), (by decide : digS 9 = true), numB_iff.2 ⟨by show 0 ≤ a; omega, by show a ≤ 1099511627776; omega⟩, numB_iff.2 ⟨by show 0 ≤ t; omega, by show t ≤ 1099511627776; omega⟩⟩
  refine mayF_iff.2 ⟨hs, h1, h2, by show (2 : Nat) ≤ 64; omega, fun j hj => ?_⟩
  have hj' : j < 2 := hj
  have h01 : j = 0 ∨ j = 1 := by omega
  rcases h01 with rfl | rfl
  · exact ⟨r3, fun h => absurd h (by omega)⟩
  · exact ⟨r9, fun _ => befS_iff.2 (.inr ⟨rfl, by show (3 : Int) < 9; omega⟩)⟩
theorem may_r9 {id n t : Int} (hs : isS n = true) (h1 : 1 ≤ id) (h2 : id ≤ n) (ht : 0 ≤ t ∧ t ≤ 1000) : mayF ⟨id, n, [⟨7, 9, 0, t⟩]⟩ = true := by
  have r9 : rowS ⟨7, 9, 0, t⟩ = true := rowS_iff.2 ⟨(by decide : kdS 7 = true), (by decide : digS 9 = true), numB_iff.2 ⟨by show (0 : Int) ≤ 0; omega, by show (0 : Int) ≤ 1099511627776; omega⟩, numB_iff.2 ⟨by show 0 ≤ t; omega, by show t ≤ 1099511627776; omega⟩⟩
  refine mayF_iff.2 ⟨hs, h1, h2, by show (1 : Nat) ≤ 64; omega, fun j hj => ?_⟩
  have hj' : j < 1 := hj
  obtain rfl : j = 0 := by omega
  exact ⟨r9, fun h => absurd h (by omega)⟩
theorem here_rR (t : Int) : hereQ 7 3 (rR 0 t) = true := by
  have p : posQ 7 3 (rR 0 t) = 0 := rfl
  unfold hereQ
  rw [p]
  exact (dec_true ⟨by show 0 < 2; omega, rfl, rfl⟩).symm
theorem here_r9 (t : Int) : hereQ 7 3 [⟨7, 9, 0, t⟩] = false := by
  have p : posQ 7 3 [⟨7, 9, 0, t⟩] = 0 := rfl
  unfold hereQ
  rw [p]
  exact (dec_false (fun g => absurd g.2.2 (by show ¬ (9 : Int) = 3; omega))).symm
theorem here_r89 (t : Int) : hereQ 8 9 [⟨7, 9, 0, t⟩] = false := by
  have p : posQ 8 9 [⟨7, 9, 0, t⟩] = 1 := rfl
  unfold hereQ
  rw [p]
  exact (dec_false (fun g => absurd g.1 (by show ¬ 1 < 1; omega))).symm
def nOf (z : Int) : Int := if z = 0 then 4 else if z = 1 then 7 else if z = 2 then 10 else 16
theorem nOf_four (z : Int) : four (nOf z) := by
  unfold nOf four
  split
  · exact .inl rfl
  split
  · exact .inr (.inl rfl)
  split
  · exact .inr (.inr (.inl rfl))
  · exact .inr (.inr (.inr rfl))
theorem four_isS {n : Int} (h : four n) : isS n = true := by rcases h with rfl | rfl | rfl | rfl <;> decide
theorem four_bd {n : Int} (h : four n) : 4 ≤ n ∧ n ≤ 16 := by rcases h with rfl | rfl | rfl | rfl <;> omega
end Go.Proofs.Ytnngeaibdnnpoaa
