/- Fetch: room for so many wants: plain law. -/
import Derived.Test.YtnngeaibdnnpoaaSkHm
import Derived.Test.YtnngeaibdnnpoaaSkHw
namespace Go.Proofs.Ytnngeaibdnnpoaa
open Go.RowKit
set_option linter.unusedSimpArgs false
set_option linter.unusedVariables false

def allN (j : Nat) : List Int := (List.range j).map fun (i : Nat) => (i : Int) + 1
def roomR (j : Nat) : List FRowD := (List.range j).map fun (i : Nat) => (⟨8, (i : Int) + 1, 0, 0⟩ : FRowD)
theorem allN_len (j : Nat) : (allN j).length = j := by simp [allN]
theorem roomR_len (j : Nat) : (roomR j).length = j := by simp [roomR]
theorem allN_succ (j : Nat) : allN (j + 1) = allN j ++ [(j : Int) + 1] := by simp [allN, List.range_succ]
theorem roomR_succ (j : Nat) : roomR (j + 1) = roomR j ++ [⟨8, (j : Int) + 1, 0, 0⟩] := by simp [roomR, List.range_succ]
theorem nth_allN {j i : Nat} (h : i < j) : nth (allN j) i = (i : Int) + 1 := by simp [allN, nth, h]
theorem qth_roomR {j i : Nat} (h : i < j) : qth (roomR j) i = ⟨8, (i : Int) + 1, 0, 0⟩ := by simp [roomR, qth, h]
theorem pos_roomR (j : Nat) : posQ 8 ((j : Int) + 1) (roomR j) = j := by
  refine posQ_eq 8 _ (roomR j) j (by rw [roomR_len]; exact Nat.le_refl _) (fun t ht => ?_) (fun h => absurd h (by rw [roomR_len]; omega))
  rw [qth_roomR ht, befS_iff]
  exact .inr ⟨rfl, by show (t : Int) + 1 < (j : Int) + 1; omega⟩
theorem here_roomR (j : Nat) : hereQ 8 ((j : Int) + 1) (roomR j) = false := by
  unfold hereQ
  exact (dec_false (fun g => absurd g.1 (by rw [pos_roomR, roomR_len]; omega))).symm
theorem ins_roomR (j : Nat) : insQ ⟨8, (j : Int) + 1, 0, 0⟩ (roomR j) = roomR (j + 1) := by
  unfold insQ
  rw [show posQ (FRowD.mk 8 ((j : Int) + 1) 0 0).ki (FRowD.mk 8 ((j : Int) + 1) 0 0).di (roomR j) = j from pos_roomR j, List.take_of_length_le (by rw [roomR_len]; exact Nat.le_refl _), List.drop_eq_nil_of_le (by rw [roomR_len]; exact Nat.le_refl _), roomR_succ]
theorem step_full {k d : Int} {R F : List FRowD} (h : 64 ≤ R.length) : stepQ k (R, F) d = (R, F) := by unfold stepQ; rw [if_pos (.inr h)]
theorem fold_full {k : Int} {R F : List FRowD} (h : 64 ≤ R.length) : ∀ L : List Int, L.foldl (stepQ k) (R, F) = (R, F)
  | [] => rfl
  | d :: L => by rw [List.foldl_cons, step_full h, fold_full h L]
theorem want_full {k : Int} {R : List FRowD} (h : 64 ≤ R.length) (L : List Int) : wantQ k R L = (R, []) := fold_full h L
theorem want_room : ∀ j, j ≤ 64 → wantQ 8 [] (allN j) = (roomR j, roomR j)
  | 0, _ => rfl
  | j + 1, h => by
    have ih := want_room j (by omega)
    unfold wantQ at ih ⊢
    rw [allN_succ, List.foldl_append, ih]
    show stepQ 8 (roomR j, roomR j) ((j : Int) + 1) = _
    unfold stepQ
    rw [if_neg (fun g => g.elim (fun g => by rw [show hereQ 8 ((j : Int) + 1) (roomR j, roomR j).1 = false from here_roomR j] at g; cases g) (fun g => by have h9 : 64 ≤ (roomR j).length := g; rw [roomR_len] at h9; omega))]
    rw [ins_roomR]
theorem allN_add (j k : Nat) : allN (j + k) = allN j ++ (List.range k).map fun (i : Nat) => (j : Int) + (i : Int) + 1 := by
  induction k with
  | zero => simp
  | succ k ih =>
    rw [← Nat.add_assoc, allN_succ, ih, List.range_succ, List.map_append, List.append_assoc]
    simp [Int.add_assoc]
theorem want_74 : wantQ 8 [] (allN 74) = (roomR 64, roomR 64) := by
  have h := want_room 64 (Nat.le_refl _)
  unfold wantQ at h ⊢
  rw [show (74 : Nat) = 64 + 10 from rfl, allN_add, List.foldl_append, h]
  exact fold_full (by rw [roomR_len]; exact Nat.le_refl _) _
def pieceN (j : Nat) : List Int := ((allN 64).drop (j * 16)).take 16
def msgs4 : List MsgD := (List.range 4).map fun i => fMk 8 1 2 (pieceN i)
theorem fL_room : fL 1 4 (roomR 64) = msgs4 := by rfl
theorem fL_none : fL 1 4 [] = [] := by rfl
theorem mth_4 {j : Nat} (h : j < 4) : mth msgs4 j = fMk 8 1 2 (pieceN j) := by simp [mth, msgs4, h]
theorem pieceN_len {j : Nat} (h : j < 4) : (pieceN j).length = 16 := by unfold pieceN; rw [List.length_take, List.length_drop, allN_len]; omega
theorem take_allN {j k : Nat} (h : j ≤ k) : (allN k).take j = allN j := by
  obtain ⟨m, rfl⟩ : ∃ m, k = j + m := ⟨k - j, by omega⟩
  rw [allN_add]
  exact List.take_left' (allN_len j)
theorem piece_next {j : Nat} (h : j < 4) : allN (j * 16) ++ pieceN j = allN ((j + 1) * 16) := by
  unfold pieceN
  rw [← take_allN (show j * 16 ≤ 64 by omega), ← take_allN (show (j + 1) * 16 ≤ 64 by omega), show (j + 1) * 16 = j * 16 + 16 by omega, ← List.take_add]
theorem bet_allN {j : Nat} (h : j ≤ 1000) : betS (allN j) 1 65536 = true := dec_iff.2 (fun i hi => by
  rw [allN_len] at hi
  rw [nth_allN hi]
  omega)
theorem may_room : mayF ⟨1, 4, roomR 64⟩ = true := by
  refine mayF_iff.2 ⟨by decide, by show (1 : Int) ≤ 1; omega, by show (1 : Int) ≤ 4; omega, by show (roomR 64).length ≤ 64; rw [roomR_len]; exact Nat.le_refl _, fun j hj => ?_⟩
  have hj' : j < 64 := by have : j < (roomR 64).length := hj; rw [roomR_len] at this; exact this
  refine ⟨?_, fun h0 => ?_⟩
  · show rowS (qth (roomR 64) j) = true
    rw [qth_roomR hj', rowS_iff]
    exact ⟨(by decide : kdS 8 = true), digS_iff.2 (by show 1 ≤ (j : Int) + 1 ∧ (j : Int) + 1 ≤ 65536; omega), numB_iff.2 ⟨by show (0 : Int) ≤ 0; omega, by show (0 : Int) ≤ 1099511627776; omega⟩, numB_iff.2 ⟨by show (0 : Int) ≤ 0; omega, by show (0 : Int) ≤ 1099511627776; omega⟩⟩
  · show befQ (qth (roomR 64) (j - 1)) (qth (roomR 64) j) = true
    rw [qth_roomR hj', qth_roomR (by omega : j - 1 < 64)]
    exact befS_iff.2 (.inr ⟨rfl, by show ((j - 1 : Nat) : Int) + 1 < (j : Int) + 1; omega⟩)
theorem msgs4_big : BigMs msgs4 := by rw [← fL_room]; exact fL_big 1 4 _ (by rw [roomR_len]; exact Nat.le_refl _) (by omega)
end Go.Proofs.Ytnngeaibdnnpoaa
