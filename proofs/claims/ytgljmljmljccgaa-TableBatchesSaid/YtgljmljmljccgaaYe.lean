/- Votes: one more, at the program. -/
import Derived.Test.YtgljmljmljccgaaYd
import Derived.Deep.RegionWith
namespace Go.Proofs.Ytgljmljmljccgaa
open Go.RowKit
set_option linter.unusedSimpArgs false
set_option linter.unusedVariables false

def posV : List VoteD → VoteD → Nat
  | [], _ => 0
  | x :: l, v => if befV x v = true then posV l v + 1 else 0
def insV (l : List VoteD) (v : VoteD) : List VoteD := l.take (posV l v) ++ [v] ++ l.drop (posV l v)
theorem posV_le (v : VoteD) : ∀ l : List VoteD, posV l v ≤ l.length
  | [] => Nat.le_refl _
  | x :: l => by unfold posV; split; have := posV_le v l; simp; omega; simp
theorem insV_len (l : List VoteD) (v : VoteD) : (insV l v).length = l.length + 1 := by
  have := posV_le v l
  unfold insV; simp; omega
theorem posV_eq (v : VoteD) : ∀ (l : List VoteD) (lo : Nat), lo ≤ l.length → (∀ t, t < lo → befV (vth l t) v = true) → (lo < l.length → befV (vth l lo) v = false) → posV l v = lo
  | [], lo, h, _, _ => by have h2 : lo = 0 := by simpa using h
                          subst h2; rfl
  | x :: l, 0, _, _, h => by
    have := h (by simp)
    unfold posV
    rw [if_neg (by show ¬ befV x v = true; rw [show befV x v = false from this]; simp)]
  | x :: l, lo + 1, h, h1, h2 => by
    unfold posV
    rw [if_pos (show befV x v = true from h1 0 (by omega)), posV_eq v l lo (by simpa using h) (fun t ht => h1 (t + 1) (by omega)) (fun ht => h2 (by simpa using ht))]
theorem CutV.pos {l : List VoteD} {v : VoteD} {n lo : Nat} (hN : l.length = n) (hlo : lo ≤ n) (h : CutV l n v.ro v.au lo lo) : posV l v = lo :=
  posV_eq v l lo (by omega) (fun t ht => h.1 t ht) (fun ht => h.2 lo (Nat.le_refl _) (by omega))
theorem flat_ins {l : List VoteD} {v : VoteD} {lo : Nat} (h : posV l v = lo) : (flat encV l).take (lo * 3) ++ encV v ++ (flat encV l).drop (lo * 3) = flat encV (insV l v) := by
  unfold insV
  rw [h, flat_app, flat_app, flat_one, flat_take encV_len, flat_drop encV_len]
theorem has_zero {l : List VoteD} {r a : Int} {lo : Nat} (hM : MayV l) (h : CutV l l.length r a lo lo) (h0 : hasV l r a = 0) : hereV l r a lo = false := by
  rcases cut_has hM.pl h with ⟨_, h2, h3⟩ | ⟨h1, _⟩
  · have := voteS_iff.1 (hM.2 lo h2).1
    omega
  · exact h1
theorem has_some {l : List VoteD} {r a : Int} {lo : Nat} (hM : MayV l) (h : CutV l l.length r a lo lo) (h0 : ¬ hasV l r a = 0) : hereV l r a lo = true ∧ lo < l.length ∧ hasV l r a = (vth l lo).di := by
  rcases cut_has hM.pl h with h1 | ⟨_, h2, _⟩
  · exact h1
  · exact absurd h2 h0
noncomputable def giE (l : List VoteD) (v : VoteD) : Int := if mayV l = true ∧ voteS v = true then (if hasV l v.ro v.au = 0 then (if l.length < 65536 then 0 else 8) else (if hasV l v.ro v.au = v.di then 4 else 5)) else 1
noncomputable def giB (l : List VoteD) (v : VoteD) : List VoteD := if giE l v = 0 then insV l v else []
end Go.Proofs.Ytgljmljmljccgaa
