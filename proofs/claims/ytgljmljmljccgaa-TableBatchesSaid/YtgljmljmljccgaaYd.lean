/- Votes: what a place has, at the reference, at the program. -/
import Derived.Test.YtgljmljmljccgaaYc
namespace Go.Proofs.Ytgljmljmljccgaa
open Go.RowKit
set_option linter.unusedSimpArgs false
set_option linter.unusedVariables false

def hasF (r a : Int) : List VoteD → Int
  | [] => 0
  | v :: l => if v.ro = r ∧ v.au = a then v.di else hasF r a l
def hasV (l : List VoteD) (r a : Int) : Int := hasF r a l
theorem hasF_step (r a : Int) (l : List VoteD) (k : Nat) (h : k < l.length) : hasF r a (l.drop k) = if (vth l k).ro = r ∧ (vth l k).au = a then (vth l k).di else hasF r a (l.drop (k + 1)) := by
  rw [List.drop_eq_getElem_cons h]; simp [hasF, vth, h]
theorem hasF_cases (r a : Int) : ∀ (l : List VoteD), (hasF r a l = 0 ∧ ∀ j, j < l.length → ¬ ((vth l j).ro = r ∧ (vth l j).au = a)) ∨ ∃ i, i < l.length ∧ hasF r a l = (vth l i).di ∧ (vth l i).ro = r ∧ (vth l i).au = a
  | [] => .inl ⟨rfl, fun j hj => absurd hj (by simp)⟩
  | v :: l => by
    by_cases hv : v.ro = r ∧ v.au = a
    · exact .inr ⟨0, by simp, by simp [hasF, hv, vth], hv.1, hv.2⟩
    · rcases hasF_cases r a l with ⟨h1, h2⟩ | ⟨i, h1, h2, h3, h4⟩
      · refine .inl ⟨by rw [hasF, if_neg hv, h1], fun j hj => ?_⟩
        cases j with
        | zero => exact hv
        | succ j => exact h2 j (by simpa using hj)
      · exact .inr ⟨i + 1, by simpa using h1, by rw [hasF, if_neg hv, h2]; rfl, h3, h4⟩
def PlV (l : List VoteD) : Prop := (∀ i j, i < j → j < l.length → befV (vth l i) (vth l j) = true) ∧ ∀ k, k < l.length → Sm (vth l k).ro ∧ Sm (vth l k).au
def CutV (l : List VoteD) (n : Nat) (r a : Int) (lo hi : Nat) : Prop := (∀ t, t < lo → befS (vth l t).ro (vth l t).au r a = true) ∧ ∀ t, hi ≤ t → t < n → befS (vth l t).ro (vth l t).au r a = false
noncomputable def hereV (l : List VoteD) (r a : Int) (lo : Nat) : Bool := dec (lo < l.length ∧ (vth l lo).ro = r ∧ (vth l lo).au = a)
theorem befS_tr {a b c d e f : Int} (h1 : befS a b c d = true) (h2 : befS c d e f = true) : befS a b e f = true := by
  rw [befS_iff] at *; omega
theorem befS_no {a b c d e f : Int} (h1 : befS a b c d = true) (h2 : befS a b e f = false) : befS c d e f = false := by
  cases h : befS c d e f
  · rfl
  · rw [befS_tr h1 h] at h2; cases h2
theorem MayV.pl {l : List VoteD} (h : MayV l) : PlV l := by
  refine ⟨fun i j hij hj => ?_, fun k hk => ?_⟩
  · induction j with
    | zero => omega
    | succ j ih =>
      have h1 := (h.2 (j + 1) hj).2 (by omega)
      rw [Nat.add_sub_cancel] at h1
      rcases Nat.lt_or_ge i j with h2 | h2
      · exact befS_tr (ih h2 (by omega)) h1
      · obtain rfl : i = j := by omega
        exact h1
  · have := voteS_iff.1 (h.2 k hk).1
    exact ⟨⟨by omega, by omega⟩, ⟨by omega, by omega⟩⟩
theorem cut_has {l : List VoteD} {r a : Int} {lo : Nat} (hP : PlV l) (h : CutV l l.length r a lo lo) : (hereV l r a lo = true ∧ lo < l.length ∧ hasV l r a = (vth l lo).di) ∨ (hereV l r a lo = false ∧ hasV l r a = 0 ∧ ∀ j, j < l.length → ¬ ((vth l j).ro = r ∧ (vth l j).au = a)) := by
  rcases hasF_cases r a l with ⟨h1, h2⟩ | ⟨i, h1, h2, h3, h4⟩
  · right
    refine ⟨?_, h1, h2⟩
    cases hh : hereV l r a lo
    · rfl
    · exact absurd (dec_iff.1 hh).2 (h2 lo (dec_iff.1 hh).1)
  · left
    have hi : i = lo := by
      rcases Nat.lt_trichotomy i lo with g | g | g
      · have := befS_iff.1 (h.1 i g); omega
      · exact g
      · have h5 := h.2 lo (Nat.le_refl _) (by omega)
        have h6 := hP.1 lo i g h1
        unfold befV at h6
        rw [h3, h4] at h6
        rw [h6] at h5; cases h5
    subst hi
    exact ⟨dec_iff.2 ⟨h1, h3, h4⟩, h1, h2⟩
noncomputable def hsOk (l : List VoteD) (x y : Nat) : Bool := paOk x y && mayV l
noncomputable def hsB (l : List VoteD) (x y : Nat) : Int := if hsOk l x y = true then hasV l (whN x) (whN y) else 0
noncomputable def hsE (l : List VoteD) (x y : Nat) : Int := if hsOk l x y = true then (if hasV l (whN x) (whN y) = 0 then 3 else 0) else 1
end Go.Proofs.Ytgljmljmljccgaa
