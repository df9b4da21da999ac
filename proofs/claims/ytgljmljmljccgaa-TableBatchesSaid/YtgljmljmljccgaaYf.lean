/- droverlaw19: num, heavy, check, wakes; the law VoteHas. -/
import Derived.Test.YtgljmljmljccgaaYe
import Derived.Test.YtgljmljmljccgaaYv
namespace Go.Proofs.Ytgljmljmljccgaa
open Go.RowKit
set_option linter.unusedSimpArgs false
set_option linter.unusedVariables false

def hv19 (n mn pn lm : Nat) : Bool := decide (300 < n ∨ 100 < mn ∨ 100 < pn ∨ 100 < lm)
theorem hv19_iff {n mn pn lm : Nat} : hv19 n mn pn lm = true ↔ (300 < n ∨ 100 < mn ∨ 100 < pn ∨ 100 < lm) := by simp [hv19]
def wkV : VoteD := ⟨1, 1, 5⟩
theorem fl_1 : (4607182418800017408 : Nat) = fl 1 := by decide +kernel
theorem wk_may0 : mayV [] = true := mayV_iff.2 ⟨by simp, fun j hj => absurd hj (by simp)⟩
theorem wk_may1 : mayV [wkV] = true := mayV_iff.2 ⟨by simp, fun j hj => by
  have : j = 0 := by simpa using hj
  subst this
  exact ⟨by decide, fun h => absurd h (by omega)⟩⟩
theorem wk_give : giE [] wkV = 0 ∧ giB [] wkV = [wkV] := by
  have h1 : voteS wkV = true := by decide
  have h2 : giE [] wkV = 0 := by simp [giE, wk_may0, h1, hasV, hasF]
  exact ⟨h2, by unfold giB; rw [if_pos h2]; rfl⟩
theorem wk_ok : paOk 4607182418800017408 4607182418800017408 = true := by decide +kernel
theorem wk_n : whN 4607182418800017408 = 1 := by decide +kernel
theorem wk_has : hsB [wkV] 4607182418800017408 4607182418800017408 = 5 ∧ hsE [wkV] 4607182418800017408 4607182418800017408 = 0 := by
  have h1 : hsOk [wkV] 4607182418800017408 4607182418800017408 = true := by unfold hsOk; rw [wk_ok, wk_may1]; rfl
  have h2 : hasV [wkV] 1 1 = 5 := by decide
  constructor
  · unfold hsB; rw [if_pos h1, wk_n, h2]
  · unfold hsE; rw [if_pos h1, wk_n, h2]; rfl
end Go.Proofs.Ytgljmljmljccgaa
