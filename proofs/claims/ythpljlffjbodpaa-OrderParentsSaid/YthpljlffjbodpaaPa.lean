/- The plain laws for PathLows: what is above a round, among what is below. -/
import Derived.Test.YthpljlffjbodpaaU
namespace Go.Proofs.Ythpljlffjbodpaa
open Go.RowKit
set_option linter.unusedSimpArgs false
set_option linter.unusedVariables false

def posL (certs : List CertD) (low : Int) (M : Nat → Bool) (n : Nat) : List Nat := (List.range n).filter fun p => M p && decide (low < (cth certs p).h.ro)
theorem belowL_pos (certs : List CertD) (low : Int) (M : Nat → Bool) (n : Nat) : belowL certs low M n = (posL certs low M n).map fun p => (cth certs p).di := rfl
theorem posL_lt {certs : List CertD} {low : Int} {M : Nat → Bool} {n p : Nat} (h : p ∈ posL certs low M n) : p < n ∧ M p = true ∧ low < (cth certs p).h.ro := by
  unfold posL at h
  rw [List.mem_filter, List.mem_range, Bool.and_eq_true, decide_eq_true_eq] at h
  exact h
theorem posL_mem {certs : List CertD} {low : Int} {M : Nat → Bool} {n p : Nat} (h : p < n) (h1 : M p = true) (h2 : low < (cth certs p).h.ro) : p ∈ posL certs low M n := by
  unfold posL
  rw [List.mem_filter, List.mem_range, Bool.and_eq_true, decide_eq_true_eq]
  exact ⟨h, h1, h2⟩
theorem posL_sorted (certs : List CertD) (low : Int) (M : Nat → Bool) (n : Nat) : (posL certs low M n).Pairwise (· < ·) := List.Pairwise.filter _ List.pairwise_lt_range
/-- The k-th place. -/
def pos (certs : List CertD) (low : Int) (M : Nat → Bool) (n k : Nat) : Nat := (posL certs low M n).getD k 0
theorem belowL_length (certs : List CertD) (low : Int) (M : Nat → Bool) (n : Nat) : (belowL certs low M n).length = (posL certs low M n).length := by rw [belowL_pos, List.length_map]
theorem belowL_nth {certs : List CertD} {low : Int} {M : Nat → Bool} {n k : Nat} (h : k < (belowL certs low M n).length) : nth (belowL certs low M n) k = (cth certs (pos certs low M n k)).di := by
  rw [belowL_length] at h
  unfold nth pos
  rw [belowL_pos, List.getD_eq_getElem?_getD, List.getElem?_map, List.getElem?_eq_getElem h, List.getD_eq_getElem?_getD, List.getElem?_eq_getElem h]
  rfl
theorem pos_mem {certs : List CertD} {low : Int} {M : Nat → Bool} {n k : Nat} (h : k < (belowL certs low M n).length) : pos certs low M n k ∈ posL certs low M n := by
  rw [belowL_length] at h
  unfold pos
  rw [List.getD_eq_getElem?_getD, List.getElem?_eq_getElem h]
  exact List.getElem_mem h
theorem pos_lt {certs : List CertD} {low : Int} {M : Nat → Bool} {n j k : Nat} (h : k < (belowL certs low M n).length) (hj : j < k) : pos certs low M n j < pos certs low M n k := by
  rw [belowL_length] at h
  unfold pos
  simp only [List.getD_eq_getElem?_getD, List.getElem?_eq_getElem h, List.getElem?_eq_getElem (show j < (posL certs low M n).length by omega), Option.getD_some]
  exact (List.pairwise_iff_getElem.1 (posL_sorted certs low M n)) j k (by omega) h hj
/-- Is a digest's round above one? -/
def upB (certs : List CertD) (low : Int) (x : Int) : Bool := decide (low < (cth certs (findS certs x).toNat).h.ro)
theorem belowL_up_filter {certs : List CertD} (hd : Dist certs) {lo low : Int} (hle : lo ≤ low) (M : Nat → Bool) : ∀ (n : Nat), n ≤ certs.length → belowL certs low M n = (belowL certs lo M n).filter (upB certs low)
  | 0, _ => rfl
  | n + 1, h => by
    have hf := hd.find (j := n) (by omega)
    have hu : upB certs low (cth certs n).di = decide (low < (cth certs n).h.ro) := by unfold upB; rw [hf]; rfl
    cases hM : M n
    · rw [belowL_no _ _ _ _ hM, belowL_no _ _ _ _ hM]; exact belowL_up_filter hd hle M n (by omega)
    · by_cases h1 : low < (cth certs n).h.ro
      · rw [belowL_yes _ _ _ _ hM h1, belowL_yes _ _ _ _ hM (by omega), List.filter_append, ← belowL_up_filter hd hle M n (by omega), List.filter_cons, hu, decide_eq_true h1]; rfl
      · rw [belowL_low _ _ _ _ h1]
        by_cases h2 : lo < (cth certs n).h.ro
        · rw [belowL_yes _ _ _ _ hM h2, List.filter_append, ← belowL_up_filter hd hle M n (by omega), List.filter_cons, hu, decide_eq_false h1]; simp
        · rw [belowL_low _ _ _ _ h2]; exact belowL_up_filter hd hle M n (by omega)
def cntB (g : Int → Bool) (l : List Int) (k : Nat) : Nat := ((l.take k).filter g).length
theorem cntB_zero (g : Int → Bool) (l : List Int) : cntB g l 0 = 0 := by simp [cntB]
theorem cntB_yes {g : Int → Bool} {l : List Int} {k : Nat} (h : k < l.length) (hg : g (nth l k) = true) : cntB g l (k + 1) = cntB g l k + 1 := by
  unfold cntB; rw [take_nth l k h, List.filter_append, List.length_append]; simp [hg]
theorem cntB_no {g : Int → Bool} {l : List Int} {k : Nat} (h : k < l.length) (hg : g (nth l k) = false) : cntB g l (k + 1) = cntB g l k := by
  unfold cntB; rw [take_nth l k h, List.filter_append, List.length_append]; simp [hg]
theorem cntB_all (g : Int → Bool) (l : List Int) : cntB g l l.length = (l.filter g).length := by simp [cntB]
theorem cntB_at {g : Int → Bool} {l : List Int} {k : Nat} (h : k < l.length) (hg : g (nth l k) = true) : cntB g l k < (l.filter g).length ∧ nth (l.filter g) (cntB g l k) = nth l k := by
  have e : l.filter g = (l.take k).filter g ++ (nth l k :: (l.drop (k + 1)).filter g) := by
    conv => lhs; rw [← List.take_append_drop k l, List.filter_append, drop_nth l k h, List.filter_cons, hg]
    simp
  unfold cntB
  rw [e]
  constructor
  · simp
  · simp [nth]
theorem cntB_le (g : Int → Bool) (l : List Int) (k : Nat) : cntB g l k ≤ k := by
  unfold cntB; exact Nat.le_trans (List.length_filter_le _ _) (by simp; omega)
structure LowsOk (certs : List CertD) (i : Nat) (lo : Int) (all : List Int) : Prop where
  pos : 0 < all.length
  last : nth all (all.length - 1) = (cth certs i).di
  len : all.length ≤ certs.length
  find : ∀ k, k < all.length → ∃ j : Nat, j < certs.length ∧ findS certs (nth all k) = (j : Int) ∧ (0 < k → ∃ j' : Nat, j' < j ∧ findS certs (nth all (k - 1)) = (j' : Int))
theorem DagOk.ro {D : DagD} (h : DagOk D) {k : Nat} (hk : k < D.certs.length) : D.low < (cth D.certs k).h.ro := (h.2.2.2.2 k hk).2.1
theorem marksS_self {D : DagD} (h : DagOk D) {i : Nat} (hi : i < D.certs.length) : marksS D.certs D.low i i = true := (marksS_iff h hi).2 (.refl _)
theorem lows_ok {D : DagD} (h : DagOk D) {i : Nat} (hi : i < D.certs.length) : LowsOk D.certs i D.low (belowS D.certs D.low D.low i) := by
  have hcut : belowS D.certs D.low D.low i = belowL D.certs D.low (marksS D.certs D.low i) i ++ [(cth D.certs i).di] := by
    unfold belowS
    have := belowL_up D.certs D.low (marksS D.certs D.low i) (i + 1) (D.certs.length - (i + 1)) (fun p h1 h2 => marksS_gt h hi (by omega))
    rw [show i + 1 + (D.certs.length - (i + 1)) = D.certs.length by omega] at this
    rw [this, belowL_yes _ _ _ _ (marksS_self h hi) (h.ro hi)]
  refine ⟨by rw [hcut]; simp, by rw [hcut]; simp [nth], belowS_len _ _ _ _, fun k hk => ?_⟩
  have hk1 : k < (belowL D.certs D.low (marksS D.certs D.low i) D.certs.length).length := hk
  have hp := posL_lt (pos_mem hk1)
  refine ⟨_, hp.1, by rw [show nth (belowS D.certs D.low D.low i) k = _ from belowL_nth hk1]; exact h.dist.find hp.1, fun h0 => ?_⟩
  have hk2 : k - 1 < (belowL D.certs D.low (marksS D.certs D.low i) D.certs.length).length := by omega
  have hp' := posL_lt (pos_mem hk2)
  exact ⟨_, pos_lt hk1 (by omega : k - 1 < k), by rw [show nth (belowS D.certs D.low D.low i) (k - 1) = _ from belowL_nth hk2]; exact h.dist.find hp'.1⟩
theorem lows_up {D : DagD} (h : DagOk D) (i : Nat) {low : Int} (hle : D.low ≤ low) : belowS D.certs D.low low i = (belowS D.certs D.low D.low i).filter (upB D.certs low) := belowL_up_filter h.dist hle _ _ (Nat.le_refl _)
theorem upB_of {certs : List CertD} {low x : Int} {j : Nat} (h : findS certs x = (j : Int)) : upB certs low x = decide (low < (cth certs j).h.ro) := by unfold upB; rw [h]; rfl
end Go.Proofs.Ythpljlffjbodpaa
