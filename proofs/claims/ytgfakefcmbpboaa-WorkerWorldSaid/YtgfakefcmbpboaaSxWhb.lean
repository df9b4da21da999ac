/- Acknowledgements: one more, in its place (plain). -/
import Derived.Test.YtgfakefcmbpboaaSxWha
import Derived.Test.YtgfakefcmbpboaaSxWv
namespace Go.Proofs.Ytgfakefcmbpboaa
open Go.RowKit
set_option linter.unusedSimpArgs false
set_option linter.unusedVariables false

/-- Where x stands, or would, in a rising list. -/
def posI (l : List Int) (x : Int) : Nat := cnt (fun y => decide (y < x)) l
theorem posI_le (l : List Int) (x : Int) : posI l x ≤ l.length := cnt_le _ _
theorem posI_eq {l : List Int} {x : Int} {i : Nat} (hi : i ≤ l.length) (h1 : ∀ j, j < i → nth l j < x) (h2 : i < l.length → x ≤ nth l i) : posI l x = i :=
  cnt_eq _ l i hi (fun t ht => by have := h1 t ht; simpa [nth] using this) (fun ht => by have := h2 ht; simpa [nth] using this)
/-- One more, if it is not there. -/
def ackI (l : List Int) (x : Int) : List Int := if memS l x = true then l else insAt l (posI l x) x
theorem ackI_len (l : List Int) (x : Int) : (ackI l x).length ≤ l.length + 1 := by
  unfold ackI
  split
  · omega
  · rw [insAt_len (posI_le l x)]; omega
/-- The waits when a node acknowledges a digest. -/
noncomputable def ackW (wa : List WaitD) (who d : Int) : List WaitD := if khasW wa d = true then wa.set (kposW wa d) ⟨d, ackI (wth wa (kposW wa d)).ak who⟩ else wa
theorem ackW_no {wa : List WaitD} {who d : Int} (h : khasW wa d = false) : ackW wa who d = wa := by
  unfold ackW; rw [if_neg (by rw [h]; simp)]
theorem ackW_yes {wa : List WaitD} {who d : Int} {lo : Nat} (hlo : kposW wa d = lo) (h : khasW wa d = true) : ackW wa who d = wa.set lo ⟨(wth wa lo).di, ackI (wth wa lo).ak who⟩ := by
  obtain ⟨h1, h2⟩ := khasW_lt7 hlo h
  unfold ackW; rw [if_pos h, hlo, h2]
theorem ackW_same {wa : List WaitD} {who d : Int} {lo : Nat} (hlo : kposW wa d = lo) (h : khasW wa d = true) (hm : memS (wth wa lo).ak who = true) : ackW wa who d = wa := by
  obtain ⟨h1, h2⟩ := khasW_lt7 hlo h
  rw [ackW_yes hlo h]
  have e : ackI (wth wa lo).ak who = (wth wa lo).ak := by unfold ackI; rw [if_pos hm]
  rw [e]
  apply List.ext_getElem (by simp)
  intro j h3 h4
  rw [List.getElem_set]
  split
  · rename_i hj; subst hj; simp [wth, h4]
  · rfl
theorem ackW_len (wa : List WaitD) (who d : Int) : (ackW wa who d).length = wa.length := by
  unfold ackW; split <;> simp
theorem ackW_mem {wa : List WaitD} {who d : Int} {x : WaitD} (h : x ∈ ackW wa who d) : x ∈ wa ∨ ∃ y ∈ wa, x = ⟨y.di, ackI y.ak who⟩ := by
  cases hk : khasW wa d
  · rw [ackW_no hk] at h; exact .inl h
  · rw [ackW_yes rfl hk] at h
    rcases List.mem_or_eq_of_mem_set h with h | h
    · exact .inl h
    · exact .inr ⟨_, getD_mem (khasW_lt7 rfl hk).1, h⟩
theorem insAt_mem7 {α : Type} {l : List α} {i : Nat} {x y : α} (h : y ∈ insAt l i x) : y = x ∨ y ∈ l := by
  unfold insAt at h
  rw [List.mem_append, List.mem_cons] at h
  rcases h with h | rfl | h
  · exact .inr (List.mem_of_mem_take h)
  · exact .inl rfl
  · exact .inr (List.mem_of_mem_drop h)
theorem nth_ins {l : List Int} {p : Nat} {x : Int} (hp : p ≤ l.length) (i : Nat) : nth (insAt l p x) i = if i < p then nth l i else if i = p then x else nth l (i - 1) := by
  have hlt : (l.take p).length = p := by rw [List.length_take]; omega
  unfold insAt nth
  simp only [List.getD_eq_getElem?_getD]
  by_cases h1 : i < p
  · rw [if_pos h1, List.getElem?_append_left (by omega), List.getElem?_take, if_pos h1]
  · rw [if_neg h1, List.getElem?_append_right (by omega), hlt]
    by_cases h2 : i = p
    · rw [if_pos h2, h2, Nat.sub_self]; rfl
    · rw [if_neg h2, show i - p = (i - p - 1) + 1 by omega, List.getElem?_cons_succ, List.getElem?_drop, show p + (i - p - 1) = i - 1 by omega]
theorem posI_low {l : List Int} {x : Int} {i : Nat} (h : i < posI l x) : nth l i < x := by
  have hl : posI l x ≤ l.length := cnt_le _ _
  have hm := cnt_take (fun y => decide (y < x)) l (nth l i) (by
    have e : nth l i = (l.take (posI l x)).getD i default := by
      unfold nth; simp only [List.getD_eq_getElem?_getD, List.getElem?_take, if_pos h]; rfl
    rw [e]; exact getD_mem (by rw [List.length_take]; show i < min (posI l x) _; omega))
  simpa using hm
theorem posI_stop {l : List Int} {x : Int} (h : posI l x < l.length) : x ≤ nth l (posI l x) := by
  have h0 := cnt_stop (fun y => decide (y < x)) l h
  have e : nth l (posI l x) = l.getD (cnt (fun y => decide (y < x)) l) default := rfl
  rw [e]; simpa using h0
theorem ackI_rise {l : List Int} {x n : Int} (h : RisesIn l n) (h1 : 1 ≤ x) (h2 : x ≤ n) : RisesIn (ackI l x) n := by
  unfold ackI
  split
  · exact h
  · rename_i hm
    have hp := posI_le l x
    have hne : ∀ i, i < l.length → nth l i ≠ x := fun i hi e => hm (by unfold memS; exact decide_eq_true (mem_nth.2 ⟨i, hi, e⟩))
    have hhi : ∀ i, posI l x ≤ i → i < l.length → x < nth l i := fun i g1 g2 => by
      have a1 := posI_stop (l := l) (x := x) (by omega)
      have a2 := hne i g2
      rcases Nat.lt_or_ge (posI l x) i with g | g
      · have := h.1 _ _ g g2; omega
      · have e : posI l x = i := by omega
        rw [e] at a1; omega
    refine ⟨fun i j hij hj => ?_, fun j hj => ?_⟩
    · rw [insAt_len hp] at hj
      rw [nth_ins hp, nth_ins hp]
      by_cases g1 : i < posI l x
      · rw [if_pos g1]
        have a1 := posI_low g1
        by_cases g2 : j < posI l x
        · rw [if_pos g2]; exact h.1 i j hij (by omega)
        · rw [if_neg g2]
          by_cases g3 : j = posI l x
          · rw [if_pos g3]; exact a1
          · rw [if_neg g3]; have := hhi (j - 1) (by omega) (by omega); omega
      · rw [if_neg g1]
        by_cases g2 : i = posI l x
        · rw [if_pos g2, if_neg (by omega), if_neg (by omega)]
          exact hhi (j - 1) (by omega) (by omega)
        · rw [if_neg g2, if_neg (by omega), if_neg (by omega)]
          exact h.1 (i - 1) (j - 1) (by omega) (by omega)
    · rw [insAt_len hp] at hj
      rw [nth_ins hp]
      by_cases g1 : j < posI l x
      · rw [if_pos g1]; exact h.2 j (by omega)
      · rw [if_neg g1]
        by_cases g2 : j = posI l x
        · rw [if_pos g2]; exact ⟨h1, h2⟩
        · rw [if_neg g2]; exact h.2 (j - 1) (by omega)
theorem ackW_rise {wa : List WaitD} {who d n : Int} (h : ∀ x ∈ wa, RisesIn x.ak n) (h1 : 1 ≤ who) (h2 : who ≤ n) : ∀ x ∈ ackW wa who d, RisesIn x.ak n := fun x hx => by
  rcases ackW_mem hx with hx | ⟨y, hy, rfl⟩
  · exact h x hx
  · exact ackI_rise (h y hy) h1 h2
theorem ackW_big {wa : List WaitD} {who d : Int} (h : BigW wa) (hl : ∀ x ∈ wa, x.ak.length ≤ 1000000) : BigW (ackW wa who d) := ⟨by rw [ackW_len]; exact h.1, fun x hx => by
  rcases ackW_mem hx with hx | ⟨y, hy, rfl⟩
  · exact h.2 x hx
  · have := ackI_len y.ak who; have := hl y hy; show (ackI y.ak who).length ≤ _; omega⟩
/-- What a worker is that is told that a batch is kept. -/
noncomputable def toldD (D : WorkD) (who d : Int) : WorkD := { D with wa := keptW D.nodes (ackW D.wa who d), re := keptR D.nodes D.re (ackW D.wa who d) }
end Go.Proofs.Ytgfakefcmbpboaa
