/- Waits: one more acknowledges; the row of waits with one element anew. -/
import Derived.Test.YtgfakefcmbpboaaSxWj
import Derived.Test.YtgfakefcmbpboaaSxWgx
namespace Go.Proofs.Ytgfakefcmbpboaa
open Go.RowKit
set_option linter.unusedSimpArgs false
set_option linter.unusedVariables false

theorem dcells_same {α β : Type} [Inhabited α] [Inhabited β] (T : DeepT α β) {l l' : List α} {ps : List β} (h : ps.length = l.length) (hl : l'.length = l.length) (he : ∀ j, j < l.length → T.enc (l'.getD j default) (ps.getD j default) = T.enc (l.getD j default) (ps.getD j default)) : dcells T l' ps = dcells T l ps := by
  unfold dcells
  congr 1
  apply List.ext_getElem
  · simp [hl]
  · intro i h1 h2
    rw [List.getElem_zipWith, List.getElem_zipWith]
    have hi : i < l.length := by rw [List.length_zipWith] at h2; omega
    have e := he i hi
    simpa [List.getD_eq_getElem?_getD, hi, hl, h, List.getElem?_eq_getElem, show i < l'.length by omega, show i < ps.length by omega] using e
theorem set_same {α : Type} {xs : List α} {j : Nat} {u : α} (h : xs[j]? = some u) : xs.set j u = xs := by
  obtain ⟨hj, e⟩ := List.getElem?_eq_some_iff.1 h
  rw [← e, List.set_getElem_self]
/-- The row of waits whose i-th gets other acknowledgements. -/
theorem waits_put {w : World} {B g c i : Nat} {ps : List Value} {l : List WaitD} {p : Value} {ak : List Int} (h : OwnT dWait w B (.slice (some ⟨g, 0, none⟩) l.length c) ps l) (hi : i < l.length) (hin : OwnI w B p ak) :
    OwnT dWait ((w.setCell ⟨g, i * 2, none⟩ (.int .i64 (wth l i).di)).setCell ⟨g, i * 2 + 1, none⟩ p) B (.slice (some ⟨g, 0, none⟩) l.length c) (ps.set i p) (l.set i ⟨(wth l i).di, ak⟩) := by
  obtain ⟨h1, h2, h3⟩ := h
  have a1 := own_put (u := .int .i64 (wth l i).di) h1 (j := i * 2) (by show i * 2 < l.length * 2; omega)
  have e0 : (dcells dWait l ps)[i * 2]? = some (.int .i64 (wth l i).di) := by
    exact dcells_at dWait h2 (j := i) (r := 0) hi (by decide)
  rw [set_same e0] at a1
  have a2 := own_put (u := p) a1 (j := i * 2 + 1) (by show i * 2 + 1 < l.length * 2; omega)
  have e1 : (dcells dWait l ps).set (i * 2 + 1) p = dcells dWait l (ps.set i p) := dcells_set dWait h2 hi (r := 1) (by decide) rfl
  have e2 : dcells dWait (l.set i ⟨(wth l i).di, ak⟩) (ps.set i p) = dcells dWait l (ps.set i p) := dcells_same dWait (by simp [h2]) (by simp) (fun j hj => by
    by_cases hji : j = i
    · subst hji
      have : (l.set j ⟨(wth l j).di, ak⟩).getD j default = ⟨(wth l j).di, ak⟩ := by simp [hj]
      rw [this]; rfl
    · have : (l.set i ⟨(wth l i).di, ak⟩).getD j default = l.getD j default := by
        simp only [List.getD_eq_getElem?_getD]; rw [List.getElem?_set, if_neg (fun e => hji e.symm)]
      rw [this])
  refine ⟨by rw [e2, ← e1, List.length_set]; exact a2, by simp [h2], fun j hj => ?_⟩
  rw [List.length_set] at hj
  have far : ∀ {q : Value} {m : List Int}, OwnI w B q m → OwnI ((w.setCell ⟨g, i * 2, none⟩ (.int .i64 (wth l i).di)).setCell ⟨g, i * 2 + 1, none⟩ p) B q m := fun hq => own_setT (own_setT hq h1 (by decide) rfl) a1 (by decide) rfl
  by_cases hji : j = i
  · subst hji
    have g1 : (l.set j ⟨(wth l j).di, ak⟩).getD j default = ⟨(wth l j).di, ak⟩ := by simp [hj]
    have g2 : (ps.set j p).getD j default = p := by simp [show j < ps.length by omega]
    rw [g1, g2]
    exact far hin
  · have g1 : (l.set i ⟨(wth l i).di, ak⟩).getD j default = l.getD j default := by
      simp only [List.getD_eq_getElem?_getD]; rw [List.getElem?_set, if_neg (fun e => hji e.symm)]
    have g2 : (ps.set i p).getD j default = ps.getD j default := by
      simp only [List.getD_eq_getElem?_getD]; rw [List.getElem?_set, if_neg (fun e => hji e.symm)]
    rw [g1, g2]
    exact far (h3 j hj)
end Go.Proofs.Ytgfakefcmbpboaa
