/- TableOnce, plain: what is held along the way. -/
import Derived.Test.YtffoglofijffpaaPw
namespace Go.Proofs.Ytffoglofijffpaa
set_option linter.unusedSimpArgs false
set_option linter.unusedVariables false

def vlS (va : List ByteArray) (k : Nat) : ByteArray := va.getD k ⟨#[]⟩
def lsS (la : List Int) (s : Nat) : Int := la.getD s 0
structure TOnce (l : List PairD) (q : List AcctD) (la : List Int) (va : List ByteArray) (i : Nat) : Prop where
  may : MayT l q
  lenq : q.length ≤ i
  lenl : l.length ≤ i
  ll : la.length = 5
  lv : va.length = 5
  la_ : ∀ s : Nat, 1 ≤ s → s ≤ 4 → lastA q (s : Int) = lsS la s
  lb : ∀ s : Nat, s < 5 → 0 ≤ lsS la s ∧ lsS la s ≤ i
  va0 : ∀ k : Nat, k < 5 → (vlS va k).size = 0 → khasP l (keyK k) = false
  va1 : ∀ k : Nat, k < 5 → (vlS va k).size ≠ 0 → khasP l (keyK k) = true ∧ getB l (keyK k) = vlS va k
theorem TOnce.start : TOnce [] [] [0, 0, 0, 0, 0] [⟨#[]⟩, ⟨#[]⟩, ⟨#[]⟩, ⟨#[]⟩, ⟨#[]⟩] 0 :=
  { may := MayT.nil, lenq := by simp, lenl := by simp, ll := rfl, lv := rfl, la_ := fun s h1 h2 => by
      rw [lastA_no (khasA_nil _)]
      have : s = 1 ∨ s = 2 ∨ s = 3 ∨ s = 4 := by omega
      rcases this with rfl | rfl | rfl | rfl <;> rfl
    lb := fun s h => by
      have : s = 0 ∨ s = 1 ∨ s = 2 ∨ s = 3 ∨ s = 4 := by omega
      rcases this with rfl | rfl | rfl | rfl | rfl <;> simp [lsS]
    va0 := fun k _ _ => khasP_nil _
    va1 := fun k hk h => by
      have : k = 0 ∨ k = 1 ∨ k = 2 ∨ k = 3 ∨ k = 4 := by omega
      rcases this with rfl | rfl | rfl | rfl | rfl <;> exact absurd rfl h }
theorem TOnce.next {l : List PairD} {q : List AcctD} {la : List Int} {va : List ByteArray} {i : Nat} (h : TOnce l q la va i) : TOnce l q la va (i + 1) :=
  { h with lenq := Nat.le_succ_of_le h.lenq, lenl := Nat.le_succ_of_le h.lenl, lb := fun s hs => by have := h.lb s hs; omega }
/-- The transaction of a round. -/
def onX (s : Nat) (qn : Int) (k : Nat) (v : ByteArray) : TxD := ⟨(s : Int), qn, keyK k, v⟩
theorem TOnce.ok {l : List PairD} {q : List AcctD} {la : List Int} {va : List ByteArray} {i : Nat} (h : TOnce l q la va i) (hi : i < 60) {s k : Nat} {qn : Int} {v : ByteArray} (hs1 : 1 ≤ s) (hs4 : s ≤ 4) (hv : v.size ≤ 1) :
    okT l q (onX s qn k v) = decide (qn = lsS la s + 1) := by
  have hl := h.la_ s hs1 hs4
  have hb := h.lb s (by omega)
  rw [Bool.eq_iff_iff, okT_iff, decide_eq_true_eq]
  constructor
  · intro hO
    have h2 : qn = lastA q (s : Int) + 1 := hO.2.1
    rw [hl] at h2; exact h2
  · intro hq
    refine ⟨txS_iff.2 ⟨by show 1 ≤ (s : Int); omega, by show (s : Int) ≤ _; omega, by show 1 ≤ qn; omega, by show qn ≤ _; omega, by show 1 ≤ (keyK k).size; rw [keyK_size]; omega, by show (keyK k).size ≤ 16; rw [keyK_size]; omega, by show v.size ≤ 32; omega⟩, ?_, ?_, ?_⟩
    · show qn = lastA q (s : Int) + 1
      rw [hl]; exact hq
    · intro hh; have := h.lenq; omega
    · intro hh; have := h.lenl; omega
theorem set_getD {α : Type} (l : List α) (d x : α) (j k : Nat) (hk : k < l.length) : (l.set k x).getD j d = if j = k then x else l.getD j d := by
  rw [List.getD_eq_getElem?_getD, List.getD_eq_getElem?_getD, List.getElem?_set]
  by_cases h : k = j
  · subst h; simp [hk]
  · rw [if_neg h, if_neg (fun e => h e.symm)]
theorem TOnce.step {l : List PairD} {q : List AcctD} {la : List Int} {va : List ByteArray} {i : Nat} (h : TOnce l q la va i) (hi : i < 60) {s k : Nat} {qn : Int} {v : ByteArray} (hs1 : 1 ≤ s) (hs4 : s ≤ 4) (hk : k < 5) (hv : v.size ≤ 1) (hq : qn = lsS la s + 1) :
    TOnce (setP l (onX s qn k v)) (setA q (onX s qn k v)) (la.set s qn) (va.set k v) (i + 1) := by
  have hO : OkT l q (onX s qn k v) := okT_iff.1 (by rw [h.ok hi hs1 hs4 hv, decide_eq_true_eq]; exact hq)
  have sP := (MayP.iff.1 h.may.1).2.2
  have sA := (MayA.iff.1 h.may.2).2.2
  obtain ⟨p1, p2, p3⟩ := setP_say sP (onX s qn k v)
  obtain ⟨a1, a2, a3⟩ := setA_say sA (onX s qn k v)
  have hb := h.lb s (by omega)
  have eV : ∀ j, vlS (va.set k v) j = if j = k then v else vlS va j := fun j => set_getD _ _ _ _ _ (by rw [h.lv]; exact hk)
  have eL : ∀ j, lsS (la.set s qn) j = if j = s then qn else lsS la j := fun j => set_getD _ _ _ _ _ (by rw [h.ll]; omega)
  refine { may := h.may.set hO, lenq := ?_, lenl := ?_, ll := by rw [List.length_set]; exact h.ll, lv := by rw [List.length_set]; exact h.lv, la_ := fun t h1 h4 => ?_, lb := fun t ht => ?_, va0 := fun j hj hz => ?_, va1 := fun j hj hz => ?_ }
  · have := h.lenq; split at a3 <;> omega
  · have := h.lenl; split at p3 <;> omega
  · rw [(setA_last sA (onX s qn k v) (t : Int)).1, eL]
    by_cases e : t = s
    · subst e; rw [if_pos rfl, if_pos (show (t : Int) = (onX t qn k v).se from rfl)]; rfl
    · rw [if_neg e, if_neg (show ¬ (t : Int) = (onX s qn k v).se from fun e2 => e (by have : (t : Int) = (s : Int) := e2; omega))]
      exact h.la_ t h1 h4
  · rw [eL]
    have := h.lb t ht
    split <;> omega
  · rw [eV] at hz
    by_cases e : j = k
    · subst e
      rw [if_pos rfl] at hz
      exact setP_gone sP (onX s qn j v) hz
    · rw [if_neg e] at hz
      rw [(setP_other sP (onX s qn k v) (show keyK j ≠ keyK k from fun e2 => e (keyK_inj hj hk e2))).1]
      exact h.va0 j hj hz
  · rw [eV] at hz ⊢
    by_cases e : j = k
    · subst e
      rw [if_pos rfl] at hz ⊢
      exact setP_there sP (onX s qn j v) hz
    · rw [if_neg e] at hz ⊢
      obtain ⟨o1, o2⟩ := setP_other sP (onX s qn k v) (show keyK j ≠ keyK k from fun e2 => e (keyK_inj hj hk e2))
      rw [o1, o2]
      exact h.va1 j hj hz
/-- The same again changes nothing. -/
theorem again_no {l : List PairD} {q : List AcctD} {x : TxD} (hM : MayT l q) : okT (doP l q x) (doA l q x) x = false := by
  cases h : okT l q x
  · rw [(doP_no h).1, (doP_no h).2, h]
  · rw [(doP_yes h).1, (doP_yes h).2]
    cases h2 : okT (setP l x) (setA q x) x
    · rfl
    · have h3 := (okT_iff.1 h2).2.1
      rw [(setA_last (MayA.iff.1 hM.2).2.2 x x.se).1, if_pos rfl] at h3
      omega
theorem TOnce.get {l : List PairD} {q : List AcctD} {la : List Int} {va : List ByteArray} {i : Nat} (h : TOnce l q la va i) {k : Nat} (hk : k < 5) :
    ((vlS va k).size = 0 → tgE l q (keyK k) = 3) ∧ ((vlS va k).size ≠ 0 → tgE l q (keyK k) = 0 ∧ tgB l q (keyK k) = vlS va k) := by
  unfold tgE tgB
  rw [if_pos (mayT_iff.2 h.may), if_pos (mayT_iff.2 h.may)]
  constructor
  · intro hz; rw [if_neg (by rw [h.va0 k hk hz]; simp)]
  · intro hz; obtain ⟨a, b⟩ := h.va1 k hk hz; rw [if_pos a]; exact ⟨rfl, b⟩
def valS (j : Nat) : ByteArray := [(⟨#[]⟩ : ByteArray), ⟨#[97]⟩, ⟨#[98]⟩].getD j ⟨#[]⟩
theorem valS_size (j : Nat) : (valS j).size ≤ 1 := by
  have : j = 0 ∨ j = 1 ∨ j = 2 ∨ 3 ≤ j := by omega
  rcases this with rfl | rfl | rfl | h
  · decide
  · decide
  · decide
  · unfold valS; rw [List.getD_eq_getElem?_getD, List.getElem?_eq_none (by simpa using h)]; decide
end Go.Proofs.Ytffoglofijffpaa
