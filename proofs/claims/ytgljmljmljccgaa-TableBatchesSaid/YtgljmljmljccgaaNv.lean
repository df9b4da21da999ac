/- Tables, plain: what is there behind a transaction. -/
import Derived.Test.YtgljmljmljccgaaNl
namespace Go.Proofs.Ytgljmljmljccgaa
set_option linter.unusedSimpArgs false
set_option linter.unusedVariables false

theorem bool_iff {a b : Bool} (h : a = true ↔ b = true) : a = b := Bool.eq_iff_iff.2 h
theorem getB_no {l : List PairD} {key : ByteArray} (h : khasP l key = false) : getB l key = ⟨#[]⟩ := by unfold getB; rw [if_neg (by rw [h]; simp)]
theorem lastA_no {q : List AcctD} {s : Int} (h : khasA q s = false) : lastA q s = 0 := by unfold lastA; rw [if_neg (by rw [h]; simp)]
theorem setP_other {l : List PairD} (hs : Srt PairD.k ltK l) (x : TxD) {key : ByteArray} (hk : key ≠ x.k) : khasP (setP l x) key = khasP l key ∧ getB (setP l x) key = getB l key := by
  obtain ⟨a1, a2, _⟩ := setP_say hs x
  obtain ⟨m1, m2⟩ := khasP_mem hs key
  obtain ⟨n1, n2⟩ := khasP_mem a1 key
  have e : khasP (setP l x) key = khasP l key := bool_iff (by
    rw [n1, m1]
    constructor
    · rintro ⟨p, hp, rfl⟩
      rcases (a2 p).1 hp with h | ⟨_, rfl⟩
      · exact ⟨p, h.1, rfl⟩
      · exact absurd rfl hk
    · rintro ⟨p, hp, rfl⟩
      exact ⟨p, (a2 p).2 (.inl ⟨hp, hk⟩), rfl⟩)
  refine ⟨e, ?_⟩
  cases h : khasP l key
  · rw [getB_no h, getB_no (by rw [e, h])]
  · obtain ⟨p, hp, hpk⟩ := m1.1 h
    rw [m2 p hp hpk, n2 p ((a2 p).2 (.inl ⟨hp, by rw [hpk]; exact hk⟩)) hpk]
theorem setP_gone {l : List PairD} (hs : Srt PairD.k ltK l) (x : TxD) (hv : x.v.size = 0) : khasP (setP l x) x.k = false := by
  obtain ⟨a1, a2, _⟩ := setP_say hs x
  obtain ⟨n1, n2⟩ := khasP_mem a1 x.k
  cases h : khasP (setP l x) x.k
  · rfl
  · obtain ⟨p, hp, hpk⟩ := n1.1 h
    rcases (a2 p).1 hp with h | h
    · exact absurd hpk h.2
    · exact absurd hv h.1
theorem setP_there {l : List PairD} (hs : Srt PairD.k ltK l) (x : TxD) (hv : x.v.size ≠ 0) : khasP (setP l x) x.k = true ∧ getB (setP l x) x.k = x.v := by
  obtain ⟨a1, a2, _⟩ := setP_say hs x
  obtain ⟨n1, n2⟩ := khasP_mem a1 x.k
  have hm : (⟨x.k, x.v⟩ : PairD) ∈ setP l x := (a2 _).2 (.inr ⟨hv, rfl⟩)
  exact ⟨n1.2 ⟨_, hm, rfl⟩, n2 _ hm rfl⟩
theorem setA_last {q : List AcctD} (hs : Srt AcctD.se ltI q) (x : TxD) (s : Int) : lastA (setA q x) s = (if s = x.se then x.sq else lastA q s) ∧ (khasA (setA q x) s = true ↔ (s = x.se ∨ khasA q s = true)) := by
  obtain ⟨a1, a2, _⟩ := setA_say hs x
  obtain ⟨m1, m2⟩ := lastA_mem hs s
  obtain ⟨n1, n2⟩ := lastA_mem a1 s
  have hm : (⟨x.se, x.sq⟩ : AcctD) ∈ setA q x := (a2 _).2 (.inr rfl)
  constructor
  · by_cases h : s = x.se
    · subst h
      rw [if_pos rfl, n2 _ hm rfl]
    · rw [if_neg h]
      cases hh : khasA q s
      · rw [lastA_no hh]
        refine lastA_no ?_
        cases h2 : khasA (setA q x) s
        · rfl
        · obtain ⟨p, hp, hpk⟩ := n1.1 h2
          rcases (a2 p).1 hp with h3 | rfl
          · rw [m1.2 ⟨p, h3.1, hpk⟩] at hh; cases hh
          · exact absurd hpk.symm h
      · obtain ⟨p, hp, hpk⟩ := m1.1 hh
        rw [m2 p hp hpk, n2 p ((a2 p).2 (.inl ⟨hp, by rw [hpk]; exact h⟩)) hpk]
  · rw [n1, m1]
    constructor
    · rintro ⟨p, hp, rfl⟩
      rcases (a2 p).1 hp with h | rfl
      · exact .inr ⟨p, h.1, rfl⟩
      · exact .inl rfl
    · rintro (rfl | ⟨p, hp, rfl⟩)
      · exact ⟨_, hm, rfl⟩
      · by_cases h : p.se = x.se
        · exact ⟨_, hm, h.symm⟩
        · exact ⟨p, (a2 p).2 (.inl ⟨hp, h⟩), rfl⟩
theorem doP_yes {l : List PairD} {q : List AcctD} {x : TxD} (h : okT l q x = true) : doP l q x = setP l x ∧ doA l q x = setA q x := by unfold doP doA; rw [if_pos h, if_pos h]; exact ⟨rfl, rfl⟩
theorem doP_no {l : List PairD} {q : List AcctD} {x : TxD} (h : okT l q x = false) : doP l q x = l ∧ doA l q x = q := by unfold doP doA; rw [if_neg (by rw [h]; simp), if_neg (by rw [h]; simp)]; exact ⟨rfl, rfl⟩
theorem okT_iff {l : List PairD} {q : List AcctD} {x : TxD} : okT l q x = true ↔ OkT l q x := dec_iff
theorem khasA_nil (s : Int) : khasA [] s = false := by
  cases h : khasA [] s
  · rfl
  · have := (dec_iff.1 h).1; simp at this
theorem khasP_nil (s : ByteArray) : khasP [] s = false := by
  cases h : khasP [] s
  · rfl
  · have := (dec_iff.1 h).1; simp at this
/-! ### the key that wakes -/
def wkX : TxD := ⟨1, 1, ⟨#[107]⟩, ⟨#[118]⟩⟩
theorem wk_ok22 : okT [] [] wkX = true := okT_iff.2 ⟨by decide, by rw [lastA_no (khasA_nil _)]; rfl, fun h => by simp at h, fun h => by simp at h⟩
theorem wk_may22 : mayT (doP [] [] wkX) (doA [] [] wkX) = true := mayT_iff.2 MayT.nil.do_
theorem wk_get22 : tgB (doP [] [] wkX) (doA [] [] wkX) wkX.k = wkX.v ∧ tgE (doP [] [] wkX) (doA [] [] wkX) wkX.k = 0 := by
  have hs : Srt PairD.k ltK [] := List.Pairwise.nil
  obtain ⟨h1, h2⟩ := setP_there hs wkX (by decide)
  unfold tgB tgE
  rw [if_pos wk_may22, if_pos wk_may22, (doP_yes wk_ok22).1, if_pos h1, h2]
  exact ⟨rfl, rfl⟩
theorem wk_len22 : (doP [] [] wkX).length ≤ 4096 ∧ (doA [] [] wkX).length ≤ 4096 := ⟨MayT.nil.do_.1.1, MayT.nil.do_.2.1⟩
end Go.Proofs.Ytgljmljmljccgaa
