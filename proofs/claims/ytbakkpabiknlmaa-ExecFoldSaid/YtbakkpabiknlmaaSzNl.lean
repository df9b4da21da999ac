/- Tables, plain: what a transaction makes of a sorted row. -/
import Derived.Test.YtbakkpabiknlmaaSzNj0
namespace Go.Proofs.Ytbakkpabiknlmaa
set_option linter.unusedSimpArgs false
set_option linter.unusedVariables false
set_option linter.unusedSectionVars false

section
variable {α K : Type} [Inhabited α] {f : α → K} {lt : K → K → Bool}
def Srt (f : α → K) (lt : K → K → Bool) (l : List α) : Prop := l.Pairwise (fun a b => lt (f a) (f b) = true)
theorem cnt_take (p : α → Bool) : ∀ (l : List α), ∀ x ∈ l.take (cnt p l), p x = true
  | [], x, h => by simp at h
  | y :: l, x, h => by
    unfold cnt at h
    split at h
    · next hy =>
      rw [List.take_succ_cons, List.mem_cons] at h
      rcases h with rfl | h
      · exact hy
      · exact cnt_take p l x h
    · simp at h
theorem cnt_stop (p : α → Bool) : ∀ (l : List α), cnt p l < l.length → p (l.getD (cnt p l) default) = false
  | [], h => by simp at h
  | y :: l, h => by
    unfold cnt at h ⊢
    split
    · next hy =>
      rw [if_pos hy] at h
      exact cnt_stop p l (by simpa using h)
    · next hy => simpa using hy
theorem drop_getD (l : List α) (k : Nat) (h : k < l.length) : l.drop k = l.getD k default :: l.drop (k + 1) := by
  rw [List.drop_eq_getElem_cons h]; simp [h]
/-- What stands below a key, and what above. -/
theorem srt_split (irr : ∀ a, lt a a = false) (tr : ∀ {a b c}, lt a b = true → lt b c = true → lt a c = true) (tri : ∀ {a b}, lt a b = false → lt b a = false → a = b)
    (l : List α) (hs : Srt f lt l) (key : K) : ∃ A B, (∀ a ∈ A, lt (f a) key = true) ∧ (∀ b ∈ B, lt key (f b) = true) ∧ A = l.take (cnt (fun x => lt (f x) key) l) ∧
      ((cnt (fun x => lt (f x) key) l < l.length ∧ f (l.getD (cnt (fun x => lt (f x) key) l) default) = key ∧ B = l.drop (cnt (fun x => lt (f x) key) l + 1) ∧ l = A ++ (l.getD (cnt (fun x => lt (f x) key) l) default :: B)) ∨
       (¬ (cnt (fun x => lt (f x) key) l < l.length ∧ f (l.getD (cnt (fun x => lt (f x) key) l) default) = key) ∧ B = l.drop (cnt (fun x => lt (f x) key) l) ∧ l = A ++ B)) := by
  obtain ⟨k, hk⟩ : ∃ k, k = cnt (fun x => lt (f x) key) l := ⟨_, rfl⟩
  have h1 := cnt_take (fun x => lt (f x) key) l
  have h2 := cnt_stop (fun x => lt (f x) key) l
  rw [← hk] at h1 h2 ⊢
  have hdrop : ∀ b ∈ l.drop (k + 1), lt (f (l.getD k default)) (f b) = true := fun b hb => by
    by_cases hkl : k < l.length
    · have e := drop_getD l k hkl
      have h3 : (l.drop k).Pairwise (fun a b => lt (f a) (f b) = true) := hs.sublist (List.drop_sublist _ _)
      rw [e, List.pairwise_cons] at h3
      exact h3.1 b hb
    · rw [List.drop_of_length_le (by omega)] at hb; simp at hb
  by_cases hh : k < l.length ∧ f (l.getD k default) = key
  · refine ⟨l.take k, l.drop (k + 1), h1, fun b hb => ?_, rfl, .inl ⟨hh.1, hh.2, rfl, ?_⟩⟩
    · have := hdrop b hb; rw [hh.2] at this; exact this
    · rw [← drop_getD l k hh.1, List.take_append_drop]
  · refine ⟨l.take k, l.drop k, h1, fun b hb => ?_, rfl, .inr ⟨hh, rfl, (List.take_append_drop _ _).symm⟩⟩
    by_cases hkl : k < l.length
    · have h3 := h2 hkl
      have h4 : lt key (f (l.getD k default)) = true := by
        cases h : lt key (f (l.getD k default))
        · exact absurd ⟨hkl, tri h3 h⟩ hh
        · rfl
      rw [drop_getD l k hkl, List.mem_cons] at hb
      rcases hb with rfl | hb
      · exact h4
      · exact tr h4 (hdrop b hb)
    · rw [List.drop_of_length_le (by omega)] at hb; simp at hb
theorem srt_mid (tr : ∀ {a b c}, lt a b = true → lt b c = true → lt a c = true) {A B : List α} {key : K} {z : α} (hA : ∀ a ∈ A, lt (f a) key = true) (hB : ∀ b ∈ B, lt key (f b) = true) (hz : f z = key) (hs : Srt f lt (A ++ B)) : Srt f lt (A ++ z :: B) := by
  unfold Srt at hs ⊢
  rw [List.pairwise_append] at hs ⊢
  refine ⟨hs.1, List.pairwise_cons.2 ⟨fun b hb => ?_, hs.2.1⟩, fun a ha b hb => ?_⟩
  · have := hB b hb; rw [← hz] at this; exact this
  · rcases List.mem_cons.1 hb with rfl | hb
    · have := hA a ha; rw [← hz] at this; exact this
    · exact hs.2.2 a ha b hb
theorem srt_out {A B : List α} {z : α} (hs : Srt f lt (A ++ z :: B)) : Srt f lt (A ++ B) := by
  unfold Srt at hs ⊢
  rw [List.pairwise_append] at hs ⊢
  exact ⟨hs.1, (List.pairwise_cons.1 hs.2.1).2, fun a ha b hb => hs.2.2 a ha b (List.mem_cons_of_mem _ hb)⟩
end
theorem set_app {α : Type} (A B : List α) (x z : α) (k : Nat) (h : A.length = k) : (A ++ x :: B).set k z = A ++ z :: B := by
  subst h; simp
theorem srt_getD {α K : Type} [Inhabited α] {f : α → K} {lt : K → K → Bool} {l : List α} : Srt f lt l ↔ ∀ i j, i < j → j < l.length → lt (f (l.getD i default)) (f (l.getD j default)) = true := by
  unfold Srt
  rw [List.pairwise_iff_getElem]
  constructor
  · intro h i j hij hj
    have := h i j (by omega) hj hij
    simpa [hj, show i < l.length by omega] using this
  · intro h i j hi hj hij
    have := h i j hij hj
    simpa [hi, hj] using this
theorem mem_getD {α : Type} [Inhabited α] {l : List α} {P : α → Prop} : (∀ j, j < l.length → P (l.getD j default)) ↔ ∀ x ∈ l, P x := by
  constructor
  · intro h x hx
    obtain ⟨j, hj, rfl⟩ := List.mem_iff_getElem.1 hx
    have := h j hj
    simpa [hj] using this
  · intro h j hj
    have := h (l[j]) (List.getElem_mem hj)
    simpa [hj] using this
/-- What a row of pairs may be, in other words. -/
theorem MayP.iff {l : List PairD} : MayP l ↔ l.length ≤ 4096 ∧ (∀ p ∈ l, pairS p = true) ∧ Srt PairD.k ltK l := by
  constructor
  · intro h
    exact ⟨h.1, (mem_getD (P := fun p => pairS p = true)).1 fun j hj => (h.2 j hj).1, srt_getD.2 h.sorted⟩
  · rintro ⟨h1, h2, h3⟩
    refine ⟨h1, fun j hj => ⟨(mem_getD (P := fun p => pairS p = true)).2 h2 j hj, fun h0 => ?_⟩⟩
    exact srt_getD.1 h3 (j - 1) j (by omega) hj
theorem MayA.iff {q : List AcctD} : MayA q ↔ q.length ≤ 4096 ∧ (∀ a ∈ q, acctS a = true) ∧ Srt AcctD.se ltI q := by
  constructor
  · intro h
    exact ⟨h.1, (mem_getD (P := fun a => acctS a = true)).1 fun j hj => (h.2 j hj).1, srt_getD.2 h.sorted⟩
  · rintro ⟨h1, h2, h3⟩
    refine ⟨h1, fun j hj => ⟨(mem_getD (P := fun a => acctS a = true)).2 h2 j hj, fun h0 => ?_⟩⟩
    have := srt_getD.1 h3 (j - 1) j (by omega) hj
    exact of_decide_eq_true this
theorem ltI_irr (a : Int) : ltI a a = false := by simp [ltI]
theorem ltI_tri {a b : Int} (h1 : ltI a b = false) (h2 : ltI b a = false) : a = b := by simp [ltI] at h1 h2; omega
theorem splitP {l : List PairD} (hs : Srt PairD.k ltK l) (key : ByteArray) : ∃ A B, (∀ a ∈ A, ltK a.k key = true) ∧ (∀ b ∈ B, ltK key b.k = true) ∧ A = l.take (kposP l key) ∧ A.length = kposP l key ∧
      ((khasP l key = true ∧ (pth l (kposP l key)).k = key ∧ B = l.drop (kposP l key + 1) ∧ l = A ++ (pth l (kposP l key) :: B)) ∨ (khasP l key = false ∧ B = l.drop (kposP l key) ∧ l = A ++ B)) := by
  obtain ⟨A, B, h1, h2, h3, h4⟩ := srt_split (f := PairD.k) ltK_irrefl ltK_trans ltK_tri l hs key
  refine ⟨A, B, h1, h2, h3, by rw [h3, List.length_take]; have := cnt_le (fun x : PairD => ltK x.k key) l; unfold kposP; omega, ?_⟩
  rcases h4 with ⟨a, b, c, d⟩ | ⟨a, b, c⟩
  · exact .inl ⟨(dec_true ⟨a, b⟩).symm, b, c, d⟩
  · exact .inr ⟨(dec_false a).symm, b, c⟩
theorem splitA {l : List AcctD} (hs : Srt AcctD.se ltI l) (key : Int) : ∃ A B, (∀ a ∈ A, ltI a.se key = true) ∧ (∀ b ∈ B, ltI key b.se = true) ∧ A = l.take (kposA l key) ∧ A.length = kposA l key ∧
      ((khasA l key = true ∧ (ath l (kposA l key)).se = key ∧ B = l.drop (kposA l key + 1) ∧ l = A ++ (ath l (kposA l key) :: B)) ∨ (khasA l key = false ∧ B = l.drop (kposA l key) ∧ l = A ++ B)) := by
  obtain ⟨A, B, h1, h2, h3, h4⟩ := srt_split (f := AcctD.se) ltI_irr ltI_trans ltI_tri l hs key
  refine ⟨A, B, h1, h2, h3, by rw [h3, List.length_take]; have := cnt_le (fun x : AcctD => ltI x.se key) l; unfold kposA; omega, ?_⟩
  rcases h4 with ⟨a, b, c, d⟩ | ⟨a, b, c⟩
  · exact .inl ⟨(dec_true ⟨a, b⟩).symm, b, c, d⟩
  · exact .inr ⟨(dec_false a).symm, b, c⟩
theorem ne_of_lt {a b : ByteArray} (h : ltK a b = true) : a ≠ b := fun e => by subst e; rw [ltK_irrefl] at h; cases h
theorem neI_of_lt {a b : Int} (h : ltI a b = true) : a ≠ b := fun e => by subst e; rw [ltI_irr] at h; cases h
/-- What a row of pairs holds behind a transaction; it is sorted as before; how long it is. -/
theorem setP_say {l : List PairD} (hs : Srt PairD.k ltK l) (x : TxD) :
    Srt PairD.k ltK (setP l x) ∧ (∀ p, p ∈ setP l x ↔ (p ∈ l ∧ p.k ≠ x.k) ∨ (x.v.size ≠ 0 ∧ p = ⟨x.k, x.v⟩)) ∧
    (setP l x).length ≤ l.length + (if khasP l x.k = false ∧ ¬ x.v.size = 0 then 1 else 0) := by
  obtain ⟨A, B, hA, hB, eA, lA, h⟩ := splitP hs x.k
  have nA : ∀ p ∈ A, p.k ≠ x.k := fun p hp => ne_of_lt (hA p hp)
  have nB : ∀ p ∈ B, p.k ≠ x.k := fun p hp e => ne_of_lt (hB p hp) e.symm
  have hAB : Srt PairD.k ltK (A ++ B) := by
    rcases h with ⟨_, _, _, e⟩ | ⟨_, _, e⟩
    · rw [e] at hs; exact srt_out hs
    · rw [e] at hs; exact hs
  have inAB : ∀ p, p ∈ A ++ B ↔ (p ∈ l ∧ p.k ≠ x.k) := fun p => by
    constructor
    · intro hp
      refine ⟨?_, ?_⟩
      · rcases h with ⟨_, _, _, e⟩ | ⟨_, _, e⟩ <;> rw [e] <;> simp at hp ⊢
        · rcases hp with hp | hp
          · exact .inl hp
          · exact .inr (.inr hp)
        · exact hp
      · rcases List.mem_append.1 hp with hp | hp
        · exact nA p hp
        · exact nB p hp
    · rintro ⟨hp, hk⟩
      rcases h with ⟨_, e1, _, e⟩ | ⟨_, _, e⟩ <;> rw [e] at hp <;> simp at hp ⊢
      · rcases hp with hp | hp | hp
        · exact .inl hp
        · exfalso; apply hk; rw [hp]; exact e1
        · exact .inr hp
      · exact hp
  have hz : Srt PairD.k ltK (A ++ (⟨x.k, x.v⟩ : PairD) :: B) := srt_mid (f := PairD.k) (lt := ltK) (key := x.k) ltK_trans hA hB rfl hAB
  have inZ : ∀ p, p ∈ A ++ (⟨x.k, x.v⟩ : PairD) :: B ↔ (p ∈ l ∧ p.k ≠ x.k) ∨ p = ⟨x.k, x.v⟩ := fun p => by
    rw [← inAB p]
    simp only [List.mem_append, List.mem_cons]
    constructor
    · rintro (h | h | h)
      · exact .inl (.inl h)
      · exact .inr h
      · exact .inl (.inr h)
    · rintro ((h | h) | h)
      · exact .inl h
      · exact .inr (.inr h)
      · exact .inr (.inl h)
  by_cases hv : x.v.size = 0
  · rcases h with ⟨hh, e1, eB, e⟩ | ⟨hh, eB, e⟩
    · have es : setP l x = A ++ B := by unfold setP; rw [if_pos hv, if_pos hh, ← eA, ← eB]
      rw [es]
      refine ⟨hAB, fun p => ?_, ?_⟩
      · rw [inAB p]; simp [hv]
      · have := congrArg List.length e
        simp at this ⊢; omega
    · have es : setP l x = l := by unfold setP; rw [if_pos hv, if_neg (by rw [hh]; simp)]
      rw [es]
      refine ⟨hs, fun p => ?_, by omega⟩
      rw [← inAB p, ← e]; simp [hv]
  · rcases h with ⟨hh, e1, eB, e⟩ | ⟨hh, eB, e⟩
    · have es : setP l x = A ++ (⟨x.k, x.v⟩ : PairD) :: B := by
        unfold setP
        rw [if_neg hv, if_pos hh]
        conv => lhs; arg 1; rw [e]
        exact set_app _ _ _ _ _ lA
      rw [es]
      refine ⟨hz, fun p => ?_, ?_⟩
      · rw [inZ p]; simp [hv]
      · have := congrArg List.length e
        simp at this ⊢; omega
    · have es : setP l x = A ++ (⟨x.k, x.v⟩ : PairD) :: B := by
        unfold setP
        rw [if_neg hv, if_neg (by rw [hh]; simp), ← eA, ← eB]
        simp
      rw [es]
      refine ⟨hz, fun p => ?_, ?_⟩
      · rw [inZ p]; simp [hv]
      · have := congrArg List.length e
        simp [hh, hv] at this ⊢; omega
theorem setA_say {q : List AcctD} (hs : Srt AcctD.se ltI q) (x : TxD) :
    Srt AcctD.se ltI (setA q x) ∧ (∀ p, p ∈ setA q x ↔ (p ∈ q ∧ p.se ≠ x.se) ∨ p = ⟨x.se, x.sq⟩) ∧ (setA q x).length ≤ q.length + (if khasA q x.se = false then 1 else 0) := by
  obtain ⟨A, B, hA, hB, eA, lA, h⟩ := splitA hs x.se
  have nA : ∀ p ∈ A, p.se ≠ x.se := fun p hp => neI_of_lt (hA p hp)
  have nB : ∀ p ∈ B, p.se ≠ x.se := fun p hp e => neI_of_lt (hB p hp) e.symm
  have hAB : Srt AcctD.se ltI (A ++ B) := by
    rcases h with ⟨_, _, _, e⟩ | ⟨_, _, e⟩
    · rw [e] at hs; exact srt_out hs
    · rw [e] at hs; exact hs
  have inAB : ∀ p, p ∈ A ++ B ↔ (p ∈ q ∧ p.se ≠ x.se) := fun p => by
    constructor
    · intro hp
      refine ⟨?_, ?_⟩
      · rcases h with ⟨_, _, _, e⟩ | ⟨_, _, e⟩ <;> rw [e] <;> simp at hp ⊢
        · rcases hp with hp | hp
          · exact .inl hp
          · exact .inr (.inr hp)
        · exact hp
      · rcases List.mem_append.1 hp with hp | hp
        · exact nA p hp
        · exact nB p hp
    · rintro ⟨hp, hk⟩
      rcases h with ⟨_, e1, _, e⟩ | ⟨_, _, e⟩ <;> rw [e] at hp <;> simp at hp ⊢
      · rcases hp with hp | hp | hp
        · exact .inl hp
        · exfalso; apply hk; rw [hp]; exact e1
        · exact .inr hp
      · exact hp
  have hz : Srt AcctD.se ltI (A ++ (⟨x.se, x.sq⟩ : AcctD) :: B) := srt_mid (f := AcctD.se) (lt := ltI) (key := x.se) ltI_trans hA hB rfl hAB
  have inZ : ∀ p, p ∈ A ++ (⟨x.se, x.sq⟩ : AcctD) :: B ↔ (p ∈ q ∧ p.se ≠ x.se) ∨ p = ⟨x.se, x.sq⟩ := fun p => by
    rw [← inAB p]
    simp only [List.mem_append, List.mem_cons]
    constructor
    · rintro (h | h | h)
      · exact .inl (.inl h)
      · exact .inr h
      · exact .inl (.inr h)
    · rintro ((h | h) | h)
      · exact .inl h
      · exact .inr (.inr h)
      · exact .inr (.inl h)
  rcases h with ⟨hh, e1, eB, e⟩ | ⟨hh, eB, e⟩
  · have es : setA q x = A ++ (⟨x.se, x.sq⟩ : AcctD) :: B := by
      unfold setA
      rw [if_pos hh]
      conv => lhs; arg 1; rw [e]
      exact set_app _ _ _ _ _ lA
    rw [es]
    refine ⟨hz, inZ, ?_⟩
    have := congrArg List.length e
    simp at this ⊢; omega
  · have es : setA q x = A ++ (⟨x.se, x.sq⟩ : AcctD) :: B := by
      unfold setA
      rw [if_neg (by rw [hh]; simp), ← eA, ← eB]
      simp
    rw [es]
    refine ⟨hz, inZ, ?_⟩
    have := congrArg List.length e
    simp [hh] at this ⊢; omega
/-- What may be is, behind a transaction, what may be. -/
theorem MayT.set {l : List PairD} {q : List AcctD} {x : TxD} (hM : MayT l q) (hO : OkT l q x) : MayT (setP l x) (setA q x) := by
  obtain ⟨h1, h2, h3⟩ := MayP.iff.1 hM.1
  obtain ⟨g1, g2, g3⟩ := MayA.iff.1 hM.2
  obtain ⟨a1, a2, a3⟩ := setP_say h3 x
  obtain ⟨b1, b2, b3⟩ := setA_say g3 x
  obtain ⟨o1, o2, o3, o4⟩ := hO
  have ht := txS_iff.1 o1
  refine ⟨MayP.iff.2 ⟨?_, fun p hp => ?_, a1⟩, MayA.iff.2 ⟨?_, fun p hp => ?_, b1⟩⟩
  · refine Nat.le_trans a3 ?_
    split
    · next h => have : ¬ 4096 ≤ l.length := fun hq => o4 ⟨h.1, h.2, hq⟩
                omega
    · omega
  · rcases (a2 p).1 hp with h | ⟨h, rfl⟩
    · exact h2 p h.1
    · rw [pairS_iff]; dsimp only; omega
  · refine Nat.le_trans b3 ?_
    split
    · next h => have : ¬ 4096 ≤ q.length := fun hq => o3 ⟨h, hq⟩
                omega
    · omega
  · rcases (b2 p).1 hp with h | rfl
    · exact g2 p h.1
    · unfold acctS
      rw [Bool.and_eq_true, idS_iff, idS_iff]
      dsimp only
      omega
theorem MayT.do_ {l : List PairD} {q : List AcctD} {x : TxD} (hM : MayT l q) : MayT (doP l q x) (doA l q x) := by
  unfold doP doA
  by_cases h : OkT l q x
  · have e : okT l q x = true := (dec_true h).symm
    rw [if_pos e, if_pos e]; exact hM.set h
  · have e : okT l q x = false := (dec_false h).symm
    rw [if_neg (by rw [e]; simp), if_neg (by rw [e]; simp)]; exact hM
theorem MayT.nil : MayT [] [] := ⟨⟨by simp, fun j hj => absurd hj (by simp)⟩, ⟨by simp, fun j hj => absurd hj (by simp)⟩⟩
end Go.Proofs.Ytbakkpabiknlmaa
