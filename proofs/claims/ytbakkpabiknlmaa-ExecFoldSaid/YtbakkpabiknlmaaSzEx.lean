/- ExecFold: what comes of digests and batches, in whatever pieces they come: plain. -/
import Derived.Test.YtbakkpabiknlmaaSzEj
namespace Go.Proofs.Ytbakkpabiknlmaa
open Go.RowKit
set_option linter.unusedSimpArgs false
set_option linter.unusedVariables false

def insAt {α : Type} (l : List α) (i : Nat) (x : α) : List α := l.take i ++ x :: l.drop i
theorem insAt_len {α : Type} {l : List α} {i : Nat} {x : α} (hi : i ≤ l.length) : (insAt l i x).length = l.length + 1 := by
  unfold insAt; simp; omega
theorem hth_ins {l : List HeldD} {p : Nat} {x : HeldD} (hp : p ≤ l.length) (i : Nat) : hth (insAt l p x) i = if i < p then hth l i else if i = p then x else hth l (i - 1) := by
  have hlt : (l.take p).length = p := by rw [List.length_take]; omega
  unfold insAt hth
  simp only [List.getD_eq_getElem?_getD]
  by_cases h1 : i < p
  · rw [if_pos h1, List.getElem?_append_left (by omega), List.getElem?_take, if_pos h1]
  · rw [if_neg h1, List.getElem?_append_right (by omega), hlt]
    by_cases h2 : i = p
    · rw [if_pos h2, h2, Nat.sub_self]; rfl
    · rw [if_neg h2, show i - p = (i - p - 1) + 1 by omega, List.getElem?_cons_succ, List.getElem?_drop, show p + (i - p - 1) = i - 1 by omega]
theorem kposH_eqX {l : List HeldD} (hs : SortedH l) {key : Int} {j : Nat} (hj : j < l.length) (e : (hth l j).di = key) : kposH l key = j :=
  cnt_eq _ l j (by omega) (fun t ht => by have := hs t j ht hj; rw [e] at this; exact this) (fun _ => by show ltI (hth l j).di key = false; rw [e]; simp [ltI])
theorem khasH_nilX (d : Int) : khasH [] d = false := by
  cases h : khasH [] d
  · rfl
  · have := (dec_iff.1 h).1; simp at this
/-- Where the first one stands that does not come ahead. -/
structure CutX (l : List HeldD) (d : Int) (at0 : Nat) : Prop where
  le : at0 ≤ l.length
  lo : ∀ t, t < at0 → (hth l t).di < d
  hi : at0 < l.length → ¬ (hth l at0).di < d
theorem CutX.pos {l : List HeldD} {d : Int} {at0 : Nat} (h : CutX l d at0) : kposH l d = at0 :=
  cnt_eq _ l at0 h.le (fun t ht => by have := h.lo t ht; show ltI (hth l t).di d = true; simpa [ltI] using this) (fun g => by have := h.hi g; show ltI (hth l at0).di d = false; simpa [ltI] using this)
theorem khasH_at {l : List HeldD} {d : Int} {at0 : Nat} (h : CutX l d at0) : khasH l d = true ↔ (at0 < l.length ∧ (hth l at0).di = d) := by
  unfold khasH; rw [h.pos, dec_iff]
/-- What was held is held, as it was. -/
def GrowH (l l' : List HeldD) : Prop := ∀ e, khasH l e = true → khasH l' e = true ∧ hth l' (kposH l' e) = hth l (kposH l e)
theorem GrowH.refl (l : List HeldD) : GrowH l l := fun e h => ⟨h, rfl⟩
theorem GrowH.trans {a b c : List HeldD} (h : GrowH a b) (g : GrowH b c) : GrowH a c := fun e k => ⟨(g e (h e k).1).1, (g e (h e k).1).2.trans (h e k).2⟩
theorem SortedH.insX {l : List HeldD} (hs : SortedH l) {x : HeldD} {p : Nat} (hc : CutX l x.di p) (hk : khasH l x.di = false) : SortedH (insAt l p x) := by
  have hp := hc.le
  have hhi : ∀ i, p ≤ i → i < l.length → x.di < (hth l i).di := fun i h1 h2 => by
    have h0 := hc.hi (by omega)
    have hne : ¬ (hth l p).di = x.di := fun e => by
      have := (khasH_at hc).2 ⟨by omega, e⟩; rw [hk] at this; cases this
    rcases Nat.lt_or_ge p i with g | g
    · have := hs p i g h2
      simp only [ltI, decide_eq_true_eq] at this
      omega
    · have e : p = i := by omega
      rw [e] at h0 hne; omega
  intro i j hij hj
  rw [insAt_len hp] at hj
  rw [hth_ins hp, hth_ins hp]
  simp only [ltI, decide_eq_true_eq]
  by_cases h1 : i < p
  · rw [if_pos h1]
    have a1 := hc.lo i h1
    by_cases h2 : j < p
    · rw [if_pos h2]
      have := hs i j hij (by omega)
      simpa [ltI] using this
    · rw [if_neg h2]
      by_cases h3 : j = p
      · rw [if_pos h3]; exact a1
      · rw [if_neg h3]
        have := hhi (j - 1) (by omega) (by omega)
        omega
  · rw [if_neg h1]
    by_cases h2 : i = p
    · rw [if_pos h2, if_neg (by omega), if_neg (by omega)]
      exact hhi (j - 1) (by omega) (by omega)
    · rw [if_neg h2, if_neg (by omega), if_neg (by omega)]
      have := hs (i - 1) (j - 1) (by omega) (by omega)
      simpa [ltI] using this
theorem GrowH.ins {l : List HeldD} (hs : SortedH l) {x : HeldD} {p : Nat} (hc : CutX l x.di p) (hk : khasH l x.di = false) : GrowH l (insAt l p x) := by
  have hp := hc.le
  have hs' := hs.insX hc hk
  intro e he
  obtain ⟨h1, h2⟩ := khasH_lt rfl he
  by_cases h : kposH l e < p
  · have e1 : hth (insAt l p x) (kposH l e) = hth l (kposH l e) := by rw [hth_ins hp, if_pos h]
    have hj : kposH l e < (insAt l p x).length := by rw [insAt_len hp]; omega
    have e2 := kposH_eqX hs' (key := e) hj (by rw [e1]; exact h2)
    exact ⟨(khasH_iff hs').2 ⟨_, hj, by rw [e1]; exact h2⟩, by rw [e2]; exact e1⟩
  · have e1 : hth (insAt l p x) (kposH l e + 1) = hth l (kposH l e) := by rw [hth_ins hp, if_neg (by omega), if_neg (by omega)]; rfl
    have hj : kposH l e + 1 < (insAt l p x).length := by rw [insAt_len hp]; omega
    have e2 := kposH_eqX hs' (key := e) hj (by rw [e1]; exact h2)
    exact ⟨(khasH_iff hs').2 ⟨_, hj, by rw [e1]; exact h2⟩, by rw [e2]; exact e1⟩
theorem MayHs.insX {l : List HeldD} (hm : MayHs l) {x : HeldD} {p : Nat} (hc : CutX l x.di p) (hk : khasH l x.di = false) (h1 : digS x.di = true) (h2 : bmT x.b = true) : MayHs (insAt l p x) := by
  have hp := hc.le
  have hs := hm.sorted.insX hc hk
  intro k hkl
  have hkl' := hkl
  rw [insAt_len hp] at hkl'
  have a : digS (hth (insAt l p x) k).di = true ∧ bmT (hth (insAt l p x) k).b = true := by
    rw [hth_ins hp]
    by_cases g : k < p
    · rw [if_pos g]; exact ⟨(hm k (by omega)).1, (hm k (by omega)).2.1⟩
    · rw [if_neg g]
      by_cases g2 : k = p
      · rw [if_pos g2]; exact ⟨h1, h2⟩
      · rw [if_neg g2]; exact ⟨(hm (k - 1) (by omega)).1, (hm (k - 1) (by omega)).2.1⟩
  exact ⟨a.1, a.2, fun h0 => by have := hs (k - 1) k (by omega) hkl; simpa [ltI] using this⟩
noncomputable def foldX (l : List HeldD) : List Int → List PairD → List AcctD → List PairD × List AcctD
  | [], p, q => (p, q)
  | d :: ds, p, q => foldX l ds (runT (hth l (kposH l d)).b.tx p q).1 (runT (hth l (kposH l d)).b.tx p q).2
theorem foldX_app (l : List HeldD) : ∀ (a b : List Int) (p : List PairD) (q : List AcctD), foldX l (a ++ b) p q = foldX l b (foldX l a p q).1 (foldX l a p q).2
  | [], b, p, q => rfl
  | d :: a, b, p, q => foldX_app l a b (runT (hth l (kposH l d)).b.tx p q).1 (runT (hth l (kposH l d)).b.tx p q).2
theorem foldX_grow {l l' : List HeldD} (hg : GrowH l l') : ∀ (ds : List Int) (p : List PairD) (q : List AcctD), (∀ d ∈ ds, khasH l d = true) → foldX l' ds p q = foldX l ds p q
  | [], p, q, h => rfl
  | d :: ds, p, q, h => by
    unfold foldX
    rw [(hg d (h d List.mem_cons_self)).2]
    exact foldX_grow hg ds _ _ (fun e he => h e (List.mem_cons_of_mem _ he))
theorem stepR_fold (l : List HeldD) : ∀ (ds : List Int) (p : List PairD) (q : List AcctD), (stepR l ds p q).1 = foldX l (ds.take (stepR l ds p q).2) p q ∧ (stepR l ds p q).2 ≤ ds.length ∧ (∀ i, i < (stepR l ds p q).2 → khasH l (nth ds i) = true) ∧ ((stepR l ds p q).2 < ds.length → khasH l (nth ds (stepR l ds p q).2) = false)
  | [], p, q => by refine ⟨rfl, Nat.le_refl _, fun i hi => ?_, fun h => ?_⟩ <;> simp [stepR] at *
  | d :: ds, p, q => by
    by_cases h : khasH l d = true
    · have e : stepR l (d :: ds) p q = ((stepR l ds (runT (hth l (kposH l d)).b.tx p q).1 (runT (hth l (kposH l d)).b.tx p q).2).1, (stepR l ds (runT (hth l (kposH l d)).b.tx p q).1 (runT (hth l (kposH l d)).b.tx p q).2).2 + 1) := by
        conv => lhs; unfold stepR
        rw [if_pos h]
      obtain ⟨a, b, c, f⟩ := stepR_fold l ds (runT (hth l (kposH l d)).b.tx p q).1 (runT (hth l (kposH l d)).b.tx p q).2
      rw [e]
      refine ⟨by rw [List.take_succ_cons]; unfold foldX; exact a, by simp only [List.length_cons]; omega, fun i hi => ?_, fun hl => ?_⟩
      · cases i with
        | zero => exact h
        | succ i => exact c i (by simp only at hi; omega)
      · exact f (by simp only [List.length_cons] at hl; omega)
    · have e : stepR l (d :: ds) p q = ((p, q), 0) := by
        conv => lhs; unfold stepR
        rw [if_neg h]
      rw [e]
      exact ⟨rfl, Nat.zero_le _, fun i hi => absurd hi (by simp), fun _ => by show khasH l d = false; simpa using h⟩
theorem foldX_may (l : List HeldD) : ∀ (ds : List Int) {p : List PairD} {q : List AcctD}, MayT p q → MayT (foldX l ds p q).1 (foldX l ds p q).2
  | [], p, q, h => h
  | d :: ds, p, q, h => by unfold foldX; exact foldX_may l ds (runT_may _ h)
structure FoldI (S0 : List Int) (P0 : List PairD) (Q0 : List AcctD) (c0 : Nat) (hd : List HeldD) (al : List Int) (P : List PairD) (Q : List AcctD) (cn : Nat) : Prop where
  may : MayHs hd
  ex : exB P Q (S0 ++ al) (cn : Int) = true
  lo : c0 ≤ cn
  has : ∀ i, c0 ≤ i → i < cn → khasH hd (nth (S0 ++ al) i) = true
  fold : foldX hd (((S0 ++ al).take cn).drop c0) P0 Q0 = (P, Q)
  stop : cn < (S0 ++ al).length → khasH hd (nth (S0 ++ al) cn) = false
theorem FoldI.start {S0 : List Int} {P0 : List PairD} {Q0 : List AcctD} {c0 : Nat} (h : exB P0 Q0 S0 (c0 : Int) = true) : FoldI S0 P0 Q0 c0 [] [] P0 Q0 c0 := by
  refine ⟨fun k hk => absurd hk (by simp), by rw [List.append_nil]; exact h, Nat.le_refl _, fun i h1 h2 => absurd h1 (by omega), ?_, fun _ => khasH_nilX _⟩
  rw [List.drop_eq_nil_of_le (by rw [List.length_take]; omega)]; rfl
theorem FoldI.cn_le {S0 : List Int} {P0 : List PairD} {Q0 : List AcctD} {c0 : Nat} {hd : List HeldD} {al : List Int} {P : List PairD} {Q : List AcctD} {cn : Nat} (h : FoldI S0 P0 Q0 c0 hd al P Q cn) : cn ≤ (S0 ++ al).length := by
  have := (exB_iff.1 h.ex).2.2.2; omega
theorem nth_app {a b : List Int} {i : Nat} (h : i < a.length) : nth (a ++ b) i = nth a i := by
  unfold nth; simp only [List.getD_eq_getElem?_getD]; rw [List.getElem?_append_left h]
theorem nth_drop (a : List Int) (c i : Nat) : nth (a.drop c) i = nth a (c + i) := by
  unfold nth; simp only [List.getD_eq_getElem?_getD, List.getElem?_drop]
theorem FoldI.push {S0 : List Int} {P0 : List PairD} {Q0 : List AcctD} {c0 : Nat} {hd hd' : List HeldD} {al L : List Int} {P FP : List PairD} {Q FQ : List AcctD} {cn N : Nat} (h : FoldI S0 P0 Q0 c0 hd al P Q cn)
    (hg : GrowH hd hd') (hm : MayHs hd') (hL : WithinI L 1 65536) (hst : stepR hd' (((S0 ++ al) ++ freshL (S0 ++ al) L).drop cn) P Q = ((FP, FQ), N)) :
    exB P Q ((S0 ++ al) ++ freshL (S0 ++ al) L) (cn : Int) = true ∧ FoldI S0 P0 Q0 c0 hd' (al ++ freshL (S0 ++ al) L) FP FQ (cn + N) := by
  have hcl := h.cn_le
  have hx := exB_iff.1 h.ex
  have hs := hx.2.1.push hL
  have hx1 : exB P Q ((S0 ++ al) ++ freshL (S0 ++ al) L) (cn : Int) = true := exB_iff.2 ⟨hx.1, hs, hx.2.2.1, by rw [List.length_append]; omega⟩
  refine ⟨hx1, ?_⟩
  obtain ⟨s, hse⟩ : ∃ s, (S0 ++ al) ++ freshL (S0 ++ al) L = s := ⟨_, rfl⟩
  have e3 : S0 ++ (al ++ freshL (S0 ++ al) L) = s := by rw [← List.append_assoc]; exact hse
  rw [hse] at hst hs
  obtain ⟨a, b, c, f⟩ := stepR_fold hd' (s.drop cn) P Q
  have hmt := (stepR_may hd' (s.drop cn) hx.1).1
  rw [hst] at a b c f hmt
  dsimp only at a b c f hmt
  rw [List.length_drop] at b f
  have hsl : cn ≤ s.length := by rw [← hse, List.length_append]; omega
  have hst2 : s.take cn = (S0 ++ al).take cn := by rw [← hse, List.take_append_of_le_length hcl]
  have hlo := h.lo
  refine ⟨hm, ?_, by omega, ?_, ?_, ?_⟩
  · rw [e3]; exact exB_iff.2 ⟨hmt, hs, by omega, by omega⟩
  · rw [e3]
    intro i h1 h2
    rcases Nat.lt_or_ge i cn with g | g
    · have e : nth s i = nth (S0 ++ al) i := by rw [← hse]; exact nth_app (by omega)
      rw [e]; exact (hg _ (h.has i h1 g)).1
    · have := c (i - cn) (by omega)
      rw [nth_drop, show cn + (i - cn) = i by omega] at this
      exact this
  · rw [e3]
    have e4 : (s.take (cn + N)).drop c0 = ((S0 ++ al).take cn).drop c0 ++ (s.drop cn).take N := by
      rw [List.take_add, List.drop_append_of_le_length (by rw [List.length_take]; omega), hst2]
    have e6 := foldX_grow hg (((S0 ++ al).take cn).drop c0) P0 Q0 (fun d hd0 => ?_)
    · rw [e4, foldX_app, e6, h.fold]; exact a.symm
    · obtain ⟨j, hj, rfl⟩ := List.getElem_of_mem hd0
      rw [List.length_drop, List.length_take] at hj
      have hj2 : j < cn - c0 := by omega
      have e5 : (((S0 ++ al).take cn).drop c0)[j]'(by rw [List.length_drop, List.length_take]; exact hj) = nth (S0 ++ al) (c0 + j) := by
        simp [nth, show c0 + j < S0.length + al.length by rw [List.length_append] at hcl; omega]
      rw [e5]; exact h.has _ (by omega) (by omega)
  · rw [e3]
    intro hl
    have := f (by omega)
    rw [nth_drop] at this
    exact this
theorem foldX_snoc {hd : List HeldD} {s : List Int} {c0 i : Nat} {P0 P : List PairD} {Q0 Q : List AcctD} (h1 : c0 ≤ i) (h2 : i < s.length) (h : foldX hd ((s.take i).drop c0) P0 Q0 = (P, Q)) : foldX hd ((s.take (i + 1)).drop c0) P0 Q0 = runT (hth hd (kposH hd (nth s i))).b.tx P Q := by
  have e : (s.take (i + 1)).drop c0 = (s.take i).drop c0 ++ [nth s i] := by
    rw [List.take_succ_eq_append_getElem h2, List.drop_append_of_le_length (by rw [List.length_take]; omega)]
    simp [nth, h2]
  rw [e, foldX_app, h]; unfold foldX; unfold foldX; rfl
end Go.Proofs.Ytbakkpabiknlmaa
