/- Fetch: rows put in, in order: plain law. -/
import Derived.Test.YtnngeaibdnnpoaaSkHp
namespace Go.Proofs.Ytnngeaibdnnpoaa
open Go.RowKit
set_option linter.unusedSimpArgs false
set_option linter.unusedVariables false

theorem qth_at (l : List FRowD) (i : Nat) (h : i < l.length) : qth l i = l[i] := by simp [qth, h]
theorem sortQ_pw {l : List FRowD} : SortQ l ↔ l.Pairwise (fun a b => befQ a b = true) := by
  rw [List.pairwise_iff_getElem]
  constructor
  · intro h i j hi hj hij
    have := h i j hij hj
    rwa [qth_at _ _ hi, qth_at _ _ hj] at this
  · intro h i j hij hj
    rw [qth_at _ _ (by omega), qth_at _ _ hj]
    exact h i j (by omega) hj hij
def insQ (r : FRowD) (l : List FRowD) : List FRowD := l.take (posQ r.ki r.di l) ++ r :: l.drop (posQ r.ki r.di l)
theorem insQ_len (r : FRowD) (l : List FRowD) : (insQ r l).length = l.length + 1 := by
  have := (posQ_spec r.ki r.di l).1
  simp [insQ]; omega
theorem insQ_perm (r : FRowD) (l : List FRowD) : (insQ r l).Perm (r :: l) := by
  unfold insQ
  refine List.perm_middle.trans ?_
  rw [List.take_append_drop]
theorem insQ_mem {r x : FRowD} {l : List FRowD} : x ∈ insQ r l ↔ x = r ∨ x ∈ l := by rw [(insQ_perm r l).mem_iff, List.mem_cons]
theorem befS_ne {a b c d : Int} (h : befS a b c d = true) : ¬ (a = c ∧ b = d) := by rw [befS_iff] at h; omega
theorem befS_or {a b c d : Int} (h : befS a b c d = false) (hn : ¬ (a = c ∧ b = d)) : befS c d a b = true := by
  rw [befS_iff]
  have : ¬ (a < c ∨ a = c ∧ b < d) := fun g => by rw [befS_iff.2 g] at h; cases h
  omega
theorem no_here {k d : Int} {l : List FRowD} (hs : SortQ l) (h : hereQ k d l = false) : ∀ x ∈ l, ¬ (x.ki = k ∧ x.di = d) := by
  intro x hx he
  obtain ⟨i, hi, rfl⟩ := List.getElem_of_mem hx
  rw [← qth_at l i hi] at he
  obtain ⟨s1, s2, s3⟩ := posQ_spec k d l
  rcases Nat.lt_trichotomy i (posQ k d l) with h1 | h1 | h1
  · exact befS_ne (s2 i h1) he
  · have : hereQ k d l = true := dec_iff.2 ⟨by omega, by rw [← h1]; exact he⟩
    rw [h] at this; cases this
  · have h2 := hs _ i h1 hi
    unfold befQ at h2
    rw [he.1, he.2, s3 (by omega)] at h2; cases h2
theorem insQ_sort {r : FRowD} {l : List FRowD} (hs : SortQ l) (hn : ∀ x ∈ l, ¬ (x.ki = r.ki ∧ x.di = r.di)) : SortQ (insQ r l) := by
  have hp := sortQ_pw.1 hs
  obtain ⟨s1, s2, s3⟩ := posQ_spec r.ki r.di l
  have a1 : ∀ x ∈ l.take (posQ r.ki r.di l), befQ x r = true := fun x hx => by
    obtain ⟨i, hi, rfl⟩ := List.getElem_of_mem hx
    rw [List.length_take] at hi
    rw [List.getElem_take, ← qth_at l i (by omega)]
    exact s2 i (by omega)
  have a2 : ∀ x ∈ l.drop (posQ r.ki r.di l), befQ r x = true := fun x hx => by
    have hxl := List.mem_of_mem_drop hx
    obtain ⟨i, hi, rfl⟩ := List.getElem_of_mem hx
    rw [List.length_drop] at hi
    rw [List.getElem_drop] at hxl ⊢
    have hne := hn _ hxl
    rw [← qth_at l _ (by omega)] at hne ⊢
    refine befS_or ?_ hne
    rcases Nat.eq_zero_or_pos i with h0 | h0
    · subst h0; exact s3 (by omega)
    · exact befS_no (hs _ (posQ r.ki r.di l + i) (by omega) (by omega)) (s3 (by omega))
  rw [sortQ_pw]
  unfold insQ
  rw [List.pairwise_append, List.pairwise_cons]
  have h3 := hp
  rw [← List.take_append_drop (posQ r.ki r.di l) l, List.pairwise_append] at h3
  refine ⟨h3.1, ⟨a2, h3.2.1⟩, fun x hx y hy => ?_⟩
  rcases List.mem_cons.1 hy with rfl | hy
  · exact a1 x hx
  · exact h3.2.2 x hx y hy
/-- One that is wanted: the rows, those that are new. -/
noncomputable def stepQ (k : Int) (S : List FRowD × List FRowD) (d : Int) : List FRowD × List FRowD := if hereQ k d S.1 = true ∨ 64 ≤ S.1.length then S else (insQ ⟨k, d, 0, 0⟩ S.1, insQ ⟨k, d, 0, 0⟩ S.2)
noncomputable def wantQ (k : Int) (rows : List FRowD) (L : List Int) : List FRowD × List FRowD := L.foldl (stepQ k) (rows, [])
theorem wantQ_snoc (k : Int) (rows : List FRowD) (L : List Int) (j : Nat) (h : j < L.length) : wantQ k rows (L.take (j + 1)) = stepQ k (wantQ k rows (L.take j)) (nth L j) := by
  unfold wantQ
  rw [take_nth L j h, List.foldl_append]; rfl
structure WantI (k : Int) (S : List FRowD × List FRowD) : Prop where
  s1 : SortQ S.1
  s2 : SortQ S.2
  l1 : S.1.length ≤ 64
  l2 : S.2.length ≤ S.1.length
  sub : ∀ x ∈ S.2, x ∈ S.1
  tr : ∀ x ∈ S.1, numB x.tr 0 = true
theorem WantI.step {k : Int} {S : List FRowD × List FRowD} (h : WantI k S) (d : Int) : WantI k (stepQ k S d) := by
  unfold stepQ
  split
  · exact h
  · rename_i hc
    have h1 : hereQ k d S.1 = false := by cases e : hereQ k d S.1; rfl; exact absurd (.inl e) hc
    have h2 : S.1.length < 64 := by
      rcases Nat.lt_or_ge S.1.length 64 with g | g
      · exact g
      · exact absurd (.inr g) hc
    have h3 := no_here h.s1 h1
    refine ⟨insQ_sort h.s1 h3, insQ_sort h.s2 (fun x hx => h3 x (h.sub x hx)), by rw [insQ_len]; omega, by rw [insQ_len, insQ_len]; have := h.l2; omega, fun x hx => ?_, fun x hx => ?_⟩
    · rw [insQ_mem] at hx ⊢
      exact hx.elim .inl (fun g => .inr (h.sub x g))
    · rw [insQ_mem] at hx
      rcases hx with rfl | hx
      · exact numB_iff.2 ⟨by show (0 : Int) ≤ 0; omega, by show (0 : Int) ≤ 1099511627776; omega⟩
      · exact h.tr x hx
theorem WantI.fold {k : Int} : ∀ (L : List Int) {S : List FRowD × List FRowD}, WantI k S → WantI k (L.foldl (stepQ k) S)
  | [], _, h => h
  | d :: L, _, h => WantI.fold L (h.step d)
theorem WantI.want {k : Int} {rows : List FRowD} (hs : SortQ rows) (hl : rows.length ≤ 64) (ht : ∀ x ∈ rows, numB x.tr 0 = true) (L : List Int) : WantI k (wantQ k rows L) := WantI.fold L ⟨hs, fun i j _ h => absurd h (by simp), hl, Nat.zero_le _, fun x h => absurd h (by simp), ht⟩
/-- In order, a permutation of rows that are in order: the same. -/
theorem sort_same {l l' : List FRowD} (hp : l'.Perm l) (hs : SortQ l) (hn : ∀ i j, i < j → j < l'.length → befQ (qth l' j) (qth l' i) = false) : l' = l := by
  have hpw := sortQ_pw.1 hs
  have hnd : l'.Pairwise (fun a b => ¬ (a.ki = b.ki ∧ a.di = b.di)) := hp.symm.pairwise (hpw.imp (fun h => befS_ne h)) (fun h g => h ⟨g.1.symm, g.2.symm⟩)
  have hs' : l'.Pairwise (fun a b => befQ a b = true) := by
    rw [List.pairwise_iff_getElem] at hnd ⊢
    intro i j hi hj hij
    have h1 := hn i j hij hj
    rw [qth_at _ _ hi, qth_at _ _ hj] at h1
    exact befS_or h1 (fun g => hnd i j hi hj hij ⟨g.1.symm, g.2.symm⟩)
  refine hp.eq_of_pairwise (fun a b _ _ h1 h2 => ?_) hs' hpw
  exfalso
  unfold befQ at h1 h2
  rw [befS_iff] at h1 h2
  omega
end Go.Proofs.Ytnngeaibdnnpoaa
