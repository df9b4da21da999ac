/- Plain: votes put in; floats of rounds and authors. The reference's EqVotes. -/
import Derived.Test.YtgljmljmljccgaaYf
namespace Go.Proofs.Ytgljmljmljccgaa
open Go.RowKit
set_option linter.unusedSimpArgs false
set_option linter.unusedVariables false

theorem wh_fl (n : Int) (h : 0 ≤ n) (h' : n ≤ 1099511627776) : whN (fl n) = n := by
  obtain ⟨k, rfl⟩ := Int.eq_ofNat_of_zero_le h
  obtain ⟨e, he⟩ := decode_fl k (by omega)
  unfold whN
  rw [he]
  unfold Ieee.Datum.toInt Ieee.Datum.integral
  simp only [cut_zero]
  have e1 : (-(e : Int)).toNat = 0 := by omega
  have e2 : (-(-(e : Int))).toNat = e := by omega
  rw [e1, e2]
  simp only [Nat.shiftLeft_zero, Option.getD_some]
  rw [Nat.mul_div_cancel _ (Nat.two_pow_pos e)]
  simp [Ieee.signed]
theorem whB_fl (n lo hi : Int) (h0 : 0 ≤ lo) (h1 : lo ≤ n) (h2 : n ≤ hi) (h3 : hi ≤ 1099511627776) : whB (fl n) lo hi = true := by
  have o1 := order_fl n lo (by omega) h0 (by omega) (by omega)
  have o2 := order_fl n hi (by omega) (by omega) (by omega) (by omega)
  have o3 := order_fl n n (by omega) (by omega) (by omega) (by omega)
  unfold whB okB
  rw [wh_fl n (by omega) (by omega), o1, o2, o3]
  simp only [compare, compareOfLessAndEq, Int.lt_irrefl, if_false, if_true, Bool.and_eq_true, Bool.or_eq_true, beq_iff_eq, Option.some.injEq]
  refine ⟨⟨?_, ?_⟩, trivial⟩
  · rw [if_neg (show ¬ n < lo by omega)]
    by_cases hq : n = lo
    · rw [if_pos hq]; exact .inr rfl
    · rw [if_neg hq]; exact .inl rfl
  · by_cases hq : n < hi
    · rw [if_pos hq]; exact .inl rfl
    · rw [if_neg hq, if_pos (show n = hi by omega)]; exact .inr rfl
theorem pa_fl {v : VoteD} (h : voteS v = true) : paOk (fl v.ro) (fl v.au) = true := by
  have := voteS_iff.1 h
  unfold paOk
  rw [whB_fl v.ro 0 1099511627776 (by omega) (by omega) (by omega) (by omega), whB_fl v.au 1 16 (by omega) (by omega) (by omega) (by omega)]
  rfl
theorem hs_fl {l : List VoteD} {v : VoteD} (hm : mayV l = true) (h : voteS v = true) : hsB l (fl v.ro) (fl v.au) = hasV l v.ro v.au ∧ hsE l (fl v.ro) (fl v.au) = (if hasV l v.ro v.au = 0 then 3 else 0) := by
  have h1 : hsOk l (fl v.ro) (fl v.au) = true := by unfold hsOk; rw [pa_fl h, hm]; rfl
  have := voteS_iff.1 h
  unfold hsB hsE
  rw [if_pos h1, if_pos h1, wh_fl v.ro (by omega) (by omega), wh_fl v.au (by omega) (by omega)]
  exact ⟨rfl, rfl⟩
/-! ### votes, one behind the other -/
def PwV (l : List VoteD) : Prop := List.Pairwise (fun x y => befV x y = true) l
theorem mayV_pw {l : List VoteD} : MayV l ↔ l.length ≤ 65536 ∧ (∀ x ∈ l, voteS x = true) ∧ PwV l := by
  constructor
  · intro h
    refine ⟨h.1, fun x hx => ?_, ?_⟩
    · obtain ⟨i, hi, e⟩ := List.getElem_of_mem hx
      have := (h.2 i hi).1
      rw [show vth l i = x by simp [vth, hi, e]] at this
      exact this
    · unfold PwV
      rw [List.pairwise_iff_getElem]
      intro i j hi hj hij
      have := h.pl.1 i j hij hj
      simpa [vth, hi, hj] using this
  · rintro ⟨h1, h2, h3⟩
    refine ⟨h1, fun j hj => ⟨?_, fun h0 => ?_⟩⟩
    · have := h2 l[j] (List.getElem_mem hj)
      simpa [vth, hj] using this
    · have := List.pairwise_iff_getElem.1 h3 (j - 1) j (by omega) hj (by omega)
      simpa [vth, hj, show j - 1 < l.length by omega] using this
theorem insV_nil (v : VoteD) : insV [] v = [v] := rfl
theorem insV_yes {x v : VoteD} {l : List VoteD} (h : befV x v = true) : insV (x :: l) v = x :: insV l v := by
  unfold insV
  rw [show posV (x :: l) v = posV l v + 1 by rw [posV, if_pos h]]
  simp
theorem insV_no {x v : VoteD} {l : List VoteD} (h : befV x v = false) : insV (x :: l) v = v :: x :: l := by
  unfold insV
  rw [show posV (x :: l) v = 0 by rw [posV, if_neg (by rw [h]; simp)]]
  simp
theorem mem_insV {y v : VoteD} {l : List VoteD} : y ∈ insV l v ↔ y = v ∨ y ∈ l := by
  induction l with
  | nil => simp [insV_nil]
  | cons x l ih =>
    cases h : befV x v
    · rw [insV_no h]; simp
    · rw [insV_yes h, List.mem_cons, ih, List.mem_cons]
      constructor
      · rintro (h | h | h) <;> simp [h]
      · rintro (h | h | h) <;> simp [h]
theorem befV_iff {x y : VoteD} : befV x y = true ↔ (x.ro < y.ro ∨ x.ro = y.ro ∧ x.au < y.au) := befS_iff
theorem ins_pw {v : VoteD} : ∀ {l : List VoteD}, PwV l → (∀ x ∈ l, ¬ (x.ro = v.ro ∧ x.au = v.au)) → PwV (insV l v)
  | [], _, _ => by rw [insV_nil]; exact List.pairwise_singleton _ _
  | x :: l, hp, hn => by
    have hp' := List.pairwise_cons.1 hp
    cases h : befV x v
    · rw [insV_no h]
      have hx := hn x (by simp)
      have hvx : befV v x = true := by
        rw [befV_iff]
        have : ¬ befV x v = true := by rw [h]; simp
        rw [befV_iff] at this
        omega
      refine List.pairwise_cons.2 ⟨fun y hy => ?_, hp⟩
      rcases List.mem_cons.1 hy with rfl | hy
      · exact hvx
      · exact befS_tr hvx (hp'.1 y hy)
    · rw [insV_yes h]
      refine List.pairwise_cons.2 ⟨fun y hy => ?_, ins_pw hp'.2 (fun y hy => hn y (by simp [hy]))⟩
      rcases mem_insV.1 hy with rfl | hy
      · exact h
      · exact hp'.1 y hy
theorem has_none {l : List VoteD} {r a : Int} (hM : MayV l) (h0 : hasV l r a = 0) : ∀ x ∈ l, ¬ (x.ro = r ∧ x.au = a) := fun x hx => by
  obtain ⟨i, hi, e⟩ := List.getElem_of_mem hx
  have ex : vth l i = x := by simp [vth, hi, e]
  rcases hasF_cases r a l with ⟨_, h2⟩ | ⟨j, h1, h2, _, _⟩
  · have := h2 i hi; rw [ex] at this; exact this
  · have := voteS_iff.1 (hM.2 j h1).1
    unfold hasV at h0
    omega
theorem insV_may {l : List VoteD} {v : VoteD} (hM : MayV l) (hv : voteS v = true) (h0 : hasV l v.ro v.au = 0) (hn : l.length < 65536) : MayV (insV l v) := by
  have h := mayV_pw.1 hM
  refine mayV_pw.2 ⟨by rw [insV_len]; omega, fun x hx => ?_, ins_pw h.2.2 (has_none hM h0)⟩
  rcases mem_insV.1 hx with rfl | hx
  · exact hv
  · exact h.2.1 x hx
theorem giE_zero {l : List VoteD} {v : VoteD} (h : giE l v = 0) : mayV l = true ∧ voteS v = true ∧ hasV l v.ro v.au = 0 ∧ l.length < 65536 := by
  unfold giE at h
  split at h
  · rename_i g
    split at h
    · split at h
      · exact ⟨g.1, g.2, by assumption, by assumption⟩
      · cases h
    · split at h <;> cases h
  · cases h
theorem giB_zero {l : List VoteD} {v : VoteD} (h : giE l v = 0) : giB l v = insV l v := by unfold giB; rw [if_pos h]
theorem giE_cases {l : List VoteD} {v : VoteD} (hm : mayV l = true) (hn : l.length < 65536) : (giE l v = 1 ∧ voteS v = false) ∨ (voteS v = true ∧ ((giE l v = 0 ∧ hasV l v.ro v.au = 0) ∨ (giE l v = 4 ∧ ¬ hasV l v.ro v.au = 0 ∧ hasV l v.ro v.au = v.di) ∨ (giE l v = 5 ∧ ¬ hasV l v.ro v.au = 0 ∧ ¬ hasV l v.ro v.au = v.di))) := by
  unfold giE
  cases hv : voteS v
  · left; simp
  · right
    refine ⟨rfl, ?_⟩
    rw [if_pos ⟨hm, rfl⟩]
    by_cases h0 : hasV l v.ro v.au = 0
    · left; rw [if_pos h0, if_pos hn]; exact ⟨rfl, h0⟩
    · right
      rw [if_neg h0]
      by_cases h1 : hasV l v.ro v.au = v.di
      · left; rw [if_pos h1]; exact ⟨rfl, h0, h1⟩
      · right; rw [if_neg h1]; exact ⟨rfl, h0, h1⟩
/-- From behind: each put ahead of those behind it. -/
theorem drop_give {l : List VoteD} (hM : MayV l) {i : Nat} (hi : i < l.length) : giE (l.drop (i + 1)) (vth l i) = 0 ∧ insV (l.drop (i + 1)) (vth l i) = l.drop i ∧ MayV (l.drop (i + 1)) := by
  have h := mayV_pw.1 hM
  have hd : l.drop i = vth l i :: l.drop (i + 1) := by rw [List.drop_eq_getElem_cons hi]; simp [vth, hi]
  have hp : PwV (l.drop i) := h.2.2.sublist (List.drop_sublist _ _)
  rw [hd] at hp
  have hp' := List.pairwise_cons.1 hp
  have hM2 : MayV (l.drop (i + 1)) := mayV_pw.2 ⟨by rw [List.length_drop]; omega, fun x hx => h.2.1 x (List.mem_of_mem_drop hx), hp'.2⟩
  have hv := (hM.2 i hi).1
  have h0 : hasV (l.drop (i + 1)) (vth l i).ro (vth l i).au = 0 := by
    rcases hasF_cases (vth l i).ro (vth l i).au (l.drop (i + 1)) with ⟨h1, _⟩ | ⟨j, h1, _, h3, h4⟩
    · exact h1
    · have := hp'.1 (vth (l.drop (i + 1)) j) (by unfold vth; rw [List.getD_eq_getElem?_getD, List.getElem?_eq_getElem h1]; exact List.getElem_mem h1)
      rw [befV_iff] at this
      omega
  refine ⟨?_, ?_, hM2⟩
  · unfold giE
    rw [if_pos ⟨mayV_iff.2 hM2, hv⟩, if_pos h0, if_pos (by rw [List.length_drop]; have := h.1; omega)]
  · rw [hd]
    cases hl : l.drop (i + 1) with
    | nil => rfl
    | cons y m =>
      rw [hl] at hp'
      refine insV_no ?_
      have := befV_iff.1 (hp'.1 y (by simp))
      rw [Bool.eq_false_iff]
      intro hc
      have := befV_iff.1 hc
      omega
end Go.Proofs.Ytgljmljmljccgaa
