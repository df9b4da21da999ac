/- Plain laws of DAGs: what may be, in lists; what is lacked; a certificate put in; low rounds taken away. -/
import Derived.Test.YtfkbilbgndekkaaFd
namespace Go.Proofs.Ytfkbilbgndekkaa
open Go.RowKit
set_option linter.unusedSimpArgs false
set_option linter.unusedVariables false

def Bef (c d : CertD) : Prop := befS c.h.ro c.h.au d.h.ro d.h.au = true
def ParIn (l : List CertD) (low : Int) (H : HeaderD) : Prop := low + 1 < H.ro → ∀ x ∈ H.pa, ∃ p ∈ l, p.di = x ∧ p.h.ro = H.ro - 1
theorem cth_mem {l : List CertD} {k : Nat} (h : k < l.length) : cth l k ∈ l := by simp [cth, h]
theorem cth_get {l : List CertD} {i : Nat} (h : i < l.length) : cth l i = l[i] := by simp [cth, h]
theorem findS_some {l : List CertD} {x : Int} : 0 ≤ findS l x ↔ ∃ c ∈ l, c.di = x := by
  rcases findS_cases l x with ⟨h1, h2⟩ | ⟨i, h1, h2, h3, _⟩
  · constructor
    · intro h; omega
    · rintro ⟨c, hc, e⟩
      obtain ⟨k, hk, rfl⟩ := mem_cth hc
      exact absurd e (h2 k hk)
  · constructor
    · intro _; exact ⟨_, cth_mem h1, h3⟩
    · intro _; omega
theorem atS_some {l : List CertD} {r a : Int} : 0 ≤ atS l r a ↔ ∃ c ∈ l, c.h.ro = r ∧ c.h.au = a := by
  rcases atS_cases l r a with ⟨h1, h2⟩ | ⟨i, h1, h2, h3, _⟩
  · constructor
    · intro h; omega
    · rintro ⟨c, hc, e⟩
      obtain ⟨k, hk, rfl⟩ := mem_cth hc
      exact absurd e (h2 k hk)
  · constructor
    · intro _; exact ⟨_, cth_mem h1, h3⟩
    · intro _; omega
theorem lack_in {l : List CertD} (hd : Dist l) {ro x : Int} : lackB l ro x = false ↔ ∃ c ∈ l, c.di = x ∧ c.h.ro = ro - 1 := by
  rw [lack_false]
  constructor
  · rintro ⟨j, hj, e, h⟩
    refine ⟨cth l j, cth_mem hj, ?_, h⟩
    rcases findS_cases l x with ⟨h1, _⟩ | ⟨i, h1, h2, h3, _⟩
    · omega
    · obtain rfl : i = j := by omega
      exact h3
  · rintro ⟨c, hc, e, h⟩
    obtain ⟨k, hk, rfl⟩ := mem_cth hc
    exact ⟨k, hk, by rw [← e]; exact hd.find hk, h⟩
theorem lacks_nil {l : List CertD} (hd : Dist l) {low : Int} {H : HeaderD} : lacksS l low H = [] ↔ ParIn l low H := by
  unfold lacksS ParIn
  by_cases h : H.ro - 1 ≤ low
  · rw [if_pos h]; exact ⟨fun _ h2 => by omega, fun _ => rfl⟩
  · rw [if_neg h, List.filter_eq_nil_iff]
    constructor
    · intro g _ x hx
      exact (lack_in hd).1 (by simpa using g x hx)
    · intro g x hx
      have := (lack_in hd).2 (g (by omega) x hx)
      simp [this]
theorem dist_pw {l : List CertD} : Dist l ↔ l.Pairwise (fun a b => a.di ≠ b.di) := by
  rw [List.pairwise_iff_getElem]
  constructor
  · intro h i j hi hj hij
    have := h i j hij hj
    rw [cth_get hi, cth_get hj] at this; exact this
  · intro h i j hij hj
    rw [cth_get (by omega), cth_get hj]
    exact h i j (by omega) hj hij
theorem bef_pw {l : List CertD} : (∀ i j, i < j → j < l.length → befS (cth l i).h.ro (cth l i).h.au (cth l j).h.ro (cth l j).h.au = true) ↔ l.Pairwise Bef := by
  rw [List.pairwise_iff_getElem]
  constructor
  · intro h i j hi hj hij
    have := h i j hij hj
    rw [cth_get hi, cth_get hj] at this; exact this
  · intro h i j hij hj
    rw [cth_get (by omega), cth_get hj]
    exact h i j (by omega) hj hij
theorem dag_iff {D : DagD} : DagOk D ↔ isS D.nodes = true ∧ 0 ≤ D.low ∧ D.low ≤ 1099511627776 ∧ D.certs.length ≤ 65536 ∧ D.certs.Pairwise Bef ∧ D.certs.Pairwise (fun a b => a.di ≠ b.di) ∧ ∀ c ∈ D.certs, certS c D.nodes = true ∧ D.low < c.h.ro ∧ ParIn D.certs D.low c.h := by
  constructor
  · intro h
    have hp := h.places
    have hd := h.dist
    obtain ⟨g1, g2, g3, g4, g5⟩ := (ok_iff D).1 h
    refine ⟨g1, g2, g3, g4, bef_pw.1 hp.1, dist_pw.1 hd, fun c hc => ?_⟩
    obtain ⟨k, hk, rfl⟩ := mem_cth hc
    obtain ⟨q1, q2, q3, q4, q5⟩ := g5 k hk
    exact ⟨q1, q2, (lacks_nil hd).1 q5⟩
  · rintro ⟨g1, g2, g3, g4, g5, g6, g7⟩
    have hd := dist_pw.2 g6
    have hb := bef_pw.2 g5
    refine (ok_iff D).2 ⟨g1, g2, g3, g4, fun k hk => ?_⟩
    obtain ⟨q1, q2, q3⟩ := g7 _ (cth_mem hk)
    exact ⟨q1, q2, fun h0 => hb (k - 1) k (by omega) hk, fun m hm => hd m k hm hk, (lacks_nil hd).2 q3⟩
def lackP (certs : List CertD) (low : Int) (H : HeaderD) : List Int := if H.ro ≤ low + 1 then [] else H.pa.filter (fun x => decide (findS (roundL certs (H.ro - 1)) x < 0))
theorem lackP_eq {l : List CertD} {low : Int} {H : HeaderD} (hd : Dist l) : lackP l low H = lacksS l low H := by
  unfold lackP lacksS
  by_cases h : H.ro ≤ low + 1
  · rw [if_pos h, if_pos (by omega)]
  · rw [if_neg h, if_neg (by omega)]
    congr 1
    funext x
    have e1 : (decide (findS (roundL l (H.ro - 1)) x < 0)) = true ↔ ¬ ∃ c ∈ l, c.di = x ∧ c.h.ro = H.ro - 1 := by
      rw [decide_eq_true_eq]
      constructor
      · rintro g ⟨c, hc, e1, e2⟩
        have := (findS_some (l := roundL l (H.ro - 1)) (x := x)).2 ⟨c, List.mem_filter.2 ⟨hc, by simpa using e2⟩, e1⟩
        omega
      · intro g
        rcases Int.lt_or_le (findS (roundL l (H.ro - 1)) x) 0 with h | h
        · exact h
        · obtain ⟨c, hc, e⟩ := findS_some.1 h
          have hm := List.mem_filter.1 hc
          exact absurd ⟨c, hm.1, e, by simpa using hm.2⟩ g
    have e2 := lack_in hd (ro := H.ro) (x := x)
    rw [Bool.eq_iff_iff, e1]
    constructor
    · intro g
      cases hq : lackB l H.ro x
      · exact absurd (e2.1 hq) g
      · rfl
    · intro g h
      rw [e2.2 h] at g
      cases g

/-! ### a certificate put in -/
def posC : List CertD → Int → Int → Nat
  | [], _, _ => 0
  | x :: l, r, a => if befS x.h.ro x.h.au r a = true then posC l r a + 1 else 0
def insC (l : List CertD) (C : CertD) : List CertD := l.take (posC l C.h.ro C.h.au) ++ [C] ++ l.drop (posC l C.h.ro C.h.au)
theorem posC_le (r a : Int) : ∀ l : List CertD, posC l r a ≤ l.length
  | [] => Nat.le_refl _
  | x :: l => by unfold posC; split; have := posC_le r a l; simp; omega; simp
theorem insC_len (l : List CertD) (C : CertD) : (insC l C).length = l.length + 1 := by
  have := posC_le C.h.ro C.h.au l
  unfold insC; simp; omega
theorem posC_eq (r a : Int) : ∀ (l : List CertD) (lo : Nat), lo ≤ l.length → (∀ t, t < lo → befS (cth l t).h.ro (cth l t).h.au r a = true) → (lo < l.length → befS (cth l lo).h.ro (cth l lo).h.au r a = false) → posC l r a = lo
  | [], lo, h, _, _ => by have h2 : lo = 0 := by simpa using h
                          subst h2; rfl
  | x :: l, 0, _, _, h => by
    have := h (by simp)
    unfold posC
    rw [if_neg (by show ¬ befS x.h.ro x.h.au r a = true; rw [show befS x.h.ro x.h.au r a = false from this]; simp)]
  | x :: l, lo + 1, h, h1, h2 => by
    unfold posC
    rw [if_pos (show befS x.h.ro x.h.au r a = true from h1 0 (by omega)), posC_eq r a l lo (by simpa using h) (fun t ht => h1 (t + 1) (by omega)) (fun ht => h2 (by simpa using ht))]
theorem posC_at (r a : Int) : ∀ (l : List CertD), (∀ t, t < posC l r a → befS (cth l t).h.ro (cth l t).h.au r a = true) ∧ (posC l r a < l.length → befS (cth l (posC l r a)).h.ro (cth l (posC l r a)).h.au r a = false)
  | [] => ⟨fun t h => absurd h (by simp [posC]), fun h => absurd h (by simp)⟩
  | x :: l => by
    have ih := posC_at r a l
    unfold posC
    by_cases h : befS x.h.ro x.h.au r a = true
    · rw [if_pos h]
      refine ⟨fun t ht => ?_, fun ht => ?_⟩
      · cases t with
        | zero => exact h
        | succ t => exact ih.1 t (by omega)
      · exact ih.2 (by simpa using ht)
    · rw [if_neg h]
      exact ⟨fun t ht => absurd ht (by omega), fun _ => by simpa [cth] using h⟩
theorem CutP.pos {l : List CertD} {r a : Int} {n lo : Nat} (hN : l.length = n) (hlo : lo ≤ n) (h : CutP l n r a lo lo) : posC l r a = lo :=
  posC_eq r a l lo (by omega) (fun t ht => h.1 t ht) (fun ht => h.2 lo (Nat.le_refl _) (by omega))
theorem mem_insC {l : List CertD} {C c : CertD} : c ∈ insC l C ↔ c = C ∨ c ∈ l := by
  unfold insC
  constructor
  · intro h
    simp only [List.mem_append, List.mem_singleton] at h
    rcases h with (h | h) | h
    · exact .inr (List.mem_of_mem_take h)
    · exact .inl h
    · exact .inr (List.mem_of_mem_drop h)
  · rintro (rfl | h)
    · simp
    · rw [← List.take_append_drop (posC l C.h.ro C.h.au) l] at h
      simp only [List.mem_append, List.mem_singleton] at h ⊢
      exact h.elim (fun h => .inl (.inl h)) .inr
theorem pw_ins {R : CertD → CertD → Prop} {l : List CertD} {C : CertD} (h : l.Pairwise R) (h1 : ∀ c ∈ l.take (posC l C.h.ro C.h.au), R c C) (h2 : ∀ c ∈ l.drop (posC l C.h.ro C.h.au), R C c) : (insC l C).Pairwise R := by
  unfold insC
  have hs := h
  rw [← List.take_append_drop (posC l C.h.ro C.h.au) l, List.pairwise_append] at hs
  obtain ⟨g1, g2, g3⟩ := hs
  rw [List.append_assoc, List.pairwise_append]
  refine ⟨g1, ?_, fun a ha b hb => ?_⟩
  · rw [List.singleton_append, List.pairwise_cons]
    exact ⟨h2, g2⟩
  · rw [List.singleton_append, List.mem_cons] at hb
    rcases hb with rfl | hb
    · exact h1 a ha
    · exact g3 a ha b hb
theorem dag_ins {D : DagD} {C : CertD} (h : DagOk D) (hc : certS C D.nodes = true) (hlow : D.low < C.h.ro) (hat : atS D.certs C.h.ro C.h.au < 0) (hdi : findS D.certs C.di < 0) (hlk : lacksS D.certs D.low C.h = []) (hlen : D.certs.length < 65536) :
    DagOk ⟨D.nodes, D.low, insC D.certs C⟩ := by
  have hD := h
  obtain ⟨g1, g2, g3, g4, g5, g6, g7⟩ := dag_iff.1 h
  have hpl := bef_pw.2 g5
  have hno : ∀ c ∈ D.certs, ¬ (c.h.ro = C.h.ro ∧ c.h.au = C.h.au) := fun c hc e => by
    have := atS_some.2 ⟨c, hc, e⟩; omega
  have hnd : ∀ c ∈ D.certs, c.di ≠ C.di := fun c hc e => by
    have := findS_some.2 ⟨c, hc, e⟩; omega
  have hp := posC_at C.h.ro C.h.au D.certs
  refine dag_iff.2 ⟨g1, g2, g3, by show (insC D.certs C).length ≤ _; rw [insC_len]; omega, pw_ins g5 (fun c hc => ?_) (fun c hc => ?_), pw_ins g6 (fun c hc => hnd c (List.mem_of_mem_take hc)) (fun c hc => (hnd c (List.mem_of_mem_drop hc)).symm), fun c hc => ?_⟩
  · obtain ⟨k, hk, rfl⟩ := mem_cth hc
    rw [List.length_take] at hk
    rw [cth_take (by omega)]
    exact hp.1 k (by omega)
  · have hm := List.mem_of_mem_drop hc
    obtain ⟨k, hk, rfl⟩ := mem_cth hc
    rw [List.length_drop] at hk
    rw [cth_drop] at hm ⊢
    have hb : befS (cth D.certs (posC D.certs C.h.ro C.h.au + k)).h.ro (cth D.certs (posC D.certs C.h.ro C.h.au + k)).h.au C.h.ro C.h.au = false := by
      have h0 := hp.2 (by omega)
      rcases Nat.eq_zero_or_pos k with hk0 | hk0
      · subst hk0; exact h0
      · exact befS_no (hpl _ _ (by omega) (by omega)) h0
    have hne := hno _ hm
    unfold Bef
    have hb2 : ¬ ((cth D.certs (posC D.certs C.h.ro C.h.au + k)).h.ro < C.h.ro ∨ (cth D.certs (posC D.certs C.h.ro C.h.au + k)).h.ro = C.h.ro ∧ (cth D.certs (posC D.certs C.h.ro C.h.au + k)).h.au < C.h.au) := fun e => by
      rw [befS_iff.2 e] at hb; cases hb
    rw [befS_iff]
    omega
  · rcases mem_insC.1 hc with rfl | hc
    · refine ⟨by assumption, hlow, fun hl x hx => ?_⟩
      obtain ⟨p, hp, e⟩ := (lacks_nil hD.dist).1 hlk hl x hx
      exact ⟨p, mem_insC.2 (.inr hp), e⟩
    · obtain ⟨q1, q2, q3⟩ := g7 c hc
      exact ⟨q1, q2, fun hl x hx => by obtain ⟨p, hp, e⟩ := q3 hl x hx; exact ⟨p, mem_insC.2 (.inr hp), e⟩⟩

/-! ### what comes of putting in -/
noncomputable def putE (D : DagD) (C : CertD) : Int :=
  if C.h.ro ≤ D.low then 6 else if 0 ≤ atS D.certs C.h.ro C.h.au then (if (cth D.certs (atS D.certs C.h.ro C.h.au).toNat).di = C.di then 4 else 5) else if 0 ≤ findS D.certs C.di then 5 else if lacksS D.certs D.low C.h = [] then 0 else 7
noncomputable def addE (D : DagD) (C : CertD) : Int := if mayS D = true ∧ certS C D.nodes = true then putE D C else 1
noncomputable def addD (D : DagD) (C : CertD) : DagD := if addE D C = 0 then ⟨D.nodes, D.low, insC D.certs C⟩ else ⟨0, 0, []⟩
theorem addE_bd (D : DagD) (C : CertD) : 0 ≤ addE D C ∧ addE D C ≤ 7 := by
  unfold addE putE; repeat' split
  all_goals omega
theorem put_ok {D : DagD} {C : CertD} (h : putE D C = 0) : D.low < C.h.ro ∧ atS D.certs C.h.ro C.h.au < 0 ∧ findS D.certs C.di < 0 ∧ lacksS D.certs D.low C.h = [] := by
  unfold putE at h
  split at h
  · omega
  · split at h
    · split at h <;> omega
    · split at h
      · omega
      · split at h
        · exact ⟨by omega, by omega, by omega, by assumption⟩
        · omega
theorem add_ok {D : DagD} {C : CertD} (h : addE D C = 0) (hlen : D.certs.length < 65536) : DagOk (addD D C) := by
  have e := h
  unfold addE at h
  split at h
  · rename_i hm
    obtain ⟨h1, h2, h3, h4⟩ := put_ok h
    unfold addD
    rw [if_pos e]
    exact dag_ins (mayS_iff.1 hm.1) hm.2 h1 h2 h3 h4 hlen
  · omega

/-! ### low rounds taken away -/
def trimL (l : List CertD) (low : Int) : List CertD := l.filter fun c => decide (low < c.h.ro)
theorem trim_cut {l : List CertD} {low : Int} {lo : Nat} (hA : Auths l) (h : CutP l l.length low 17 lo lo) (hlo : lo ≤ l.length) : trimL l low = l.drop lo := by
  have f1 : (l.take lo).filter (fun c => decide (low < c.h.ro)) = [] := filter_none (by
    intro k hk
    simp only [List.length_take] at hk
    rw [cth_take (by omega)]
    have a1 := befS_iff.1 (h.1 k (by omega))
    have a3 := hA k (by omega)
    simp; omega)
  have f2 : (l.drop lo).filter (fun c => decide (low < c.h.ro)) = l.drop lo := filter_all (by
    intro k hk
    simp only [List.length_drop] at hk
    rw [cth_drop]
    have a1 := h.2 (lo + k) (by omega) (by omega)
    have a3 := hA (lo + k) (by omega)
    have a4 : ¬ ((cth l (lo + k)).h.ro < low ∨ (cth l (lo + k)).h.ro = low ∧ (cth l (lo + k)).h.au < 17) := fun g => by rw [befS_iff.2 g] at a1; cases a1
    simp; omega)
  unfold trimL
  conv => lhs; rw [← List.take_append_drop lo l]
  rw [List.filter_append, f1, f2, List.nil_append]
theorem dag_trim {D : DagD} {low : Int} (h : DagOk D) (h1 : D.low ≤ low) (h2 : low ≤ 1099511627776) : DagOk ⟨D.nodes, low, trimL D.certs low⟩ := by
  obtain ⟨g1, g2, g3, g4, g5, g6, g7⟩ := dag_iff.1 h
  refine dag_iff.2 ⟨g1, by show 0 ≤ low; omega, h2, Nat.le_trans (List.length_filter_le _ _) g4, g5.filter _, g6.filter _, fun c hc => ?_⟩
  have hm := List.mem_filter.1 hc
  have hr : low < c.h.ro := by simpa using hm.2
  obtain ⟨q1, q2, q3⟩ := g7 c hm.1
  refine ⟨q1, hr, fun hl x hx => ?_⟩
  obtain ⟨p, hp, e1, e2⟩ := q3 (by have : low + 1 < c.h.ro := hl; omega) x hx
  exact ⟨p, List.mem_filter.2 ⟨hp, by have : low + 1 < c.h.ro := hl; simp; omega⟩, e1, e2⟩
end Go.Proofs.Ytfkbilbgndekkaa
