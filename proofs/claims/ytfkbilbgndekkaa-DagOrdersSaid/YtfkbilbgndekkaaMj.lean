/- Joined: Mg Mh Mi. -/
import Derived.Test.YtfkbilbgndekkaaKp
import Derived.Test.YtfkbilbgndekkaaMe
import Derived.Test.YtfkbilbgndekkaaKr
import Derived.Test.YtfkbilbgndekkaaKh
import Derived.Deep.RegionHeld3
namespace Go.Proofs.Ytfkbilbgndekkaa
open Go.RowKit
set_option linter.unusedSimpArgs false
set_option linter.unusedVariables false

theorem pw_same {α : Type} {R : α → α → Prop} (hir : ∀ a, ¬ R a a) (has : ∀ a b, R a b → R b a → False) : ∀ {l m : List α}, l.Pairwise R → m.Pairwise R → (∀ x, x ∈ l ↔ x ∈ m) → l = m
  | [], [], _, _, _ => rfl
  | [], b :: m, _, _, h => by have := (h b).2 (by simp); cases this
  | a :: l, [], _, _, h => by have := (h a).1 (by simp); cases this
  | a :: l, b :: m, h1, h2, h => by
    rw [List.pairwise_cons] at h1 h2
    have e : a = b := by
      rcases List.mem_cons.1 ((h a).1 (by simp)) with e | e
      · exact e
      · rcases List.mem_cons.1 ((h b).2 (by simp)) with e2 | e2
        · exact e2.symm
        · exact (has a b (h1.1 b e2) (h2.1 a e)).elim
    subst e
    rw [pw_same hir has h1.2 h2.2 (fun x => ?_)]
    constructor
    · intro hx
      rcases List.mem_cons.1 ((h x).1 (List.mem_cons_of_mem _ hx)) with e | e
      · subst e; exact (hir _ (h1.1 _ hx)).elim
      · exact e
    · intro hx
      rcases List.mem_cons.1 ((h x).2 (List.mem_cons_of_mem _ hx)) with e | e
      · subst e; exact (hir _ (h2.1 _ hx)).elim
      · exact e
theorem bef_irr (a : CertD) : ¬ Bef a a := fun h => by have := befS_iff.1 h; omega
theorem bef_asy (a b : CertD) (h : Bef a b) (k : Bef b a) : False := by have h1 := befS_iff.1 h; have h2 := befS_iff.1 k; omega
theorem pw_two {α : Type} {R : α → α → Prop} : ∀ {l : List α}, l.Pairwise R → ∀ {a b : α}, a ∈ l → b ∈ l → a = b ∨ R a b ∨ R b a
  | [], _, a, b, h, _ => by cases h
  | x :: l, hp, a, b, ha, hb => by
    rw [List.pairwise_cons] at hp
    rcases List.mem_cons.1 ha with e | e <;> rcases List.mem_cons.1 hb with e2 | e2
    · exact .inl (e.trans e2.symm)
    · subst e; exact .inr (.inl (hp.1 b e2))
    · subst e2; exact .inr (.inr (hp.1 a e))
    · exact pw_two hp.2 e e2

/-- The certificates of D whose digests P picks. -/
def subD (D : DagD) (P : Int → Bool) : DagD := ⟨D.nodes, 0, D.certs.filter fun c => P c.di⟩
def addP (P : Int → Bool) (x : Int) : Int → Bool := fun y => P y || (y == x)
def Closed (D : DagD) (P : Int → Bool) : Prop := ∀ c ∈ D.certs, P c.di = true → ParIn (subD D P).certs 0 c.h
theorem mem_sub {D : DagD} {P : Int → Bool} {c : CertD} : c ∈ (subD D P).certs ↔ c ∈ D.certs ∧ P c.di = true := List.mem_filter
theorem sub_ok {D : DagD} {P : Int → Bool} (h : DagOk D) (hc : Closed D P) : DagOk (subD D P) := by
  obtain ⟨g1, g2, g3, g4, g5, g6, g7⟩ := dag_iff.1 h
  refine dag_iff.2 ⟨g1, Int.le_refl _, by show (0 : Int) ≤ _; omega, Nat.le_trans (List.length_filter_le _ _) g4, g5.filter _, g6.filter _, fun c hm => ?_⟩
  obtain ⟨m1, m2⟩ := mem_sub.1 hm
  obtain ⟨q1, q2, q3⟩ := g7 c m1
  exact ⟨q1, by show (0 : Int) < _; omega, hc c m1 m2⟩
theorem di_same {D : DagD} (h : DagOk D) {a b : CertD} (ha : a ∈ D.certs) (hb : b ∈ D.certs) (e : a.di = b.di) : a = b := by
  obtain ⟨g1, g2, g3, g4, g5, g6, g7⟩ := dag_iff.1 h
  rcases pw_two g6 ha hb with h | h | h
  · exact h
  · exact absurd e h
  · exact absurd e.symm h
theorem place_same {D : DagD} (h : DagOk D) {a b : CertD} (ha : a ∈ D.certs) (hb : b ∈ D.certs) (e : a.h.ro = b.h.ro) (e2 : a.h.au = b.h.au) : a = b := by
  obtain ⟨g1, g2, g3, g4, g5, g6, g7⟩ := dag_iff.1 h
  rcases pw_two g5 ha hb with h | h | h
  · exact h
  · have := befS_iff.1 h; omega
  · have := befS_iff.1 h; omega
/-- What comes of putting in a certificate of D that is not there. -/
theorem sub_put {D : DagD} {P : Int → Bool} {C : CertD} (h : DagOk D) (hc : Closed D P) (hC : C ∈ D.certs) (hP : P C.di = false) :
    (ParIn (subD D P).certs 0 C.h ∧ addE (subD D P) C = 0 ∧ addD (subD D P) C = subD D (addP P C.di) ∧ Closed D (addP P C.di)) ∨ (¬ ParIn (subD D P).certs 0 C.h ∧ addE (subD D P) C = 7) := by
  have hok := sub_ok h hc
  have hm : mayS (subD D P) = true := mayS_iff.2 hok
  obtain ⟨g1, g2, g3, g4, g5, g6, g7⟩ := dag_iff.1 h
  obtain ⟨q1, q2, q3⟩ := g7 C hC
  have hat : ¬ 0 ≤ atS (subD D P).certs C.h.ro C.h.au := fun e => by
    obtain ⟨c, c1, c2, c3⟩ := atS_some.1 e
    obtain ⟨m1, m2⟩ := mem_sub.1 c1
    obtain rfl := place_same h m1 hC c2 c3
    rw [hP] at m2; cases m2
  have hfi : ¬ 0 ≤ findS (subD D P).certs C.di := fun e => by
    obtain ⟨c, c1, c2⟩ := findS_some.1 e
    obtain ⟨m1, m2⟩ := mem_sub.1 c1
    rw [c2, hP] at m2; cases m2
  have hlow : ¬ C.h.ro ≤ (subD D P).low := by show ¬ C.h.ro ≤ 0; omega
  have hl := lacks_nil hok.dist (low := 0) (H := C.h)
  have ha : addE (subD D P) C = if lacksS (subD D P).certs 0 C.h = [] then 0 else 7 := by
    unfold addE putE
    rw [if_pos ⟨hm, q1⟩, if_neg hlow, if_neg hat, if_neg hfi]
    rfl
  by_cases hp : ParIn (subD D P).certs 0 C.h
  · left
    rw [if_pos (hl.2 hp)] at ha
    have hcl : Closed D (addP P C.di) := fun c c1 c2 hro x hx => by
      have hpar : ∃ p ∈ (subD D P).certs, p.di = x ∧ p.h.ro = c.h.ro - 1 := by
        cases e : P c.di
        · have e2 : c.di = C.di := by unfold addP at c2; rw [e] at c2; simpa using c2
          obtain rfl := di_same h c1 hC e2
          exact hp hro x hx
        · exact hc c c1 e hro x hx
      obtain ⟨p, p1, p2⟩ := hpar
      obtain ⟨m1, m2⟩ := mem_sub.1 p1
      exact ⟨p, mem_sub.2 ⟨m1, by unfold addP; rw [m2]; rfl⟩, p2⟩
    refine ⟨hp, ha, ?_, hcl⟩
    unfold addD
    rw [if_pos ha]
    show DagD.mk D.nodes 0 (insC (subD D P).certs C) = subD D (addP P C.di)
    have hlen : (subD D P).certs.length < 65536 := by
      rcases Nat.lt_or_ge (subD D P).certs.length 65536 with h6 | h6
      · exact h6
      · have e1 : (subD D P).certs.length = D.certs.length := by have := List.length_filter_le (fun c : CertD => P c.di) D.certs; have e2 : (subD D P).certs.length ≤ D.certs.length := this; omega
        have e3 := List.length_filter_eq_length_iff.1 e1 C hC
        rw [hP] at e3; cases e3
    have hi := dag_ins hok q1 (by show (0 : Int) < _; omega) (by omega) (by omega) (hl.2 hp) hlen
    have e : insC (subD D P).certs C = (subD D (addP P C.di)).certs := by
      refine pw_same bef_irr bef_asy (dag_iff.1 hi).2.2.2.2.1 (g5.filter _) (fun x => ?_)
      rw [mem_insC, mem_sub]
      show _ ↔ x ∈ (subD D (addP P C.di)).certs
      rw [mem_sub]
      unfold addP
      constructor
      · rintro (rfl | ⟨h1, h2⟩)
        · exact ⟨hC, by simp⟩
        · exact ⟨h1, by rw [h2]; rfl⟩
      · rintro ⟨h1, h2⟩
        cases e : P x.di
        · rw [e] at h2
          exact .inl (di_same h h1 hC (by simpa using h2))
        · exact .inr ⟨h1, rfl⟩
    rw [e]; rfl
  · right
    rw [if_neg (fun e => hp (hl.1 e))] at ha
    exact ⟨hp, ha⟩

/-! ### the order of a pass -/
def atP (k : Bool) (m i : Nat) : Nat := if k then (if m % 7 = 0 then i else (i * 7 + 3) % m) else m - 1 - i
theorem at7_inj : ∀ m, m < 31 → m % 7 ≠ 0 → ∀ i, i < m → ∀ j, j < m → (i * 7 + 3) % m = (j * 7 + 3) % m → i = j := by decide +kernel
theorem at7_sur : ∀ m, m < 31 → m % 7 ≠ 0 → ∀ t, t < m → ∃ i, i < m ∧ (i * 7 + 3) % m = t := by decide +kernel
theorem atP_lt {k : Bool} {m i : Nat} (h : i < m) : atP k m i < m := by
  unfold atP; split
  · split
    · exact h
    · exact Nat.mod_lt _ (by omega)
  · omega
theorem atP_inj {k : Bool} {m i j : Nat} (hm : m ≤ 30) (hi : i < m) (hj : j < m) (e : atP k m i = atP k m j) : i = j := by
  unfold atP at e; split at e
  · split at e
    · exact e
    · exact at7_inj m (by omega) (by assumption) i hi j hj e
  · omega
theorem atP_sur {k : Bool} {m t : Nat} (hm : m ≤ 30) (ht : t < m) : ∃ i, i < m ∧ atP k m i = t := by
  unfold atP; split
  · split
    · exact ⟨t, ht, rfl⟩
    · exact at7_sur m (by omega) (by assumption) t ht
  · exact ⟨m - 1 - t, by omega, by omega⟩

/-! ### what holds between the passes, and in a pass -/
structure PassJ (D : DagD) (P : Int → Bool) (L : List CertD) : Prop where
  ok : DagOk D
  cl : Closed D P
  sub : ∀ c ∈ L, c ∈ D.certs ∧ P c.di = false
  pw : L.Pairwise (fun a b => a.di ≠ b.di)
  all : ∀ c ∈ D.certs, P c.di = true ∨ c ∈ L
  len : L.length ≤ 30
structure StepJ (D : DagD) (P0 : Int → Bool) (L : List CertD) (k : Bool) (i : Nat) (P : Int → Bool) (A : List CertD) : Prop where
  p : PassJ D P0 L
  cl : Closed D P
  mono : ∀ x, P0 x = true → P x = true
  new : ∀ t, t < L.length → (∀ j, j < i → atP k L.length j ≠ t) → P (cth L t).di = false
  old : ∀ j, j < i → P (cth L (atP k L.length j)).di = true ∨ cth L (atP k L.length j) ∈ A
  ain : ∀ a ∈ A, P a.di = false ∧ ∃ j, j < i ∧ a = cth L (atP k L.length j)
  apw : A.Pairwise (fun a b => a.di ≠ b.di)
  alen : A.length < i ∨ (A.length = i ∧ P = P0 ∧ ∀ j, j < i → ¬ ParIn (subD D P0).certs 0 (cth L (atP k L.length j)).h)
theorem StepJ.start {D : DagD} {P : Int → Bool} {L : List CertD} {k : Bool} (h : PassJ D P L) : StepJ D P L k 0 P [] where
  p := h
  cl := h.cl
  mono := fun _ e => e
  new := fun t ht _ => (h.sub _ (cth_mem ht)).2
  old := fun j hj => absurd hj (by omega)
  ain := fun a ha => by cases ha
  apw := List.Pairwise.nil
  alen := .inr ⟨rfl, rfl, fun j hj => absurd hj (by omega)⟩
theorem PassJ.di {D : DagD} {P : Int → Bool} {L : List CertD} (h : PassJ D P L) {s t : Nat} (hs : s < L.length) (ht : t < L.length) (e : (cth L s).di = (cth L t).di) : s = t := by
  have hd := dist_pw.2 h.pw
  rcases Nat.lt_trichotomy s t with g | g | g
  · exact absurd e (hd s t g ht)
  · exact g
  · exact absurd e.symm (hd t s g hs)
theorem StepJ.fresh {D : DagD} {P0 P : Int → Bool} {L A : List CertD} {k : Bool} {i : Nat} (h : StepJ D P0 L k i P A) (hi : i < L.length) : P (cth L (atP k L.length i)).di = false :=
  h.new _ (atP_lt hi) (fun j hj e => by have := atP_inj (by have := h.p.len; omega) (by omega) hi e; omega)
theorem StepJ.put {D : DagD} {P0 P : Int → Bool} {L A : List CertD} {k : Bool} {i : Nat} (h : StepJ D P0 L k i P A) (hi : i < L.length) (hp : ParIn (subD D P).certs 0 (cth L (atP k L.length i)).h) (hcl : Closed D (addP P (cth L (atP k L.length i)).di)) :
    StepJ D P0 L k (i + 1) (addP P (cth L (atP k L.length i)).di) A := by
  have hti := atP_lt (k := k) hi
  have hlen := h.p.len
  refine ⟨h.p, hcl, fun x e => by unfold addP; rw [h.mono x e]; rfl, fun t ht g => ?_, fun j hj => ?_, fun a ha => ?_, h.apw, ?_⟩
  · unfold addP
    rw [h.new t ht (fun j hj => g j (by omega))]
    cases e : ((cth L t).di == (cth L (atP k L.length i)).di)
    · rfl
    · exact absurd (h.p.di ht hti (by simpa using e)).symm (g i (by omega))
  · rcases Nat.lt_or_ge j i with g | g
    · rcases h.old j g with e | e
      · exact .inl (by unfold addP; rw [e]; rfl)
      · exact .inr e
    · obtain rfl : j = i := by omega
      exact .inl (by unfold addP; simp)
  · obtain ⟨e, j, hj, ea⟩ := h.ain a ha
    refine ⟨?_, j, by omega, ea⟩
    unfold addP
    rw [e]
    cases e2 : (a.di == (cth L (atP k L.length i)).di)
    · rfl
    · have e3 := h.p.di (s := atP k L.length j) (atP_lt (by omega)) hti (by rw [← ea]; simpa using e2)
      have := atP_inj (by omega) (by omega) (by omega) e3
      omega
  · rcases h.alen with g | ⟨g, g2, g3⟩
    · exact .inl (by omega)
    · exact .inl (by omega)
theorem StepJ.lack {D : DagD} {P0 P : Int → Bool} {L A : List CertD} {k : Bool} {i : Nat} (h : StepJ D P0 L k i P A) (hi : i < L.length) (hp : ¬ ParIn (subD D P).certs 0 (cth L (atP k L.length i)).h) :
    StepJ D P0 L k (i + 1) P (A ++ [cth L (atP k L.length i)]) := by
  have hti := atP_lt (k := k) hi
  have hlen := h.p.len
  have hnew : P (cth L (atP k L.length i)).di = false := h.new _ hti (fun j hj e => by have := atP_inj (by omega) (by omega) hi e; omega)
  refine ⟨h.p, h.cl, h.mono, fun t ht g => h.new t ht (fun j hj => g j (by omega)), fun j hj => ?_, fun a ha => ?_, ?_, ?_⟩
  · rcases Nat.lt_or_ge j i with g | g
    · rcases h.old j g with e | e
      · exact .inl e
      · exact .inr (List.mem_append_left _ e)
    · obtain rfl : j = i := by omega
      exact .inr (by simp)
  · rcases List.mem_append.1 ha with g | g
    · obtain ⟨e, j, hj, ea⟩ := h.ain a g
      exact ⟨e, j, by omega, ea⟩
    · have e : a = cth L (atP k L.length i) := by simpa using g
      exact ⟨by rw [e]; exact hnew, i, by omega, e⟩
  · rw [List.pairwise_append]
    refine ⟨h.apw, by simp, fun a ha b hb => ?_⟩
    have e : b = cth L (atP k L.length i) := by simpa using hb
    obtain ⟨_, j, hj, ea⟩ := h.ain a ha
    rw [e, ea]
    intro e2
    have := atP_inj (by omega) (by omega) hi (h.p.di (atP_lt (k := k) (by omega)) hti e2)
    omega
  · rw [List.length_append, List.length_singleton]
    rcases h.alen with g | ⟨g, g2, g3⟩
    · exact .inl (by omega)
    · refine .inr ⟨by omega, g2, fun j hj => ?_⟩
      rcases Nat.lt_or_ge j i with q | q
      · exact g3 j q
      · obtain rfl : j = i := by omega
        rw [← g2]; exact hp
theorem low_ex : ∀ {L : List CertD}, 0 < L.length → ∃ c ∈ L, ∀ d ∈ L, c.h.ro ≤ d.h.ro
  | [], h => by simp at h
  | [a], _ => ⟨a, by simp, fun d hd => by have : d = a := by simpa using hd
                                          subst this; exact Int.le_refl _⟩
  | a :: b :: L, _ => by
    obtain ⟨c, hc, h⟩ := low_ex (L := b :: L) (by simp)
    by_cases g : a.h.ro ≤ c.h.ro
    · refine ⟨a, by simp, fun d hd => ?_⟩
      rcases List.mem_cons.1 hd with e | e
      · subst e; exact Int.le_refl _
      · exact Int.le_trans g (h d e)
    · refine ⟨c, List.mem_cons_of_mem _ hc, fun d hd => ?_⟩
      rcases List.mem_cons.1 hd with e | e
      · subst e; omega
      · exact h d e
theorem StepJ.done {D : DagD} {P0 P : Int → Bool} {L A : List CertD} {k : Bool} (h : StepJ D P0 L k L.length P A) (hL : 0 < L.length) (hlow : D.low = 0) : A.length < L.length ∧ PassJ D P A := by
  have hlen := h.p.len
  have hlt : A.length < L.length := by
    rcases h.alen with g | ⟨_, g2, g3⟩
    · exact g
    · exfalso
      obtain ⟨c, hc, hmin⟩ := low_ex hL
      obtain ⟨t, ht, e⟩ := mem_cth hc
      obtain ⟨j, hj, e2⟩ := atP_sur (k := k) (by omega) ht
      refine g3 j hj ?_
      rw [e2, e]
      intro hr x hx
      obtain ⟨_, _, q3⟩ := (dag_iff.1 h.p.ok).2.2.2.2.2.2 c (h.p.sub c hc).1
      obtain ⟨p, p1, p2, p3⟩ := q3 (by omega) x hx
      rcases h.p.all p p1 with g | g
      · exact ⟨p, mem_sub.2 ⟨p1, g⟩, p2, p3⟩
      · have := hmin p g; omega
  refine ⟨hlt, h.p.ok, h.cl, fun c hc => ?_, h.apw, fun c hc => ?_, by omega⟩
  · obtain ⟨e, j, hj, ea⟩ := h.ain c hc
    exact ⟨by rw [ea]; exact (h.p.sub _ (cth_mem (atP_lt hj))).1, e⟩
  · rcases h.p.all c hc with g | g
    · exact .inl (h.mono _ g)
    · obtain ⟨t, ht, e⟩ := mem_cth g
      obtain ⟨j, hj, e2⟩ := atP_sur (k := k) (by omega) ht
      have := h.old j hj
      rw [e2, e] at this
      exact this
theorem PassJ.start {D : DagD} (h : DagOk D) (hl : D.certs.length ≤ 30) : PassJ D (fun _ => false) D.certs :=
  ⟨h, (fun c _ e => by cases e), (fun c hc => ⟨hc, rfl⟩), (dag_iff.1 h).2.2.2.2.2.1, (fun c hc => .inr hc), hl⟩
theorem sub_none (D : DagD) : subD D (fun _ => false) = ⟨D.nodes, 0, []⟩ := by
  unfold subD; rw [List.filter_eq_nil_iff.2 (fun _ _ => by simp)]
theorem PassJ.fin {D : DagD} {P : Int → Bool} {L : List CertD} (h : PassJ D P L) (hL : L.length = 0) (hlow : D.low = 0) : subD D P = D := by
  have e : L = [] := List.length_eq_zero_iff.1 hL
  subst e
  unfold subD
  rw [List.filter_eq_self.2 (fun c hc => by rcases h.all c hc with g | g; exact g; cases g), ← hlow]
/-! ### rows of certificates that lie apart from one block -/
def RowA (blk : Option Nat) (w : World) (A : Option Addr) (n : Nat) (ps : List CertP) (l : List CertD) : Prop :=
  l.length = n ∧ n ≤ 9223372036854775807 ∧ (0 < n → ∃ b off, A = some ⟨b, off, none⟩ ∧ b < w.heap.size ∧ blk ≠ some b ∧ ∀ j, j < n → CertAt w b (off + j * 6) (ps.getD j default) (cth l j) ∧ CertA blk w (ps.getD j default) (cth l j))
theorem CertAt.of_block {w w' : World} {b off p C} (h : CertAt w b off p C) (hb : w'.heap[b]? = w.heap[b]?) : CertAt w' b off p C := by
  have g := fun o => World.cell?_of_block (w := w) (w' := w') (a := ⟨b, o, none⟩) hb
  obtain ⟨h0, h1, h2, h3, h4, h5⟩ := h
  exact ⟨(g _).trans h0, (g _).trans h1, (g _).trans h2, (g _).trans h3, (g _).trans h4, (g _).trans h5⟩
theorem RowA.grow {blk blk' : Option Nat} {w w' : World} {A n ps l} (h : RowA blk w A n ps l) (hg : w.grownBy w' blk) (hk : blk' = blk ∨ blk' = some w.heap.size) : RowA blk' w' A n ps l := by
  obtain ⟨h1, h2, h3⟩ := h
  refine ⟨h1, h2, fun hn => ?_⟩
  obtain ⟨b, off, e, hb, hne, hc⟩ := h3 hn
  refine ⟨b, off, e, Nat.lt_of_lt_of_le hb hg.size, ?_, fun j hj => ⟨(hc j hj).1.of_block (hg.block b hb (fun e => hne e.symm)), (hc j hj).2.grow hg hk⟩⟩
  rcases hk with rfl | rfl
  · exact hne
  · intro e; injection e with e; omega
theorem RowA.up {blk : Option Nat} {w w' : World} {A n ps l} (h : RowA blk w A n ps l) (hb : Below w.heap.size w w') : RowA blk w' A n ps l := by
  obtain ⟨h1, h2, h3⟩ := h
  refine ⟨h1, h2, fun hn => ?_⟩
  obtain ⟨b, off, e, hlt, hne, hc⟩ := h3 hn
  exact ⟨b, off, e, Nat.lt_of_lt_of_le hlt hb.size, hne, fun j hj => ⟨(hc j hj).1.up hb hlt, (hc j hj).2.up hb⟩⟩
theorem RowA.certs {blk : Option Nat} {w : World} {A n ps l} (h : RowA blk w A n ps l) : CertsR w A n l := by
  obtain ⟨h1, h2, h3⟩ := h
  refine ⟨h1, h2, fun hn => ?_⟩
  obtain ⟨b, off, e, hlt, hne, hc⟩ := h3 hn
  exact ⟨b, off, e, hlt, fun j hj => ⟨_, (hc j hj).1, (hc j hj).2.cert⟩⟩
theorem IntsA.none {blk : Option Nat} {w : World} {A n l} (h : IntsA blk w A n l) : IntsA Option.none w A n l := ⟨h.1, fun _ b off sp _ e => by cases e⟩
theorem CertA.none {blk : Option Nat} {w : World} {p C} (h : CertA blk w p C) : CertA Option.none w p C := ⟨IntsA.none h.1, IntsA.none h.2.1, IntsA.none h.2.2⟩
theorem RowA.none {blk : Option Nat} {w : World} {A n ps l} (h : RowA blk w A n ps l) : RowA Option.none w A n ps l := by
  obtain ⟨h1, h2, h3⟩ := h
  refine ⟨h1, h2, fun hn => ?_⟩
  obtain ⟨b, off, e, hlt, hne, hc⟩ := h3 hn
  exact ⟨b, off, e, hlt, (fun e => by cases e), fun j hj => ⟨(hc j hj).1, CertA.none (hc j hj).2⟩⟩
theorem OwnC.rowA {blk : Option Nat} {w : World} {B : Nat} {A : Option Addr} {n c : Nat} {ps l} (h : OwnC w B (.slice A n c) ps l) (hk : ∀ g, blk = some g → g < B) (hl : l.length ≤ 9223372036854775807) (hn : l.length = n) : RowA blk w A n ps l := by
  refine ⟨hn, by omega, fun h0 => ?_⟩
  rcases h.1.2 with ⟨e, hz⟩ | ⟨g, cap, cur, e, hb, hgg, rest⟩
  · omega
  · injection e with e1 e2 e3
    subst e1
    refine ⟨g, 0, rfl, (Array.getElem?_eq_some_iff.1 hgg).1, (fun e => by have := hk g e; omega), fun j hj => ⟨?_, (h.2.2 j (by omega)).1.cert.toA (h.2.2 j (by omega)).2 hk⟩⟩
    have hcell : ∀ r u, r < 6 → (certCells (ps.getD j default) (cth l j))[r]? = some u → w.cell? ⟨g, 0 + j * 6 + r, none⟩ = some u := fun r u hr hu => by
      have := World.ownsRow.cells h.1 (g := g) rfl (j * 6 + r) u (by rw [rowCells_at h.2.1 (by omega) hr]; exact hu)
      rw [Nat.zero_add]
      simpa [Addr.add_lit] using this
    exact ⟨hcell 0 _ (by omega) rfl, hcell 1 _ (by omega) rfl, hcell 2 _ (by omega) rfl, hcell 3 _ (by omega) rfl, hcell 4 _ (by omega) rfl, hcell 5 _ (by omega) rfl⟩
/-- A row of one's own from block B on; its certificates' lists are read in the older world u, apart from block g. -/
def AgR (u : World) (g : Nat) (w : World) (B : Nat) (v : Value) (ps : List CertP) (l : List CertD) : Prop :=
  w.ownsRow B 48 6 v l.length (rowCells ps l) ∧ ps.length = l.length ∧ ∀ j, j < l.length → CertA (some g) u (ps.getD j default) (cth l j)
theorem AgR.up {u : World} {g : Nat} {w w' : World} {B : Nat} {v : Value} {ps l} (h : AgR u g w B v ps l) (hb : Below w.heap.size w w') : AgR u g w' B v ps l := ⟨own_up h.1 hb, h.2.1, h.2.2⟩
theorem AgR.setLow {u : World} {g : Nat} {w : World} {B b o : Nat} {v x : Value} {ps l} (h : AgR u g w B v ps l) (hp : b < B) : AgR u g (w.setCell ⟨b, o, none⟩ x) B v ps l := ⟨own_set h.1 hp x, h.2.1, h.2.2⟩
theorem AgR.nil (u : World) (g : Nat) (w : World) (B : Nat) : AgR u g w B (.slice none 0 0) [] [] := ⟨World.ownsRow_nil w B _ _, rfl, fun j hj => absurd hj (by simp)⟩
theorem AgR.rowA {u : World} {g : Nat} {w : World} {B : Nat} {v : Value} {ps l} (h : AgR u g w B v ps l) (hg : u.grownBy w (some g)) (hgB : g < B) (hl : l.length ≤ 9223372036854775807) : ∃ A c, v = .slice A l.length c ∧ RowA (some g) w A l.length ps l := by
  have hA : ∀ j, j < l.length → CertA (some g) w (ps.getD j default) (cth l j) := fun j hj => (h.2.2 j hj).grow hg (.inl rfl)
  rcases h.1.2 with ⟨rfl, hz⟩ | ⟨b, cap, cur, rfl, hb, hgg, rest⟩
  · exact ⟨_, _, by rw [hz], rfl, hl, fun h0 => by omega⟩
  · refine ⟨_, _, rfl, rfl, hl, fun h0 => ⟨b, 0, rfl, (Array.getElem?_eq_some_iff.1 hgg).1, (fun e => by injection e with e; omega), fun j hj => ⟨?_, hA j hj⟩⟩⟩
    have hcell : ∀ r y, r < 6 → (certCells (ps.getD j default) (cth l j))[r]? = some y → w.cell? ⟨b, 0 + j * 6 + r, none⟩ = some y := fun r y hr hu => by
      have := World.ownsRow.cells h.1 (g := b) rfl (j * 6 + r) y (by rw [rowCells_at h.2.1 hj hr]; exact hu)
      rw [Nat.zero_add]
      simpa [Addr.add_lit] using this
    exact ⟨hcell 0 _ (by omega) rfl, hcell 1 _ (by omega) rfl, hcell 2 _ (by omega) rfl, hcell 3 _ (by omega) rfl, hcell 4 _ (by omega) rfl, hcell 5 _ (by omega) rfl⟩
/-- append of one certificate to such a row. -/
theorem wpList_appAg {u : World} {h0 : Nat} {w : World} {ops : Array Oper} {rest : List Oper} {o : Oper} {a : Act} {Q : Exit → Act → World → Prop} (hgd : o.guard = none) (s x : Operand)
    (ho : o.op = .call { callee := .builtin .append, args := #[s, x], argTypes := #[22, 22] })
    (B : Nat) (v : Value) (ps : List CertP) (l : List CertD) (hs : a.eval s = v) (hown : AgR u h0 w B v ps l) (g : Nat) (p : CertP) (C : CertD) (hx : a.eval x = .slice (some ⟨g, 0, none⟩) 1 1) (hc : BoxR w g (certCells p C)) (hA : CertA (some h0) u p C)
    (hlen : l.length ≤ 1000000000) (hB : B ≤ w.heap.size)
    (h : ∀ v' w', AgR u h0 w' B v' (ps ++ [p]) (l ++ [C]) → Below B w w' → w.grownBy w' v.ownBlock → (v'.ownBlock = v.ownBlock ∨ v'.ownBlock = some w.heap.size) → wpList Try.prog ops Q rest (a.put o.dst v') w') : wpList Try.prog ops Q (o :: rest) a w := by
  obtain ⟨i0, hi, hz, hz1, hz2⟩ := info_parts cert_info
  refine wpList_plain hgd fun K hK => ?_
  obtain ⟨v', w', hrun, h2, h3, _, h5⟩ := run_append_own_at (P := Try.prog) w B 22 o.type 48 i0 _ 6 96 Try.underlying22 hi hz hz1 hz2 rfl (by omega) v l.length (rowCells ps l) hown.1 ⟨g, 0, none⟩ 1 1 (certCells p C) rfl
    (by intro j u hu
        have := hc.2 j u hu
        by_cases hj : j = 0
        · subst hj; simpa [Addr.add] using this
        · simpa [Addr.add, hj] using this) certCells_one (by simp only [maxLen]; omega) (by omega) hB
  have hown' : AgR u h0 w' B v' (ps ++ [p]) (l ++ [C]) := by
    refine ⟨by rw [rowCells_snoc hown.2.1]; simpa using h2, by simp [hown.2.1], fun j hj => ?_⟩
    rcases Nat.lt_or_ge j l.length with hj' | hj'
    · have e1 : (ps ++ [p]).getD j default = ps.getD j default := by simp [List.getElem?_append, hown.2.1, hj']
      have e2 : cth (l ++ [C]) j = cth l j := by simp [cth, List.getElem?_append, hj']
      rw [e1, e2]
      exact hown.2.2 j hj'
    · obtain rfl : j = l.length := by simp at hj; omega
      have e1 : (ps ++ [p]).getD l.length default = p := by rw [← hown.2.1]; simp
      have e2 : cth (l ++ [C]) l.length = C := by simp [cth]
      rw [e1, e2]
      exact hA
  have hbel : Below B w w' := ⟨h3.os, h3.tape, h3.output, h3.size, fun k hk => h3.block k (by omega) (fun e => by have := (World.ownsRow.lt hown.1 k e.symm).1; omega)⟩
  unfold Oper.wp execOp
  simp only [ho, resolve, invoke, builtin, Sem.run_bind, Sem.run_pure, Result.andThen_ok, List.map_toArray, List.map_cons, List.map_nil, hs, hx, hrun]
  exact hK _ _ (h v' w' hown' hbel h3 h5)
theorem grown_below {u w w' : World} {g B : Nat} (h : u.grownBy w (some g)) (hb : Below B w w') (hB : u.heap.size ≤ B) : u.grownBy w' (some g) :=
  ⟨hb.os.trans h.os, hb.tape.trans h.tape, hb.output.trans h.output, Nat.le_trans h.size hb.size, fun k hk hne => (hb.block k (by omega)).trans (h.block k hk hne)⟩
theorem grown_set {u w : World} {g o : Nat} {x : Value} (h : u.grownBy w (some g)) : u.grownBy (w.setCell ⟨g, o, none⟩ x) (some g) :=
  ⟨h.os, h.tape, h.output, by simpa using h.size, fun k hk hne => (Below.heap_setCell _ _ _ _ (by show k ≠ g; intro e; exact hne (by rw [e]))).trans (h.block k hk hne)⟩
theorem grown_low {u w : World} {g B : Nat} (h : u.grownBy w (some g)) (hB : B ≤ u.heap.size) (hg : B ≤ g) : Below B u w :=
  ⟨h.os, h.tape, h.output, h.size, fun k hk => h.block k (by omega) (fun e => by injection e with e; omega)⟩
def slLen : Value → Nat
  | .slice _ n _ => n
  | _ => 0
theorem atP_k0 {m i : Nat} : atP false m i = m - 1 - i := rfl
theorem atP_k1 {m i : Nat} (h : m % 7 = 0) : atP true m i = i := by unfold atP; rw [if_pos rfl, if_pos h]
theorem atP_k2 {m i : Nat} (h : m % 7 ≠ 0) : atP true m i = (i * 7 + 3) % m := by unfold atP; rw [if_pos rfl, if_neg h]
theorem sub_empty {D : DagD} : (subD D (fun _ => false)).certs = [] := by rw [sub_none]
theorem eqDag2 (A : Option Addr) (n c : Nat) (B : Option Addr) (m d : Nat) (D : DagD) (x y : Int) (w : World) (hx : x = D.nodes) (hy : y = D.low) (hm : n = m) (hl : CertsR w B m D.certs) (hk : CertsR w A n D.certs) :
    Calls Try.prog 23 #[.agg #[.int .i64 x, .int .i64 y, .slice A n c], .agg #[.int .i64 D.nodes, .int .i64 D.low, .slice B m d]] w fun e w' => e = .returned (.bool true) ∧ Below w.heap.size w w' := by
  subst hx; subst hy; subst hm
  exact ref0_EqDag A n c B d D w hk hl
theorem add_in (A : Option Addr) (n c : Nat) (D : DagD) (P : Int → Bool) (C : CertD) (bA pA sA : Option Addr) (bn bc pn pc sn sc : Nat) (w : World) (hl : CertsR w A n (subD D P).certs) (hr : CertR w ⟨⟨⟨bA, bn, bc⟩, ⟨pA, pn, pc⟩⟩, ⟨sA, sn, sc⟩⟩ C) (hy : addE (subD D P) C = 0) (hR : addD (subD D P) C = subD D (addP P C.di)) (hli : LightM D.certs) :
    Calls Try.prog 43 #[.agg #[.int .i64 D.nodes, .int .i64 0, .slice A n c], .agg #[.int .i64 C.h.au, .int .i64 C.h.ro, .slice bA bn bc, .slice pA pn pc, .int .i64 C.di, .slice sA sn sc]] w fun e w' => ∃ A' n' c' qs, e = .returned (.tuple #[.agg #[.int .i64 D.nodes, .int .i64 0, .slice A' n' c'], .int .i64 0]) ∧ OwnC w' w.heap.size (.slice A' n' c') qs (subD D (addP P C.di)).certs ∧ (subD D (addP P C.di)).certs.length = n' ∧ n' ≤ 1000 ∧ Below w.heap.size w w' :=
  (dag_Add A n c (subD D P) C bA pA sA bn bc pn pc sn sc 0 (subD D (addP P C.di)) w hl hr hy hR).mono fun e w' ⟨v, qs, he, ho, hb⟩ => by
    have hs : Short (subD D (addP P C.di)).certs := fun k hk => by
      obtain ⟨m1, _⟩ := mem_sub.1 (cth_mem hk)
      obtain ⟨a1, a2, a3⟩ := lightC_mem hli _ m1
      exact ⟨Nat.le_trans a1 (by omega), Nat.le_trans a2 (by omega), Nat.le_trans a3 (by omega)⟩
    have hlen : (subD D (addP P C.di)).certs.length ≤ 1000 := Nat.le_trans (List.length_filter_le _ _) hli.1
    obtain ⟨A', c', e', _⟩ := own_row ho.1 (by omega)
    subst e'
    exact ⟨A', _, c', qs, he, ho.toC hs, rfl, hlen, hb⟩
theorem add_lack (A : Option Addr) (n c : Nat) (D : DagD) (P : Int → Bool) (C : CertD) (bA pA sA : Option Addr) (bn bc pn pc sn sc : Nat) (w : World) (hl : CertsR w A n (subD D P).certs) (hr : CertR w ⟨⟨⟨bA, bn, bc⟩, ⟨pA, pn, pc⟩⟩, ⟨sA, sn, sc⟩⟩ C) (hy : addE (subD D P) C = 7) :
    Calls Try.prog 43 #[.agg #[.int .i64 D.nodes, .int .i64 0, .slice A n c], .agg #[.int .i64 C.h.au, .int .i64 C.h.ro, .slice bA bn bc, .slice pA pn pc, .int .i64 C.di, .slice sA sn sc]] w fun e w' => ∃ A' c', e = .returned (.tuple #[.agg #[.int .i64 0, .int .i64 0, .slice A' 0 c'], .int .i64 7]) ∧ Below w.heap.size w w' :=
  (dag_Add A n c (subD D P) C bA pA sA bn bc pn pc sn sc 7 ⟨0, 0, []⟩ w hl hr hy (by unfold addD; rw [if_neg (by rw [hy]; decide)])).mono fun e w' ⟨v, qs, he, ho, hb⟩ => by
    obtain ⟨A', c', e', _⟩ := own_row ho.1 (by simp)
    subst e'
    exact ⟨A', c', he, hb⟩
set_option maxRecDepth 100000 in
set_option maxHeartbeats 16000000 in
theorem law_DagOrders (P : AskP) (D : AskD) (w : World) (h : AskR w P D) :
    Calls Try.prog 8 #[askV P D] w fun e w' => e = .returned (.bool true) ∧ Below w.heap.size w w' := by
  obtain ⟨⟨dA, dn, dc⟩, ⟨cA, cn, cc⟩, ⟨iA, im, ic⟩, ⟨pA, pn, pc⟩⟩ := P
  have H := Lib.hid h
  have HD : Hid (CertsR w dA dn D.D.certs) := Lib.hid h.d
  have HC : Hid (CertsR w cA cn D.C) := Lib.hid h.c
  have HI : Hid (IntsR w iA im D.I) := Lib.hid h.i
  have HP : Hid (FloatsR w pA pn D.P) := Lib.hid h.p
  have hdc : dn ≤ dc := h.dc
  have hdm : dc ≤ 9223372036854775807 := h.dm
  clear h
  show Calls Try.prog 8 #[.agg #[.int .i64 D.D.nodes, .int .i64 D.D.low, .slice dA dn dc, .slice cA cn cc, .slice iA im ic, .slice pA pn pc]] w _
  go_enter Try.func8, Try.ntmps8
  go_wp2_with fail
  refine (law14_heavy ⟨⟨dA, dn, dc⟩, ⟨cA, cn, cc⟩, ⟨iA, im, ic⟩, ⟨pA, pn, pc⟩⟩ D _ (H.out.up (by (repeat (first | (with_reducible exact Below.refl _ _) | (with_reducible assumption) | (with_reducible apply bel_alloc) | (with_reducible apply bel_drew) | (with_reducible apply bel_drewN) | (with_reducible refine bel_trans ?_ (by with_reducible assumption)) | (with_reducible refine bel_trans ?_ (HF.out _)) | (with_reducible refine bel_set ?_ (by simp) _) | (with_reducible refine bel_set ?_ (by simp; omega) _) | (with_reducible refine bel_set ?_ (by omega) _)))))).mono ?_
  rintro e w1 ⟨⟨x, rfl, hx⟩, hb1⟩
  cases x
  case true =>
    clear hx
    go_wp2_with fail
    go_ret
    exact ⟨rfl, by (repeat (first | (with_reducible exact Below.refl _ _) | (with_reducible assumption) | (with_reducible apply bel_alloc) | (with_reducible apply bel_drew) | (with_reducible apply bel_drewN) | (with_reducible refine bel_trans ?_ (by with_reducible assumption)) | (with_reducible refine bel_trans ?_ (HF.out _)) | (with_reducible refine bel_set ?_ (by simp) _) | (with_reducible refine bel_set ?_ (by simp; omega) _) | (with_reducible refine bel_set ?_ (by omega) _)))⟩
  case false =>
  have hLt := hx rfl
  have hLd : Light D.D.certs := hLt.d
  have hd80 : dn ≤ 80 := by rw [← HD.out.1]; exact hLd.1
  have hc40 : cn ≤ 40 := hLt.cn
  have hi40 : im ≤ 40 := hLt.i
  have hp40 : pn ≤ 40 := hLt.p
  have hlc : ∀ k, k < cn → LightC (cth D.C k) := hLt.c
  have HLD := Lib.hid hLd
  have HLC := Lib.hid hlc
  have hB1 : BoxR w1 w.heap.size [.int .i64 D.D.nodes, .int .i64 D.D.low, .slice dA dn dc, .slice cA cn cc, .slice iA im ic, .slice pA pn pc] := (BoxR.new w [.int .i64 D.D.nodes, .int .i64 D.D.low, .slice dA dn dc, .slice cA cn cc, .slice iA im ic, .slice pA pn pc] 58).up hb1
  have hbw1 : Below w.heap.size w w1 := by (repeat (first | (with_reducible exact Below.refl _ _) | (with_reducible assumption) | (with_reducible apply bel_alloc) | (with_reducible apply bel_drew) | (with_reducible apply bel_drewN) | (with_reducible refine bel_trans ?_ (by with_reducible assumption)) | (with_reducible refine bel_trans ?_ (HF.out _)) | (with_reducible refine bel_set ?_ (by simp) _) | (with_reducible refine bel_set ?_ (by simp; omega) _) | (with_reducible refine bel_set ?_ (by omega) _)))
  clear hx hLt hLd hlc hb1
  have HB1 := Lib.hid hB1
  have hg1 := hB1.1
  have b_0 := (hB1).2 0 _ rfl; have b_1 := (hB1).2 1 _ rfl; have b_2 := (hB1).2 2 _ rfl; have b_3 := (hB1).2 3 _ rfl; have b_4 := (hB1).2 4 _ rfl; have b_5 := (hB1).2 5 _ rfl
  clear hB1
  by_cases h30 : 30 < dn
  · have h30d : decide ((30 : Int) < (dn : Int)) = true := by simp; omega
    go_wp2_with fail
    go_ret
    exact ⟨rfl, hbw1⟩
  cases hm : mayS D.D
  · have HM : Hid (chkE D.D = 1) := Lib.hid (by unfold chkE; rw [hm]; rfl)
    clear hm
    go_wp2_with fail
    refine (dag_Check dA dn dc D.D 1 _ (HD.out.up hbw1) HM.out).mono ?_
    rintro e w2 ⟨rfl, hb2⟩
    go_wp2_with (go_at_call 44; refine (law14_num _ _).mono ?_; rintro e w' ⟨rfl, rfl⟩)
    go_ret
    exact ⟨rfl, bel_trans hbw1 hb2⟩
  have HMM : Hid (chkE D.D = 0) := Lib.hid (by unfold chkE; rw [hm]; rfl)
  have HM := Lib.hid hm
  have hok := mayS_iff.1 hm
  have HIS : Hid (isS D.D.nodes = true) := Lib.hid hok.1
  have HOK := Lib.hid hok
  clear hm hok
  go_wp2_with fail
  refine (dag_Check dA dn dc D.D 0 _ (HD.out.up hbw1) HMM.out).mono ?_
  rintro e w2 ⟨rfl, hb2⟩
  replace hbw1 := bel_trans hbw1 hb2
  clear b_0 b_1 b_2 b_3 b_4 b_5; replace HB1 := Lib.hid (HB1.out.up hb2); replace hgHB1 := HB1.out.1; have b_0 := (HB1.out).2 0 _ rfl; have b_1 := (HB1.out).2 1 _ rfl; have b_2 := (HB1.out).2 2 _ rfl; have b_3 := (HB1.out).2 3 _ rfl; have b_4 := (HB1.out).2 4 _ rfl; have b_5 := (HB1.out).2 5 _ rfl
  by_cases hlow : D.D.low = 0
  case neg =>
    have hlb : (D.D.low != 0) = true := by simpa using hlow
    clear hlow
    go_wp2_with (go_at_call 44; refine (law14_num _ _).mono ?_; rintro e w' ⟨rfl, rfl⟩)
    go_ret
    exact ⟨rfl, hbw1⟩
  have hlb : (D.D.low != 0) = false := by simpa using hlow
  have HLOW := Lib.hid hlow
  clear hlow hb2
  go_wp2_with (go_at_call 44; refine (law14_num _ _).mono ?_; rintro e w' ⟨rfl, rfl⟩)
  have HPS : Hid (PassJ D.D (fun _ => false) D.D.certs) := Lib.hid (PassJ.start HOK.out (by rw [HD.out.1]; omega))
  clear hlb b_0 b_1 b_2 b_3 b_4 b_5
  go_loopw [3] (fun si wr => ∃ k : Nat, k ≤ 2 ∧ si = .int .i64 k ∧ Hid (BoxR wr w.heap.size [.int .i64 D.D.nodes, .int .i64 D.D.low, .slice dA dn dc, .slice cA cn cc, .slice iA im ic, .slice pA pn pc]) ∧ Below w.heap.size w wr) (fun si _ => 2 - (intOf si).toNat)
  case atStart => exact ⟨0, by omega, rfl, HB1, hbw1⟩
  case round =>
    clear HB1 hbw1 hgHB1 hg1
    obtain ⟨k, hk, rfl, HB, hbw⟩ := hrel
    (obtain ⟨wk, hwk⟩ : ∃ x, x = wr := ⟨_, rfl⟩); subst hwk
    have hgHB := HB.out.1
    by_cases hlt : k < 2
    · have b_0 := (HB.out).2 0 _ rfl; have b_1 := (HB.out).2 1 _ rfl; have b_2 := (HB.out).2 2 _ rfl; have b_3 := (HB.out).2 3 _ rfl; have b_4 := (HB.out).2 4 _ rfl; have b_5 := (HB.out).2 5 _ rfl
      go_wp2_with fail
      refine (dag_New D.D.nodes true _ HIS.out).mono ?_
      rintro e w3 ⟨rfl, hb3⟩
      simp only [if_true]
      clear b_0 b_1 b_2 b_3 b_4 b_5; replace HB := Lib.hid (HB.out.up hb3); replace hgHB := HB.out.1; have b_0 := (HB.out).2 0 _ rfl; have b_1 := (HB.out).2 1 _ rfl; have b_2 := (HB.out).2 2 _ rfl; have b_3 := (HB.out).2 3 _ rfl; have b_4 := (HB.out).2 4 _ rfl; have b_5 := (HB.out).2 5 _ rfl
      have hX : Blk (w3.alloc (.cells #[.int .i64 D.D.nodes, .int .i64 0, .slice none 0 0] 24)) w3.heap.size 24 [.int .i64 D.D.nodes, .int .i64 0, .slice none 0 0] := Blk.new w3 24 [.int .i64 D.D.nodes, .int .i64 0, .slice none 0 0]
      have hbX : Below wk.heap.size wk (w3.alloc (.cells #[.int .i64 D.D.nodes, .int .i64 0, .slice none 0 0] 24)) := bel_alloc hb3
      have hgk : wk.heap.size ≤ w3.heap.size := hb3.size
      have HBX : Hid (BoxR (w3.alloc (.cells #[.int .i64 D.D.nodes, .int .i64 0, .slice none 0 0] 24)) w.heap.size [.int .i64 D.D.nodes, .int .i64 D.D.low, .slice dA dn dc, .slice cA cn cc, .slice iA im ic, .slice pA pn pc]) := Lib.hid (HB.out.up (by (repeat (first | (with_reducible exact Below.refl _ _) | (with_reducible assumption) | (with_reducible apply bel_alloc) | (with_reducible apply bel_drew) | (with_reducible apply bel_drewN) | (with_reducible refine bel_trans ?_ (by with_reducible assumption)) | (with_reducible refine bel_trans ?_ (HF.out _)) | (with_reducible refine bel_set ?_ (by simp) _) | (with_reducible refine bel_set ?_ (by simp; omega) _) | (with_reducible refine bel_set ?_ (by omega) _)))))
      obtain ⟨g, hg⟩ : ∃ g, g = w3.heap.size := ⟨_, rfl⟩
      rw [← hg] at hX hgk
      clear b_0 b_1 b_2 b_3 b_4 b_5
      go_upto_region 7 with fail
      rw [← hg]
      generalize (w3.alloc (.cells #[.int .i64 D.D.nodes, .int .i64 0, .slice none 0 0] 24)) = X at *
      have HX := Lib.hid hX
      have hgX := hX.lt
      have hlX := HBX.out.1
      have b_0 := (HBX.out).2 0 _ rfl; have b_1 := (HBX.out).2 1 _ rfl; have b_2 := (HBX.out).2 2 _ rfl; have b_3 := (HBX.out).2 3 _ rfl; have b_4 := (HBX.out).2 4 _ rfl; have b_5 := (HBX.out).2 5 _ rfl
      have hwg : w.heap.size < g := by omega
      clear hX hg HB hb3 hgHB
      go_wp2_with (go_at_call 44; refine (law14_num _ _).mono ?_; rintro e w' ⟨rfl, rfl⟩)
      refine (copyCertsM dA dn dc D.D.certs _ ((HD.out.up hbw).up hbX) (LightM.of HLD.out)).mono ?_
      rintro e w4 ⟨v4, ps4, rfl, ho4, hb4⟩
      obtain ⟨lA4, lc4, rfl, _, _⟩ := ho4.certs (by have := HLD.out.1; omega)
      have HL4 : Hid (RowA (some g) w4 lA4 D.D.certs.length ps4 D.D.certs) := Lib.hid (ho4.rowA (fun q e => by injection e with e; omega) (by have := HLD.out.1; omega) rfl)
      have HG4 := Lib.hid (HX.out.up hb4)
      have HB4 := Lib.hid (HBX.out.up hb4)
      have hbk4 := bel_trans hbX hb4
      have HD4 : Hid (RowA none w4 none 0 [] (subD D.D (fun _ => false)).certs) := Lib.hid (by rw [sub_empty]; exact ⟨rfl, by omega, fun h => absurd h (by omega)⟩)
      obtain ⟨m4, hm4⟩ : ∃ m, m = D.D.certs.length := ⟨_, rfl⟩
      rw [← hm4] at HL4 ⊢
      clear ho4 hb4 hm4 b_0 b_1 b_2 b_3 b_4 b_5 HX HBX
      go_wp2_with fail
      go_loopw [6] (fun sl wr => ∃ (P : Int → Bool) (L : List CertD) (lA : Option Addr) (m lc : Nat) (ps qs : List CertP) (eA : Option Addr) (en ec : Nat), sl = .slice lA m lc ∧ Hid (PassJ D.D P L) ∧ Hid (RowA (some g) wr lA m ps L) ∧ Hid (Blk wr g 24 [.int .i64 D.D.nodes, .int .i64 0, .slice eA en ec]) ∧ Hid (RowA none wr eA en qs (subD D.D P).certs) ∧ Hid (BoxR wr w.heap.size [.int .i64 D.D.nodes, .int .i64 D.D.low, .slice dA dn dc, .slice cA cn cc, .slice iA im ic, .slice pA pn pc]) ∧ Below wk.heap.size wk wr) (fun sl _ => slLen sl)
      case atStart => exact ⟨_, D.D.certs, lA4, m4, lc4, ps4, [], none, 0, 0, rfl, HPS, HL4, HG4, HD4, HB4, hbk4⟩
      case round =>
        clear HL4 HG4 HB4 HD4 hbk4
        obtain ⟨P, L, lA, m, lc, ps, qs, eA, en, ec, rfl, HPJ, HL, HG, HE, HB, hbk⟩ := hrel
        (obtain ⟨wp, hwp⟩ : ∃ x, x = wr := ⟨_, rfl⟩); subst hwp
        have hgp := HG.out.lt
        have hgHB := HB.out.1
        have HLL : Hid (L.length = m) := Lib.hid HL.out.1
        have hm30 : m ≤ 30 := by rw [← HL.out.1]; exact HPJ.out.len
        by_cases hm0 : 0 < m
        · go_wp2_with fail
          obtain ⟨kb, hkb⟩ : ∃ kb, kb = decide (k = 1) := ⟨_, rfl⟩
          have HKB := Lib.hid hkb
          clear hkb
          have HSJ : Hid (StepJ D.D P L kb 0 P []) := Lib.hid (StepJ.start HPJ.out)
          have HGR : Hid (wp.grownBy wp (some g)) := Lib.hid (World.grownBy.refl _ _)
          go_loopw [7, 8] (fun av si wr => ∃ (i : Nat) (P' : Int → Bool) (A : List CertD) (aps qs' : List CertP) (fA : Option Addr) (fn fc : Nat), i ≤ m ∧ si = .int .i64 i ∧ Hid (StepJ D.D P L kb i P' A) ∧ Hid (AgR wp g wr wp.heap.size av aps A) ∧ Hid (wp.grownBy wr (some g)) ∧ Hid (Blk wr g 24 [.int .i64 D.D.nodes, .int .i64 0, .slice fA fn fc]) ∧ Hid (RowA av.ownBlock wr fA fn qs' (subD D.D P').certs) ∧ Hid (BoxR wr w.heap.size [.int .i64 D.D.nodes, .int .i64 D.D.low, .slice dA dn dc, .slice cA cn cc, .slice iA im ic, .slice pA pn pc])) (fun _ si _ => m - (intOf si).toNat)
          case atStart => exact ⟨0, P, [], [], qs, eA, en, ec, Nat.zero_le _, rfl, HSJ, Lib.hid (AgR.nil _ _ _ _), HGR, HG, HE, HB⟩
          case round =>
            clear HSJ HGR HG HE HB
            obtain ⟨i, P', A, aps, qs', fA, fn, fc, hi, rfl, HSJ, HAG, HGR, HG, HE, HB⟩ := hrel
            (obtain ⟨wq, hwq⟩ : ∃ x, x = wr := ⟨_, rfl⟩); subst hwq
            have hgq := HG.out.lt
            have hgHB := HB.out.1
            have hzq : wp.heap.size ≤ wq.heap.size := HGR.out.size
            by_cases hlt2 : i < m
            · obtain ⟨t, ht⟩ : ∃ t, atP kb m i = t := ⟨_, rfl⟩
              have htm : t < m := by rw [← ht]; exact atP_lt hlt2
              have HT : Hid (atP kb L.length i = t) := Lib.hid (by rw [HLL.out]; exact ht)
              have HT2 := Lib.hid ht
              clear ht
              go_upto_if 67 with fail
              go_cut [9] from 66 to 79 (fun s9 wx => s9 = .int .i64 t ∧ wq = wx)
              case first =>
                by_cases hk1 : k = 1
                · have hkd : ((k : Int) == 1) = true := by simp; omega
                  have hkb : kb = true := by rw [HKB.out]; simpa using hk1
                  have hmz : ((m : Int) == 0) = false := by simp; omega
                  have HK1 := Lib.hid hk1
                  clear hk1
                  by_cases h7 : m % 7 = 0
                  · have e7 : ((m : Int) % 7 == 0) = true := by simp; omega
                    have e7t : ((m : Int).tmod 7 == 0) = true := by rw [Int.tmod_eq_emod_of_nonneg (by omega)]; exact e7
                    have htv : i = t := by rw [← HT2.out, hkb, atP_k1 h7]
                    clear h7
                    have HTV := Lib.hid htv
                    clear htv hkb
                    go_wp2_with fail
                    go_meet
                    exact ⟨by rw [HTV.out], rfl⟩
                  · have e7 : ((m : Int) % 7 == 0) = false := by simp; omega
                    have e7t : ((m : Int).tmod 7 == 0) = false := by rw [Int.tmod_eq_emod_of_nonneg (by omega)]; exact e7
                    have htv : ((i : Int) * 7 + 3) % (m : Int) = (t : Int) := by rw [← HT2.out, hkb, atP_k2 h7]; simp
                    have htv2 : ((i : Int) * 7 + 3).tmod (m : Int) = (t : Int) := by rw [Int.tmod_eq_emod_of_nonneg (by omega)]; exact htv
                    clear h7 hkb
                    go_wp2_with fail
                    go_meet
                    exact ⟨by simp [htv, htv2], rfl⟩
                · have hkd : ((k : Int) == 1) = false := by simp; omega
                  have hkb : kb = false := by rw [HKB.out]; simpa using hk1
                  have htv : (m : Int) - 1 - (i : Int) = (t : Int) := by rw [← HT2.out, hkb, atP_k0]; omega
                  have HTV := Lib.hid htv
                  clear hk1 hkb htv
                  go_wp2_with fail
                  go_meet
                  exact ⟨by rw [HTV.out], rfl⟩
              case rest =>
              obtain ⟨rfl, hwc⟩ := hcut
              subst hwc
              obtain ⟨lb, loff, el, hlbp, hlne, hccp⟩ := HL.out.2.2 hm0
              subst el
              obtain ⟨C, hC⟩ : ∃ C, cth L t = C := ⟨_, rfl⟩
              obtain ⟨p, hp⟩ : ∃ p, ps.getD t default = p := ⟨_, rfl⟩
              have hcap := (hccp t htm).2
              have hLq := HL.out.grow HGR.out (blk' := some g) (.inl rfl)
              obtain ⟨lb2, loff2, el2, hlb, _, hcc⟩ := hLq.2.2 hm0
              injection el2 with el2; injection el2 with el2 el3
              subst el2; subst el3
              obtain ⟨hat, hca⟩ := hcc t htm
              rw [hC, hp] at hat hca hcap
              have hfr := HSJ.out.fresh (by rw [HLL.out]; exact hlt2)
              rw [HT.out, hC] at hfr
              have hCm : C ∈ D.D.certs := by rw [← hC]; exact (HPJ.out.sub _ (cth_mem (by rw [HLL.out]; exact htm))).1
              have hsp := sub_put HOK.out HSJ.out.cl hCm hfr
              have HCC := Lib.hid hC
              obtain ⟨⟨⟨bA, bn, bc⟩, ⟨qA, qn, qc⟩⟩, ⟨sA, sn, sc⟩⟩ := p
              have HPP := Lib.hid hp
              have HCR := Lib.hid hca.cert
              have HCP := Lib.hid hcap
              obtain ⟨c0, c1, c2, c3, c4, c5⟩ := hat
              dsimp only at c0 c1 c2 c3 c4 c5
              have hcells : ∀ Y, Below wq.heap.size wq Y → (Y.cell? ⟨lb, loff + t * 6, none⟩ = some (.int .i64 C.h.au) ∧ Y.cell? ⟨lb, loff + t * 6 + 1, none⟩ = some (.int .i64 C.h.ro) ∧ Y.cell? ⟨lb, loff + t * 6 + 2, none⟩ = some (.slice bA bn bc) ∧ Y.cell? ⟨lb, loff + t * 6 + 3, none⟩ = some (.slice qA qn qc) ∧ Y.cell? ⟨lb, loff + t * 6 + 4, none⟩ = some (.int .i64 C.di) ∧ Y.cell? ⟨lb, loff + t * 6 + 5, none⟩ = some (.slice sA sn sc)) ∧ (Y.cell? ⟨g, 0, none⟩ = some (.int .i64 D.D.nodes) ∧ Y.cell? ⟨g, 1, none⟩ = some (.int .i64 0) ∧ Y.cell? ⟨g, 2, none⟩ = some (.slice fA fn fc)) := fun Y hY =>
                ⟨⟨(hY.cell (p := ⟨lb, loff + t * 6, none⟩) hlb).trans c0, (hY.cell (p := ⟨lb, loff + t * 6 + 1, none⟩) hlb).trans c1, (hY.cell (p := ⟨lb, loff + t * 6 + 2, none⟩) hlb).trans c2, (hY.cell (p := ⟨lb, loff + t * 6 + 3, none⟩) hlb).trans c3, (hY.cell (p := ⟨lb, loff + t * 6 + 4, none⟩) hlb).trans c4, (hY.cell (p := ⟨lb, loff + t * 6 + 5, none⟩) hlb).trans c5⟩,
                  ⟨(HG.out.up hY).box.2 0 _ rfl, (HG.out.up hY).box.2 1 _ rfl, (HG.out.up hY).box.2 2 _ rfl⟩⟩
              have HCL := Lib.hid hcells
              clear hcells hca hcap hC hp hLq hccp hcc hfr hlne c0 c1 c2 c3 c4 c5
              go_upto_region 20 with fail
              rcases hsp with ⟨hpar, hae, had, hcl⟩ | ⟨hpar, hae⟩
              · have HPAR := Lib.hid hpar
                have HAE := Lib.hid hae
                have HAD := Lib.hid had
                have HCLO := Lib.hid hcl
                clear hpar hae had hcl
                go_cut [10, 11] from 79 to 88 (fun s10 s11 wx => ∃ (q : Nat) (xA : Option Addr) (xn xc : Nat) (es : List CertP), s10 = .pointer (some ⟨q, 0, none⟩) ∧ s11 = .int .i64 0 ∧ Blk wx q 24 [.int .i64 D.D.nodes, .int .i64 0, .slice xA xn xc] ∧ OwnC wx wq.heap.size (.slice xA xn xc) es (subD D.D (addP P' C.di)).certs ∧ (subD D.D (addP P' C.di)).certs.length = xn ∧ xn ≤ 1000 ∧ Below wq.heap.size wq wx)
                case first =>
                  go_region_held3 (fun Y => (Y.cell? ⟨lb, loff + t * 6, none⟩ = some (.int .i64 C.h.au) ∧ Y.cell? ⟨lb, loff + t * 6 + 1, none⟩ = some (.int .i64 C.h.ro) ∧ Y.cell? ⟨lb, loff + t * 6 + 2, none⟩ = some (.slice bA bn bc) ∧ Y.cell? ⟨lb, loff + t * 6 + 3, none⟩ = some (.slice qA qn qc) ∧ Y.cell? ⟨lb, loff + t * 6 + 4, none⟩ = some (.int .i64 C.di) ∧ Y.cell? ⟨lb, loff + t * 6 + 5, none⟩ = some (.slice sA sn sc)) ∧ (Y.cell? ⟨g, 0, none⟩ = some (.int .i64 D.D.nodes) ∧ Y.cell? ⟨g, 1, none⟩ = some (.int .i64 0) ∧ Y.cell? ⟨g, 2, none⟩ = some (.slice fA fn fc)))
                    (exact HCL.out _ (by (repeat (first | (with_reducible exact Below.refl _ _) | (with_reducible assumption) | (with_reducible apply bel_alloc) | (with_reducible apply bel_drew) | (with_reducible apply bel_drewN) | (with_reducible refine bel_trans ?_ (by with_reducible assumption)) | (with_reducible refine bel_trans ?_ (HF.out _)) | ((with_reducible refine bel_set3 ?_ ?_); rotate_left; omega)))))
                    ((go_at_call 43; refine (add_in fA fn fc D.D P' C bA qA sA bn bc qn qc sn sc _ (HE.out.certs.up (by (repeat (first | (with_reducible exact Below.refl _ _) | (with_reducible assumption) | (with_reducible apply bel_alloc) | (with_reducible apply bel_drew) | (with_reducible apply bel_drewN) | (with_reducible refine bel_trans ?_ (by with_reducible assumption)) | (with_reducible refine bel_trans ?_ (HF.out _)) | (with_reducible refine bel_set ?_ (by simp) _) | (with_reducible refine bel_set ?_ (by simp; omega) _) | (with_reducible refine bel_set ?_ (by omega) _))))) (HCR.out.up (by (repeat (first | (with_reducible exact Below.refl _ _) | (with_reducible assumption) | (with_reducible apply bel_alloc) | (with_reducible apply bel_drew) | (with_reducible apply bel_drewN) | (with_reducible refine bel_trans ?_ (by with_reducible assumption)) | (with_reducible refine bel_trans ?_ (HF.out _)) | (with_reducible refine bel_set ?_ (by simp) _) | (with_reducible refine bel_set ?_ (by simp; omega) _) | (with_reducible refine bel_set ?_ (by omega) _))))) HAE.out HAD.out (LightM.of HLD.out)).mono ?_; rintro e w7 ⟨xA, xn, xc, es, rfl, ho, hlx, hx1, hb7⟩; have HLX := Lib.hid hlx; clear hlx; (try have hcA := fun o => (bcell hb7).1 wq.heap.size o (by first | (simp; done) | (simp; omega) | omega)); (try have hfA := fun o => (bcell hb7).2 wq.heap.size o (by first | (simp; done) | (simp; omega) | omega)); have hzA := hb7.size; (try simp at hzA)))
                  · go_wp2_with fail
                    go_meet
                    have hk := Blk.new w7 24 [.int .i64 D.D.nodes, .int .i64 0, .slice xA xn xc]
                    exact ⟨_, xA, xn, xc, es, rfl, rfl, hk, (ho.mono (B' := wq.heap.size) (by simp)).up (bel_alloc (Below.refl _ _)), HLX.out, hx1, by (repeat (first | (with_reducible exact Below.refl _ _) | (with_reducible assumption) | (with_reducible apply bel_alloc) | (with_reducible apply bel_drew) | (with_reducible apply bel_drewN) | (with_reducible refine bel_trans ?_ (by with_reducible assumption)) | (with_reducible refine bel_trans ?_ (HF.out _)) | ((with_reducible refine bel_set3 ?_ ?_); rotate_left; omega)))⟩
                  · go_wp2_with fail
                    go_meet
                    have hk : Blk w7 wq.heap.size 24 [.int .i64 0, .int .i64 0, .slice none 0 0] := Blk.up (Blk.new wq.drew 24 [.int .i64 0, .int .i64 0, .slice none 0 0]) hb7
                    have ho1 := ho.mono (B' := wq.heap.size + 1) (by simp)
                    exact ⟨_, xA, xn, xc, es, rfl, rfl, ((hk.set_ 0 _).set_ 1 _).set_ 2 _, (((ho1.setLow (b := wq.heap.size) (by omega)).setLow (b := wq.heap.size) (by omega)).setLow (b := wq.heap.size) (by omega)).mono (by omega), HLX.out, hx1, by (repeat (first | (with_reducible exact Below.refl _ _) | (with_reducible assumption) | (with_reducible apply bel_alloc) | (with_reducible apply bel_drew) | (with_reducible apply bel_drewN) | (with_reducible refine bel_trans ?_ (by with_reducible assumption)) | (with_reducible refine bel_trans ?_ (HF.out _)) | ((with_reducible refine bel_set3 ?_ ?_); rotate_left; omega)))⟩
                case rest =>
                obtain ⟨q, xA, xn, xc, es, rfl, rfl, hK, hO, hlx, hx1, hb7⟩ := hcut
                obtain ⟨w7, hw7⟩ : ∃ x, x = wc := ⟨_, rfl⟩
                subst hw7
                have hGx := HG.out.up hb7
                have hgl := hGx.lt
                have hgf := hGx.frozen
                have d_0 := (hGx.box).2 0 _ rfl; have d_1 := (hGx.box).2 1 _ rfl; have d_2 := (hGx.box).2 2 _ rfl
                have x_0 := (hK.box).2 0 _ rfl; have x_1 := (hK.box).2 1 _ rfl; have x_2 := (hK.box).2 2 _ rfl
                have HSJn := HSJ.out.put (by rw [HLL.out]; exact hlt2) (by rw [HT.out, HCC.out]; exact HPAR.out) (by rw [HT.out, HCC.out]; exact HCLO.out)
                rw [HT.out, HCC.out] at HSJn
                have HSJ2 := Lib.hid HSJn
                have HAG2 := Lib.hid ((((HAG.out.up hb7).setLow (b := g) (o := 0) (x := .int .i64 D.D.nodes) hgp).setLow (b := g) (o := 1) (x := .int .i64 0) hgp).setLow (b := g) (o := 2) (x := .slice xA xn xc) hgp)
                have HGR2 := Lib.hid (grown_set (o := 2) (x := .slice xA xn xc) (grown_set (o := 1) (x := .int .i64 0) (grown_set (o := 0) (x := .int .i64 D.D.nodes) (grown_below HGR.out hb7 hzq))))
                have HG2 := Lib.hid (((hGx.set_ 0 (.int .i64 D.D.nodes)).set_ 1 (.int .i64 0)).set_ 2 (.slice xA xn xc))
                have HE2 : Hid (RowA u7.ownBlock _ xA xn es _) := Lib.hid (((((hO.setLow (b := g) (o := 0) (u := .int .i64 D.D.nodes) hgq).setLow (b := g) (o := 1) (u := .int .i64 0) hgq).setLow (b := g) (o := 2) (u := .slice xA xn xc) hgq)).rowA (fun q e => (World.ownsRow.lt HAG.out.1 q e).2) (by omega) hlx)
                have HB2 := Lib.hid ((((HB.out.up hb7).set (a := ⟨g, 0, none⟩) (v := .int .i64 D.D.nodes) (by dsimp only; omega)).set (a := ⟨g, 1, none⟩) (v := .int .i64 0) (by dsimp only; omega)).set (a := ⟨g, 2, none⟩) (v := .slice xA xn xc) (by dsimp only; omega))
                clear HSJn hGx hK hO hlx
                go_wp2_with (go_at_call 44; refine (law14_num _ _).mono ?_; rintro e w' ⟨rfl, rfl⟩)
                (first | (go_round; (case rel => exact ⟨i + 1, addP P' C.di, A, aps, es, xA, xn, xc, by omega, by go_num, HSJ2, HAG2, HGR2, HG2, HE2, HB2⟩); (case measure => (simp [intOf] <;> omega))) | (go_roundw; (case rel => exact ⟨i + 1, addP P' C.di, A, aps, es, xA, xn, xc, by omega, by go_num, HSJ2, HAG2, HGR2, HG2, HE2, HB2⟩); (case measure => (simp [intOf] <;> omega))) | (refine ⟨?_, by simp [intOf] <;> omega⟩; (repeat apply Exists.intro); refine ⟨?rel, ?fr⟩; (case fr => ((repeat' apply And.intro) <;> rfl)); (case rel => exact ⟨i + 1, addP P' C.di, A, aps, es, xA, xn, xc, by omega, by go_num, HSJ2, HAG2, HGR2, HG2, HE2, HB2⟩)))
              · have HPAR := Lib.hid hpar
                have HAE := Lib.hid hae
                clear hpar hae
                go_cut [10, 11] from 79 to 88 (fun s10 s11 wx => ∃ (q : Nat) (xA : Option Addr) (xc : Nat), s10 = .pointer (some ⟨q, 0, none⟩) ∧ s11 = .int .i64 7 ∧ Below wq.heap.size wq wx)
                case first =>
                  go_region_held3 (fun Y => (Y.cell? ⟨lb, loff + t * 6, none⟩ = some (.int .i64 C.h.au) ∧ Y.cell? ⟨lb, loff + t * 6 + 1, none⟩ = some (.int .i64 C.h.ro) ∧ Y.cell? ⟨lb, loff + t * 6 + 2, none⟩ = some (.slice bA bn bc) ∧ Y.cell? ⟨lb, loff + t * 6 + 3, none⟩ = some (.slice qA qn qc) ∧ Y.cell? ⟨lb, loff + t * 6 + 4, none⟩ = some (.int .i64 C.di) ∧ Y.cell? ⟨lb, loff + t * 6 + 5, none⟩ = some (.slice sA sn sc)) ∧ (Y.cell? ⟨g, 0, none⟩ = some (.int .i64 D.D.nodes) ∧ Y.cell? ⟨g, 1, none⟩ = some (.int .i64 0) ∧ Y.cell? ⟨g, 2, none⟩ = some (.slice fA fn fc)))
                    (exact HCL.out _ (by (repeat (first | (with_reducible exact Below.refl _ _) | (with_reducible assumption) | (with_reducible apply bel_alloc) | (with_reducible apply bel_drew) | (with_reducible apply bel_drewN) | (with_reducible refine bel_trans ?_ (by with_reducible assumption)) | (with_reducible refine bel_trans ?_ (HF.out _)) | ((with_reducible refine bel_set3 ?_ ?_); rotate_left; omega)))))
                    ((go_at_call 43; refine (add_lack fA fn fc D.D P' C bA qA sA bn bc qn qc sn sc _ (HE.out.certs.up (by (repeat (first | (with_reducible exact Below.refl _ _) | (with_reducible assumption) | (with_reducible apply bel_alloc) | (with_reducible apply bel_drew) | (with_reducible apply bel_drewN) | (with_reducible refine bel_trans ?_ (by with_reducible assumption)) | (with_reducible refine bel_trans ?_ (HF.out _)) | (with_reducible refine bel_set ?_ (by simp) _) | (with_reducible refine bel_set ?_ (by simp; omega) _) | (with_reducible refine bel_set ?_ (by omega) _))))) (HCR.out.up (by (repeat (first | (with_reducible exact Below.refl _ _) | (with_reducible assumption) | (with_reducible apply bel_alloc) | (with_reducible apply bel_drew) | (with_reducible apply bel_drewN) | (with_reducible refine bel_trans ?_ (by with_reducible assumption)) | (with_reducible refine bel_trans ?_ (HF.out _)) | (with_reducible refine bel_set ?_ (by simp) _) | (with_reducible refine bel_set ?_ (by simp; omega) _) | (with_reducible refine bel_set ?_ (by omega) _))))) HAE.out).mono ?_; rintro e w7 ⟨xA, xc, rfl, hb7⟩; (try have hcA := fun o => (bcell hb7).1 wq.heap.size o (by first | (simp; done) | (simp; omega) | omega)); (try have hfA := fun o => (bcell hb7).2 wq.heap.size o (by first | (simp; done) | (simp; omega) | omega)); have hzA := hb7.size; (try simp at hzA)))
                  all_goals
                    go_wp2_with fail
                    go_meet
                    exact ⟨_, xA, xc, rfl, rfl, by (repeat (first | (with_reducible exact Below.refl _ _) | (with_reducible assumption) | (with_reducible apply bel_alloc) | (with_reducible apply bel_drew) | (with_reducible apply bel_drewN) | (with_reducible refine bel_trans ?_ (by with_reducible assumption)) | (with_reducible refine bel_trans ?_ (HF.out _)) | ((with_reducible refine bel_set3 ?_ ?_); rotate_left; omega)))⟩
                case rest =>
                obtain ⟨q, xA, xc, rfl, rfl, hb7⟩ := hcut
                obtain ⟨w7, hw7⟩ : ∃ x, x = wc := ⟨_, rfl⟩
                subst hw7
                obtain ⟨⟨c0, c1, c2, c3, c4, c5⟩, -⟩ := HCL.out w7 hb7
                have hlb7 : lb < w7.heap.size := Nat.lt_of_lt_of_le hlb hb7.size
                obtain ⟨pp, hpp⟩ : ∃ pp : CertP, pp = ⟨⟨⟨bA, bn, bc⟩, ⟨qA, qn, qc⟩⟩, ⟨sA, sn, sc⟩⟩ := ⟨_, rfl⟩
                have hbx := BoxR.new w7 (certCells ⟨⟨⟨bA, bn, bc⟩, ⟨qA, qn, qc⟩⟩, ⟨sA, sn, sc⟩⟩ C) 48
                have hba : Below w7.heap.size w7 (w7.alloc (.cells (certCells ⟨⟨⟨bA, bn, bc⟩, ⟨qA, qn, qc⟩⟩, ⟨sA, sn, sc⟩⟩ C).toArray 48)) := by (repeat (first | (with_reducible exact Below.refl _ _) | (with_reducible assumption) | (with_reducible apply bel_alloc) | (with_reducible apply bel_drew) | (with_reducible apply bel_drewN) | (with_reducible refine bel_trans ?_ (by with_reducible assumption)) | (with_reducible refine bel_trans ?_ (HF.out _)) | ((with_reducible refine bel_set3 ?_ ?_); rotate_left; omega)))
                have hbqa := bel_trans hb7 hba
                have HBX := Lib.hid hbx
                have hAl : A.length ≤ 30 := by rcases HSJ.out.alen with h | ⟨h, _⟩ <;> omega
                have HSJn := HSJ.out.lack (by rw [HLL.out]; exact hlt2) (by rw [HT.out, HCC.out]; exact HPAR.out)
                rw [HT.out, HCC.out] at HSJn
                have HSJ2 := Lib.hid HSJn
                have HGR1 := Lib.hid (grown_below HGR.out hbqa hzq)
                have HGx := Lib.hid (HG.out.up hbqa)
                have HEx := Lib.hid (HE.out.up hbqa)
                have HBx := Lib.hid (HB.out.up hbqa)
                have hzx : wp.heap.size ≤ (w7.alloc (.cells (certCells ⟨⟨⟨bA, bn, bc⟩, ⟨qA, qn, qc⟩⟩, ⟨sA, sn, sc⟩⟩ C).toArray 48)).heap.size := Nat.le_trans hzq hbqa.size
                have HZX := Lib.hid hzx
                clear HSJn hbx hpp pp hzx
                go_wp2_with (first | (go_at_call 44; refine (law14_num _ _).mono ?_; rintro e w' ⟨rfl, rfl⟩) | (at_builtin; refine wpList_appAg rfl (.tmp 91) (.tmp 96) rfl wp.heap.size u7 aps A rfl (HAG.out.up hbqa) _ ⟨⟨⟨bA, bn, bc⟩, ⟨qA, qn, qc⟩⟩, ⟨sA, sn, sc⟩⟩ C rfl HBX.out HCP.out (by omega) HZX.out ?_; intro v8 w8 hA8 hb8 hg8 hat8))
                have HA8 := Lib.hid hA8
                have HG8 := Lib.hid hg8
                have HAT8 := Lib.hid hat8
                clear hA8 hg8 hat8
                (first | (go_round; (case rel => exact ⟨i + 1, P', A ++ [C], aps ++ [_], qs', fA, fn, fc, by omega, by go_num, HSJ2, HA8, Lib.hid (grown_below HGR1.out hb8 (Nat.le_refl _)), Lib.hid (HGx.out.below hb8 hgp), Lib.hid (HEx.out.grow HG8.out HAT8.out), Lib.hid (HBx.out.below hb8 (by omega))⟩); (case measure => (simp [intOf] <;> omega))) | (go_roundw; (case rel => exact ⟨i + 1, P', A ++ [C], aps ++ [_], qs', fA, fn, fc, by omega, by go_num, HSJ2, HA8, Lib.hid (grown_below HGR1.out hb8 (Nat.le_refl _)), Lib.hid (HGx.out.below hb8 hgp), Lib.hid (HEx.out.grow HG8.out HAT8.out), Lib.hid (HBx.out.below hb8 (by omega))⟩); (case measure => (simp [intOf] <;> omega))) | (refine ⟨?_, by simp [intOf] <;> omega⟩; (repeat apply Exists.intro); refine ⟨?rel, ?fr⟩; (case fr => ((repeat' apply And.intro) <;> rfl)); (case rel => exact ⟨i + 1, P', A ++ [C], aps ++ [_], qs', fA, fn, fc, by omega, by go_num, HSJ2, HA8, Lib.hid (grown_below HGR1.out hb8 (Nat.le_refl _)), Lib.hid (HGx.out.below hb8 hgp), Lib.hid (HEx.out.grow HG8.out HAT8.out), Lib.hid (HBx.out.below hb8 (by omega))⟩)))
            · obtain ⟨al, hal⟩ : ∃ al, A.length = al := ⟨_, rfl⟩
              have hi2 : i = m := by omega
              have hSJ2 : StepJ D.D P L kb L.length P' A := by rw [HLL.out, ← hi2]; exact HSJ.out
              obtain ⟨hal2, hPJ⟩ := hSJ2.done (by rw [HLL.out]; exact hm0) HLOW.out
              have hAl : A.length ≤ 30 := by rcases HSJ.out.alen with h | ⟨h, _⟩ <;> omega
              obtain ⟨aA, ac, eav, hAR⟩ := HAG.out.rowA HGR.out hgp (by omega)
              rw [hal] at hal2 hAR eav
              rw [HLL.out] at hal2
              subst eav
              have HAR := Lib.hid hAR
              have HPJ2 := Lib.hid hPJ
              have HE2 := Lib.hid HE.out.none
              have hbk2 : Below wk.heap.size wk wq := hbk.trans (grown_low HGR.out hbk.size hgk)
              have hnm : ((al : Int) == (m : Int)) = false := by simp; omega
              clear hal hi2 hSJ2 hPJ hAR
              go_wp2_with fail
              (first
                | (go_roundw; (case rel => exact ⟨P', A, aA, al, ac, aps, qs', fA, fn, fc, rfl, HPJ2, HAR, HG, HE2, HB, hbk2⟩); (case measure => (simp [slLen] <;> omega)))
                | (refine ⟨?_, by simp [slLen] <;> omega⟩; (repeat apply Exists.intro); refine ⟨?rel, ?fr⟩; (case fr => ((repeat' apply And.intro) <;> rfl)); (case rel => exact ⟨P', A, aA, al, ac, aps, qs', fA, fn, fc, rfl, HPJ2, HAR, HG, HE2, HB, hbk2⟩)))
        · have hmz : m = 0 := by omega
          have hfin := HPJ.out.fin (by rw [HLL.out]; exact hmz) HLOW.out
          have hEc := HE.out.certs
          rw [hfin] at hEc
          have HEC := Lib.hid hEc
          have HNN : Hid (en = dn) := Lib.hid (by rw [← hEc.1, HD.out.1])
          have HDD := Lib.hid ((HD.out.up hbw).up hbk)
          have d_0 := (HG.out.box).2 0 _ rfl; have d_1 := (HG.out.box).2 1 _ rfl; have d_2 := (HG.out.box).2 2 _ rfl
          have b_0 := (HB.out).2 0 _ rfl; have b_1 := (HB.out).2 1 _ rfl; have b_2 := (HB.out).2 2 _ rfl; have b_3 := (HB.out).2 3 _ rfl; have b_4 := (HB.out).2 4 _ rfl; have b_5 := (HB.out).2 5 _ rfl
          have HLO2 : Hid ((0 : Int) = D.D.low) := Lib.hid HLOW.out.symm
          subst hmz
          clear hfin hEc
          go_wp2_with fail
          refine (eqDag2 eA en ec dA dn dc D.D _ _ _ rfl HLO2.out HNN.out HDD.out HEC.out).mono ?_
          rintro e w8 ⟨rfl, hb8⟩
          have HB8 := Lib.hid (HB.out.up hb8)
          have hbw8 := bel_trans hbw (bel_trans hbk hb8)
          clear d_0 d_1 d_2 b_0 b_1 b_2 b_3 b_4 b_5
          go_wp2_with fail
          (first | (go_round; (case rel => exact ⟨k + 1, by omega, by go_num, HB8, hbw8⟩); (case measure => (simp [intOf] <;> omega))) | (go_roundw; (case rel => exact ⟨k + 1, by omega, by go_num, HB8, hbw8⟩); (case measure => (simp [intOf] <;> omega))) | (refine ⟨?_, by simp [intOf] <;> omega⟩; (repeat apply Exists.intro); refine ⟨?rel, ?fr⟩; (case fr => ((repeat' apply And.intro) <;> rfl)); (case rel => exact ⟨k + 1, by omega, by go_num, HB8, hbw8⟩)))
    · have b_0 := (HB.out).2 0 _ rfl; have b_1 := (HB.out).2 1 _ rfl; have b_2 := (HB.out).2 2 _ rfl; have b_3 := (HB.out).2 3 _ rfl; have b_4 := (HB.out).2 4 _ rfl; have b_5 := (HB.out).2 5 _ rfl
      go_wp2_with fail
      refine (law14_wakes _).mono ?_
      rintro e w9 ⟨rfl, hb9⟩
      go_wp2_with fail
      go_ret
      exact ⟨rfl, bel_trans hbw hb9⟩
end Go.Proofs.Ytfkbilbgndekkaa
