/- A worker that may be stays one that may be (plain). -/
import Derived.Test.YtgfakefcmbpboaaSxWhb
import Derived.Test.YtgfakefcmbpboaaSxWsa
import Derived.Test.YtgfakefcmbpboaaSxWm
import Derived.Test.YtgfakefcmbpboaaSxWo
namespace Go.Proofs.Ytgfakefcmbpboaa
open Go.RowKit
set_option linter.unusedSimpArgs false
set_option linter.unusedVariables false

theorem all_getD {α : Type} [Inhabited α] {l : List α} {P : α → Prop} : (∀ k, k < l.length → P (l.getD k default)) ↔ ∀ x ∈ l, P x := by
  constructor
  · intro h x hx
    obtain ⟨j, hj, rfl⟩ := List.getElem_of_mem hx
    have := h j hj
    simpa [List.getD_eq_getElem?_getD, List.getElem?_eq_getElem hj] using this
  · intro h k hk; exact h _ (getD_mem hk)
theorem cris_iff {l : List Int} {n : Int} : crisS l 1 n = true ↔ RisesIn l n := by
  constructor
  · exact risesIn_of
  · intro h; exact dec_iff.2 ⟨fun j hj => h.1 j (j + 1) (by omega) hj, h.2⟩
theorem pair_iff {α : Type} [Inhabited α] {l : List α} {f : α → Int} : l.Pairwise (fun a b => f a < f b) ↔ ∀ k, k < l.length → 0 < k → f (l.getD (k - 1) default) < f (l.getD k default) := by
  constructor
  · intro h k hk h0
    have := List.pairwise_iff_getElem.1 h (k - 1) k (by omega) hk (by omega)
    simpa [List.getD_eq_getElem?_getD, List.getElem?_eq_getElem hk, List.getElem?_eq_getElem (show k - 1 < l.length by omega)] using this
  · intro h
    have main : ∀ d i, i + d + 1 < l.length → f (l.getD i default) < f (l.getD (i + d + 1) default) := fun d => by
      induction d with
      | zero => intro i hi; have := h (i + 1) hi (by omega); simpa using this
      | succ d ih => intro i hi; have := ih i (by omega); have h9 := h (i + d + 1 + 1) (by omega) (by omega); simp only [Nat.add_sub_cancel] at h9; rw [show i + (d + 1) + 1 = i + d + 1 + 1 by omega]; omega
    refine List.pairwise_iff_getElem.2 (fun i j hi hj hij => ?_)
    have := main (j - i - 1) i (by omega)
    rw [show i + (j - i - 1) + 1 = j by omega] at this
    simpa [List.getD_eq_getElem?_getD, List.getElem?_eq_getElem hi, List.getElem?_eq_getElem hj] using this
def WtP (l : List WaitD) (n : Int) : Prop := (∀ x ∈ l, digS x.di = true ∧ RisesIn x.ak n) ∧ l.Pairwise (fun a b => a.di < b.di)
def HdP (l : List HeldD) : Prop := (∀ x ∈ l, digS x.di = true ∧ bmT x.b = true) ∧ l.Pairwise (fun a b => a.di < b.di)
theorem wtP_iff {l : List WaitD} {n : Int} : wtB l n = true ↔ WtP l n := by
  rw [wtB_iff]
  unfold WtP
  rw [← all_getD (l := l) (P := fun x => digS x.di = true ∧ RisesIn x.ak n), pair_iff (f := fun x : WaitD => x.di)]
  constructor
  · intro h; exact ⟨fun k hk => ⟨(h k hk).1, cris_iff.1 (h k hk).2.1⟩, fun k hk h0 => (h k hk).2.2 h0⟩
  · intro h k hk; exact ⟨(h.1 k hk).1, cris_iff.2 (h.1 k hk).2, fun h0 => h.2 k hk h0⟩
theorem hdP_iff {l : List HeldD} : hdB l = true ↔ HdP l := by
  rw [hdB_iff]
  unfold HdP
  rw [← all_getD (l := l) (P := fun x => digS x.di = true ∧ bmT x.b = true), pair_iff (f := fun x : HeldD => x.di)]
  constructor
  · intro h; exact ⟨fun k hk => ⟨(h k hk).1, (h k hk).2.1⟩, fun k hk h0 => (h k hk).2.2 h0⟩
  · intro h k hk; exact ⟨(h.1 k hk).1, (h.1 k hk).2, fun h0 => h.2 k hk h0⟩
theorem txsP_iff {l : List TxD} : txsB l = true ↔ ∀ x ∈ l, txS x = true := by
  rw [txsB_iff, ← all_getD (l := l) (P := fun x => txS x = true)]; exact Iff.rfl
theorem pair_ins {α : Type} [Inhabited α] {l : List α} {f : α → Int} {d : Int} {x : α} (h : l.Pairwise (fun a b => f a < f b)) (hx : f x = d) (hn : ∀ y ∈ l, f y ≠ d) : (insAt l (cnt (fun y => ltI (f y) d) l) x).Pairwise (fun a b => f a < f b) := by
  have hlo : ∀ y ∈ l.take (cnt (fun y => ltI (f y) d) l), f y < d := fun y hy => by have := cnt_take (fun y => ltI (f y) d) l y hy; simpa [ltI] using this
  have hhi : ∀ y ∈ l.drop (cnt (fun y => ltI (f y) d) l), d < f y := fun y hy => by
    obtain ⟨j, hj, rfl⟩ := List.getElem_of_mem hy
    rw [List.getElem_drop]
    rw [List.length_drop] at hj
    have h0 := cnt_stop (fun y => ltI (f y) d) l (by omega)
    have h1 : ¬ f (l.getD (cnt (fun y => ltI (f y) d) l) default) < d := by simpa [ltI] using h0
    have h2 := hn (l.getD (cnt (fun y => ltI (f y) d) l) default) (getD_mem (by omega))
    rcases Nat.eq_zero_or_pos j with rfl | hj0
    · have e : l.getD (cnt (fun y => ltI (f y) d) l) default = l[cnt (fun y => ltI (f y) d) l + 0]'(by omega) := by simp [List.getD_eq_getElem?_getD, List.getElem?_eq_getElem (show cnt (fun y => ltI (f y) d) l < l.length by omega)]
      rw [e] at h1 h2
      omega
    · have := List.pairwise_iff_getElem.1 h (cnt (fun y => ltI (f y) d) l) (cnt (fun y => ltI (f y) d) l + j) (by omega) (by omega) (by omega)
      have e : l.getD (cnt (fun y => ltI (f y) d) l) default = l[cnt (fun y => ltI (f y) d) l]'(by omega) := by simp [List.getD_eq_getElem?_getD, List.getElem?_eq_getElem (show cnt (fun y => ltI (f y) d) l < l.length by omega)]
      rw [e] at h1
      omega
  unfold insAt
  rw [List.pairwise_append]
  refine ⟨h.sublist (List.take_sublist _ _), ?_, fun a ha b hb => ?_⟩
  · rw [List.pairwise_cons]
    exact ⟨fun y hy => by rw [hx]; exact hhi y hy, h.sublist (List.drop_sublist _ _)⟩
  · have h1 := hlo a ha
    rcases List.mem_cons.1 hb with rfl | hb
    · rw [hx]; exact h1
    · have := hhi b hb; omega
theorem khasH_no {l : List HeldD} {d : Int} (hs : l.Pairwise (fun a b => a.di < b.di)) (h : khasH l d = false) : ∀ y ∈ l, y.di ≠ d := fun y hy e => by
  obtain ⟨j, hj, rfl⟩ := List.getElem_of_mem hy
  have hp := List.pairwise_iff_getElem.1 hs
  have hpos : kposH l d = j := cnt_eq _ l j (by omega) (fun t ht => by
    have := hp t j (by omega) hj ht
    simp only [List.getD_eq_getElem?_getD, List.getElem?_eq_getElem (show t < l.length by omega), Option.getD_some, ltI, decide_eq_true_eq]; omega) (fun _ => by
    simp only [List.getD_eq_getElem?_getD, List.getElem?_eq_getElem hj, Option.getD_some, ltI, decide_eq_false_iff_not]; omega)
  have : khasH l d = true := by
    show dec _ = true
    refine dec_iff.2 ?_
    rw [hpos]
    exact ⟨hj, by simp only [hth, List.getD_eq_getElem?_getD, List.getElem?_eq_getElem hj, Option.getD_some]; exact e⟩
  rw [h] at this; cases this
theorem khasW_no {l : List WaitD} {d : Int} (hs : l.Pairwise (fun a b => a.di < b.di)) (h : khasW l d = false) : ∀ y ∈ l, y.di ≠ d := fun y hy e => by
  obtain ⟨j, hj, rfl⟩ := List.getElem_of_mem hy
  have hp := List.pairwise_iff_getElem.1 hs
  have hpos : kposW l d = j := cnt_eq _ l j (by omega) (fun t ht => by
    have := hp t j (by omega) hj ht
    simp only [List.getD_eq_getElem?_getD, List.getElem?_eq_getElem (show t < l.length by omega), Option.getD_some, ltI, decide_eq_true_eq]; omega) (fun _ => by
    simp only [List.getD_eq_getElem?_getD, List.getElem?_eq_getElem hj, Option.getD_some, ltI, decide_eq_false_iff_not]; omega)
  have : khasW l d = true := by
    show dec _ = true
    refine dec_iff.2 ?_
    rw [hpos]
    exact ⟨hj, by simp only [wth, List.getD_eq_getElem?_getD, List.getElem?_eq_getElem hj, Option.getD_some]; exact e⟩
  rw [h] at this; cases this
theorem HdP.ins {l : List HeldD} {d : Int} {b : BatchD} (h : HdP l) (hd : digS d = true) (hb : bmT b = true) (hk : khasH l d = false) : HdP (insAt l (kposH l d) ⟨d, b⟩) :=
  ⟨fun x hx => by
    rcases insAt_mem hx with rfl | hx
    · exact ⟨hd, hb⟩
    · exact h.1 x hx, pair_ins (f := fun y : HeldD => y.di) h.2 rfl (khasH_no h.2 hk)⟩
theorem WtP.ins {l : List WaitD} {d n : Int} {ak : List Int} (h : WtP l n) (hd : digS d = true) (hb : RisesIn ak n) (hk : khasW l d = false) : WtP (insAt l (kposW l d) ⟨d, ak⟩) n :=
  ⟨fun x hx => by
    rcases insAt_mem hx with rfl | hx
    · exact ⟨hd, hb⟩
    · exact h.1 x hx, pair_ins (f := fun y : WaitD => y.di) h.2 rfl (khasW_no h.2 hk)⟩
theorem WtP.kept {l : List WaitD} {n m : Int} (h : WtP l n) : WtP (keptW m l) n :=
  ⟨fun x hx => h.1 x (List.mem_filter.1 (show x ∈ List.filter _ _ from hx)).1, h.2.sublist (show (keptW m l).Sublist l from List.filter_sublist)⟩
theorem keptR_seen {n : Int} : ∀ (l : List WaitD) (r : List Int), Seen r → (∀ x ∈ l, digS x.di = true) → Seen (keptR n r l)
  | [], r, hr, _ => hr
  | x :: l, r, hr, hd => by
    unfold keptR
    refine keptR_seen l _ ?_ (fun y hy => hd y (List.mem_cons_of_mem _ hy))
    split
    · exact hr
    · split
      · exact hr
      · rename_i hm
        have hxd := hd x (List.mem_cons_self ..)
        refine ⟨within_app.2 ⟨hr.1, fun j hj => ?_⟩, ?_⟩
        · have hj0 : j = 0 := by simpa using hj
          subst hj0
          have : 1 ≤ x.di ∧ x.di ≤ 65536 := by simpa [digS] using hxd
          exact this
        · rw [List.nodup_append]
          refine ⟨hr.2, by simp, fun a ha b hb e => ?_⟩
          have hb2 : b = x.di := by simpa using hb
          subst hb2; subst e
          exact hm (by unfold memS; exact decide_eq_true ha)
theorem ackW_wtP {l : List WaitD} {n who d : Int} (h : WtP l n) (h1 : 1 ≤ who) (h2 : who ≤ n) : WtP (ackW l who d) n := by
  refine ⟨fun x hx => ?_, ?_⟩
  · rcases ackW_mem hx with hx | ⟨y, hy, rfl⟩
    · exact h.1 x hx
    · exact ⟨(h.1 y hy).1, ackI_rise (h.1 y hy).2 h1 h2⟩
  · cases hk : khasW l d
    · rw [ackW_no hk]; exact h.2
    · rw [ackW_yes rfl hk]
      obtain ⟨g1, g2⟩ := khasW_lt7 rfl hk
      rw [List.pairwise_iff_getElem]
      intro i j hi hj hij
      rw [List.length_set] at hi hj
      have := List.pairwise_iff_getElem.1 h.2 i j hi hj hij
      have e : ∀ (t : Nat) (ht : t < l.length), ((l.set (kposW l d) ⟨(wth l (kposW l d)).di, ackI (wth l (kposW l d)).ak who⟩)[t]'(by rw [List.length_set]; exact ht)).di = (l[t]'ht).di := fun t ht => by
        rw [List.getElem_set]
        split
        · rename_i e; subst e; simp only [wth, List.getD_eq_getElem?_getD, List.getElem?_eq_getElem ht, Option.getD_some]
        · rfl
      rw [e i hi, e j hj]; exact this
/-- What a worker that may be is, in lists. -/
structure WMay (D : WorkD) : Prop where
  nodes : isS D.nodes = true
  id1 : 1 ≤ D.id
  id2 : D.id ≤ D.nodes
  next : 1 ≤ D.next ∧ D.next ≤ 1099511627776
  age : 0 ≤ D.age ∧ D.age ≤ 1099511627776
  clock : 0 ≤ D.clock ∧ D.clock ≤ 1099511627776
  opl : D.op.length ≤ 64
  hel : D.he.length ≤ 1024
  op : ∀ x ∈ D.op, txS x = true
  wa : WtP D.wa D.nodes
  he : HdP D.he
  re : Seen D.re
theorem wmay_iff {D : WorkD} : mayW D = true ↔ WMay D := by
  rw [mayW_iff]
  unfold MayW
  rw [numB_iff, numB_iff, numB_iff, txsP_iff, wtP_iff, hdP_iff, seenB_iff]
  constructor
  · rintro ⟨h1, h2, h3, h4, h5, h6, h7, h8, h9, h10, h11, h12⟩; exact ⟨h1, h2, h3, h4, h5, h6, h7, h8, h9, h10, h11, h12⟩
  · rintro ⟨h1, h2, h3, h4, h5, h6, h7, h8, h9, h10, h11, h12⟩; exact ⟨h1, h2, h3, h4, h5, h6, h7, h8, h9, h10, h11, h12⟩
theorem WMay.add {D : WorkD} (h : WMay D) {t : TxD} (ht : txS t = true) (hl : D.op.length < 64) : WMay (addOp D t) :=
  { h with opl := by show (D.op ++ [t]).length ≤ 64; simp; omega
           op := fun x hx => by
             rcases List.mem_append.1 (show x ∈ D.op ++ [t] from hx) with hx | hx
             · exact h.op x hx
             · have : x = t := by simpa using hx
               subst this; exact ht }
theorem WMay.told {D : WorkD} (h : WMay D) {who d : Int} (h1 : 1 ≤ who) (h2 : who ≤ D.nodes) : WMay (toldD D who d) :=
  { h with wa := (ackW_wtP h.wa h1 h2).kept
           re := keptR_seen _ _ h.re (fun x hx => ((ackW_wtP h.wa h1 h2).1 x hx).1) }
theorem nxD_bm {D : WorkD} (h : WMay D) (hE : nxE D = 0) : bmT (nxD D) = true := by
  obtain ⟨e1, e2, e3⟩ := nxE_zero hE
  have hn := isS_bd h.nodes
  refine bmT_iff.2 ⟨h.id1, by have := h.id2; show D.id ≤ 16; omega, h.next.1, h.next.2, ?_, ?_, fun j hj => ?_⟩
  · show 1 ≤ (D.op.take 8).length; rw [List.length_take]; omega
  · show (D.op.take 8).length ≤ 8; rw [List.length_take]; omega
  · exact h.op _ (List.mem_of_mem_take (getD_mem (l := D.op.take 8) hj))
theorem sealW_wtP {D : WorkD} {d : Int} (h : WMay D) (hd : digS d = true) : WtP (sealW D d) D.nodes := by
  unfold sealW
  split
  · exact h.wa
  · rename_i hk
    exact h.wa.ins hd ⟨fun i j hij hj => by simp at hj; omega, fun j hj => by (obtain rfl : j = 0 := by simpa using hj); exact ⟨h.id1, h.id2⟩⟩ (by simpa using hk)
theorem WMay.seal {D : WorkD} (h : WMay D) {d : Int} (hE : nxE D = 0) (hd : digS d = true) (hk : khasH D.he d = false) : WMay (sealD D d) := by
  obtain ⟨e1, e2, e3⟩ := nxE_zero hE
  exact { nodes := h.nodes, id1 := h.id1, id2 := h.id2, clock := h.clock,
          next := ⟨by have := h.next.1; show 1 ≤ D.next + 1; omega, by show D.next + 1 ≤ _; omega⟩
          age := ⟨by show (0 : Int) ≤ 0; omega, by show (0 : Int) ≤ _; omega⟩
          opl := by have := h.opl; show (D.op.drop 8).length ≤ 64; rw [List.length_drop]; omega
          hel := by show (insAt D.he (kposH D.he d) _).length ≤ 1024; rw [insAt_len (show kposH D.he d ≤ D.he.length from cnt_le _ _)]; omega
          op := fun x hx => h.op x (List.mem_of_mem_drop (show x ∈ D.op.drop 8 from hx))
          wa := (sealW_wtP h hd).kept
          he := h.he.ins hd (nxD_bm h hE) hk
          re := keptR_seen _ _ h.re (fun x hx => ((sealW_wtP h hd).1 x hx).1) }
theorem WMay.tick {D : WorkD} (h : WMay D) : WMay (tickD D) :=
  { h with clock := by have := h.clock; show 0 ≤ min (D.clock + 1) 1099511627776 ∧ min (D.clock + 1) 1099511627776 ≤ 1099511627776; omega
           age := by
             have := h.age
             show 0 ≤ (if 0 < D.op.length then min (D.age + 1) 1099511627776 else D.age) ∧ (if 0 < D.op.length then min (D.age + 1) 1099511627776 else D.age) ≤ 1099511627776
             split <;> omega }
theorem WMay.hold {D : WorkD} (h : WMay D) {d : Int} {b : BatchD} (hd : digS d = true) (hb : bmT b = true) (hk : khasH D.he d = false) (hl : D.he.length < 1024) : WMay (holdD D d b) :=
  { h with hel := by show (insAt D.he (kposH D.he d) _).length ≤ 1024; rw [insAt_len (show kposH D.he d ≤ D.he.length from cnt_le _ _)]; omega
           he := h.he.ins hd hb hk }
end Go.Proofs.Ytgfakefcmbpboaa
