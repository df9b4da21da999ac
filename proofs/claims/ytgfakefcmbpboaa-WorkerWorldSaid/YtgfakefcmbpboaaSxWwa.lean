/- WorkerWorld: what holds of the workers, the messages on their way, the batches made (plain). -/
import Derived.Test.YtgfakefcmbpboaaSxWqa
import Derived.Test.YtgfakefcmbpboaaSxWmi
import Derived.Test.YtgfakefcmbpboaaSxWcn
import Derived.Test.YtgfakefcmbpboaaSxWgi
namespace Go.Proofs.Ytgfakefcmbpboaa
open Go.RowKit
set_option linter.unusedSimpArgs false
set_option linter.unusedVariables false

def nilWD : WorkD := ⟨0, 0, 0, [], 0, 0, [], [], []⟩
def wk (ws : List WorkD) (k : Nat) : WorkD := ws.getD k nilWD
theorem wk_set {ws : List WorkD} {k : Nat} {D : WorkD} (hk : k < ws.length) (j : Nat) : wk (ws.set k D) j = if j = k then D else wk ws j := by
  unfold wk
  simp only [List.getD_eq_getElem?_getD]
  by_cases h : j = k
  · subst h; rw [if_pos rfl, List.getElem?_set, if_pos rfl, if_pos hk]; rfl
  · rw [if_neg h, List.getElem?_set, if_neg (fun e => h e.symm)]
def has (D : WorkD) (d : Int) : Prop := ∃ h ∈ D.he, h.di = d
theorem has_iff {D : WorkD} (h : WMay D) (d : Int) : khasH D.he d = true ↔ has D d := by
  constructor
  · intro hk
    have h1 : kposH D.he d < D.he.length ∧ (hth D.he (kposH D.he d)).di = d := dec_iff.1 hk
    exact ⟨_, getD_mem h1.1, h1.2⟩
  · rintro ⟨x, hx, e⟩
    cases hk : khasH D.he d
    · exact absurd e (khasH_no h.he.2 hk x hx)
    · rfl
/-- Worker a (1, 2, ..) holds d. -/
def Holds (n : Nat) (ws : List WorkD) (a d : Int) : Prop := 1 ≤ a ∧ a ≤ n ∧ has (wk ws (a.toNat - 1)) d
/-- How many of the first j workers hold d. -/
noncomputable def cntH (ws : List WorkD) (d : Int) : Nat → Nat
  | 0 => 0
  | j + 1 => cntH ws d j + if khasH (wk ws j).he d = true then 1 else 0
def bkth (book : List BatchD) (d : Int) : BatchD := book.getD (d.toNat - 1) ⟨0, 0, []⟩
/-- A held batch is its digest's. -/
def InBook (book : List BatchD) (d : Int) (b : BatchD) : Prop := 1 ≤ d ∧ d ≤ book.length ∧ bkth book d = b
/-- A message on its way. -/
def OkMsg (n : Nat) (ws : List WorkD) (book : List BatchD) (m : MsgD) : Prop :=
  ∃ fr tt : Int, 1 ≤ fr ∧ fr ≤ n ∧ 1 ≤ tt ∧ tt ≤ n ∧ fr ≠ tt ∧ ((∃ d b, m = askM fr d b tt ∧ InBook book d b) ∨ (∃ d, m = tellM fr tt d ∧ 1 ≤ d ∧ d ≤ book.length ∧ Holds n ws fr d))
/-- What a worker notes. -/
def OkWait (n : Nat) (ws : List WorkD) (book : List BatchD) (x : WaitD) : Prop := 1 ≤ x.di ∧ x.di ≤ book.length ∧ ∀ a ∈ x.ak, Holds n ws a x.di
def OkReady (n : Nat) (ws : List WorkD) (book : List BatchD) (d : Int) : Prop := 1 ≤ d ∧ d ≤ book.length ∧ 2 * (((n : Int) - 1) / 3) + 1 ≤ cntH ws d n
structure OkW (n : Nat) (ws : List WorkD) (book : List BatchD) (k : Nat) (D : WorkD) : Prop where
  may : WMay D
  id : D.id = (k : Int) + 1
  nodes : D.nodes = n
  he : ∀ h ∈ D.he, InBook book h.di h.b
  wa : ∀ x ∈ D.wa, OkWait n ws book x
  re : ∀ d ∈ D.re, OkReady n ws book d
structure WorldI (n : Nat) (ws : List WorkD) (way : List MsgD) (book : List BatchD) : Prop where
  nn : isS (n : Int) = true
  len : ws.length = n
  w : ∀ k, k < n → OkW n ws book k (wk ws k)
  way : ∀ m ∈ way, OkMsg n ws book m
  book : ∀ b ∈ book, bmT b = true ∧ b.au ≤ n
/-- ws' holds at least what ws holds. -/
def More (n : Nat) (ws ws' : List WorkD) : Prop := ∀ k, k < n → ∀ h ∈ (wk ws k).he, h ∈ (wk ws' k).he
theorem More.set {n : Nat} {ws : List WorkD} {k : Nat} {D : WorkD} (hl : ws.length = n) (hk : k < n) (h : ∀ x ∈ (wk ws k).he, x ∈ D.he) : More n ws (ws.set k D) := fun j hj x hx => by
  rw [wk_set (by omega)]
  split
  · rename_i e; subst e; exact h x hx
  · exact hx
theorem Holds.more {n : Nat} {ws ws' : List WorkD} {a d : Int} (h : Holds n ws a d) (hm : More n ws ws') : Holds n ws' a d := by
  obtain ⟨h1, h2, x, hx, e⟩ := h
  exact ⟨h1, h2, x, hm _ (by omega) x hx, e⟩
theorem cntH_more {n : Nat} {ws ws' : List WorkD} {d : Int} (hw : ∀ k, k < n → WMay (wk ws k)) (hw' : ∀ k, k < n → WMay (wk ws' k)) (hm : More n ws ws') : ∀ j, j ≤ n → cntH ws d j ≤ cntH ws' d j := fun j => by
  induction j with
  | zero => intro _; exact Nat.le_refl _
  | succ j ih =>
    intro hj
    have := ih (by omega)
    rw [cntH, cntH]
    by_cases h : khasH (wk ws j).he d = true
    · have h2 : khasH (wk ws' j).he d = true := by
        obtain ⟨x, hx, e⟩ := (has_iff (hw j (by omega)) d).1 h
        exact (has_iff (hw' j (by omega)) d).2 ⟨x, hm j (by omega) x hx, e⟩
      rw [if_pos h, if_pos h2]; omega
    · rw [if_neg h]; omega
theorem InBook.more {book : List BatchD} {d : Int} {b : BatchD} (h : InBook book d b) (l : List BatchD) : InBook (book ++ l) d b := by
  obtain ⟨h1, h2, h3⟩ := h
  refine ⟨h1, by rw [List.length_append]; omega, ?_⟩
  rw [← h3]
  unfold bkth
  simp only [List.getD_eq_getElem?_getD]
  rw [List.getElem?_append_left (by omega)]
theorem OkMsg.more {n : Nat} {ws ws' : List WorkD} {book : List BatchD} {m : MsgD} (h : OkMsg n ws book m) (hm : More n ws ws') (l : List BatchD) : OkMsg n ws' (book ++ l) m := by
  obtain ⟨fr, tt, h1, h2, h3, h4, h5, h6⟩ := h
  refine ⟨fr, tt, h1, h2, h3, h4, h5, ?_⟩
  rcases h6 with ⟨d, b, e, hb⟩ | ⟨d, e, g1, g2, g3⟩
  · exact .inl ⟨d, b, e, hb.more l⟩
  · exact .inr ⟨d, e, g1, by rw [List.length_append]; omega, g3.more hm⟩
theorem OkWait.more {n : Nat} {ws ws' : List WorkD} {book : List BatchD} {x : WaitD} (h : OkWait n ws book x) (hm : More n ws ws') (l : List BatchD) : OkWait n ws' (book ++ l) x :=
  ⟨h.1, by have := h.2.1; rw [List.length_append]; omega, fun a ha => (h.2.2 a ha).more hm⟩
theorem OkReady.more {n : Nat} {ws ws' : List WorkD} {book : List BatchD} {d : Int} (h : OkReady n ws book d) (hw : ∀ k, k < n → WMay (wk ws k)) (hw' : ∀ k, k < n → WMay (wk ws' k)) (hm : More n ws ws') (l : List BatchD) : OkReady n ws' (book ++ l) d :=
  ⟨h.1, by have := h.2.1; rw [List.length_append]; omega, by have := h.2.2; have := cntH_more (d := d) hw hw' hm n (Nat.le_refl _); omega⟩
/-- One worker goes on. -/
theorem WorldI.set {n : Nat} {ws : List WorkD} {way : List MsgD} {book : List BatchD} (h : WorldI n ws way book) {k : Nat} {D : WorkD} {L : List MsgD} {l : List BatchD} (hk : k < n) (hmo : ∀ x ∈ (wk ws k).he, x ∈ D.he)
    (hmay : WMay D) (hid : D.id = (k : Int) + 1) (hno : D.nodes = n)
    (hhe : ∀ x ∈ D.he, InBook (book ++ l) x.di x.b) (hwa : ∀ x ∈ D.wa, OkWait n (ws.set k D) (book ++ l) x) (hre : ∀ d ∈ D.re, OkReady n (ws.set k D) (book ++ l) d)
    (hL : ∀ m ∈ L, OkMsg n (ws.set k D) (book ++ l) m) (hl : ∀ b ∈ l, bmT b = true ∧ b.au ≤ n) : WorldI n (ws.set k D) (way ++ L) (book ++ l) := by
  have hm := More.set (D := D) h.len hk hmo
  have hw' : ∀ j, j < n → WMay (wk (ws.set k D) j) := fun j hj => by
    rw [wk_set (by rw [h.len]; exact hk)]
    split
    · exact hmay
    · exact (h.w j hj).may
  refine ⟨h.nn, by rw [List.length_set]; exact h.len, fun j hj => ?_, fun m hmm => ?_, fun b hb => ?_⟩
  · rw [wk_set (by rw [h.len]; exact hk)]
    split
    · rename_i e; subst e; exact ⟨hmay, hid, hno, hhe, hwa, hre⟩
    · have o := h.w j hj
      exact ⟨o.may, o.id, o.nodes, fun x hx => (o.he x hx).more l, fun x hx => (o.wa x hx).more hm l, fun d hd => (o.re d hd).more (fun k hk => (h.w k hk).may) hw' hm l⟩
  · rcases List.mem_append.1 hmm with hmm | hmm
    · exact (h.way m hmm).more hm l
    · exact hL m hmm
  · rcases List.mem_append.1 hb with hb | hb
    · exact h.book b hb
    · exact hl b hb
theorem holds_self {n : Nat} {ws : List WorkD} {k : Nat} {D : WorkD} {d : Int} (hl : ws.length = n) (hk : k < n) (hd : has D d) : Holds n (ws.set k D) ((k : Int) + 1) d :=
  ⟨by omega, by omega, by
    have e : ((k : Int) + 1).toNat - 1 = k := by omega
    rw [e, wk_set (by omega), if_pos rfl]; exact hd⟩
/-- As many hold as acknowledged. -/
theorem cntK_cntH {n : Nat} {ws : List WorkD} {l : List Int} {d : Int} (hw : ∀ k, k < n → WMay (wk ws k)) (h : ∀ a ∈ l, Holds n ws a d) : ∀ j, j ≤ n → cntK l j ≤ cntH ws d j := fun j => by
  induction j with
  | zero => intro _; exact Nat.le_refl _
  | succ j ih =>
    intro hj
    have := ih (by omega)
    rw [cntK, cntH]
    by_cases hm : memS l ((j : Int) + 1) = true
    · have h1 := h _ (of_decide_eq_true hm)
      have h2 : khasH (wk ws j).he d = true := (has_iff (hw j (by omega)) d).2 (by
        have e : ((j : Int) + 1).toNat - 1 = j := by omega
        have := h1.2.2
        rwa [e] at this)
      rw [if_pos hm, if_pos h2]; omega
    · rw [if_neg hm]; omega
theorem ready_of {n : Nat} {ws : List WorkD} {book : List BatchD} {x : WaitD} (hw : ∀ k, k < n → WMay (wk ws k)) (hx : OkWait n ws book x) (hr : RisesIn x.ak n) (hq : ¬ (x.ak.length : Int) < qS n) : OkReady n ws book x.di := by
  refine ⟨hx.1, hx.2.1, ?_⟩
  have h1 := hr.cnt (by omega)
  have h2 := cntK_cntH hw hx.2.2 n (Nat.le_refl _)
  have e : (n : Int).toNat = n := by omega
  rw [e] at h1
  unfold qS at hq
  omega
theorem keptR_ok {n : Nat} {ws : List WorkD} {book : List BatchD} (hw : ∀ k, k < n → WMay (wk ws k)) : ∀ (l : List WaitD) (r : List Int), (∀ x ∈ l, OkWait n ws book x ∧ RisesIn x.ak n) → (∀ d ∈ r, OkReady n ws book d) → ∀ d ∈ keptR (n : Int) r l, OkReady n ws book d
  | [], r, _, hr => hr
  | x :: l, r, hl, hr => by
    unfold keptR
    refine keptR_ok hw l _ (fun y hy => hl y (List.mem_cons_of_mem _ hy)) ?_
    have hx := hl x (List.mem_cons_self ..)
    split
    · exact hr
    · rename_i hq
      split
      · exact hr
      · intro d hd
        rcases List.mem_append.1 hd with hd | hd
        · exact hr d hd
        · have e : d = x.di := by simpa using hd
          rw [e]; exact ready_of hw hx.1 hx.2 hq
theorem askL_mem {id d : Int} {b : BatchD} {nt : List Int} {m : MsgD} : ∀ {k : Nat}, m ∈ askL id d b nt k → ∃ t : Int, 1 ≤ t ∧ t ≤ k ∧ t ≠ id ∧ m = askM id d b t
  | 0, h => by cases h
  | k + 1, h => by
    rw [askL] at h
    rcases List.mem_append.1 h with h | h
    · obtain ⟨t, h1, h2, h3⟩ := askL_mem h
      exact ⟨t, h1, by omega, h3⟩
    · split at h
      · rename_i hc
        have e : m = askM id d b ((k : Int) + 1) := by simpa using h
        exact ⟨(k : Int) + 1, by omega, by omega, hc.1, e⟩
      · cases h
theorem askL_ok {n : Nat} {ws : List WorkD} {book : List BatchD} {id d : Int} {b : BatchD} {nt : List Int} (h1 : 1 ≤ id) (h2 : id ≤ n) (hb : InBook book d b) : ∀ m ∈ askL id d b nt n, OkMsg n ws book m := fun m hm => by
  obtain ⟨t, g1, g2, g3, e⟩ := askL_mem hm
  exact ⟨id, t, h1, h2, g1, by omega, fun h => g3 h.symm, .inl ⟨d, b, e, hb⟩⟩
theorem waitsL_ok {n : Nat} {ws : List WorkD} {book : List BatchD} {D : WorkD} {k : Nat} (h : OkW n ws book k D) : ∀ j, j ≤ D.wa.length → ∀ m ∈ waitsL D j, OkMsg n ws book m := fun j => by
  induction j with
  | zero => intro _ m hm; cases hm
  | succ j ih =>
    intro hj m hm
    rw [waitsL] at hm
    rcases List.mem_append.1 hm with hm | hm
    · exact ih (by omega) m hm
    · split at hm
      · rename_i hk
        have h1 : kposH D.he (wth D.wa j).di < D.he.length ∧ (hth D.he (kposH D.he (wth D.wa j).di)).di = (wth D.wa j).di := dec_iff.1 hk
        have h2 := h.he _ (getD_mem h1.1)
        have e : D.nodes.toNat = n := by rw [h.nodes]; omega
        rw [e] at hm
        refine askL_ok (by have := h.may.id1; omega) (by have := h.may.id2; rw [h.nodes] at this; exact this) ?_ m hm
        have h3 : InBook book (hth D.he (kposH D.he (wth D.wa j).di)).di (hth D.he (kposH D.he (wth D.wa j).di)).b := h2
        rwa [h1.2] at h3
      · cases hm
/-- A transaction comes in. -/
theorem WorldI.add {n : Nat} {ws : List WorkD} {way : List MsgD} {book : List BatchD} (h : WorldI n ws way book) {k : Nat} (hk : k < n) {t : TxD} (ht : txS t = true) (hl : (wk ws k).op.length < 64) : WorldI n (ws.set k (addOp (wk ws k) t)) way book := by
  have o := h.w k hk
  have hm := More.set (D := addOp (wk ws k) t) h.len hk (fun x hx => hx)
  have := h.set (D := addOp (wk ws k) t) (L := []) (l := []) hk (fun x hx => hx) (o.may.add ht hl) o.id o.nodes (fun x hx => (o.he x hx).more []) (fun x hx => (o.wa x hx).more hm []) (fun d hd => (o.re d hd).more (fun k hk => (h.w k hk).may) (fun j hj => by
    rw [wk_set (by rw [h.len]; exact hk)]
    split
    · exact o.may.add ht hl
    · exact (h.w j hj).may) hm []) (fun m hm => by cases hm) (fun b hb => by cases hb)
  simpa using this
/-- A tick. -/
theorem WorldI.tick {n : Nat} {ws : List WorkD} {way : List MsgD} {book : List BatchD} (h : WorldI n ws way book) {k : Nat} (hk : k < n) : WorldI n (ws.set k (tickD (wk ws k))) (way ++ tickL (wk ws k)) book := by
  have o := h.w k hk
  have hm := More.set (D := tickD (wk ws k)) h.len hk (fun x hx => hx)
  have := h.set (D := tickD (wk ws k)) (L := tickL (wk ws k)) (l := []) hk (fun x hx => hx) o.may.tick o.id o.nodes (fun x hx => (o.he x hx).more []) (fun x hx => (o.wa x hx).more hm []) (fun d hd => (o.re d hd).more (fun k hk => (h.w k hk).may) (fun j hj => by
    rw [wk_set (by rw [h.len]; exact hk)]
    split
    · exact o.may.tick
    · exact (h.w j hj).may) hm []) (fun m hmm => by
      unfold tickL at hmm
      split at hmm
      · exact (waitsL_ok o _ (Nat.le_refl _) m hmm).more hm []
      · cases hmm) (fun b hb => by cases hb)
  simpa using this
theorem bth_bm {n : Nat} {ws : List WorkD} {way : List MsgD} {book : List BatchD} (h : WorldI n ws way book) {d : Int} {b : BatchD} (hb : InBook book d b) : bmT b = true ∧ b.au ≤ n := by
  obtain ⟨h1, h2, h3⟩ := hb
  rw [← h3]
  have : bkth book d ∈ book := by
    unfold bkth
    simp only [List.getD_eq_getElem?_getD]
    rw [List.getElem?_eq_getElem (by omega)]
    exact List.getElem_mem ..
  exact h.book _ this
/-- A worker is asked to keep a batch. -/
theorem WorldI.asked {n : Nat} {ws : List WorkD} {way : List MsgD} {book : List BatchD} (h : WorldI n ws way book) (hbl : book.length ≤ 65536) {k : Nat} (hk : k < n) {fr d : Int} {b : BatchD} (h1 : 1 ≤ fr) (h2 : fr ≤ n) (h3 : fr ≠ (k : Int) + 1) (hb : InBook book d b) :
    WorldI n (ws.set k (heldD (wk ws k) (askM fr d b ((k : Int) + 1)))) (way ++ heldL (wk ws k) (askM fr d b ((k : Int) + 1))) book := by
  have o := h.w k hk
  have hd : digS d = true := by have := hb.1; have := hb.2.1; simp [digS]; omega
  have hbm := bth_bm h hb
  by_cases hc : khasH (wk ws k).he d = false ∧ (wk ws k).he.length < 1024
  · have e : heldD (wk ws k) (askM fr d b ((k : Int) + 1)) = holdD (wk ws k) d b := if_pos hc
    rw [e]
    have hmo : ∀ x ∈ (wk ws k).he, x ∈ (holdD (wk ws k) d b).he := fun x hx => by
      show x ∈ insAt (wk ws k).he _ _
      unfold insAt
      rw [← List.take_append_drop (kposH (wk ws k).he d) (wk ws k).he] at hx
      rcases List.mem_append.1 hx with hx | hx
      · exact List.mem_append_left _ hx
      · exact List.mem_append_right _ (List.mem_cons_of_mem _ hx)
    have hmay := o.may.hold (d := d) (b := b) hd hbm.1 hc.1 hc.2
    have hm := More.set (D := holdD (wk ws k) d b) h.len hk hmo
    have := h.set (D := holdD (wk ws k) d b) (L := heldL (wk ws k) (askM fr d b ((k : Int) + 1))) (l := []) hk hmo hmay o.id o.nodes (fun x hx => by
      rcases insAt_mem (show x ∈ insAt (wk ws k).he _ _ from hx) with rfl | hx
      · exact hb.more []
      · exact (o.he x hx).more []) (fun x hx => (o.wa x hx).more hm []) (fun d hd => (o.re d hd).more (fun k hk => (h.w k hk).may) (fun j hj => by
        rw [wk_set (by rw [h.len]; exact hk)]
        split
        · exact hmay
        · exact (h.w j hj).may) hm []) (fun m hmm => by
        unfold heldL at hmm
        split at hmm
        · have em : m = tellM (wk ws k).id fr d := List.mem_singleton.1 hmm
          rw [em, o.id]
          exact ⟨(k : Int) + 1, fr, by omega, by omega, h1, h2, fun e => h3 e.symm, .inr ⟨d, rfl, hb.1, by rw [List.append_nil]; exact hb.2.1, holds_self h.len hk ⟨⟨d, b⟩, by
            show _ ∈ insAt (wk ws k).he _ _
            unfold insAt
            exact List.mem_append_right _ (List.mem_cons_self ..), rfl⟩⟩⟩
        · cases hmm) (fun b hb => by cases hb)
    simpa using this
  · have e : heldD (wk ws k) (askM fr d b ((k : Int) + 1)) = wk ws k := if_neg hc
    rw [e]
    have hmo : ∀ x ∈ (wk ws k).he, x ∈ (wk ws k).he := fun x hx => hx
    have hm := More.set (D := wk ws k) h.len hk hmo
    have := h.set (D := wk ws k) (L := heldL (wk ws k) (askM fr d b ((k : Int) + 1))) (l := []) hk hmo o.may o.id o.nodes (fun x hx => (o.he x hx).more []) (fun x hx => (o.wa x hx).more hm []) (fun d hd => (o.re d hd).more (fun k hk => (h.w k hk).may) (fun j hj => by
        rw [wk_set (by rw [h.len]; exact hk)]
        split
        · exact o.may
        · exact (h.w j hj).may) hm []) (fun m hmm => by
        unfold heldL at hmm
        split at hmm
        · rename_i hh
          have em : m = tellM (wk ws k).id fr d := List.mem_singleton.1 hmm
          have hk2 : khasH (wk ws k).he d = true := by
            rcases hh.2 with g | g
            · exact g
            · cases hz : khasH (wk ws k).he d
              · exact absurd ⟨hz, g⟩ hc
              · rfl
          rw [em, o.id]
          exact ⟨(k : Int) + 1, fr, by omega, by omega, h1, h2, fun e => h3 e.symm, .inr ⟨d, rfl, hb.1, by rw [List.append_nil]; exact hb.2.1, holds_self h.len hk ((has_iff o.may d).1 hk2)⟩⟩
        · cases hmm) (fun b hb => by cases hb)
    simpa using this
/-- A worker is told that a batch is kept. -/
theorem WorldI.told {n : Nat} {ws : List WorkD} {way : List MsgD} {book : List BatchD} (h : WorldI n ws way book) {k : Nat} (hk : k < n) {fr d : Int} (h1 : 1 ≤ fr) (h2 : fr ≤ n) (hd : Holds n ws fr d) :
    WorldI n (ws.set k (toldD (wk ws k) fr d)) way book := by
  have o := h.w k hk
  have hmo : ∀ x ∈ (wk ws k).he, x ∈ (toldD (wk ws k) fr d).he := fun x hx => hx
  have hm := More.set (D := toldD (wk ws k) fr d) h.len hk hmo
  have hmay := o.may.told (d := d) h1 (by rw [o.nodes]; exact h2)
  have hw' : ∀ j, j < n → WMay (wk (ws.set k (toldD (wk ws k) fr d)) j) := fun j hj => by
    rw [wk_set (by rw [h.len]; exact hk)]
    split
    · exact hmay
    · exact (h.w j hj).may
  have hak : ∀ x ∈ ackW (wk ws k).wa fr d, OkWait n (ws.set k (toldD (wk ws k) fr d)) (book ++ []) x := fun x hx => by
    cases hz : khasW (wk ws k).wa d
    · rw [ackW_no hz] at hx; exact (o.wa x hx).more hm []
    · rw [ackW_yes rfl hz] at hx
      rcases List.mem_or_eq_of_mem_set hx with hx | hx
      · exact (o.wa x hx).more hm []
      · obtain ⟨g1, g2⟩ := khasW_lt7 rfl hz
        have ow := (o.wa _ (getD_mem g1)).more hm []
        rw [hx]
        refine ⟨ow.1, ow.2.1, fun a ha => ?_⟩
        have ha2 : a = fr ∨ a ∈ (wth (wk ws k).wa (kposW (wk ws k).wa d)).ak := by
          unfold ackI at ha
          split at ha
          · exact .inr ha
          · exact insAt_mem7 ha
        rcases ha2 with rfl | ha2
        · show Holds n _ a (wth (wk ws k).wa (kposW (wk ws k).wa d)).di
          rw [g2]; exact hd.more hm
        · exact ow.2.2 a ha2
  have hri := (ackW_wtP (d := d) o.may.wa h1 (by rw [o.nodes]; exact h2)).1
  have := h.set (D := toldD (wk ws k) fr d) (L := []) (l := []) hk hmo hmay o.id o.nodes (fun x hx => (o.he x hx).more []) (fun x hx => hak x (List.mem_filter.1 (show x ∈ List.filter _ _ from hx)).1) (by
    have e : (toldD (wk ws k) fr d).re = keptR (n : Int) (wk ws k).re (ackW (wk ws k).wa fr d) := by unfold toldD; rw [o.nodes]
    rw [e]
    exact keptR_ok hw' _ _ (fun x hx => ⟨hak x hx, by have := (hri x hx).2; rw [o.nodes] at this; exact this⟩) (fun d hd => (o.re d hd).more (fun k hk => (h.w k hk).may) hw' hm [])) (fun m hm => by cases hm) (fun b hb => by cases hb)
  simpa using this
/-- A worker seals its batch. -/
theorem WorldI.seal {n : Nat} {ws : List WorkD} {way : List MsgD} {book : List BatchD} (h : WorldI n ws way book) (hbl : book.length < 65536) {k : Nat} (hk : k < n) (hE : nxE (wk ws k) = 0) :
    khasH (wk ws k).he ((book.length : Int) + 1) = false ∧ digS ((book.length : Int) + 1) = true ∧ WorldI n (ws.set k (sealD (wk ws k) ((book.length : Int) + 1))) (way ++ askL ((k : Int) + 1) ((book.length : Int) + 1) (nxD (wk ws k)) [] n) (book ++ [nxD (wk ws k)]) := by
  have o := h.w k hk
  have hd : digS ((book.length : Int) + 1) = true := by simp [digS]; omega
  have hkh : khasH (wk ws k).he ((book.length : Int) + 1) = false := by
    cases hz : khasH (wk ws k).he ((book.length : Int) + 1)
    · rfl
    · obtain ⟨x, hx, e⟩ := (has_iff o.may _).1 hz
      have := (o.he x hx).2.1
      omega
  have hkw : khasW (wk ws k).wa ((book.length : Int) + 1) = false := by
    cases hz : khasW (wk ws k).wa ((book.length : Int) + 1)
    · rfl
    · obtain ⟨g1, g2⟩ := khasW_lt7 rfl hz
      have := (o.wa _ (getD_mem g1)).2.1
      have g3 : (wth (wk ws k).wa (kposW (wk ws k).wa ((book.length : Int) + 1))).di ≤ book.length := this
      omega
  refine ⟨hkh, hd, ?_⟩
  have hmo : ∀ x ∈ (wk ws k).he, x ∈ (sealD (wk ws k) ((book.length : Int) + 1)).he := fun x hx => by
    show x ∈ insAt (wk ws k).he _ _
    unfold insAt
    rw [← List.take_append_drop (kposH (wk ws k).he ((book.length : Int) + 1)) (wk ws k).he] at hx
    rcases List.mem_append.1 hx with hx | hx
    · exact List.mem_append_left _ hx
    · exact List.mem_append_right _ (List.mem_cons_of_mem _ hx)
  have hin : InBook (book ++ [nxD (wk ws k)]) ((book.length : Int) + 1) (nxD (wk ws k)) := ⟨by omega, by simp, by
    unfold bkth
    have e : ((book.length : Int) + 1).toNat - 1 = book.length := by omega
    rw [e]; simp⟩
  have hm := More.set (D := sealD (wk ws k) ((book.length : Int) + 1)) h.len hk hmo
  have hmay := o.may.seal hE hd hkh
  have hw' : ∀ j, j < n → WMay (wk (ws.set k (sealD (wk ws k) ((book.length : Int) + 1))) j) := fun j hj => by
    rw [wk_set (by rw [h.len]; exact hk)]
    split
    · exact hmay
    · exact (h.w j hj).may
  have hself : Holds n (ws.set k (sealD (wk ws k) ((book.length : Int) + 1))) ((k : Int) + 1) ((book.length : Int) + 1) := holds_self h.len hk ⟨⟨(book.length : Int) + 1, nxD (wk ws k)⟩, by
    show _ ∈ insAt (wk ws k).he _ _
    unfold insAt
    exact List.mem_append_right _ (List.mem_cons_self ..), rfl⟩
  have hsw : ∀ x ∈ sealW (wk ws k) ((book.length : Int) + 1), OkWait n (ws.set k (sealD (wk ws k) ((book.length : Int) + 1))) (book ++ [nxD (wk ws k)]) x := fun x hx => by
    rcases sealW_mem hx with rfl | hx
    · refine ⟨by show (1 : Int) ≤ (book.length : Int) + 1; omega, by show (book.length : Int) + 1 ≤ _; simp, fun a ha => ?_⟩
      have e : a = (wk ws k).id := by simpa using ha
      rw [e, o.id]; exact hself
    · exact (o.wa x hx).more hm _
  have hri := (sealW_wtP o.may hd).1
  have hn16 := o.may.id2
  rw [o.nodes] at hn16
  exact h.set (D := sealD (wk ws k) ((book.length : Int) + 1)) (L := askL ((k : Int) + 1) ((book.length : Int) + 1) (nxD (wk ws k)) [] n) (l := [nxD (wk ws k)]) hk hmo hmay o.id o.nodes (fun x hx => by
    rcases insAt_mem (show x ∈ insAt (wk ws k).he _ _ from hx) with rfl | hx
    · exact hin
    · exact (o.he x hx).more _) (fun x hx => hsw x (List.mem_filter.1 (show x ∈ List.filter _ _ from hx)).1) (by
    have e : (sealD (wk ws k) ((book.length : Int) + 1)).re = keptR (n : Int) (wk ws k).re (sealW (wk ws k) ((book.length : Int) + 1)) := by unfold sealD; rw [o.nodes]
    rw [e]
    exact keptR_ok hw' _ _ (fun x hx => ⟨hsw x hx, by have := (hri x hx).2; rw [o.nodes] at this; exact this⟩) (fun d hd => (o.re d hd).more (fun k hk => (h.w k hk).may) hw' hm _)) (fun m hmm => askL_ok (by omega) (by omega) hin m hmm) (fun b hb => by
    have e : b = nxD (wk ws k) := by simpa using hb
    subst e
    exact ⟨nxD_bm o.may hE, by show (wk ws k).id ≤ n; omega⟩)
end Go.Proofs.Ytgfakefcmbpboaa
