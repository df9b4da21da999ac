/- Sealing at the page: what is kept apart. -/
import Derived.Test.YtgfakefcmbpboaaGreatShWkr
import Derived.Test.YtgfakefcmbpboaaGreatShWrh
import Derived.Test.YtgfakefcmbpboaaGreatShWsn
namespace Go.Proofs.YtgfakefcmbpboaaGreat
open Go.RowKit
set_option linter.unusedSimpArgs false
set_option linter.unusedVariables false

set_option maxRecDepth 100000 in
set_option maxHeartbeats 4000000 in
theorem ref0_CopyWorker3 (P : WorkP) (D : WorkD) (w : World) (h : WorkR w P D) (hs : BigD D) :
    Calls Tryz.prog 17 #[P.val D] w fun e w' => ∃ P', e = .returned (P'.val D) ∧ WorkO w' w.heap.size P' D ∧ (∃ ps, OwnT dWait w' w.heap.size P'.wa.v ps D.wa ∧ ApartW ps D.wa P'.re.v.ownBlock) ∧ Below w.heap.size w w' := by
  obtain ⟨⟨oA, on, oc⟩, ⟨tA, tn, tc⟩, ⟨eA, en, ec⟩, ⟨rA, rn, rc⟩⟩ := P
  have HO : Hid (TxsR w oA on D.op) := Lib.hid h.op
  have HT : Hid (WaitsR w tA tn D.wa) := Lib.hid h.wa
  have HE : Hid (HeldsR w eA en D.he) := Lib.hid h.he
  have HR : Hid (IntsR w rA rn D.re) := Lib.hid h.re
  have hon : on ≤ 800000000 := by rw [← HO.out.1]; exact hs.op
  have hrn : rn ≤ 800000000 := by rw [← HR.out.1]; exact hs.re
  have HS := Lib.hid hs
  clear h hs
  show Calls Tryz.prog 17 #[.agg #[.int .i64 D.id, .int .i64 D.nodes, .int .i64 D.next, .slice oA on oc, .int .i64 D.age, .int .i64 D.clock, .slice tA tn tc, .slice eA en ec, .slice rA rn rc]] w _
  go_enter Tryz.func17, Tryz.ntmps17
  go_wp2_with fail
  refine (ref0_CopyTxs oA on oc D.op _ (HO.out.up (by (repeat (first | (with_reducible exact Below.refl _ _) | (with_reducible assumption) | (with_reducible apply bel_alloc) | (with_reducible apply bel_drew) | (with_reducible apply bel_drewN) | (with_reducible refine bel_trans ?_ (by with_reducible assumption)) | (with_reducible refine bel_trans ?_ (HF.out _)) | ((with_reducible refine bel_set3 ?_ ?_); rotate_left; omega))))) hon).mono ?_
  rintro e w1 ⟨v1, rfl, ho1, hb1⟩
  obtain ⟨A1, c1, rfl, _⟩ := ho1.txs (by rw [HO.out.1]; omega)
  rw [HO.out.1] at ho1 ⊢
  have HO1 := Lib.hid (ho1.mono (B' := w.heap.size + 3) (by simp))
  have hz_w1 : w.heap.size + 3 ≤ w1.heap.size := (by have hq := (hb1).size; (try simp at hq); omega); have hc0_w1 := fun o => (bcell hb1).1 (w.heap.size) o (by first | (simp; done) | (simp; omega) | omega); have hc1_w1 := fun o => (bcell hb1).1 (w.heap.size + 1) o (by first | (simp; done) | (simp; omega) | omega); have hc2_w1 := fun o => (bcell hb1).1 (w.heap.size + 2) o (by first | (simp; done) | (simp; omega) | omega); have hf0_w1 := fun o => (bcell hb1).2 (w.heap.size) o (by first | (simp; done) | (simp; omega) | omega); have hf1_w1 := fun o => (bcell hb1).2 (w.heap.size + 1) o (by first | (simp; done) | (simp; omega) | omega); have hf2_w1 := fun o => (bcell hb1).2 (w.heap.size + 2) o (by first | (simp; done) | (simp; omega) | omega)
  clear ho1
  go_wp2_with fail
  refine (ref0_CopyWaits tA tn tc D.wa _ (HT.out.up (by (repeat (first | (with_reducible exact Below.refl _ _) | (with_reducible assumption) | (with_reducible apply bel_alloc) | (with_reducible apply bel_drew) | (with_reducible apply bel_drewN) | (with_reducible refine bel_trans ?_ (by with_reducible assumption)) | (with_reducible refine bel_trans ?_ (HF.out _)) | ((with_reducible refine bel_set3 ?_ ?_); rotate_left; omega))))) HS.out.wa).mono ?_
  rintro e w2 ⟨v2, rfl, ho2, hb2⟩
  obtain ⟨A2, c2, rfl, _⟩ := ho2.waits HS.out.wa
  rw [HT.out.1] at ho2 ⊢
  have HP2 : Hid (∃ ps, OwnT dWait w2 (w.heap.size + 3) (.slice A2 tn c2) ps D.wa ∧ ∀ j, j < D.wa.length → ∀ q, (ps.getD j default).ownBlock = some q → q < w2.heap.size) := Lib.hid (by obtain ⟨ps, hp⟩ := ho2; exact ⟨ps, hp.mono (by simp; omega), fun j hj q hq => (own_lt (show World.ownsRow _ _ 3 1 _ _ _ from hp.2.2 j hj) q hq).2⟩)
  have HO2 := Lib.hid (ho2.mono (B' := w.heap.size + 3) (by simp; omega))
  have hz_w2 : w.heap.size + 3 ≤ w2.heap.size := (by have hq := (hb2).size; (try simp at hq); omega); have hc0_w2 := fun o => (bcell hb2).1 (w.heap.size) o (by first | (simp; done) | (simp; omega) | omega); have hc1_w2 := fun o => (bcell hb2).1 (w.heap.size + 1) o (by first | (simp; done) | (simp; omega) | omega); have hc2_w2 := fun o => (bcell hb2).1 (w.heap.size + 2) o (by first | (simp; done) | (simp; omega) | omega); have hf0_w2 := fun o => (bcell hb2).2 (w.heap.size) o (by first | (simp; done) | (simp; omega) | omega); have hf1_w2 := fun o => (bcell hb2).2 (w.heap.size + 1) o (by first | (simp; done) | (simp; omega) | omega); have hf2_w2 := fun o => (bcell hb2).2 (w.heap.size + 2) o (by first | (simp; done) | (simp; omega) | omega)
  clear ho2
  go_wp2_with fail
  refine (ref0_CopyHelds eA en ec D.he _ (HE.out.up (by (repeat (first | (with_reducible exact Below.refl _ _) | (with_reducible assumption) | (with_reducible apply bel_alloc) | (with_reducible apply bel_drew) | (with_reducible apply bel_drewN) | (with_reducible refine bel_trans ?_ (by with_reducible assumption)) | (with_reducible refine bel_trans ?_ (HF.out _)) | ((with_reducible refine bel_set3 ?_ ?_); rotate_left; omega))))) HS.out.he).mono ?_
  rintro e w3 ⟨v3, rfl, ho3, hb3⟩
  obtain ⟨A3, c3, rfl, _⟩ := ho3.helds HS.out.he
  rw [HE.out.1] at ho3 ⊢
  have HO3 := Lib.hid (ho3.mono (B' := w.heap.size + 3) (by simp; omega))
  have hz_w3 : w.heap.size + 3 ≤ w3.heap.size := (by have hq := (hb3).size; (try simp at hq); omega); have hc0_w3 := fun o => (bcell hb3).1 (w.heap.size) o (by first | (simp; done) | (simp; omega) | omega); have hc1_w3 := fun o => (bcell hb3).1 (w.heap.size + 1) o (by first | (simp; done) | (simp; omega) | omega); have hc2_w3 := fun o => (bcell hb3).1 (w.heap.size + 2) o (by first | (simp; done) | (simp; omega) | omega); have hf0_w3 := fun o => (bcell hb3).2 (w.heap.size) o (by first | (simp; done) | (simp; omega) | omega); have hf1_w3 := fun o => (bcell hb3).2 (w.heap.size + 1) o (by first | (simp; done) | (simp; omega) | omega); have hf2_w3 := fun o => (bcell hb3).2 (w.heap.size + 2) o (by first | (simp; done) | (simp; omega) | omega)
  clear ho3
  go_wp2_with fail
  refine (ref0_CopyNumbers rA rn rc D.re _ (HR.out.up (by (repeat (first | (with_reducible exact Below.refl _ _) | (with_reducible assumption) | (with_reducible apply bel_alloc) | (with_reducible apply bel_drew) | (with_reducible apply bel_drewN) | (with_reducible refine bel_trans ?_ (by with_reducible assumption)) | (with_reducible refine bel_trans ?_ (HF.out _)) | ((with_reducible refine bel_set3 ?_ ?_); rotate_left; omega))))) (by omega)).mono ?_
  rintro e w4 ⟨v4, rfl, ho4, hb4⟩
  obtain ⟨A4, c4, rfl, _⟩ := ho4.ints (by rw [HR.out.1]; omega)
  rw [HR.out.1] at ho4 ⊢
  have HP4 : Hid (∀ q, (Value.slice A4 rn c4).ownBlock = some q → w2.heap.size ≤ q) := Lib.hid (fun q hq => by have h1 := (own_lt (show World.ownsRow _ _ 3 1 _ _ _ from ho4) q hq).1; have h2 := hb3.size; simp at h1 h2; omega)
  have HO4 := Lib.hid (ho4.mono (B' := w.heap.size + 3) (by simp; omega))
  have hz_w4 : w.heap.size + 3 ≤ w4.heap.size := (by have hq := (hb4).size; (try simp at hq); omega); have hc0_w4 := fun o => (bcell hb4).1 (w.heap.size) o (by first | (simp; done) | (simp; omega) | omega); have hc1_w4 := fun o => (bcell hb4).1 (w.heap.size + 1) o (by first | (simp; done) | (simp; omega) | omega); have hc2_w4 := fun o => (bcell hb4).1 (w.heap.size + 2) o (by first | (simp; done) | (simp; omega) | omega); have hf0_w4 := fun o => (bcell hb4).2 (w.heap.size) o (by first | (simp; done) | (simp; omega) | omega); have hf1_w4 := fun o => (bcell hb4).2 (w.heap.size + 1) o (by first | (simp; done) | (simp; omega) | omega); have hf2_w4 := fun o => (bcell hb4).2 (w.heap.size + 2) o (by first | (simp; done) | (simp; omega) | omega)
  clear ho4
  have k4 : WorkO w4 (w.heap.size + 3) ⟨⟨A1, on, c1⟩, ⟨A2, tn, c2⟩, ⟨A3, en, c3⟩, ⟨A4, rn, c4⟩⟩ D := ⟨(((((HO1.out.set3 (b := w.heap.size + 2) (o := 3) (by omega) (.slice A1 on c1)).up hb2).set3 (b := w.heap.size + 2) (o := 6) (by omega) (.slice A2 tn c2)).up hb3).set3 (b := w.heap.size + 2) (o := 7) (by omega) (.slice A3 en c3)).up hb4, (((HO2.out.low (b := w.heap.size + 2) (o := 6) (u := .slice A2 tn c2) (by omega)).up hb3).low (b := w.heap.size + 2) (o := 7) (u := .slice A3 en c3) (by omega)).up hb4, (HO3.out.low (b := w.heap.size + 2) (o := 7) (u := .slice A3 en c3) (by omega)).up hb4, HO4.out⟩
  have K4 := Lib.hid k4
  obtain ⟨ps, hp2, hlt2⟩ := HP2.out
  have hp4 : OwnT dWait w4 (w.heap.size + 3) (.slice A2 tn c2) ps D.wa := (((hp2.low (b := w.heap.size + 2) (o := 6) (u := .slice A2 tn c2) (by omega)).up hb3).low (b := w.heap.size + 2) (o := 7) (u := .slice A3 en c3) (by omega)).up hb4
  have HP := Lib.hid hp4
  have HLT2 := Lib.hid hlt2
  clear hp2 hp4 hlt2
  clear k4
  go_wp2_with fail
  exact bodyPost_ret (v := .agg #[.int .i64 D.id, .int .i64 D.nodes, .int .i64 D.next, .slice A1 on c1, .int .i64 D.age, .int .i64 D.clock, .slice A2 tn c2, .slice A3 en c3, .slice A4 rn c4]) (by simp [results, Tryz.results17, go_sem, *]) rfl ⟨⟨⟨A1, on, c1⟩, ⟨A2, tn, c2⟩, ⟨A3, en, c3⟩, ⟨A4, rn, c4⟩⟩, rfl, (by (refine WorkO.mono (B := w.heap.size + 3) ?_ (by omega)); (repeat (first | (with_reducible exact K4.out) | ((with_reducible refine WorkO.low ?_ ?_); rotate_left; (omega))))), ⟨ps, (by (refine OwnT.mono (B := w.heap.size + 3) ?_ (by omega)); (show OwnT dWait _ (w.heap.size + 3) (.slice A2 tn c2) ps D.wa); (repeat (first | (with_reducible exact HP.out) | ((with_reducible refine OwnT.low ?_ ?_; rotate_left; (omega)))))), fun j hj q e hq => by have h1 := HLT2.out j hj q hq; have h2 := HP4.out q e; omega⟩, by (repeat (first | (with_reducible exact Below.refl _ _) | (with_reducible assumption) | (with_reducible apply bel_alloc) | (with_reducible apply bel_drew) | (with_reducible apply bel_drewN) | (with_reducible refine bel_trans ?_ (by with_reducible assumption)) | (with_reducible refine bel_trans ?_ (HF.out _)) | ((with_reducible refine bel_set3 ?_ ?_); rotate_left; omega)))⟩
/-- Transactions that are read, in a block of theirs. -/
def TxsT (w : World) (A : Option Addr) (n : Nat) (l : List TxD) : Prop := TxsR w A n l ∧ (0 < n → ∀ b off s, A = some ⟨b, off, s⟩ → ∃ cur, w.heap[b]? = some (.cells cur 41 (0, 0)))
theorem TxsR.of_same {w w' : World} {A : Option Addr} {n : Nat} {l : List TxD} (h : TxsR w A n l) (hs : w.heap.size ≤ w'.heap.size) (hh : 0 < n → ∀ b off s, A = some ⟨b, off, s⟩ → w'.heap[b]? = w.heap[b]?) : TxsR w' A n l := by
  obtain ⟨h0, h1, h2, h3⟩ := h
  refine ⟨h0, h1, h2, fun hn => ?_⟩
  obtain ⟨b, off, e, hb, hc⟩ := h3 hn
  exact ⟨b, off, e, by omega, fun j u hu => (World.cell?_of_block (w := w) (w' := w') (a := ⟨b, off + j, none⟩) (hh hn _ _ _ e)).trans (hc j u hu)⟩
theorem TxsT.of_same {w w' : World} {A : Option Addr} {n : Nat} {l : List TxD} (h : TxsT w A n l) (hs : w.heap.size ≤ w'.heap.size) (hh : 0 < n → ∀ b off s, A = some ⟨b, off, s⟩ → w'.heap[b]? = w.heap[b]?) : TxsT w' A n l :=
  ⟨h.1.of_same hs hh, fun hn b off s e => by rw [hh hn b off s e]; exact h.2 hn b off s e⟩
theorem TxsT.up {w w' : World} {A : Option Addr} {n : Nat} {l : List TxD} (h : TxsT w A n l) (hb : Below w.heap.size w w') : TxsT w' A n l := h.of_same hb.size (fun hn b off s e => by
  obtain ⟨cur, hc⟩ := h.2 hn b off s e
  exact hb.block b (Array.getElem?_eq_some_iff.1 hc).1)
theorem TxsT.tk {T : TypeId} {w w' : World} {A : Option Addr} {n : Nat} {l : List TxD} (h : TxsT w A n l) (hk : TKeep T w w') (hs : w.heap.size ≤ w'.heap.size) (hne : 41 ≠ T) : TxsT w' A n l := h.of_same hs (fun hn b off s e => by
  obtain ⟨cur, hc⟩ := h.2 hn b off s e
  rw [hc]; exact hk b cur _ hne hc)
theorem TxsT.kb {w w' : World} {g : Nat} {rq : Option Nat} {A : Option Addr} {n : Nat} {l : List TxD} {cs xs : List Value} {T : TypeId} {B m : Nat} {u : Value} (h : TxsT w A n l) (hk : KB w w' g rq) (hg : Blk w g T cs) (hT : 41 ≠ T) (hu : w.ownsRow B 3 1 u m xs) (hrq : rq = u.ownBlock) : TxsT w' A n l := h.of_same hk.size (fun hn b off s e => by
  obtain ⟨cur, hc⟩ := h.2 hn b off s e
  refine hk.block b (Array.getElem?_eq_some_iff.1 hc).1 (fun e2 => ?_) (fun e2 => ?_)
  · subst e2
    have hb' : w.heap[b]? = some (.cells cs.toArray T (0, 0)) := hg
    rw [hb'] at hc
    injection hc with hc
    injection hc with _ e3 _
    exact hT e3.symm
  · obtain ⟨_, c2, e3⟩ := own_typeB hu b (by rw [← hrq]; exact e2)
    rw [e3] at hc
    injection hc with hc
    injection hc with _ e4 _
    exact absurd e4 (by decide))
theorem OwnT.kbW {w w' : World} {g B : Nat} {rq : Option Nat} {v : Value} {l : List HeldD} (hk : KB w w' g rq) (h : OwnHs w B v l) {cs xs : List Value} {B2 m : Nat} {u : Value} (hg : Blk w g 70 cs) (hu : w.ownsRow B2 3 1 u m xs) (hrq : rq = u.ownBlock) : OwnHs w' B v l := by
  obtain ⟨ps, h1, h2, h3⟩ := h
  exact ⟨ps, hk.own h1 (own_neT h1 hg (by decide)) (fun q e => own_neO h1 hu (by decide) q (by rw [← hrq]; exact e)), h2, fun j hj => hk.own (show World.ownsRow _ B 41 4 _ _ _ from h3 j hj) (own_neT (show World.ownsRow _ B 41 4 _ _ _ from h3 j hj) hg (by decide)) (fun q e => own_neO (show World.ownsRow _ B 41 4 _ _ _ from h3 j hj) hu (by decide) q (by rw [← hrq]; exact e))⟩
theorem own_kbHi {w w' : World} {g : Nat} {rq : Option Nat} (hk : KB w w' g rq) {B k n : Nat} {t : TypeId} {v : Value} {xs : List Value} (ho : w.ownsRow B t k v n xs) (hg : g < B) (hr : ∀ q, rq = some q → q < B) : w'.ownsRow B t k v n xs :=
  hk.own ho (fun e => by have := (own_lt ho g e).1; omega) (fun q e e2 => by have h1 := (own_lt ho q e2).1; have h2 := hr q e; omega)
theorem msgs_kb {w w' : World} {g B : Nat} {rq : Option Nat} {v : Value} {us : List MsgP} {l : List MsgD} (hk : KB w w' g rq) (h : OwnT dMsg w B v us l) (hg : g < B) (hr : ∀ q, rq = some q → q < B) : OwnT dMsg w' B v us l :=
  ⟨own_kbHi hk h.1 hg hr, h.2.1, fun j hj => by
    have hi : OwnM w B (us.getD j default) (l.getD j default) := h.2.2 j hj
    exact ⟨own_kbHi hk (show World.ownsRow _ B 41 4 _ _ _ from hi.b) hg hr, own_kbHi hk (show World.ownsRow _ B 3 1 _ _ _ from hi.h1) hg hr, own_kbHi hk (show World.ownsRow _ B 3 1 _ _ _ from hi.h2) hg hr, own_kbHi hk (show World.ownsRow _ B 3 1 _ _ _ from hi.c1) hg hr, own_kbHi hk (show World.ownsRow _ B 3 1 _ _ _ from hi.c2) hg hr, own_kbHi hk (show World.ownsRow _ B 3 1 _ _ _ from hi.c3) hg hr, own_kbHi hk (show World.ownsRow _ B 3 1 _ _ _ from hi.ds) hg hr⟩⟩
/-- A worker of the page's: its open transactions are read, the rest is its own. -/
structure WorkQ (w : World) (B : Nat) (P : WorkP) (D : WorkD) : Prop where
  op : TxsT w P.op.A P.op.n D.op
  wa : OwnWs w B P.wa.v D.wa
  he : OwnHs w B P.he.v D.he
  re : OwnI w B P.re.v D.re
  oc : P.op.n ≤ P.op.c
  om : P.op.c ≤ 9223372036854775807
theorem WorkQ.tk {T : TypeId} {w w' : World} {B : Nat} {P D} (h : WorkQ w B P D) (hk : TKeep T w w') (hs : w.heap.size ≤ w'.heap.size) (hT : TWork T) : WorkQ w' B P D := ⟨h.op.tk hk hs (by rcases hT with rfl | rfl <;> decide), h.wa.tk hk hT, h.he.tk hk hT, own_tkw (show World.ownsRow _ B 3 1 _ _ _ from h.re) hk hT (by decide) (by decide), h.oc, h.om⟩
theorem WorkQ.work {w : World} {B : Nat} {P : WorkP} {D : WorkD} (h : WorkQ w B P D) (hs : BigD D) : WorkR w P D := by
  obtain ⟨⟨oA, on, oc⟩, ⟨tA, tn, tc⟩, ⟨eA, en, ec⟩, ⟨rA, rn, rc⟩⟩ := P
  obtain ⟨A1, c1, e1, hw, _⟩ := h.wa.waits hs.wa
  obtain ⟨A2, c2, e2, hh, _⟩ := h.he.helds hs.he
  obtain ⟨A3, c3, e3, hr, _⟩ := h.re.ints (by have := hs.re; omega)
  have h5 : D.re.length ≤ c3 ∧ c3 ≤ 9223372036854775807 := by
    obtain ⟨A4, c4, e4, _, _, h6, h7⟩ := own_row (show World.ownsRow _ B 3 1 _ _ _ from h.re) (by have := hs.re; omega)
    rw [e3] at e4; injection e4 with _ _ e5; omega
  injection e1 with a1 a2 a3
  injection e2 with b1 b2 b3
  injection e3 with d1 d2 d3
  have a1 : tA = A1 := a1
  have a2 : tn = D.wa.length := a2
  have b1 : eA = A2 := b1
  have b2 : en = D.he.length := b2
  have d1 : rA = A3 := d1
  have d2 : rn = D.re.length := d2
  have d3 : rc = c3 := d3
  exact ⟨h.op.1, by (show WaitsR w tA tn D.wa); rw [a1, a2]; exact hw, by (show HeldsR w eA en D.he); rw [b1, b2]; exact hh, by (show IntsR w rA rn D.re); rw [d1, d2]; exact hr, h.oc, h.om, by (show rn ≤ rc); omega⟩
end Go.Proofs.YtgfakefcmbpboaaGreat
