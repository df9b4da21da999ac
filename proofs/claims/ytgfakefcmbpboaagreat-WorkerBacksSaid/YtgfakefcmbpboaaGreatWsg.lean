/- droverlaw13.step where a transaction is added. -/
import Derived.Test.YtgfakefcmbpboaaGreatWsf
namespace Go.Proofs.YtgfakefcmbpboaaGreat
open Go.RowKit
set_option linter.unusedSimpArgs false
set_option linter.unusedVariables false

set_option maxRecDepth 100000 in
set_option maxHeartbeats 4000000 in
theorem ref0_CopyWorker2 (P : WorkP) (D : WorkD) (w : World) (h : WorkR w P D) (hs : BigD D) :
    Calls Tryz.prog 17 #[P.val D] w fun e w' => ∃ P', e = .returned (P'.val D) ∧ WorkO w' w.heap.size P' D ∧ (∃ B2, w.heap.size ≤ B2 ∧ (∀ q, P'.op.v.ownBlock = some q → q < B2) ∧ OwnHs w' B2 P'.he.v D.he) ∧ Below w.heap.size w w' := by
  obtain ⟨⟨oA, on, oc⟩, ⟨tA, tn, tc⟩, ⟨eA, en, ec⟩, ⟨rA, rn, rc⟩⟩ := P
  have HO : Hid (TxsR w oA on D.op) := Lib.hid h.op
  have HT : Hid (WaitsR w tA tn D.wa) := Lib.hid h.wa
  have HE : Hid (HeldsR w eA en D.he) := Lib.hid h.he
  have HR : Hid (IntsR w rA rn D.re) := Lib.hid h.re
  have hon : on ≤ 800000000 := by rw [← HO.out.1]; exact hs.op
  have hrn : rn ≤ 800000000 := by rw [← HR.out.1]; exact hs.re
  have HS := Lib.hid hs
  clear h hs
  show Calls Tryz.prog 17 #[.agg #[.int .i64 D.id, .int .i64 D.nodes, .int .i64 D.next, .slice oA on oc, .int .i64 D.age, .int .i64 D.clock, .slice tA tn tc, .slice eA en ec, .slice rA rn rc]] w _
  go_enter Tryz.func17, Tryz.ntmps17
  go_wp2_with fail
  refine (ref0_CopyTxs oA on oc D.op _ (HO.out.up (by (repeat (first | (with_reducible exact Below.refl _ _) | (with_reducible assumption) | (with_reducible apply bel_alloc) | (with_reducible apply bel_drew) | (with_reducible apply bel_drewN) | (with_reducible refine bel_trans ?_ (by with_reducible assumption)) | (with_reducible refine bel_trans ?_ (HF.out _)) | ((with_reducible refine bel_set3 ?_ ?_); rotate_left; omega))))) hon).mono ?_
  rintro e w1 ⟨v1, rfl, ho1, hb1⟩
  obtain ⟨A1, c1, rfl, _⟩ := ho1.txs (by rw [HO.out.1]; omega)
  rw [HO.out.1] at ho1 ⊢
  have HLT : Hid (∀ q, (Value.slice A1 on c1).ownBlock = some q → q < w1.heap.size) := Lib.hid (fun q hq => (own_lt ho1 q hq).2)
  have HO1 := Lib.hid (ho1.mono (B' := w.heap.size + 3) (by simp))
  have hz_w1 : w.heap.size + 3 ≤ w1.heap.size := (by have hq := (hb1).size; (try simp at hq); omega); have hc0_w1 := fun o => (bcell hb1).1 (w.heap.size) o (by first | (simp; done) | (simp; omega) | omega); have hc1_w1 := fun o => (bcell hb1).1 (w.heap.size + 1) o (by first | (simp; done) | (simp; omega) | omega); have hc2_w1 := fun o => (bcell hb1).1 (w.heap.size + 2) o (by first | (simp; done) | (simp; omega) | omega); have hf0_w1 := fun o => (bcell hb1).2 (w.heap.size) o (by first | (simp; done) | (simp; omega) | omega); have hf1_w1 := fun o => (bcell hb1).2 (w.heap.size + 1) o (by first | (simp; done) | (simp; omega) | omega); have hf2_w1 := fun o => (bcell hb1).2 (w.heap.size + 2) o (by first | (simp; done) | (simp; omega) | omega)
  clear ho1
  go_wp2_with fail
  refine (ref0_CopyWaits tA tn tc D.wa _ (HT.out.up (by (repeat (first | (with_reducible exact Below.refl _ _) | (with_reducible assumption) | (with_reducible apply bel_alloc) | (with_reducible apply bel_drew) | (with_reducible apply bel_drewN) | (with_reducible refine bel_trans ?_ (by with_reducible assumption)) | (with_reducible refine bel_trans ?_ (HF.out _)) | ((with_reducible refine bel_set3 ?_ ?_); rotate_left; omega))))) HS.out.wa).mono ?_
  rintro e w2 ⟨v2, rfl, ho2, hb2⟩
  obtain ⟨A2, c2, rfl, _⟩ := ho2.waits HS.out.wa
  rw [HT.out.1] at ho2 ⊢
  have HO2 := Lib.hid (ho2.mono (B' := w.heap.size + 3) (by simp; omega))
  have hz_w2 : w.heap.size + 3 ≤ w2.heap.size := (by have hq := (hb2).size; (try simp at hq); omega); have hc0_w2 := fun o => (bcell hb2).1 (w.heap.size) o (by first | (simp; done) | (simp; omega) | omega); have hc1_w2 := fun o => (bcell hb2).1 (w.heap.size + 1) o (by first | (simp; done) | (simp; omega) | omega); have hc2_w2 := fun o => (bcell hb2).1 (w.heap.size + 2) o (by first | (simp; done) | (simp; omega) | omega); have hf0_w2 := fun o => (bcell hb2).2 (w.heap.size) o (by first | (simp; done) | (simp; omega) | omega); have hf1_w2 := fun o => (bcell hb2).2 (w.heap.size + 1) o (by first | (simp; done) | (simp; omega) | omega); have hf2_w2 := fun o => (bcell hb2).2 (w.heap.size + 2) o (by first | (simp; done) | (simp; omega) | omega)
  clear ho2
  go_wp2_with fail
  refine (ref0_CopyHelds eA en ec D.he _ (HE.out.up (by (repeat (first | (with_reducible exact Below.refl _ _) | (with_reducible assumption) | (with_reducible apply bel_alloc) | (with_reducible apply bel_drew) | (with_reducible apply bel_drewN) | (with_reducible refine bel_trans ?_ (by with_reducible assumption)) | (with_reducible refine bel_trans ?_ (HF.out _)) | ((with_reducible refine bel_set3 ?_ ?_); rotate_left; omega))))) HS.out.he).mono ?_
  rintro e w3 ⟨v3, rfl, ho3, hb3⟩
  obtain ⟨A3, c3, rfl, _⟩ := ho3.helds HS.out.he
  rw [HE.out.1] at ho3 ⊢
  have HH3 : Hid (∃ B2, w1.heap.size ≤ B2 ∧ OwnHs w3 B2 (.slice A3 en c3) D.he) := Lib.hid ⟨_, by (have := hb2.size; simp at this ⊢; omega), ho3⟩
  have HO3 := Lib.hid (ho3.mono (B' := w.heap.size + 3) (by simp; omega))
  have hz_w3 : w.heap.size + 3 ≤ w3.heap.size := (by have hq := (hb3).size; (try simp at hq); omega); have hc0_w3 := fun o => (bcell hb3).1 (w.heap.size) o (by first | (simp; done) | (simp; omega) | omega); have hc1_w3 := fun o => (bcell hb3).1 (w.heap.size + 1) o (by first | (simp; done) | (simp; omega) | omega); have hc2_w3 := fun o => (bcell hb3).1 (w.heap.size + 2) o (by first | (simp; done) | (simp; omega) | omega); have hf0_w3 := fun o => (bcell hb3).2 (w.heap.size) o (by first | (simp; done) | (simp; omega) | omega); have hf1_w3 := fun o => (bcell hb3).2 (w.heap.size + 1) o (by first | (simp; done) | (simp; omega) | omega); have hf2_w3 := fun o => (bcell hb3).2 (w.heap.size + 2) o (by first | (simp; done) | (simp; omega) | omega)
  clear ho3
  go_wp2_with fail
  refine (ref0_CopyNumbers rA rn rc D.re _ (HR.out.up (by (repeat (first | (with_reducible exact Below.refl _ _) | (with_reducible assumption) | (with_reducible apply bel_alloc) | (with_reducible apply bel_drew) | (with_reducible apply bel_drewN) | (with_reducible refine bel_trans ?_ (by with_reducible assumption)) | (with_reducible refine bel_trans ?_ (HF.out _)) | ((with_reducible refine bel_set3 ?_ ?_); rotate_left; omega))))) (by omega)).mono ?_
  rintro e w4 ⟨v4, rfl, ho4, hb4⟩
  obtain ⟨A4, c4, rfl, _⟩ := ho4.ints (by rw [HR.out.1]; omega)
  rw [HR.out.1] at ho4 ⊢
  have HO4 := Lib.hid (ho4.mono (B' := w.heap.size + 3) (by simp; omega))
  have hz_w4 : w.heap.size + 3 ≤ w4.heap.size := (by have hq := (hb4).size; (try simp at hq); omega); have hc0_w4 := fun o => (bcell hb4).1 (w.heap.size) o (by first | (simp; done) | (simp; omega) | omega); have hc1_w4 := fun o => (bcell hb4).1 (w.heap.size + 1) o (by first | (simp; done) | (simp; omega) | omega); have hc2_w4 := fun o => (bcell hb4).1 (w.heap.size + 2) o (by first | (simp; done) | (simp; omega) | omega); have hf0_w4 := fun o => (bcell hb4).2 (w.heap.size) o (by first | (simp; done) | (simp; omega) | omega); have hf1_w4 := fun o => (bcell hb4).2 (w.heap.size + 1) o (by first | (simp; done) | (simp; omega) | omega); have hf2_w4 := fun o => (bcell hb4).2 (w.heap.size + 2) o (by first | (simp; done) | (simp; omega) | omega)
  clear ho4
  have k4 : WorkO w4 (w.heap.size + 3) ⟨⟨A1, on, c1⟩, ⟨A2, tn, c2⟩, ⟨A3, en, c3⟩, ⟨A4, rn, c4⟩⟩ D := ⟨(((((HO1.out.set3 (b := w.heap.size + 2) (o := 3) (by omega) (.slice A1 on c1)).up hb2).set3 (b := w.heap.size + 2) (o := 6) (by omega) (.slice A2 tn c2)).up hb3).set3 (b := w.heap.size + 2) (o := 7) (by omega) (.slice A3 en c3)).up hb4, (((HO2.out.low (b := w.heap.size + 2) (o := 6) (u := .slice A2 tn c2) (by omega)).up hb3).low (b := w.heap.size + 2) (o := 7) (u := .slice A3 en c3) (by omega)).up hb4, (HO3.out.low (b := w.heap.size + 2) (o := 7) (u := .slice A3 en c3) (by omega)).up hb4, HO4.out⟩
  have K4 := Lib.hid k4
  obtain ⟨B2, hB2, hh2⟩ := HH3.out
  have hB3 : w.heap.size + 3 ≤ B2 := by have := hb1.size; simp at this; omega
  have HH4 := Lib.hid ((hh2.low (b := w.heap.size + 2) (o := 7) (u := .slice A3 en c3) (by omega)).up hb4)
  clear hh2
  clear k4
  go_wp2_with fail
  exact bodyPost_ret (v := .agg #[.int .i64 D.id, .int .i64 D.nodes, .int .i64 D.next, .slice A1 on c1, .int .i64 D.age, .int .i64 D.clock, .slice A2 tn c2, .slice A3 en c3, .slice A4 rn c4]) (by simp [results, Tryz.results17, go_sem, *]) rfl ⟨⟨⟨A1, on, c1⟩, ⟨A2, tn, c2⟩, ⟨A3, en, c3⟩, ⟨A4, rn, c4⟩⟩, rfl, (by (refine WorkO.mono (B := w.heap.size + 3) ?_ (by omega)); (repeat (first | (with_reducible exact K4.out) | ((with_reducible refine WorkO.low ?_ ?_); rotate_left; (omega))))), ⟨B2, by omega, fun q hq => Nat.lt_of_lt_of_le (HLT.out q hq) hB2, by (show OwnHs _ B2 (.slice A3 en c3) D.he); (repeat (first | (with_reducible exact HH4.out) | ((with_reducible refine OwnHs.low ?_ ?_; rotate_left; (omega)))))⟩, by (repeat (first | (with_reducible exact Below.refl _ _) | (with_reducible assumption) | (with_reducible apply bel_alloc) | (with_reducible apply bel_drew) | (with_reducible apply bel_drewN) | (with_reducible refine bel_trans ?_ (by with_reducible assumption)) | (with_reducible refine bel_trans ?_ (HF.out _)) | ((with_reducible refine bel_set3 ?_ ?_); rotate_left; omega)))⟩

def zeroWD : WorkD := ⟨0, 0, 0, [], 0, 0, [], [], []⟩
theorem zeroW_R (w : World) : WorkR w nilP zeroWD :=
  ⟨⟨rfl, by simp [flat, zeroWD, nilP], by show 0 ≤ _; omega, fun h => absurd h (by show ¬ 0 < 0; omega)⟩, ⟨rfl, by show 0 ≤ _; omega, fun h => absurd h (by show ¬ 0 < 0; omega)⟩, ⟨rfl, by show 0 ≤ _; omega, fun h => absurd h (by show ¬ 0 < 0; omega)⟩, ⟨rfl, by show 0 ≤ _; omega, fun h => absurd h (by show ¬ 0 < 0; omega)⟩, Nat.le_refl _, by show 0 ≤ _; omega, Nat.le_refl _⟩
theorem zeroW_O (w : World) (B : Nat) : WorkO w B nilP zeroWD := ⟨OwnX.nil _ _, OwnWs.nil _ _, OwnHs.nil _ _, OwnI.nil _ _⟩
theorem zeroW_big : BigD zeroWD := ⟨by decide, ⟨by decide, fun x h => by simp [zeroWD] at h⟩, ⟨by decide, fun x h => by simp [zeroWD] at h⟩, by decide⟩
theorem tk_belB {T : TypeId} {a b c : World} (h : TKeep T a b) (k : Below a.heap.size b c) : TKeep T a c := fun q cur t ht hq => (k.block q (Array.getElem?_eq_some_iff.1 hq).1).trans (h q cur t ht hq)
set_option maxRecDepth 100000 in
theorem law0_Messages0 (w : World) : Calls Tryz.prog 53 #[.slice none 0 0] w fun e w' => e = .returned (.tuple #[]) ∧ Below w.heap.size w w' := by
  go_enter Tryz.func53, Tryz.ntmps53
  go_wp2_with fail
  go_loop [2] (fun i => i = .int .i64 0) (fun _ => 0)
  case atStart => rfl
  case round =>
    obtain rfl := hrel
    go_wp2_with (at_builtin; refine wpList_appM rfl (.tmp 38) (.tmp 40) rfl rfl w.heap.size _ [] [] rfl (OwnT.nil _ _) w.heap.size ⟨0, 0, 0, 0, ⟨0, 0, []⟩, ⟨0, 0, [], []⟩, ⟨⟨0, 0, [], []⟩, 0, []⟩, []⟩ ⟨⟨none, 0, 0⟩, ⟨⟨none, 0, 0⟩, ⟨none, 0, 0⟩⟩, ⟨⟨⟨none, 0, 0⟩, ⟨none, 0, 0⟩⟩, ⟨none, 0, 0⟩⟩, ⟨none, 0, 0⟩⟩ rfl (BoxR.new w (msgCells ⟨⟨none, 0, 0⟩, ⟨⟨none, 0, 0⟩, ⟨none, 0, 0⟩⟩, ⟨⟨⟨none, 0, 0⟩, ⟨none, 0, 0⟩⟩, ⟨none, 0, 0⟩⟩, ⟨none, 0, 0⟩⟩ ⟨0, 0, 0, 0, ⟨0, 0, []⟩, ⟨0, 0, [], []⟩, ⟨⟨0, 0, [], []⟩, 0, []⟩, []⟩) 49) ⟨OwnX.nil _ _, OwnI.nil _ _, OwnI.nil _ _, OwnI.nil _ _, OwnI.nil _ _, OwnI.nil _ _, OwnI.nil _ _⟩ (by simp) (le_alloc (Nat.le_refl _)) ?_; intro v1 w1 hown1 hg1 hbel1)
    go_end0
    exact ⟨rfl, Below.trans ((Below.refl _ _).alloc (Nat.le_refl _) _) hbel1⟩
theorem OwnHs.tkR {w w' : World} {B : Nat} {v : Value} {l : List HeldD} (h : OwnHs w B v l) (hk : TKeep 70 w w') : OwnHs w' B v l := by
  obtain ⟨ps, h1, h2, h3⟩ := h
  exact ⟨ps, own_tk h1 hk (by decide), h2, fun j hj => own_tk (h3 j hj) hk (by decide)⟩
theorem OwnWs.tkR {w w' : World} {B : Nat} {v : Value} {l : List WaitD} (h : OwnWs w B v l) (hk : TKeep 70 w w') : OwnWs w' B v l := by
  obtain ⟨ps, h1, h2, h3⟩ := h
  exact ⟨ps, own_tk h1 hk (by decide), h2, fun j hj => own_tk (h3 j hj) hk (by decide)⟩
theorem WorkO.tkR {w w' : World} {B : Nat} {P : WorkP} {D : WorkD} (h : WorkO w B P D) (hk : TKeep 70 w w') : WorkO w' B P D := ⟨own_tk h.op hk (by decide), h.wa.tkR hk, h.he.tkR hk, own_tk h.re hk (by decide)⟩
theorem blk_grownT {w w' : World} {B g k n : Nat} {t t' : TypeId} {v : Value} {cs xs : List Value} (h : Blk w g t cs) (hv : w.ownsRow B t' k v n xs) (hne : t ≠ t') (hg : w.grownBy w' v.ownBlock) : Blk w' g t cs := h.of_heap (hg.block g h.lt (fun e => by
  obtain ⟨_, c2, e2⟩ := own_typeB hv g e.symm
  have hb' : w.heap[g]? = some (.cells cs.toArray t (0, 0)) := h
  rw [hb'] at e2
  injection e2 with e2
  injection e2 with _ e3 _
  exact hne e3))
theorem But.blk {B g k : Nat} {w w' : World} {t : TypeId} {cs : List Value} (h : But B g w w') (hb : Blk w k t cs) (hk : k < B) (hne : k ≠ g) : Blk w' k t cs := hb.of_heap (h.block k hk hne)
end Go.Proofs.YtgfakefcmbpboaaGreat
