/- Tables: copies, the same, at the reference. -/
import Derived.Test.YtbakkpabiknlmaaSzNk0
import Derived.Test.YtbakkpabiknlmaaSzNm
import Derived.Test.YtbakkpabiknlmaaSzNl
namespace Go.Proofs.Ytbakkpabiknlmaa
open Go.RowKit
set_option linter.unusedSimpArgs false
set_option linter.unusedVariables false

theorem bel_set3 {w x : World} (h : Below w.heap.size w x) {b o : Nat} {v : Value} (hp : w.heap.size ≤ b) : Below w.heap.size w (x.setCell ⟨b, o, none⟩ v) := h.setCell hp v
theorem own_set3 {w : World} {B k n : Nat} {t : TypeId} {v : Value} {xs : List Value} (h : w.ownsRow B t k v n xs) {b o : Nat} (hp : b < B) (u : Value) : (w.setCell ⟨b, o, none⟩ u).ownsRow B t k v n xs := own_set h (p := ⟨b, o, none⟩) hp u
theorem OwnP.set3 {w : World} {B : Nat} {v : Value} {l : List PairD} (h : OwnP w B v l) {b o : Nat} (hp : b < B) (u : Value) : OwnP (w.setCell ⟨b, o, none⟩ u) B v l := own_set3 h hp u
theorem OwnA.set3 {w : World} {B : Nat} {v : Value} {l : List AcctD} (h : OwnA w B v l) {b o : Nat} (hp : b < B) (u : Value) : OwnA (w.setCell ⟨b, o, none⟩ u) B v l := own_set3 h hp u
set_option maxRecDepth 100000 in
set_option maxHeartbeats 2000000 in
theorem ref0_CopyTable (A : Option Addr) (n c : Nat) (l : List PairD) (B : Option Addr) (m d : Nat) (q : List AcctD) (w : World) (hl : PairsR w A n l) (hq : AcctsR w B m q) (hn : n ≤ 800000000) (hm : m ≤ 800000000) :
    Calls Try.prog 14 #[.agg #[.slice A n c, .slice B m d]] w fun e w' => ∃ vp va, e = .returned (.agg #[vp, va]) ∧ OwnP w' w.heap.size vp l ∧ OwnA w' w.heap.size va q ∧ Disj vp va ∧ Below w.heap.size w w' := by
  have HL := Lib.hid hl
  have HQ := Lib.hid hq
  have HN := Lib.hid hl.1
  have HM := Lib.hid hq.1
  clear hl hq
  go_enter Try.func14, Try.ntmps14
  go_wp2_with fail
  refine (ref0_CopyPairs _ _ _ l _ (HL.out.up (by (repeat (first | (with_reducible exact Below.refl _ _) | (with_reducible assumption) | (with_reducible apply bel_alloc) | (with_reducible apply bel_drew) | (with_reducible apply bel_drewN) | (with_reducible refine bel_trans ?_ (by with_reducible assumption)) | (with_reducible refine bel_trans ?_ (HF.out _)) | ((with_reducible refine bel_set3 ?_ ?_); rotate_left; omega))))) hn).mono ?_
  rintro e w1 ⟨v1, rfl, hown1, hb1⟩
  have hz1 := hown1
  obtain ⟨A1, c1, rfl, _⟩ := hown1.pairs (by rw [HN.out]; omega)
  have HO1 := Lib.hid hown1
  clear hown1 hz1
  have hz_w1 : w.heap.size + 3 ≤ w1.heap.size := (by have hq := (hb1).size; (try simp at hq); omega); have hc0_w1 := fun o => (bcell hb1).1 (w.heap.size) o (by first | (simp; done) | (simp; omega) | omega); have hc1_w1 := fun o => (bcell hb1).1 (w.heap.size + 1) o (by first | (simp; done) | (simp; omega) | omega); have hc2_w1 := fun o => (bcell hb1).1 (w.heap.size + 2) o (by first | (simp; done) | (simp; omega) | omega); have hf0_w1 := fun o => (bcell hb1).2 (w.heap.size) o (by first | (simp; done) | (simp; omega) | omega); have hf1_w1 := fun o => (bcell hb1).2 (w.heap.size + 1) o (by first | (simp; done) | (simp; omega) | omega); have hf2_w1 := fun o => (bcell hb1).2 (w.heap.size + 2) o (by first | (simp; done) | (simp; omega) | omega)
  go_wp2_with fail
  refine (ref0_CopyAccounts _ _ _ q _ (HQ.out.up (by (repeat (first | (with_reducible exact Below.refl _ _) | (with_reducible assumption) | (with_reducible apply bel_alloc) | (with_reducible apply bel_drew) | (with_reducible apply bel_drewN) | (with_reducible refine bel_trans ?_ (by with_reducible assumption)) | (with_reducible refine bel_trans ?_ (HF.out _)) | ((with_reducible refine bel_set3 ?_ ?_); rotate_left; omega))))) hm).mono ?_
  rintro e w2 ⟨v2, rfl, hown2, hb2⟩
  obtain ⟨A2, c2, rfl, _⟩ := hown2.accts (by rw [HM.out]; omega)
  have HO2 := Lib.hid hown2
  clear hown2
  have hz_w2 : w.heap.size + 3 ≤ w2.heap.size := (by have hq := (hb2).size; (try simp at hq); omega); have hc0_w2 := fun o => (bcell hb2).1 (w.heap.size) o (by first | (simp; done) | (simp; omega) | omega); have hc1_w2 := fun o => (bcell hb2).1 (w.heap.size + 1) o (by first | (simp; done) | (simp; omega) | omega); have hc2_w2 := fun o => (bcell hb2).1 (w.heap.size + 2) o (by first | (simp; done) | (simp; omega) | omega); have hf0_w2 := fun o => (bcell hb2).2 (w.heap.size) o (by first | (simp; done) | (simp; omega) | omega); have hf1_w2 := fun o => (bcell hb2).2 (w.heap.size + 1) o (by first | (simp; done) | (simp; omega) | omega); have hf2_w2 := fun o => (bcell hb2).2 (w.heap.size + 2) o (by first | (simp; done) | (simp; omega) | omega)
  have hP2 : OwnP w2 (w.heap.size + 3) (.slice A1 l.length c1) l := OwnP.up (OwnP.set3 (OwnP.mono HO1.out (by simp)) (by omega) _) hb2
  have hA2 : OwnA w2 (w.heap.size + 3) (.slice A2 q.length c2) q := OwnA.mono HO2.out (by simp; omega)
  have hD : Disj (.slice A1 l.length c1) (.slice A2 q.length c2) := disj_later HO1.out HO2.out (by simp)
  have HP2 := Lib.hid hP2
  have HA2 := Lib.hid hA2
  have HD := Lib.hid hD
  clear hP2 hA2 hD HO1 HO2
  go_wp2_with fail
  refine bodyPost_ret (v := .agg #[.slice A1 l.length c1, .slice A2 q.length c2]) (by simp [results, Try.results14, go_sem, hc0_w1, hc1_w1, hc2_w1, hc0_w2, hc1_w2, hc2_w2]) rfl ⟨_, _, rfl, ?_, ?_, HD.out, by (repeat (first | (with_reducible exact Below.refl _ _) | (with_reducible assumption) | (with_reducible apply bel_alloc) | (with_reducible apply bel_drew) | (with_reducible apply bel_drewN) | (with_reducible refine bel_trans ?_ (by with_reducible assumption)) | (with_reducible refine bel_trans ?_ (HF.out _)) | ((with_reducible refine bel_set3 ?_ ?_); rotate_left; omega)))⟩
  · exact OwnP.mono (OwnP.set3 (OwnP.set3 (OwnP.set3 HP2.out (by omega) _) (by omega) _) (by omega) _) (by omega)
  · exact OwnA.mono (OwnA.set3 (OwnA.set3 (OwnA.set3 HA2.out (by omega) _) (by omega) _) (by omega) _) (by omega)
set_option maxRecDepth 100000 in
set_option maxHeartbeats 1000000 in
theorem ref0_EqTable (A : Option Addr) (n c : Nat) (B : Option Addr) (m d : Nat) (A' : Option Addr) (n' c' : Nat) (B' : Option Addr) (m' d' : Nat) (l : List PairD) (q : List AcctD) (w : World) (hl : PairsR w A n l) (hq : AcctsR w B m q) (hl' : PairsR w A' n' l) (hq' : AcctsR w B' m' q) :
    Calls Try.prog 17 #[.agg #[.slice A n c, .slice B m d], .agg #[.slice A' n' c', .slice B' m' d']] w fun e w' => e = .returned (.bool true) ∧ Below w.heap.size w w' := by
  have HL := Lib.hid hl
  have HQ := Lib.hid hq
  have HL' := Lib.hid hl'
  have HQ' := Lib.hid hq'
  clear hl hq hl' hq'
  go_enter Try.func17, Try.ntmps17
  go_wp2_with fail
  refine (ref0_EqPairs _ _ _ _ _ _ l _ (HL.out.up (by (repeat (first | (with_reducible exact Below.refl _ _) | (with_reducible assumption) | (with_reducible apply bel_alloc) | (with_reducible apply bel_drew) | (with_reducible apply bel_drewN) | (with_reducible refine bel_trans ?_ (by with_reducible assumption)) | (with_reducible refine bel_trans ?_ (HF.out _)) | ((with_reducible refine bel_set3 ?_ ?_); rotate_left; omega))))) (HL'.out.up (by (repeat (first | (with_reducible exact Below.refl _ _) | (with_reducible assumption) | (with_reducible apply bel_alloc) | (with_reducible apply bel_drew) | (with_reducible apply bel_drewN) | (with_reducible refine bel_trans ?_ (by with_reducible assumption)) | (with_reducible refine bel_trans ?_ (HF.out _)) | ((with_reducible refine bel_set3 ?_ ?_); rotate_left; omega)))))).mono ?_
  rintro e w1 ⟨rfl, hb1⟩
  have hz_w1 : w.heap.size + 2 ≤ w1.heap.size := (by have hq := (hb1).size; (try simp at hq); omega); have hc0_w1 := fun o => (bcell hb1).1 (w.heap.size) o (by first | (simp; done) | (simp; omega) | omega); have hc1_w1 := fun o => (bcell hb1).1 (w.heap.size + 1) o (by first | (simp; done) | (simp; omega) | omega)
  go_wp2_with fail
  refine (ref0_EqAccounts _ _ _ _ _ _ q _ (HQ.out.up (by (repeat (first | (with_reducible exact Below.refl _ _) | (with_reducible assumption) | (with_reducible apply bel_alloc) | (with_reducible apply bel_drew) | (with_reducible apply bel_drewN) | (with_reducible refine bel_trans ?_ (by with_reducible assumption)) | (with_reducible refine bel_trans ?_ (HF.out _)) | ((with_reducible refine bel_set3 ?_ ?_); rotate_left; omega))))) (HQ'.out.up (by (repeat (first | (with_reducible exact Below.refl _ _) | (with_reducible assumption) | (with_reducible apply bel_alloc) | (with_reducible apply bel_drew) | (with_reducible apply bel_drewN) | (with_reducible refine bel_trans ?_ (by with_reducible assumption)) | (with_reducible refine bel_trans ?_ (HF.out _)) | ((with_reducible refine bel_set3 ?_ ?_); rotate_left; omega)))))).mono ?_
  rintro e w2 ⟨rfl, hb2⟩
  go_wp2_with fail
  go_ret
  exact ⟨rfl, by (repeat (first | (with_reducible exact Below.refl _ _) | (with_reducible assumption) | (with_reducible apply bel_alloc) | (with_reducible apply bel_drew) | (with_reducible apply bel_drewN) | (with_reducible refine bel_trans ?_ (by with_reducible assumption)) | (with_reducible refine bel_trans ?_ (HF.out _)) | ((with_reducible refine bel_set3 ?_ ?_); rotate_left; omega)))⟩
end Go.Proofs.Ytbakkpabiknlmaa
