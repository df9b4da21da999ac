/- Copies of lists of certificates and of DAGs; numbers spoilt; weights. -/
import Derived.Test.YtfkbilbgndekkaaCp
namespace Go.Proofs.Ytfkbilbgndekkaa
open Go.RowKit
set_option linter.unusedSimpArgs false
set_option linter.unusedVariables false

def LightC (C : CertD) : Prop := C.h.ba.length ≤ 3000 ∧ C.h.pa.length ≤ 3000 ∧ C.si.length ≤ 3000
def Light (l : List CertD) : Prop := l.length ≤ 80 ∧ ∀ k, k < l.length → LightC (cth l k)
def SmallC (C : CertD) : Prop := C.h.ba.length ≤ 17592186044416 ∧ C.h.pa.length ≤ 17592186044416 ∧ C.si.length ≤ 17592186044416
def Small (l : List CertD) : Prop := l.length ≤ 17592186044416 ∧ ∀ k, k < l.length → SmallC (cth l k)
theorem cert_new {B : Nat} {p : CertP} {B' : Nat} (h : CertNew B p) (hB : B' ≤ B) : CertNew B' p := ⟨⟨h.1.1.mono hB, h.1.2.mono hB⟩, h.2.mono hB⟩
set_option maxRecDepth 100000 in
set_option maxHeartbeats 1000000 in
theorem ref0_CopyCerts (A : Option Addr) (n c : Nat) (l : List CertD) (w : World) (hl : CertsR w A n l) (hli : Light l) :
    Calls Try.prog 50 #[.slice A n c] w fun e w' => ∃ v ps, e = .returned v ∧ OwnC w' w.heap.size v ps l ∧ Below w.heap.size w w' := by
  have HL := Lib.hid hl
  have hN := hl.1
  have hn : n ≤ 80 := by rw [← hN]; exact hli.1
  have HN := Lib.hid hN
  have HLI := Lib.hid hli
  clear hl hN hli
  go_enter Try.func50, Try.ntmps50
  go_wp2_with fail
  go_loopw [3, 4] (fun v i wr => ∃ (j : Nat) (ps : List CertP), j ≤ n ∧ i = .int .i64 j ∧ OwnC wr w.heap.size v ps (l.take j) ∧ Below w.heap.size w wr) (fun _ i _ => n - (intOf i).toNat)
  case atStart => exact ⟨0, [], Nat.zero_le _, rfl, OwnC.nil _ _, Below.refl _ _⟩
  case round =>
    obtain ⟨j, ps, hj, rfl, hown, hbw⟩ := hrel
    by_cases hlt : j < n
    · obtain ⟨b, off, rfl, hb, hc⟩ := (HL.out.up hbw).2.2 (by omega)
      obtain ⟨p, hat, hcr⟩ := hc j hlt
      obtain ⟨c0, c1, c2, c3, c4, c5⟩ := hat
      have hlj := HLI.out.2 j (by rw [HN.out]; exact hlt)
      obtain ⟨⟨⟨bA, bn, bc⟩, ⟨pA, pn, pc⟩⟩, ⟨sA, sn, sc⟩⟩ := p
      dsimp only at c0 c1 c2 c3 c4 c5
      have hq1 : bn ≤ 1000000000 := by have := hlj.1; rw [hcr.1.1.1] at this; dsimp only at this; omega
      have hq2 : pn ≤ 1000000000 := by have := hlj.2.1; rw [hcr.1.2.1] at this; dsimp only at this; omega
      have hq3 : sn ≤ 1000000000 := by have := hlj.2.2; rw [hcr.2.1] at this; dsimp only at this; omega
      have HCR := Lib.hid hcr
      clear hc hcr hlj
      have hlenj : (l.take j).length ≤ j := by simp; omega
      have hsz := hbw.size
      go_wp2_with fail
      refine (ref0_CopyCert (cth l j) bA pA sA bn bc pn pc sn sc _ HCR.out hq1 hq2 hq3).mono ?_
      rintro e w1 ⟨p, rfl, hR, hNw, hb1⟩
      have hown1 := hown.up hb1
      have hA1 := hR.toA hNw (blk := u3.ownBlock) (fun g hg => (hown.lt g hg).2)
      have hbx := BoxR.new w1 (certCells p (cth l j)) 48
      have hb1' : Below w1.heap.size w1 (w1.alloc (.cells (certCells p (cth l j)).toArray 48)) := by (repeat (first | (with_reducible exact Below.refl _ _) | (with_reducible assumption) | (with_reducible apply bel_alloc) | (with_reducible apply bel_drew) | (with_reducible apply bel_drewN) | (with_reducible refine bel_trans ?_ (by with_reducible assumption)) | (with_reducible refine bel_trans ?_ (HF.out _)) | ((with_reducible refine bel_set3 ?_ ?_); rotate_left; omega)))
      have hsz1 := hb1.size
      go_wp2_with (at_builtin; refine wpList_appC rfl (.tmp 11) (.tmp 17) rfl (w.heap.size) u3 ps (l.take j) rfl (hown1.up hb1') _ p (cth l j) rfl hbx (hA1.up hb1') (cert_new hNw hsz) (by omega) (le_alloc (Nat.le_trans hsz hsz1)) ?_; intro v2 w2 hown2 hb2)
      (first | (go_round; (case rel => exact ⟨j + 1, ps ++ [p], by omega, by go_num, by rw [take_cth l j (by rw [HN.out]; exact hlt)]; exact hown2, Below.trans (bel_alloc (bel_trans hbw hb1)) hb2⟩); (case measure => (simp [intOf] <;> omega))) | (go_roundw; (case rel => exact ⟨j + 1, ps ++ [p], by omega, by go_num, by rw [take_cth l j (by rw [HN.out]; exact hlt)]; exact hown2, Below.trans (bel_alloc (bel_trans hbw hb1)) hb2⟩); (case measure => (simp [intOf] <;> omega))) | (refine ⟨?_, by simp [intOf] <;> omega⟩; (repeat apply Exists.intro); refine ⟨?rel, ?fr⟩; (case fr => ((repeat' apply And.intro) <;> rfl)); (case rel => exact ⟨j + 1, ps ++ [p], by omega, by go_num, by rw [take_cth l j (by rw [HN.out]; exact hlt)]; exact hown2, Below.trans (bel_alloc (bel_trans hbw hb1)) hb2⟩)))
    · go_wp2_with fail
      go_ret
      have e : l.take j = l := List.take_of_length_le (by rw [HN.out]; omega)
      exact ⟨_, _, rfl, e ▸ hown, hbw⟩
set_option maxRecDepth 100000 in
set_option maxHeartbeats 1000000 in
theorem ref0_CopyDag (A : Option Addr) (n c : Nat) (D : DagD) (w : World) (hl : CertsR w A n D.certs) (hli : Light D.certs) :
    Calls Try.prog 17 #[.agg #[.int .i64 D.nodes, .int .i64 D.low, .slice A n c]] w fun e w' => ∃ A' c', e = .returned (.agg #[.int .i64 D.nodes, .int .i64 D.low, .slice A' n c']) ∧ CertsR w' A' n D.certs ∧ Below w.heap.size w w' := by
  have HL := Lib.hid hl
  have hn : n ≤ 80 := by rw [← hl.1]; exact hli.1
  have HN := Lib.hid hl.1
  have HLI := Lib.hid hli
  clear hl hli
  go_enter Try.func17, Try.ntmps17
  go_wp2_with fail
  refine (ref0_CopyCerts A n c D.certs _ (HL.out.up (by (repeat (first | (with_reducible exact Below.refl _ _) | (with_reducible assumption) | (with_reducible apply bel_alloc) | (with_reducible apply bel_drew) | (with_reducible apply bel_drewN) | (with_reducible refine bel_trans ?_ (by with_reducible assumption)) | (with_reducible refine bel_trans ?_ (HF.out _)) | ((with_reducible refine bel_set3 ?_ ?_); rotate_left; omega))))) HLI.out).mono ?_
  rintro e w1 ⟨v, ps, rfl, hown, hb1⟩
  obtain ⟨A1, c1, rfl, _, _⟩ := hown.certs (by rw [HN.out]; omega)
  have hown' := hown.mono (B' := w.heap.size + 3) (by simp)
  clear hown
  rw [HN.out] at hown' ⊢
  have HO := Lib.hid hown'
  clear hown'
  have hz_w1 : w.heap.size + 3 ≤ w1.heap.size := (by have hq := (hb1).size; (try simp at hq); omega); have hc0_w1 := fun o => (bcell hb1).1 (w.heap.size) o (by first | (simp; done) | (simp; omega) | omega); have hc1_w1 := fun o => (bcell hb1).1 (w.heap.size + 1) o (by first | (simp; done) | (simp; omega) | omega); have hc2_w1 := fun o => (bcell hb1).1 (w.heap.size + 2) o (by first | (simp; done) | (simp; omega) | omega); have hf0_w1 := fun o => (bcell hb1).2 (w.heap.size) o (by first | (simp; done) | (simp; omega) | omega); have hf1_w1 := fun o => (bcell hb1).2 (w.heap.size + 1) o (by first | (simp; done) | (simp; omega) | omega); have hf2_w1 := fun o => (bcell hb1).2 (w.heap.size + 2) o (by first | (simp; done) | (simp; omega) | omega)
  go_wp2_with fail
  have hfin := (((HO.out.setLow (b := w.heap.size + 1 + 1) (o := 2) (u := .slice A1 n c1) (by omega)).setLow (b := w.heap.size + 1) (o := 0) (u := .int .i64 D.nodes) (by omega)).setLow (b := w.heap.size + 1) (o := 1) (u := .int .i64 D.low) (by omega)).setLow (b := w.heap.size + 1) (o := 2) (u := .slice A1 n c1) (by omega)
  obtain ⟨A2, c2, e2, hcs, _⟩ := hfin.certs (by rw [HN.out]; omega)
  injection e2 with e2 e3 e4
  subst e2; subst e4
  rw [HN.out] at hcs
  exact bodyPost_ret (v := .agg #[.int .i64 D.nodes, .int .i64 D.low, .slice A1 n c1]) (by simp [results, Try.results17, go_sem, hc0_w1, hc1_w1, hc2_w1]) rfl ⟨A1, c1, rfl, hcs, by (repeat (first | (with_reducible exact Below.refl _ _) | (with_reducible assumption) | (with_reducible apply bel_alloc) | (with_reducible apply bel_drew) | (with_reducible apply bel_drewN) | (with_reducible refine bel_trans ?_ (by with_reducible assumption)) | (with_reducible refine bel_trans ?_ (HF.out _)) | ((with_reducible refine bel_set3 ?_ ?_); rotate_left; omega)))⟩
set_option maxRecDepth 100000 in
set_option maxHeartbeats 1000000 in
theorem law0_Numbers (v : Value) (l : List Int) (B : Nat) (w : World) (hown : OwnI w B v l) (hlen : l.length ≤ 1000000) (hB : B ≤ w.heap.size) :
    Calls Try.prog 24 #[v] w fun e w' => e = .returned (.tuple #[]) ∧ Below B w w' := by
  rcases hown.shape with ⟨rfl, rfl⟩ | ⟨g, c, rfl, hgB⟩
  · have HO := Lib.hid hown; clear hown
    go_enter Try.func24, Try.ntmps24
    go_wp2_with fail
    go_loop [2] (fun i => i = .int .i64 0) (fun _ => 0)
    case atStart => rfl
    case round =>
      obtain rfl := hrel
      go_wp2_with (at_builtin; refine wpList_app1 rfl (.tmp 12) (.tmp 13) rfl B _ _ rfl (HO.out.alloc _) _ 5 rfl (cell0_alloc _ _ _) (by simp) (le_alloc hB) ?_; intro v1 w1 hown1 hg1 hbel1 hat1)
      go_end0
      exact ⟨rfl, Below.trans ((Below.refl _ _).alloc hB _) hbel1⟩
  · obtain ⟨n, hn⟩ : ∃ n, n = l.length := ⟨_, rfl⟩
    rw [← hn] at hown hlen ⊢
    have HN := Lib.hid hn; clear hn
    go_enter Try.func24, Try.ntmps24
    go_wp2_with fail
    go_loopw [2] (fun i wr => ∃ (k : Nat) (cur : List Int), k ≤ n ∧ i = .int .i64 k ∧ Hid (cur.length = n) ∧ OwnI wr B (.slice (some ⟨g, 0, none⟩) n c) cur ∧ Below B w wr) (fun i _ => n - (intOf i).toNat)
    case atStart => exact ⟨0, l, by omega, rfl, HN.out.symm, hown, Below.refl _ _⟩
    case round =>
      clear hown
      obtain ⟨k, cur, hk, rfl, hcl, hown, hbw⟩ := hrel
      by_cases hlt : k < n
      · obtain ⟨c1, f1⟩ := hown.get (i := k) (by rw [hcl.out]; omega)
        go_wp2_with fail
        (first | (go_round; (case rel => exact ⟨k + 1, cur.set k (-99), by omega, by go_num, Lib.hid (by have q := hcl.out; simpa using q), hown.put (by rw [hcl.out]; omega), hbw.setCell hgB _⟩); (case measure => (simp [intOf] <;> omega))) | (go_roundw; (case rel => exact ⟨k + 1, cur.set k (-99), by omega, by go_num, Lib.hid (by have q := hcl.out; simpa using q), hown.put (by rw [hcl.out]; omega), hbw.setCell hgB _⟩); (case measure => (simp [intOf] <;> omega))) | (refine ⟨?_, by simp [intOf] <;> omega⟩; (repeat apply Exists.intro); refine ⟨?rel, ?fr⟩; (case fr => ((repeat' apply And.intro) <;> rfl)); (case rel => exact ⟨k + 1, cur.set k (-99), by omega, by go_num, Lib.hid (by have q := hcl.out; simpa using q), hown.put (by rw [hcl.out]; omega), hbw.setCell hgB _⟩)))
      · have hsz := hbw.size
        go_wp2_with (at_builtin; refine wpList_app1 rfl (.tmp 12) (.tmp 13) rfl B _ cur rfl (hown.alloc _) _ 5 rfl (cell0_alloc _ _ _) (by rw [hcl.out]; omega) (le_alloc (Nat.le_trans hB hsz)) ?_; intro v1 w1 hown1 hg1 hbel1 hat1)
        go_end0
        exact ⟨rfl, Below.trans (hbw.alloc (Nat.le_trans hB hsz) _) hbel1⟩
end Go.Proofs.Ytfkbilbgndekkaa
