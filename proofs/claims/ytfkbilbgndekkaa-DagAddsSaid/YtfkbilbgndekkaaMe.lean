/- droverref14.Add, where it takes the certificate in. -/
import Derived.Test.YtfkbilbgndekkaaMc
import Derived.Test.YtfkbilbgndekkaaMd
import Derived.Deep.CutBlock
import Derived.Deep.RegionLaw
import Derived.Deep.RegionHeld3
namespace Go.Proofs.Ytfkbilbgndekkaa
open Go.RowKit
set_option linter.unusedSimpArgs false
set_option linter.unusedVariables false

/-- Certificates that are played, some more of them. -/
def LightM (l : List CertD) : Prop := l.length ≤ 1000 ∧ ∀ k, k < l.length → LightC (cth l k)
theorem LightM.of {l : List CertD} (h : Light l) : LightM l := ⟨Nat.le_trans h.1 (by omega), h.2⟩
theorem lightC_mem {l : List CertD} (h : LightM l) : ∀ C ∈ l, LightC C := fun C hC => by
  obtain ⟨j, hj, rfl⟩ := mem_cth hC
  exact h.2 j hj
theorem LightM.mk' {l : List CertD} (h1 : l.length ≤ 1000) (h2 : ∀ C ∈ l, LightC C) : LightM l := ⟨h1, fun k hk => h2 _ (cth_mem hk)⟩
theorem LightM.take {l : List CertD} (h : LightM l) (i : Nat) : LightM (l.take i) := .mk' (Nat.le_trans (by simp; omega) h.1) (fun C hC => lightC_mem h C (List.mem_of_mem_take hC))
theorem LightM.drop {l : List CertD} (h : LightM l) (i : Nat) : LightM (l.drop i) := .mk' (Nat.le_trans (by simp) h.1) (fun C hC => lightC_mem h C (List.mem_of_mem_drop hC))
theorem certsR_take {w : World} {A : Option Addr} {n i : Nat} {l : List CertD} (h : CertsR w A n l) (hi : i ≤ n) : CertsR w A i (l.take i) := by
  obtain ⟨h1, h2, h3⟩ := h
  refine ⟨by simp [h1]; omega, by omega, fun hn => ?_⟩
  obtain ⟨b, off, e, hb, hc⟩ := h3 (by omega)
  refine ⟨b, off, e, hb, fun j hj => ?_⟩
  obtain ⟨p, hp, hr⟩ := hc j (by omega)
  have e2 : cth (l.take i) j = cth l j := by simp [cth, List.getElem?_take, hj]
  rw [e2]
  exact ⟨p, hp, hr⟩
theorem certsR_drop {w : World} {b off n i : Nat} {l : List CertD} (h : CertsR w (some ⟨b, off, none⟩) n l) (hi : i < n) : CertsR w (some ⟨b, off + i * 6, none⟩) (n - i) (l.drop i) := by
  obtain ⟨h1, h2, h3⟩ := h
  refine ⟨by simp [h1], by omega, fun hn => ?_⟩
  obtain ⟨b', off', e, hb, hc⟩ := h3 (by omega)
  injection e with e; injection e with e1 e2
  subst e1; subst e2
  refine ⟨b, off + i * 6, rfl, hb, fun j hj => ?_⟩
  obtain ⟨p, hp, hr⟩ := hc (i + j) (by omega)
  have e2 : cth (l.drop i) j = cth l (i + j) := by simp [cth]
  rw [e2, show off + i * 6 + j * 6 = off + (i + j) * 6 by rw [Nat.add_mul]; omega]
  exact ⟨p, hp, hr⟩
theorem certsR_nil0 (w : World) (A : Option Addr) : CertsR w A 0 [] := ⟨rfl, by omega, fun h => absurd h (by omega)⟩
theorem run_appCsO (w : World) (B B9 : Nat) (v v9 : Value) (ps qs : List CertP) (l l2 : List CertD) (hown : OwnC w B v ps l) (h9 : OwnC w B9 v9 qs l2) (hlt : ∀ g, v.ownBlock = some g → g < B9) (hB9 : B ≤ B9) (hlen : l.length ≤ 100000000) (hlen2 : l2.length ≤ 100000000) (hB : B ≤ w.heap.size) :
    ∃ v' w', (Builtin.append_ #[22, 22] 22 #[v, v9]).run Try.prog w = .ok v' w' ∧ OwnC w' B v' (ps ++ qs) (l ++ l2) ∧ Below B w w' := by
  obtain ⟨i0, hi, hz, hz1, hz2⟩ := info_parts cert_info
  rcases h9.1.2 with ⟨rfl, hn⟩ | ⟨g, cap, cur, rfl, hb, hg, hnc, hcm, hsz, htk⟩
  · have hl0 : l2 = [] := by simpa using hn
    subst hl0
    have hq0 : qs = [] := List.length_eq_zero_iff.1 h9.2.1
    subst hq0
    refine ⟨v, w, ?_, by simpa using hown, Below.refl _ _⟩
    rcases hown.1.2 with ⟨rfl, _⟩ | ⟨g, cap, cur, rfl, _, _, hnc, _⟩
    · simp [Builtin.append_, run_underlying Try.underlying22, sizeOf, typeInfo, hi, Builtin.lenOf, Builtin.firstCells, loadCells, loadCellsFrom, storeCells]
    · simp [Builtin.append_, run_underlying Try.underlying22, sizeOf, typeInfo, hi, Builtin.lenOf, Builtin.firstCells, loadCells, loadCellsFrom, hnc, storeCells]
  · obtain ⟨v', w', hrun, h2, h3, _, h5⟩ := run_append_own_at (P := Try.prog) w B 22 22 48 i0 _ 6 96 Try.underlying22 hi hz hz1 hz2 rfl (by omega) v l.length (rowCells ps l) hown.1 ⟨g, 0, none⟩ l2.length cap (rowCells qs l2) (rowCells_size h9.2.1)
      (by intro j u hu; exact World.ownsRow.cells h9.1 (g := g) rfl j u hu) (rowCells_ones qs l2) (by simp only [maxLen]; omega) (by omega) hB
    have hA : ∀ j, j < l2.length → CertA v.ownBlock w (qs.getD j default) (cth l2 j) ∧ CertNew B (qs.getD j default) := fun j hj => ⟨(h9.2.2 j hj).1.cert.toA (h9.2.2 j hj).2 hlt, cert_new (h9.2.2 j hj).2 hB9⟩
    have hown' : OwnC w' B v' (ps ++ qs) (l ++ l2) := by
      refine ⟨by rw [rowCells_app hown.2.1]; simpa using h2, by simp [hown.2.1, h9.2.1], fun j hj => ?_⟩
      rcases Nat.lt_or_ge j l.length with hj' | hj'
      · have e1 : (ps ++ qs).getD j default = ps.getD j default := by simp [List.getElem?_append, hown.2.1, hj']
        have e2 : cth (l ++ l2) j = cth l j := by simp [cth, List.getElem?_append, hj']
        rw [e1, e2]
        exact ⟨(hown.2.2 j hj').1.grow h3 h5, (hown.2.2 j hj').2⟩
      · have hj2 : j - l.length < l2.length := by simp at hj; omega
        have e1 : (ps ++ qs).getD j default = qs.getD (j - l.length) default := by simp [List.getElem?_append, hown.2.1, Nat.not_lt.2 hj']
        have e2 : cth (l ++ l2) j = cth l2 (j - l.length) := by simp [cth, List.getElem?_append, Nat.not_lt.2 hj']
        rw [e1, e2]
        exact ⟨(hA _ hj2).1.grow h3 h5, (hA _ hj2).2⟩
    exact ⟨v', w', hrun, hown', ⟨h3.os, h3.tape, h3.output, h3.size, fun k hk => h3.block k (by omega) (fun e => by have := (hown.lt k e.symm).1; omega)⟩⟩
theorem step_appCsO {ops : Array Oper} {o : Oper} {a : Act} {w : World} {K : Act → World → Prop} {Q : Exit → Act → World → Prop} {E : Prop} (hg : o.guard = none) (s x : Operand)
    (ho : o.op = .call { callee := .builtin .append, args := #[s, x], argTypes := #[22, 22] }) (hty : o.type = 22)
    (B B9 : Nat) (v v9 : Value) (ps qs : List CertP) (l l2 : List CertD) (hs : a.eval s = v) (hx : a.eval x = v9) (hown : OwnC w B v ps l) (h9 : OwnC w B9 v9 qs l2) (hlt : ∀ g, v.ownBlock = some g → g < B9) (hB9 : B ≤ B9) (hlen : l.length ≤ 100000000) (hlen2 : l2.length ≤ 100000000) (hB : B ≤ w.heap.size)
    (h : ∀ v' w', OwnC w' B v' (ps ++ qs) (l ++ l2) → Below B w w' → K (a.put o.dst v') w') : if Region.wanted o (yielded ops a.tmps) = true then Oper.wp Try.prog o a w K Q else E := by
  have hw : Region.wanted o (yielded ops a.tmps) = true := by simp [Region.wanted, hg]
  rw [if_pos hw]
  obtain ⟨v', w', hrun, h2, h3⟩ := run_appCsO w B B9 v v9 ps qs l l2 hown h9 hlt hB9 hlen hlen2 hB
  exact Lib.wp_append_run w s x _ _ ho v _ hs hx v' w' (by rw [hty]; exact hrun) (h v' w' h2 h3)
set_option maxRecDepth 100000 in
set_option maxHeartbeats 1000000 in
theorem copyCertsM (A : Option Addr) (n c : Nat) (l : List CertD) (w : World) (hl : CertsR w A n l) (hli : LightM l) :
    Calls Try.prog 50 #[.slice A n c] w fun e w' => ∃ v ps, e = .returned v ∧ OwnC w' w.heap.size v ps l ∧ Below w.heap.size w w' := by
  have HL := Lib.hid hl
  have hN := hl.1
  have hn : n ≤ 1000 := by rw [← hN]; exact hli.1
  have HN := Lib.hid hN
  have HLI := Lib.hid hli
  clear hl hN hli
  go_enter Try.func50, Try.ntmps50
  go_wp2_with fail
  go_loopw [3, 4] (fun v i wr => ∃ (j : Nat) (ps : List CertP), j ≤ n ∧ i = .int .i64 j ∧ OwnC wr w.heap.size v ps (l.take j) ∧ Below w.heap.size w wr) (fun _ i _ => n - (intOf i).toNat)
  case atStart => exact ⟨0, [], Nat.zero_le _, rfl, OwnC.nil _ _, Below.refl _ _⟩
  case round =>
    obtain ⟨j, ps, hj, rfl, hown, hbw⟩ := hrel
    by_cases hlt : j < n
    · obtain ⟨b, off, rfl, hb, hc⟩ := (HL.out.up hbw).2.2 (by omega)
      obtain ⟨p, hat, hcr⟩ := hc j hlt
      obtain ⟨c0, c1, c2, c3, c4, c5⟩ := hat
      have hlj := HLI.out.2 j (by rw [HN.out]; exact hlt)
      obtain ⟨⟨⟨bA, bn, bc⟩, ⟨pA, pn, pc⟩⟩, ⟨sA, sn, sc⟩⟩ := p
      dsimp only at c0 c1 c2 c3 c4 c5
      have hq1 : bn ≤ 1000000000 := by have := hlj.1; rw [hcr.1.1.1] at this; dsimp only at this; omega
      have hq2 : pn ≤ 1000000000 := by have := hlj.2.1; rw [hcr.1.2.1] at this; dsimp only at this; omega
      have hq3 : sn ≤ 1000000000 := by have := hlj.2.2; rw [hcr.2.1] at this; dsimp only at this; omega
      have HCR := Lib.hid hcr
      clear hc hcr hlj
      have hlenj : (l.take j).length ≤ j := by simp; omega
      have hsz := hbw.size
      go_wp2_with fail
      refine (ref0_CopyCert (cth l j) bA pA sA bn bc pn pc sn sc _ HCR.out hq1 hq2 hq3).mono ?_
      rintro e w1 ⟨p, rfl, hR, hNw, hb1⟩
      have hown1 := hown.up hb1
      have hA1 := hR.toA hNw (blk := u3.ownBlock) (fun g hg => (hown.lt g hg).2)
      have hbx := BoxR.new w1 (certCells p (cth l j)) 48
      have hb1' : Below w1.heap.size w1 (w1.alloc (.cells (certCells p (cth l j)).toArray 48)) := by (repeat (first | (with_reducible exact Below.refl _ _) | (with_reducible assumption) | (with_reducible apply bel_alloc) | (with_reducible apply bel_drew) | (with_reducible apply bel_drewN) | (with_reducible refine bel_trans ?_ (by with_reducible assumption)) | (with_reducible refine bel_trans ?_ (HF.out _)) | ((with_reducible refine bel_set3 ?_ ?_); rotate_left; omega)))
      have hsz1 := hb1.size
      go_wp2_with (at_builtin; refine wpList_appC rfl (.tmp 11) (.tmp 17) rfl (w.heap.size) u3 ps (l.take j) rfl (hown1.up hb1') _ p (cth l j) rfl hbx (hA1.up hb1') (cert_new hNw hsz) (by omega) (le_alloc (Nat.le_trans hsz hsz1)) ?_; intro v2 w2 hown2 hb2)
      (first | (go_round; (case rel => exact ⟨j + 1, ps ++ [p], by omega, by go_num, by rw [take_cth l j (by rw [HN.out]; exact hlt)]; exact hown2, Below.trans (bel_alloc (bel_trans hbw hb1)) hb2⟩); (case measure => (simp [intOf] <;> omega))) | (go_roundw; (case rel => exact ⟨j + 1, ps ++ [p], by omega, by go_num, by rw [take_cth l j (by rw [HN.out]; exact hlt)]; exact hown2, Below.trans (bel_alloc (bel_trans hbw hb1)) hb2⟩); (case measure => (simp [intOf] <;> omega))) | (refine ⟨?_, by simp [intOf] <;> omega⟩; (repeat apply Exists.intro); refine ⟨?rel, ?fr⟩; (case fr => ((repeat' apply And.intro) <;> rfl)); (case rel => exact ⟨j + 1, ps ++ [p], by omega, by go_num, by rw [take_cth l j (by rw [HN.out]; exact hlt)]; exact hown2, Below.trans (bel_alloc (bel_trans hbw hb1)) hb2⟩)))
    · go_wp2_with fail
      go_ret
      have e : l.take j = l := List.take_of_length_le (by rw [HN.out]; omega)
      exact ⟨_, _, rfl, e ▸ hown, hbw⟩
set_option maxRecDepth 100000 in
set_option maxHeartbeats 1000000 in
theorem copyDagM (A : Option Addr) (n c : Nat) (D : DagD) (w : World) (hl : CertsR w A n D.certs) (hli : LightM D.certs) :
    Calls Try.prog 17 #[.agg #[.int .i64 D.nodes, .int .i64 D.low, .slice A n c]] w fun e w' => ∃ A' c', e = .returned (.agg #[.int .i64 D.nodes, .int .i64 D.low, .slice A' n c']) ∧ CertsR w' A' n D.certs ∧ Below w.heap.size w w' := by
  have HL := Lib.hid hl
  have hn : n ≤ 1000 := by rw [← hl.1]; exact hli.1
  have HN := Lib.hid hl.1
  have HLI := Lib.hid hli
  clear hl hli
  go_enter Try.func17, Try.ntmps17
  go_wp2_with fail
  refine (copyCertsM A n c D.certs _ (HL.out.up (by (repeat (first | (with_reducible exact Below.refl _ _) | (with_reducible assumption) | (with_reducible apply bel_alloc) | (with_reducible apply bel_drew) | (with_reducible apply bel_drewN) | (with_reducible refine bel_trans ?_ (by with_reducible assumption)) | (with_reducible refine bel_trans ?_ (HF.out _)) | ((with_reducible refine bel_set3 ?_ ?_); rotate_left; omega))))) HLI.out).mono ?_
  rintro e w1 ⟨v, ps, rfl, hown, hb1⟩
  obtain ⟨A1, c1, rfl, _, _⟩ := hown.certs (by rw [HN.out]; omega)
  have hown' := hown.mono (B' := w.heap.size + 3) (by simp)
  clear hown
  rw [HN.out] at hown' ⊢
  have HO := Lib.hid hown'
  clear hown'
  have hz_w1 : w.heap.size + 3 ≤ w1.heap.size := (by have hq := (hb1).size; (try simp at hq); omega); have hc0_w1 := fun o => (bcell hb1).1 (w.heap.size) o (by first | (simp; done) | (simp; omega) | omega); have hc1_w1 := fun o => (bcell hb1).1 (w.heap.size + 1) o (by first | (simp; done) | (simp; omega) | omega); have hc2_w1 := fun o => (bcell hb1).1 (w.heap.size + 2) o (by first | (simp; done) | (simp; omega) | omega); have hf0_w1 := fun o => (bcell hb1).2 (w.heap.size) o (by first | (simp; done) | (simp; omega) | omega); have hf1_w1 := fun o => (bcell hb1).2 (w.heap.size + 1) o (by first | (simp; done) | (simp; omega) | omega); have hf2_w1 := fun o => (bcell hb1).2 (w.heap.size + 2) o (by first | (simp; done) | (simp; omega) | omega)
  go_wp2_with fail
  have hfin := (((HO.out.setLow (b := w.heap.size + 1 + 1) (o := 2) (u := .slice A1 n c1) (by omega)).setLow (b := w.heap.size + 1) (o := 0) (u := .int .i64 D.nodes) (by omega)).setLow (b := w.heap.size + 1) (o := 1) (u := .int .i64 D.low) (by omega)).setLow (b := w.heap.size + 1) (o := 2) (u := .slice A1 n c1) (by omega)
  obtain ⟨A2, c2, e2, hcs, _⟩ := hfin.certs (by rw [HN.out]; omega)
  injection e2 with e2 e3 e4
  subst e2; subst e4
  rw [HN.out] at hcs
  exact bodyPost_ret (v := .agg #[.int .i64 D.nodes, .int .i64 D.low, .slice A1 n c1]) (by simp [results, Try.results17, go_sem, hc0_w1, hc1_w1, hc2_w1]) rfl ⟨A1, c1, rfl, hcs, by (repeat (first | (with_reducible exact Below.refl _ _) | (with_reducible assumption) | (with_reducible apply bel_alloc) | (with_reducible apply bel_drew) | (with_reducible apply bel_drewN) | (with_reducible refine bel_trans ?_ (by with_reducible assumption)) | (with_reducible refine bel_trans ?_ (HF.out _)) | ((with_reducible refine bel_set3 ?_ ?_); rotate_left; omega)))⟩
set_option maxRecDepth 100000 in
set_option maxHeartbeats 40000000 in
theorem ref14_Add_ok (A : Option Addr) (n c : Nat) (D : DagD) (C : CertD) (bA pA sA : Option Addr) (bn bc pn pc sn sc : Nat) (w : World) (hl : CertsR w A n D.certs) (hr : CertR w ⟨⟨⟨bA, bn, bc⟩, ⟨pA, pn, pc⟩⟩, ⟨sA, sn, sc⟩⟩ C) (a b : Int) (hA : atS D.certs C.h.ro C.h.au = a) (hB : findS D.certs C.di = b) (h : certS C D.nodes = true) (h1 : D.low < C.h.ro) (h2 : a < 0) (h3 : b < 0) (h4 : lacksS D.certs D.low C.h = []) (hn : n ≤ 65536) (hpn : pn ≤ 65536) (hr1 : 1 ≤ C.h.ro) (hr2 : C.h.ro ≤ 1099511627776) (hli : LightM D.certs) (hlc : LightC C) (hnc : n ≤ c) :
    Calls Try.prog 41 #[.agg #[.int .i64 D.nodes, .int .i64 D.low, .slice A n c], .agg #[.int .i64 C.h.au, .int .i64 C.h.ro, .slice bA bn bc, .slice pA pn pc, .int .i64 C.di, .slice sA sn sc]] w fun e w' => ∃ v qs, e = .returned (.tuple #[.agg #[.int .i64 D.nodes, .int .i64 D.low, v], .int .i64 0]) ∧ OwnC w' w.heap.size v qs (insC D.certs C) ∧ Below w.heap.size w w' := by
  have HL := Lib.hid hl
  have HR := Lib.hid hr
  have HA := Lib.hid hA
  have HB := Lib.hid hB
  clear hA hB
  have HCS := Lib.hid h
  have HLI := Lib.hid hli
  have HLC := Lib.hid hlc
  have hn1 : n ≤ 1000 := by rw [← hl.1]; exact hli.1
  have hd : decide (C.h.ro ≤ D.low) = false := by simpa using h1
  have hd1 : decide (0 ≤ a) = false := by simpa using h2
  have hd2 : decide (0 ≤ b) = false := by simpa using h3
  clear h hl hr h1 h2 h3
  go_enter Try.func41, Try.ntmps41
  go_wp2_with fail
  refine (ref4_Cert' C bA pA sA bn bc pn pc sn sc D.nodes _ (HR.out.up (by (repeat (first | (with_reducible exact Below.refl _ _) | (with_reducible assumption) | (with_reducible apply bel_alloc) | (with_reducible apply bel_drew) | (with_reducible apply bel_drewN) | (with_reducible refine bel_trans ?_ (by with_reducible assumption)) | (with_reducible refine bel_trans ?_ (HF.out _)) | ((with_reducible refine bel_set3 ?_ ?_); rotate_left; omega)))))).mono ?_
  rintro e w1 ⟨rfl, hb1⟩
  rw [HCS.out]
  have hbw1 : Below w.heap.size w w1 := by (repeat (first | (with_reducible exact Below.refl _ _) | (with_reducible assumption) | (with_reducible apply bel_alloc) | (with_reducible apply bel_drew) | (with_reducible apply bel_drewN) | (with_reducible refine bel_trans ?_ (by with_reducible assumption)) | (with_reducible refine bel_trans ?_ (HF.out _)) | ((with_reducible refine bel_set3 ?_ ?_); rotate_left; omega)))
  have hz_w1 : w.heap.size + 3 ≤ w1.heap.size := (by have hq := (hb1).size; (try simp at hq); omega); have hc0_w1 := fun o => (bcell hb1).1 (w.heap.size) o (by first | (simp; done) | (simp; omega) | omega); have hc1_w1 := fun o => (bcell hb1).1 (w.heap.size + 1) o (by first | (simp; done) | (simp; omega) | omega); have hc2_w1 := fun o => (bcell hb1).1 (w.heap.size + 1 + 1) o (by first | (simp; done) | (simp; omega) | omega); have hf0_w1 := fun o => (bcell hb1).2 (w.heap.size) o (by first | (simp; done) | (simp; omega) | omega); have hf1_w1 := fun o => (bcell hb1).2 (w.heap.size + 1) o (by first | (simp; done) | (simp; omega) | omega); have hf2_w1 := fun o => (bcell hb1).2 (w.heap.size + 1 + 1) o (by first | (simp; done) | (simp; omega) | omega)
  go_wp2_with fail
  refine (ref14_AtAt A n c D.certs _ _ C.h.ro C.h.au a _ (HL.out.up hbw1) HA.out).mono ?_
  rintro e w2 ⟨rfl, hb2⟩
  have hb12 := bel_trans hb1 hb2
  have hbw2 := bel_trans hbw1 hb2
  have hz_w2 : w.heap.size + 3 ≤ w2.heap.size := (by have hq := (hb12).size; (try simp at hq); omega); have hc0_w2 := fun o => (bcell hb12).1 (w.heap.size) o (by first | (simp; done) | (simp; omega) | omega); have hc1_w2 := fun o => (bcell hb12).1 (w.heap.size + 1) o (by first | (simp; done) | (simp; omega) | omega); have hc2_w2 := fun o => (bcell hb12).1 (w.heap.size + 1 + 1) o (by first | (simp; done) | (simp; omega) | omega); have hf0_w2 := fun o => (bcell hb12).2 (w.heap.size) o (by first | (simp; done) | (simp; omega) | omega); have hf1_w2 := fun o => (bcell hb12).2 (w.heap.size + 1) o (by first | (simp; done) | (simp; omega) | omega); have hf2_w2 := fun o => (bcell hb12).2 (w.heap.size + 1 + 1) o (by first | (simp; done) | (simp; omega) | omega)
  go_wp2_with fail
  refine (ref14_FindAt' A n c D.certs _ _ C.di b _ (HL.out.up hbw2) HB.out).mono ?_
  rintro e w3 ⟨rfl, hb3⟩
  have hb13 := bel_trans hb12 hb3
  have hbw3 := bel_trans hbw2 hb3
  have hz_w3 : w.heap.size + 3 ≤ w3.heap.size := (by have hq := (hb13).size; (try simp at hq); omega); have hc0_w3 := fun o => (bcell hb13).1 (w.heap.size) o (by first | (simp; done) | (simp; omega) | omega); have hc1_w3 := fun o => (bcell hb13).1 (w.heap.size + 1) o (by first | (simp; done) | (simp; omega) | omega); have hc2_w3 := fun o => (bcell hb13).1 (w.heap.size + 1 + 1) o (by first | (simp; done) | (simp; omega) | omega); have hf0_w3 := fun o => (bcell hb13).2 (w.heap.size) o (by first | (simp; done) | (simp; omega) | omega); have hf1_w3 := fun o => (bcell hb13).2 (w.heap.size + 1) o (by first | (simp; done) | (simp; omega) | omega); have hf2_w3 := fun o => (bcell hb13).2 (w.heap.size + 1 + 1) o (by first | (simp; done) | (simp; omega) | omega)
  go_wp2_with fail
  refine (ref14_Lacks A n c D.certs _ _ ⟨⟨bA, bn, bc⟩, ⟨pA, pn, pc⟩⟩ C.h _ (HL.out.up hbw3) (HR.out.1.up hbw3) hn hpn hr1 hr2).mono ?_
  rintro e w4 ⟨v, rfl, hown, hb4⟩
  rw [h4] at hown
  obtain ⟨A4, c4, rfl, hint, _⟩ := hown.ints (by simp)
  clear hint hown h4
  have hb14 := bel_trans hb13 hb4
  have hbw4 := bel_trans hbw3 hb4
  have hz_w4 : w.heap.size + 3 ≤ w4.heap.size := (by have hq := (hb14).size; (try simp at hq); omega); have hc0_w4 := fun o => (bcell hb14).1 (w.heap.size) o (by first | (simp; done) | (simp; omega) | omega); have hc1_w4 := fun o => (bcell hb14).1 (w.heap.size + 1) o (by first | (simp; done) | (simp; omega) | omega); have hc2_w4 := fun o => (bcell hb14).1 (w.heap.size + 1 + 1) o (by first | (simp; done) | (simp; omega) | omega); have hf0_w4 := fun o => (bcell hb14).2 (w.heap.size) o (by first | (simp; done) | (simp; omega) | omega); have hf1_w4 := fun o => (bcell hb14).2 (w.heap.size + 1) o (by first | (simp; done) | (simp; omega) | omega); have hf2_w4 := fun o => (bcell hb14).2 (w.heap.size + 1 + 1) o (by first | (simp; done) | (simp; omega) | omega)
  go_wp2_with fail
  obtain ⟨i, hI⟩ : ∃ i, posC D.certs C.h.ro C.h.au = i := ⟨_, rfl⟩
  have hpa := posC_at C.h.ro C.h.au D.certs
  rw [hI] at hpa
  have hin : i ≤ n := by rw [← hI, ← HL.out.1]; exact posC_le _ _ _
  have HPA := Lib.hid hpa
  have HN := Lib.hid HL.out.1
  have HII := Lib.hid hI
  clear hpa hI
  go_loopw [8] (fun s8 wr => ∃ k : Nat, k ≤ i ∧ s8 = .int .i64 k ∧ Below w4.heap.size w4 wr) (fun s8 _ => i - (intOf s8).toNat)
  case atStart => exact ⟨0, Nat.zero_le _, rfl, Below.refl _ _⟩
  case round =>
    obtain ⟨k, hk, rfl, hbr⟩ := hrel
    (obtain ⟨wr, hwr⟩ : ∃ x, x = wr := ⟨_, rfl⟩); subst hwr
    have hb1r := bel_trans hb14 hbr
    have hbwr := bel_trans hbw4 hbr
    have hz_wr : w.heap.size + 3 ≤ wr.heap.size := (by have hq := (hb1r).size; (try simp at hq); omega); have hc0_wr := fun o => (bcell hb1r).1 (w.heap.size) o (by first | (simp; done) | (simp; omega) | omega); have hc1_wr := fun o => (bcell hb1r).1 (w.heap.size + 1) o (by first | (simp; done) | (simp; omega) | omega); have hc2_wr := fun o => (bcell hb1r).1 (w.heap.size + 1 + 1) o (by first | (simp; done) | (simp; omega) | omega); have hf0_wr := fun o => (bcell hb1r).2 (w.heap.size) o (by first | (simp; done) | (simp; omega) | omega); have hf1_wr := fun o => (bcell hb1r).2 (w.heap.size + 1) o (by first | (simp; done) | (simp; omega) | omega); have hf2_wr := fun o => (bcell hb1r).2 (w.heap.size + 1 + 1) o (by first | (simp; done) | (simp; omega) | omega)
    clear hz_w1 hc0_w1 hc1_w1 hc2_w1 hf0_w1 hf1_w1 hf2_w1 hz_w2 hc0_w2 hc1_w2 hc2_w2 hf0_w2 hf1_w2 hf2_w2 hz_w3 hc0_w3 hc1_w3 hc2_w3 hf0_w3 hf1_w3 hf2_w3 hz_w4 hc0_w4 hc1_w4 hc2_w4 hf0_w4 hf1_w4 hf2_w4
    go_upto_region 14 with fail
    go_cut [84] from 57 to 84 (fun s84 wx => s84 = .bool (decide (k < i)) ∧ Below wr.heap.size wr wx)
    case first =>
      by_cases hkn : k < n
      · obtain ⟨lb, loff, rfl, hlb, hlc⟩ := (HL.out.up hbwr).2.2 (by omega)
        obtain ⟨p, hat, -⟩ := hlc k hkn
        obtain ⟨c0, c1, -, -, -, -⟩ := hat
        have hkl : decide ((k : Int) < (n : Int)) = true := by simpa using hkn
        have hbf : befS (cth D.certs k).h.ro (cth D.certs k).h.au C.h.ro C.h.au = decide (k < i) := by
          by_cases h5 : k < i
          · rw [HPA.out.1 k h5]; simp [h5]
          · obtain rfl : k = i := by omega
            rw [HPA.out.2 (by rw [HN.out]; exact hkn)]; simp
        have HBF := Lib.hid hbf
        clear hlc hbf
        refine wp_region_fam (by kernel_rfl) (by kernel_rfl) (fun ι F hne hF hcl => ?_)
        have hcF0 := fun n o => (bcell (hF n)).1 (w.heap.size) o (by first | (simp; done) | (simp; omega) | omega)
        have hcF1 := fun n o => (bcell (hF n)).1 (w.heap.size + 1) o (by first | (simp; done) | (simp; omega) | omega)
        have hcF2 := fun n o => (bcell (hF n)).1 (lb) o (by first | (simp; done) | (simp; omega) | omega)
        have HF := Lib.hid hF; clear hF
        have HC := Lib.hid hcl; clear hcl
        repeat (any_goals (first
         | go_big_quiet_step (first | (go_at_call 68; exact Calls.fam_same (ref1_Before _ _ _ _ _)))
         | (refine wpQuiet_guard _ _ _ rfl rfl ?_; (fail_if_success (intro b' hb; have h2 := hb.symm; have : b' = true := h2.trans (by with_reducible rfl))); (fail_if_success (intro b' hb; have h2 := hb.symm; have : b' = false := h2.trans (by with_reducible rfl))); intro b' hb; simp only [hb]; cases b' <;> (try simp only [Bool.not_eq_true', Bool.not_eq_false', decide_eq_true_eq, decide_eq_false_iff_not, Int.not_lt, Int.not_le, Bool.and_eq_true, Bool.or_eq_true, Bool.or_eq_false_iff, beq_iff_eq, beq_eq_false_iff_ne, Int.natCast_pos] at hb))))
        all_goals (refine wpQuiet_nil ?_; intro nq; go_wp2_with (fail))
        have hFwf := HF.out nq
        clear HF HC hne
        generalize F nq = wf at *
        go_meet
        exact ⟨by rw [← HBF.out], hFwf⟩
      · have hkl : decide ((k : Int) < (n : Int)) = false := by simpa using hkn
        have hki : decide (k < i) = false := by rw [decide_eq_false_iff_not]; omega
        refine wp_region_fam (by kernel_rfl) (by kernel_rfl) (fun ι F hne hF hcl => ?_)
        have hcF0 := fun n o => (bcell (hF n)).1 (w.heap.size) o (by first | (simp; done) | (simp; omega) | omega)
        have hcF1 := fun n o => (bcell (hF n)).1 (w.heap.size + 1) o (by first | (simp; done) | (simp; omega) | omega)
        have HF := Lib.hid hF; clear hF
        have HC := Lib.hid hcl; clear hcl
        repeat (any_goals (first
         | go_big_quiet_step (first | (fail))
         | (refine wpQuiet_guard _ _ _ rfl rfl ?_; (fail_if_success (intro b' hb; have h2 := hb.symm; have : b' = true := h2.trans (by with_reducible rfl))); (fail_if_success (intro b' hb; have h2 := hb.symm; have : b' = false := h2.trans (by with_reducible rfl))); intro b' hb; simp only [hb]; cases b' <;> (try simp only [Bool.not_eq_true', Bool.not_eq_false', decide_eq_true_eq, decide_eq_false_iff_not, Int.not_lt, Int.not_le, Bool.and_eq_true, Bool.or_eq_true, Bool.or_eq_false_iff, beq_iff_eq, beq_eq_false_iff_ne, Int.natCast_pos] at hb))))
        all_goals (refine wpQuiet_nil ?_; intro nq)
        all_goals (try (exfalso; omega))
        have hFwf := HF.out nq
        clear HF HC hne
        generalize F nq = wf at *
        go_wp2_with fail
        go_meet
        exact ⟨by rw [hki], hFwf⟩
    case rest =>
    obtain ⟨rfl, hbc⟩ := hcut
    have hbrc := bel_trans hbr hbc
    by_cases hki : k < i
    · have hkd : decide (k < i) = true := by simpa using hki
      rw [hkd]
      go_wp2_with fail
      (first | (go_round; (case rel => exact ⟨k + 1, by omega, by go_num, hbrc⟩); (case measure => (simp [intOf] <;> omega))) | (go_roundw; (case rel => exact ⟨k + 1, by omega, by go_num, hbrc⟩); (case measure => (simp [intOf] <;> omega))) | (refine ⟨?_, by simp [intOf] <;> omega⟩; (repeat apply Exists.intro); refine ⟨?rel, ?fr⟩; (case fr => ((repeat' apply And.intro) <;> rfl)); (case rel => exact ⟨k + 1, by omega, by go_num, hbrc⟩)))
    · have hkd : decide (k < i) = false := by simpa using hki
      obtain rfl : k = i := by omega
      rw [hkd]
      have hb1c := bel_trans hb14 hbrc
      have hbwc := bel_trans hbw4 hbrc
      have hz_wc : w.heap.size + 3 ≤ wc.heap.size := (by have hq := (hb1c).size; (try simp at hq); omega); have hc0_wc := fun o => (bcell hb1c).1 (w.heap.size) o (by first | (simp; done) | (simp; omega) | omega); have hc1_wc := fun o => (bcell hb1c).1 (w.heap.size + 1) o (by first | (simp; done) | (simp; omega) | omega); have hc2_wc := fun o => (bcell hb1c).1 (w.heap.size + 1 + 1) o (by first | (simp; done) | (simp; omega) | omega); have hf0_wc := fun o => (bcell hb1c).2 (w.heap.size) o (by first | (simp; done) | (simp; omega) | omega); have hf1_wc := fun o => (bcell hb1c).2 (w.heap.size + 1) o (by first | (simp; done) | (simp; omega) | omega); have hf2_wc := fun o => (bcell hb1c).2 (w.heap.size + 1 + 1) o (by first | (simp; done) | (simp; omega) | omega)
      obtain ⟨wq, hwq⟩ : ∃ x, x = wc := ⟨_, rfl⟩
      subst hwq
      go_upto_region 17 with fail
      have hD0 : BoxR (wq.alloc (.cells #[.int .i64 D.nodes, .int .i64 D.low, .slice none 0 0] 24)) w.heap.size [.int .i64 D.nodes, .int .i64 D.low, .slice A n c] := ((BoxR.new w [.int .i64 D.nodes, .int .i64 D.low, .slice A n c] 24).up (w' := (((w.alloc (.cells #[.int .i64 D.nodes, .int .i64 D.low, .slice A n c] 24)).alloc (.cells #[.int .i64 C.h.au, .int .i64 C.h.ro, .slice bA bn bc, .slice pA pn pc, .int .i64 C.di, .slice sA sn sc] 48)).alloc (.cells #[.int .i64 0, .int .i64 0, .slice none 0 0] 24))) (by (repeat (first | (with_reducible exact Below.refl _ _) | (with_reducible assumption) | (with_reducible apply bel_alloc) | (with_reducible apply bel_drew) | (with_reducible apply bel_drewN) | (with_reducible refine bel_trans ?_ (by with_reducible assumption)) | (with_reducible refine bel_trans ?_ (HF.out _)) | (with_reducible refine bel_set ?_ (by simp) _) | (with_reducible refine bel_set ?_ (by simp; omega) _) | (with_reducible refine bel_set ?_ (by omega) _))))).up (bel_trans hb1c (by (repeat (first | (with_reducible exact Below.refl _ _) | (with_reducible assumption) | (with_reducible apply bel_alloc) | (with_reducible apply bel_drew) | (with_reducible apply bel_drewN) | (with_reducible refine bel_trans ?_ (by with_reducible assumption)) | (with_reducible refine bel_trans ?_ (HF.out _)) | (with_reducible refine bel_set ?_ (by simp) _) | (with_reducible refine bel_set ?_ (by simp; omega) _) | (with_reducible refine bel_set ?_ (by omega) _)))))
      have hC0 : BoxR (wq.alloc (.cells #[.int .i64 D.nodes, .int .i64 D.low, .slice none 0 0] 24)) (w.heap.size + 1) [.int .i64 C.h.au, .int .i64 C.h.ro, .slice bA bn bc, .slice pA pn pc, .int .i64 C.di, .slice sA sn sc] := ((show BoxR (((w.alloc (.cells #[.int .i64 D.nodes, .int .i64 D.low, .slice A n c] 24)).alloc (.cells #[.int .i64 C.h.au, .int .i64 C.h.ro, .slice bA bn bc, .slice pA pn pc, .int .i64 C.di, .slice sA sn sc] 48)).alloc (.cells #[.int .i64 0, .int .i64 0, .slice none 0 0] 24)) (w.heap.size + 1) [.int .i64 C.h.au, .int .i64 C.h.ro, .slice bA bn bc, .slice pA pn pc, .int .i64 C.di, .slice sA sn sc] from by have := (BoxR.new (w.alloc (.cells #[.int .i64 D.nodes, .int .i64 D.low, .slice A n c] 24)) [.int .i64 C.h.au, .int .i64 C.h.ro, .slice bA bn bc, .slice pA pn pc, .int .i64 C.di, .slice sA sn sc] 48).up (w' := (((w.alloc (.cells #[.int .i64 D.nodes, .int .i64 D.low, .slice A n c] 24)).alloc (.cells #[.int .i64 C.h.au, .int .i64 C.h.ro, .slice bA bn bc, .slice pA pn pc, .int .i64 C.di, .slice sA sn sc] 48)).alloc (.cells #[.int .i64 0, .int .i64 0, .slice none 0 0] 24))) (by (repeat (first | (with_reducible exact Below.refl _ _) | (with_reducible assumption) | (with_reducible apply bel_alloc) | (with_reducible apply bel_drew) | (with_reducible apply bel_drewN) | (with_reducible refine bel_trans ?_ (by with_reducible assumption)) | (with_reducible refine bel_trans ?_ (HF.out _)) | (with_reducible refine bel_set ?_ (by simp) _) | (with_reducible refine bel_set ?_ (by simp; omega) _) | (with_reducible refine bel_set ?_ (by omega) _)))); simpa using this)).up (bel_trans hb1c (by (repeat (first | (with_reducible exact Below.refl _ _) | (with_reducible assumption) | (with_reducible apply bel_alloc) | (with_reducible apply bel_drew) | (with_reducible apply bel_drewN) | (with_reducible refine bel_trans ?_ (by with_reducible assumption)) | (with_reducible refine bel_trans ?_ (HF.out _)) | (with_reducible refine bel_set ?_ (by simp) _) | (with_reducible refine bel_set ?_ (by simp; omega) _) | (with_reducible refine bel_set ?_ (by omega) _)))))
      have hR0 : Blk (wq.alloc (.cells #[.int .i64 D.nodes, .int .i64 D.low, .slice none 0 0] 24)) (w.heap.size + 1 + 1) 24 [.int .i64 0, .int .i64 0, .slice none 0 0] := ((show Blk (((w.alloc (.cells #[.int .i64 D.nodes, .int .i64 D.low, .slice A n c] 24)).alloc (.cells #[.int .i64 C.h.au, .int .i64 C.h.ro, .slice bA bn bc, .slice pA pn pc, .int .i64 C.di, .slice sA sn sc] 48)).alloc (.cells #[.int .i64 0, .int .i64 0, .slice none 0 0] 24)) (w.heap.size + 1 + 1) 24 [.int .i64 0, .int .i64 0, .slice none 0 0] from by have := Blk.new ((w.alloc (.cells #[.int .i64 D.nodes, .int .i64 D.low, .slice A n c] 24)).alloc (.cells #[.int .i64 C.h.au, .int .i64 C.h.ro, .slice bA bn bc, .slice pA pn pc, .int .i64 C.di, .slice sA sn sc] 48)) 24 [.int .i64 0, .int .i64 0, .slice none 0 0]; simpa using this)).up (bel_trans hb1c (by (repeat (first | (with_reducible exact Below.refl _ _) | (with_reducible assumption) | (with_reducible apply bel_alloc) | (with_reducible apply bel_drew) | (with_reducible apply bel_drewN) | (with_reducible refine bel_trans ?_ (by with_reducible assumption)) | (with_reducible refine bel_trans ?_ (HF.out _)) | (with_reducible refine bel_set ?_ (by simp) _) | (with_reducible refine bel_set ?_ (by simp; omega) _) | (with_reducible refine bel_set ?_ (by omega) _)))))
      have hX0 : Blk (wq.alloc (.cells #[.int .i64 D.nodes, .int .i64 D.low, .slice none 0 0] 24)) wq.heap.size 24 [.int .i64 D.nodes, .int .i64 D.low, .slice none 0 0] := Blk.new wq 24 [.int .i64 D.nodes, .int .i64 D.low, .slice none 0 0]
      have hzc : w.heap.size + 3 ≤ wq.heap.size := by have := hz_wc; omega
      have hbwX : Below w.heap.size w (wq.alloc (.cells #[.int .i64 D.nodes, .int .i64 D.low, .slice none 0 0] 24)) := by (repeat (first | (with_reducible exact Below.refl _ _) | (with_reducible assumption) | (with_reducible apply bel_alloc) | (with_reducible apply bel_drew) | (with_reducible apply bel_drewN) | (with_reducible refine bel_trans ?_ (by with_reducible assumption)) | (with_reducible refine bel_trans ?_ (HF.out _)) | (with_reducible refine bel_set ?_ (by simp) _) | (with_reducible refine bel_set ?_ (by simp; omega) _) | (with_reducible refine bel_set ?_ (by omega) _)))
      have hzX : (wq.alloc (.cells #[.int .i64 D.nodes, .int .i64 D.low, .slice none 0 0] 24)).heap.size = wq.heap.size + 1 := by simp
      clear hz_wc hc0_wc hc1_wc hc2_wc hf0_wc hf1_wc hf2_wc
      generalize (wq.alloc (.cells #[.int .i64 D.nodes, .int .i64 D.low, .slice none 0 0] 24)) = X at *
      have HD0 := Lib.hid hD0
      have HC0 := Lib.hid hC0
      have HR0 := Lib.hid hR0
      have HX0 := Lib.hid hX0
      have hd0l := hD0.1
      have hc0l := hC0.1
      have hx0l := hX0.lt
      have d_0 := (hD0).2 0 _ rfl; have d_1 := (hD0).2 1 _ rfl; have d_2 := (hD0).2 2 _ rfl
      have e_0 := (hC0).2 0 _ rfl; have e_1 := (hC0).2 1 _ rfl; have e_2 := (hC0).2 2 _ rfl; have e_3 := (hC0).2 3 _ rfl; have e_4 := (hC0).2 4 _ rfl; have e_5 := (hC0).2 5 _ rfl
      clear hD0 hC0 hR0 hX0
      have hq1 : bn ≤ 1000000000 := by have := HLC.out.1; rw [HR.out.1.1.1] at this; dsimp only at this; omega
      have hq2 : pn ≤ 1000000000 := by omega
      have hq3 : sn ≤ 1000000000 := by have := HLC.out.2.2; rw [HR.out.2.1] at this; dsimp only at this; omega
      have hkn : k ≤ n := hin
      have hkc : k ≤ c := by omega
      have HLT : Hid ((D.certs.take k).length = k) := Lib.hid (by rw [List.length_take, HN.out]; omega)
      clear d_0 d_1 d_2 e_0 e_1 e_2 e_3 e_4 e_5
      have d_0 := (HD0.out).2 0 _ rfl; have d_1 := (HD0.out).2 1 _ rfl; have d_2 := (HD0.out).2 2 _ rfl
      have e_0 := (HC0.out).2 0 _ rfl; have e_1 := (HC0.out).2 1 _ rfl; have e_2 := (HC0.out).2 2 _ rfl; have e_3 := (HC0.out).2 3 _ rfl; have e_4 := (HC0.out).2 4 _ rfl; have e_5 := (HC0.out).2 5 _ rfl
      go_cut [] from 92 to 101 (fun wx => ∃ (A8 : Option Addr) (c8 : Nat) (qs8 : List CertP), Blk wx wq.heap.size 24 [.int .i64 D.nodes, .int .i64 D.low, .slice A8 (k + 1) c8] ∧ OwnC wx X.heap.size (.slice A8 (k + 1) c8) qs8 (D.certs.take k ++ [C]) ∧ BoxR wx w.heap.size [.int .i64 D.nodes, .int .i64 D.low, .slice A n c] ∧ Blk wx (w.heap.size + 1 + 1) 24 [.int .i64 0, .int .i64 0, .slice none 0 0] ∧ Below w.heap.size w wx ∧ X.heap.size ≤ wx.heap.size)
      case first =>
        have HCX : Hid (∀ Y, Below (w.heap.size + 1 + 1) X Y → (Y.cell? ⟨w.heap.size, 0, none⟩ = some (.int .i64 D.nodes) ∧ Y.cell? ⟨w.heap.size, 1, none⟩ = some (.int .i64 D.low) ∧ Y.cell? ⟨w.heap.size, 2, none⟩ = some (.slice A n c)) ∧ (Y.cell? ⟨w.heap.size + 1, 0, none⟩ = some (.int .i64 C.h.au) ∧ Y.cell? ⟨w.heap.size + 1, 1, none⟩ = some (.int .i64 C.h.ro) ∧ Y.cell? ⟨w.heap.size + 1, 2, none⟩ = some (.slice bA bn bc) ∧ Y.cell? ⟨w.heap.size + 1, 3, none⟩ = some (.slice pA pn pc) ∧ Y.cell? ⟨w.heap.size + 1, 4, none⟩ = some (.int .i64 C.di) ∧ Y.cell? ⟨w.heap.size + 1, 5, none⟩ = some (.slice sA sn sc))) := Lib.hid (fun Y hY => ⟨⟨(hY.cell (p := ⟨w.heap.size, 0, none⟩) (by dsimp only; omega)).trans d_0, (hY.cell (p := ⟨w.heap.size, 1, none⟩) (by dsimp only; omega)).trans d_1, (hY.cell (p := ⟨w.heap.size, 2, none⟩) (by dsimp only; omega)).trans d_2⟩, ⟨(hY.cell (p := ⟨w.heap.size + 1, 0, none⟩) (by dsimp only; omega)).trans e_0, (hY.cell (p := ⟨w.heap.size + 1, 1, none⟩) (by dsimp only; omega)).trans e_1, (hY.cell (p := ⟨w.heap.size + 1, 2, none⟩) (by dsimp only; omega)).trans e_2, (hY.cell (p := ⟨w.heap.size + 1, 3, none⟩) (by dsimp only; omega)).trans e_3, (hY.cell (p := ⟨w.heap.size + 1, 4, none⟩) (by dsimp only; omega)).trans e_4, (hY.cell (p := ⟨w.heap.size + 1, 5, none⟩) (by dsimp only; omega)).trans e_5⟩⟩)
        go_region_held3 (fun Y => (Y.cell? ⟨w.heap.size, 0, none⟩ = some (.int .i64 D.nodes) ∧ Y.cell? ⟨w.heap.size, 1, none⟩ = some (.int .i64 D.low) ∧ Y.cell? ⟨w.heap.size, 2, none⟩ = some (.slice A n c)) ∧ (Y.cell? ⟨w.heap.size + 1, 0, none⟩ = some (.int .i64 C.h.au) ∧ Y.cell? ⟨w.heap.size + 1, 1, none⟩ = some (.int .i64 C.h.ro) ∧ Y.cell? ⟨w.heap.size + 1, 2, none⟩ = some (.slice bA bn bc) ∧ Y.cell? ⟨w.heap.size + 1, 3, none⟩ = some (.slice pA pn pc) ∧ Y.cell? ⟨w.heap.size + 1, 4, none⟩ = some (.int .i64 C.di) ∧ Y.cell? ⟨w.heap.size + 1, 5, none⟩ = some (.slice sA sn sc)))
          (((refine HCX.out _ ?_); (first | (with_reducible exact Below.refl _ _) | (with_reducible assumption) | (exact (Below.refl _ _).drew) | (exact Below.alloc hbK6 (by have := hbK6.size; omega) _) | (exact hbK8.setCell (p := ⟨wq.heap.size, 2, none⟩) (by dsimp only; omega) _) | ((repeat (first | (with_reducible exact Below.refl _ _) | (with_reducible assumption) | (with_reducible apply bel_alloc) | (with_reducible apply bel_drew) | (with_reducible apply bel_drewN) | (with_reducible refine bel_trans ?_ (by with_reducible assumption)) | (with_reducible refine bel_trans ?_ (HF.out _)) | (with_reducible refine bel_set ?_ (by simp) _) | (with_reducible refine bel_set ?_ (by simp; omega) _) | (with_reducible refine bel_set ?_ (by omega) _))); done))))
          (first
            | (refine step_appC rfl (.tmp 96) (.tmp 99) rfl X.heap.size (.slice A5 k c5) ps5 (D.certs.take k) (by simp [Act.eval, Act.put]) hO7 w6.heap.size p6 C (by simp [Act.eval, Act.put]) hB7 hA7 hN7 (by have := HLT.out; omega) hs7 ?_; intro v8 w8 hown8 hb8; obtain ⟨A8, m8, c8, rfl, hm8⟩ := hown8.named2 (by have := HLT.out; simp; omega); have HM8 := Lib.hid hm8; clear hm8; have hX8 := (HX0.out.up hbX7).below hb8 (by omega); have hf8 := hX8.frozen; have y_0 := (hX8.box).2 0 _ rfl; have y_1 := (hX8.box).2 1 _ rfl; have y_2 := (hX8.box).2 2 _ rfl; have hxl8 := hX8.lt; have HX8 := Lib.hid hX8; clear hX8; have hbX8k : Below X.heap.size X w8 := hbX7.trans hb8; have hbK8 : Below (w.heap.size + 1 + 1) X w8 := hbX8k.mono (by omega))
            | (go_at_call 50; refine (copyCertsM A k c (D.certs.take k) _ ((certsR_take HL.out hkn).up (bel_trans hbwX (by (repeat (first | (with_reducible exact Below.refl _ _) | (with_reducible assumption) | (with_reducible apply bel_alloc) | (with_reducible apply bel_drew) | (with_reducible apply bel_drewN) | (with_reducible refine bel_trans ?_ (by with_reducible assumption)) | (with_reducible refine bel_trans ?_ (HF.out _)) | (with_reducible refine bel_set ?_ (by simp) _) | (with_reducible refine bel_set ?_ (by simp; omega) _) | (with_reducible refine bel_set ?_ (by omega) _)))))) (HLI.out.take k)).mono ?_; rintro e w5 ⟨v5, ps5, rfl, hO5, hb5⟩; obtain ⟨A5, m5, c5, rfl, hm5⟩ := hO5.named2 (by have := HLT.out; omega); rw [HLT.out] at hm5; subst hm5; have hbX5 : Below X.heap.size X w5 := (by (repeat (first | (with_reducible exact Below.refl _ _) | (with_reducible assumption) | (with_reducible apply bel_alloc) | (with_reducible apply bel_drew) | (with_reducible apply bel_drewN) | (with_reducible refine bel_trans ?_ (by with_reducible assumption)) | (with_reducible refine bel_trans ?_ (HF.out _)) | (with_reducible refine bel_set ?_ (by simp) _) | (with_reducible refine bel_set ?_ (by simp; omega) _) | (with_reducible refine bel_set ?_ (by omega) _)))); have hC5 := HC0.out.up hbX5; have f_0 := (hC5).2 0 _ rfl; have f_1 := (hC5).2 1 _ rfl; have f_2 := (hC5).2 2 _ rfl; have f_3 := (hC5).2 3 _ rfl; have f_4 := (hC5).2 4 _ rfl; have f_5 := (hC5).2 5 _ rfl; have hcl5 := hC5.1; have HO5 := Lib.hid hO5; clear hO5 hC5; have hbK5 : Below (w.heap.size + 1 + 1) X w5 := hbX5.mono (by omega))
            | (go_at_call 42; refine (ref0_CopyCert C bA pA sA bn bc pn pc sn sc _ (HR.out.up (bel_trans hbwX (bel_trans hbX5 (by (repeat (first | (with_reducible exact Below.refl _ _) | (with_reducible assumption) | (with_reducible apply bel_alloc) | (with_reducible apply bel_drew) | (with_reducible apply bel_drewN) | (with_reducible refine bel_trans ?_ (by with_reducible assumption)) | (with_reducible refine bel_trans ?_ (HF.out _)) | (with_reducible refine bel_set ?_ (by simp) _) | (with_reducible refine bel_set ?_ (by simp; omega) _) | (with_reducible refine bel_set ?_ (by omega) _))))))) hq1 hq2 hq3).mono ?_; rintro e w6 ⟨p6, rfl, hR6, hN6, hb6⟩; have hb56 : Below w5.heap.size w5 w6 := (by (repeat (first | (with_reducible exact Below.refl _ _) | (with_reducible assumption) | (with_reducible apply bel_alloc) | (with_reducible apply bel_drew) | (with_reducible apply bel_drewN) | (with_reducible refine bel_trans ?_ (by with_reducible assumption)) | (with_reducible refine bel_trans ?_ (HF.out _)) | (with_reducible refine bel_set ?_ (by simp) _) | (with_reducible refine bel_set ?_ (by simp; omega) _) | (with_reducible refine bel_set ?_ (by omega) _)))); have hbA : Below w6.heap.size w6 (w6.alloc (.cells (certCells p6 C).toArray 48)) := (by (repeat (first | (with_reducible exact Below.refl _ _) | (with_reducible assumption) | (with_reducible apply bel_alloc) | (with_reducible apply bel_drew) | (with_reducible apply bel_drewN) | (with_reducible refine bel_trans ?_ (by with_reducible assumption)) | (with_reducible refine bel_trans ?_ (HF.out _)) | (with_reducible refine bel_set ?_ (by simp) _) | (with_reducible refine bel_set ?_ (by simp; omega) _) | (with_reducible refine bel_set ?_ (by omega) _)))); have hO7 := OwnC.mono ((HO5.out.up (bel_trans hb56 hbA))) (B' := X.heap.size) (by first | exact Nat.le_refl _ | (simp; done) | omega | (simp; omega)); have hB7 := BoxR.new w6 (certCells p6 C) 48; have hz5 := hbX5.size; have hz6 := hb56.size; have hN7 : CertNew X.heap.size p6 := cert_new hN6 (by first | omega | (simp; done) | (simp; omega)); have hA7 := CertA.up (hR6.toA hN6 (blk := (Value.slice A5 k c5).ownBlock) (fun g hg => (by have := (HO5.out.lt g hg).2; first | omega | (simp; done) | (simp; omega)))) hbA; have hs7 : X.heap.size ≤ (w6.alloc (.cells (certCells p6 C).toArray 48)).heap.size := (by simp; omega); have hbX7 : Below X.heap.size X (w6.alloc (.cells (certCells p6 C).toArray 48)) := bel_trans hbX5 (bel_trans hb56 hbA); have hbK6 : Below (w.heap.size + 1 + 1) X w6 := (bel_trans hbX5 hb56).mono (by omega)))
        all_goals
          have hm8 : m8 = k + 1 := by have := HM8.out; simp [HLT.out] at this; omega
          subst hm8
          have hX9 := HX8.out.set_ 2 (.slice A8 (k + 1) c8)
          have hO9 := hown8.setLow (b := wq.heap.size) (o := 2) (u := .slice A8 (k + 1) c8) (by omega)
          have hbX8 : Below X.heap.size X w8 := hbX7.trans hb8
          have hD9 := (HD0.out.up hbX8).set (a := ⟨wq.heap.size, 2, none⟩) (v := .slice A8 (k + 1) c8) (by dsimp only; omega)
          have hR9 := (HR0.out.up hbX8).far (p := ⟨wq.heap.size, 2, none⟩) (by dsimp only; omega) (.slice A8 (k + 1) c8)
          have hbw9 : Below w.heap.size w (w8.setCell ⟨wq.heap.size, 2, none⟩ (.slice A8 (k + 1) c8)) := (bel_trans hbwX hbX8).setCell (by dsimp only; omega) _
          have hz9 : X.heap.size ≤ (w8.setCell ⟨wq.heap.size, 2, none⟩ (.slice A8 (k + 1) c8)).heap.size := by have := hbX8.size; simp; omega
          have HX9 := Lib.hid hX9
          have HO9 := Lib.hid hO9
          have HD9 := Lib.hid hD9
          have HR9 := Lib.hid hR9
          clear hX9 hO9 hD9 hR9
          go_wp2_with fail
          go_meet
          exact ⟨A8, c8, _, HX9.out, HO9.out, HD9.out, HR9.out, hbw9, hz9⟩
      case rest =>
      obtain ⟨A8, c8, qs8, hX9, hO9, hD9, hR9, hbw9, hz9⟩ := hcut
      obtain ⟨Z, hZ⟩ : ∃ x, x = wc := ⟨_, rfl⟩
      subst hZ
      have HX9 := Lib.hid hX9
      have HO9 := Lib.hid hO9
      have HD9 := Lib.hid hD9
      have HR9 := Lib.hid hR9
      have hgl9 := hX9.lt
      have hdl9 := hD9.1
      have hgf9 := hX9.frozen
      have x_0 := (HX9.out.box).2 0 _ rfl; have x_1 := (HX9.out.box).2 1 _ rfl; have x_2 := (HX9.out.box).2 2 _ rfl
      clear d_0 d_1 d_2 e_0 e_1 e_2 e_3 e_4 e_5
      have z_0 := (HD9.out).2 0 _ rfl; have z_1 := (HD9.out).2 1 _ rfl; have z_2 := (HD9.out).2 2 _ rfl
      clear hX9 hO9 hD9 hR9
      have HLD : Hid ((D.certs.drop k).length ≤ 1000) := Lib.hid (by rw [List.length_drop, HN.out]; omega)
      have HLK : Hid ((D.certs.take k ++ [C]).length ≤ 1001) := Lib.hid (by rw [List.length_append, HLT.out]; simp; omega)
      have HIN : Hid (insC D.certs C = (D.certs.take k ++ [C]) ++ D.certs.drop k) := Lib.hid (by unfold insC; rw [HII.out])
      have hcase : (k < n ∧ ¬ (c = k) ∧ ∃ b off, A = some ⟨b, off, none⟩) ∨ k = n := by
        rcases Nat.lt_or_ge k n with h | h
        · obtain ⟨b, off, e, _⟩ := HL.out.2.2 (by omega)
          exact .inl ⟨h, by omega, b, off, e⟩
        · exact .inr (by omega)
      go_upto_region 18 with fail
      go_cut [] from 102 to 110 (fun wx => ∃ (A9 : Option Addr) (m9 c9 : Nat) (qs9 : List CertP), Blk wx wq.heap.size 24 [.int .i64 D.nodes, .int .i64 D.low, .slice A9 m9 c9] ∧ OwnC wx X.heap.size (.slice A9 m9 c9) qs9 (insC D.certs C) ∧ Blk wx (w.heap.size + 1 + 1) 24 [.int .i64 0, .int .i64 0, .slice none 0 0] ∧ Below w.heap.size w wx)
      case first =>
        rcases hcase with ⟨hlt, hne, lb, loff, rfl⟩ | hkk
        · have HLS : Hid (CertsR w (some ⟨lb, loff + k * 6, none⟩) (n - k) (D.certs.drop k)) := Lib.hid (certsR_drop HL.out hlt)
          have hne2 : ¬ (k = c) := fun h => hne h.symm
          go_region_law (first
            | (refine step_appCsO rfl (.tmp 103) (.tmp 108) rfl rfl X.heap.size Z.heap.size (.slice A8 (k + 1) c8) v5 qs8 ps5 (D.certs.take k ++ [C]) (D.certs.drop k) (by simp [Act.eval, Act.put]) (by simp [Act.eval, Act.put]) (HO9.out.up hbZ5) (OwnC.mono hO5 (by first | exact Nat.le_refl _ | (simp; done))) (fun g hg => (HO9.out.lt g hg).2) hz9 (by have := HLK.out; omega) (by have := HLD.out; omega) (Nat.le_trans hz9 hbZ5.size) ?_; intro v8 w8 hown8 hb8; rw [← HIN.out] at hown8; obtain ⟨A9, m9, c9, rfl, -⟩ := hown8.named2 (by rw [insC_len, HN.out]; omega); have hX8 := (HX9.out.up hbZ5).below hb8 (by omega); have hf8 := hX8.frozen; have y_0 := (hX8.box).2 0 _ rfl; have y_1 := (hX8.box).2 1 _ rfl; have y_2 := (hX8.box).2 2 _ rfl; have hxl8 := hX8.lt; have HX8 := Lib.hid hX8; clear hX8)
            | (go_wp2_with (go_at_call 50; refine (copyCertsM (some ⟨lb, loff + k * 6, none⟩) (n - k) _ (D.certs.drop k) _ (HLS.out.up (bel_trans hbw9 (by (repeat (first | (with_reducible exact Below.refl _ _) | (with_reducible assumption) | (with_reducible apply bel_alloc) | (with_reducible apply bel_drew) | (with_reducible apply bel_drewN) | (with_reducible refine bel_trans ?_ (by with_reducible assumption)) | (with_reducible refine bel_trans ?_ (HF.out _)) | (with_reducible refine bel_set ?_ (by simp) _) | (with_reducible refine bel_set ?_ (by simp; omega) _) | (with_reducible refine bel_set ?_ (by omega) _)))))) (HLI.out.drop k)).mono ?_; rintro e w5 ⟨v5, ps5, rfl, hO5, hb5⟩; have hbZ5 : Below Z.heap.size Z w5 := (by (repeat (first | (with_reducible exact Below.refl _ _) | (with_reducible assumption) | (with_reducible apply bel_alloc) | (with_reducible apply bel_drew) | (with_reducible apply bel_drewN) | (with_reducible refine bel_trans ?_ (by with_reducible assumption)) | (with_reducible refine bel_trans ?_ (HF.out _)) | (with_reducible refine bel_set ?_ (by simp) _) | (with_reducible refine bel_set ?_ (by simp; omega) _) | (with_reducible refine bel_set ?_ (by omega) _)))); have hX5 := HX9.out.up hbZ5; have f_0 := (hX5.box).2 0 _ rfl; have f_1 := (hX5.box).2 1 _ rfl; have f_2 := (hX5.box).2 2 _ rfl; have hxl5 := hX5.lt; have hxf5 := hX5.frozen; clear hX5)))
          all_goals
            have hX10 := HX8.out.set_ 2 (.slice A9 m9 c9)
            have hO10 := hown8.setLow (b := wq.heap.size) (o := 2) (u := .slice A9 m9 c9) (by omega)
            have hR10 := ((HR9.out.up hbZ5).below hb8 (by omega)).far (p := ⟨wq.heap.size, 2, none⟩) (by dsimp only; omega) (.slice A9 m9 c9)
            have hbw10 : Below w.heap.size w (w8.setCell ⟨wq.heap.size, 2, none⟩ (.slice A9 m9 c9)) := ((bel_trans hbw9 hbZ5).trans (hb8.mono (by omega))).setCell (by dsimp only; omega) _
            have HX10 := Lib.hid hX10
            have HO10 := Lib.hid hO10
            have HR10 := Lib.hid hR10
            clear hX10 hO10 hR10
            go_wp2_with fail
            go_meet
            exact ⟨A9, m9, c9, _, HX10.out, HO10.out, HR10.out, hbw10⟩
        · subst hkk
          have hdn : D.certs.drop k = [] := List.drop_of_length_le (by rw [HN.out]; omega)
          have HLS : Hid (∀ W A', CertsR W A' 0 (D.certs.drop k)) := Lib.hid (fun W A' => by rw [hdn]; exact certsR_nil0 W A')
          by_cases hkc2 : c = k
          · have hkc3 : k = c := hkc2.symm
            subst hkc3
            rcases A with _ | a9
            · go_region_law (first
                | (refine step_appCsO rfl (.tmp 103) (.tmp 108) rfl rfl X.heap.size Z.heap.size (.slice A8 (k + 1) c8) v5 qs8 ps5 (D.certs.take k ++ [C]) (D.certs.drop k) (by simp [Act.eval, Act.put]) (by simp [Act.eval, Act.put]) (HO9.out.up hbZ5) (OwnC.mono hO5 (by first | exact Nat.le_refl _ | (simp; done))) (fun g hg => (HO9.out.lt g hg).2) hz9 (by have := HLK.out; omega) (by have := HLD.out; omega) (Nat.le_trans hz9 hbZ5.size) ?_; intro v8 w8 hown8 hb8; rw [← HIN.out] at hown8; obtain ⟨A9, m9, c9, rfl, -⟩ := hown8.named2 (by rw [insC_len, HN.out]; omega); have hX8 := (HX9.out.up hbZ5).below hb8 (by omega); have hf8 := hX8.frozen; have y_0 := (hX8.box).2 0 _ rfl; have y_1 := (hX8.box).2 1 _ rfl; have y_2 := (hX8.box).2 2 _ rfl; have hxl8 := hX8.lt; have HX8 := Lib.hid hX8; clear hX8)
                | (go_wp2_with (go_at_call 50; refine (copyCertsM _ 0 _ (D.certs.drop k) _ (HLS.out _ _) (HLI.out.drop k)).mono ?_; rintro e w5 ⟨v5, ps5, rfl, hO5, hb5⟩; have hbZ5 : Below Z.heap.size Z w5 := (by (repeat (first | (with_reducible exact Below.refl _ _) | (with_reducible assumption) | (with_reducible apply bel_alloc) | (with_reducible apply bel_drew) | (with_reducible apply bel_drewN) | (with_reducible refine bel_trans ?_ (by with_reducible assumption)) | (with_reducible refine bel_trans ?_ (HF.out _)) | (with_reducible refine bel_set ?_ (by simp) _) | (with_reducible refine bel_set ?_ (by simp; omega) _) | (with_reducible refine bel_set ?_ (by omega) _)))); have hX5 := HX9.out.up hbZ5; have f_0 := (hX5.box).2 0 _ rfl; have f_1 := (hX5.box).2 1 _ rfl; have f_2 := (hX5.box).2 2 _ rfl; have hxl5 := hX5.lt; have hxf5 := hX5.frozen; clear hX5)))
              all_goals
                have hX10 := HX8.out.set_ 2 (.slice A9 m9 c9)
                have hO10 := hown8.setLow (b := wq.heap.size) (o := 2) (u := .slice A9 m9 c9) (by omega)
                have hR10 := ((HR9.out.up hbZ5).below hb8 (by omega)).far (p := ⟨wq.heap.size, 2, none⟩) (by dsimp only; omega) (.slice A9 m9 c9)
                have hbw10 : Below w.heap.size w (w8.setCell ⟨wq.heap.size, 2, none⟩ (.slice A9 m9 c9)) := ((bel_trans hbw9 hbZ5).trans (hb8.mono (by omega))).setCell (by dsimp only; omega) _
                have HX10 := Lib.hid hX10
                have HO10 := Lib.hid hO10
                have HR10 := Lib.hid hR10
                clear hX10 hO10 hR10
                go_wp2_with fail
                go_meet
                exact ⟨A9, m9, c9, _, HX10.out, HO10.out, HR10.out, hbw10⟩
            · go_region_law (first
                | (refine step_appCsO rfl (.tmp 103) (.tmp 108) rfl rfl X.heap.size Z.heap.size (.slice A8 (k + 1) c8) v5 qs8 ps5 (D.certs.take k ++ [C]) (D.certs.drop k) (by simp [Act.eval, Act.put]) (by simp [Act.eval, Act.put]) (HO9.out.up hbZ5) (OwnC.mono hO5 (by first | exact Nat.le_refl _ | (simp; done))) (fun g hg => (HO9.out.lt g hg).2) hz9 (by have := HLK.out; omega) (by have := HLD.out; omega) (Nat.le_trans hz9 hbZ5.size) ?_; intro v8 w8 hown8 hb8; rw [← HIN.out] at hown8; obtain ⟨A9, m9, c9, rfl, -⟩ := hown8.named2 (by rw [insC_len, HN.out]; omega); have hX8 := (HX9.out.up hbZ5).below hb8 (by omega); have hf8 := hX8.frozen; have y_0 := (hX8.box).2 0 _ rfl; have y_1 := (hX8.box).2 1 _ rfl; have y_2 := (hX8.box).2 2 _ rfl; have hxl8 := hX8.lt; have HX8 := Lib.hid hX8; clear hX8)
                | (go_wp2_with (go_at_call 50; refine (copyCertsM _ 0 _ (D.certs.drop k) _ (HLS.out _ _) (HLI.out.drop k)).mono ?_; rintro e w5 ⟨v5, ps5, rfl, hO5, hb5⟩; have hbZ5 : Below Z.heap.size Z w5 := (by (repeat (first | (with_reducible exact Below.refl _ _) | (with_reducible assumption) | (with_reducible apply bel_alloc) | (with_reducible apply bel_drew) | (with_reducible apply bel_drewN) | (with_reducible refine bel_trans ?_ (by with_reducible assumption)) | (with_reducible refine bel_trans ?_ (HF.out _)) | (with_reducible refine bel_set ?_ (by simp) _) | (with_reducible refine bel_set ?_ (by simp; omega) _) | (with_reducible refine bel_set ?_ (by omega) _)))); have hX5 := HX9.out.up hbZ5; have f_0 := (hX5.box).2 0 _ rfl; have f_1 := (hX5.box).2 1 _ rfl; have f_2 := (hX5.box).2 2 _ rfl; have hxl5 := hX5.lt; have hxf5 := hX5.frozen; clear hX5)))
              all_goals
                have hX10 := HX8.out.set_ 2 (.slice A9 m9 c9)
                have hO10 := hown8.setLow (b := wq.heap.size) (o := 2) (u := .slice A9 m9 c9) (by omega)
                have hR10 := ((HR9.out.up hbZ5).below hb8 (by omega)).far (p := ⟨wq.heap.size, 2, none⟩) (by dsimp only; omega) (.slice A9 m9 c9)
                have hbw10 : Below w.heap.size w (w8.setCell ⟨wq.heap.size, 2, none⟩ (.slice A9 m9 c9)) := ((bel_trans hbw9 hbZ5).trans (hb8.mono (by omega))).setCell (by dsimp only; omega) _
                have HX10 := Lib.hid hX10
                have HO10 := Lib.hid hO10
                have HR10 := Lib.hid hR10
                clear hX10 hO10 hR10
                go_wp2_with fail
                go_meet
                exact ⟨A9, m9, c9, _, HX10.out, HO10.out, HR10.out, hbw10⟩
          · have hne2 : ¬ (k = c) := fun h => hkc2 h.symm
            rcases A with _ | a9
            · go_region_law (first
                | (refine step_appCsO rfl (.tmp 103) (.tmp 108) rfl rfl X.heap.size Z.heap.size (.slice A8 (k + 1) c8) v5 qs8 ps5 (D.certs.take k ++ [C]) (D.certs.drop k) (by simp [Act.eval, Act.put]) (by simp [Act.eval, Act.put]) (HO9.out.up hbZ5) (OwnC.mono hO5 (by first | exact Nat.le_refl _ | (simp; done))) (fun g hg => (HO9.out.lt g hg).2) hz9 (by have := HLK.out; omega) (by have := HLD.out; omega) (Nat.le_trans hz9 hbZ5.size) ?_; intro v8 w8 hown8 hb8; rw [← HIN.out] at hown8; obtain ⟨A9, m9, c9, rfl, -⟩ := hown8.named2 (by rw [insC_len, HN.out]; omega); have hX8 := (HX9.out.up hbZ5).below hb8 (by omega); have hf8 := hX8.frozen; have y_0 := (hX8.box).2 0 _ rfl; have y_1 := (hX8.box).2 1 _ rfl; have y_2 := (hX8.box).2 2 _ rfl; have hxl8 := hX8.lt; have HX8 := Lib.hid hX8; clear hX8)
                | (go_wp2_with (go_at_call 50; refine (copyCertsM _ 0 _ (D.certs.drop k) _ (HLS.out _ _) (HLI.out.drop k)).mono ?_; rintro e w5 ⟨v5, ps5, rfl, hO5, hb5⟩; have hbZ5 : Below Z.heap.size Z w5 := (by (repeat (first | (with_reducible exact Below.refl _ _) | (with_reducible assumption) | (with_reducible apply bel_alloc) | (with_reducible apply bel_drew) | (with_reducible apply bel_drewN) | (with_reducible refine bel_trans ?_ (by with_reducible assumption)) | (with_reducible refine bel_trans ?_ (HF.out _)) | (with_reducible refine bel_set ?_ (by simp) _) | (with_reducible refine bel_set ?_ (by simp; omega) _) | (with_reducible refine bel_set ?_ (by omega) _)))); have hX5 := HX9.out.up hbZ5; have f_0 := (hX5.box).2 0 _ rfl; have f_1 := (hX5.box).2 1 _ rfl; have f_2 := (hX5.box).2 2 _ rfl; have hxl5 := hX5.lt; have hxf5 := hX5.frozen; clear hX5)))
              all_goals
                have hX10 := HX8.out.set_ 2 (.slice A9 m9 c9)
                have hO10 := hown8.setLow (b := wq.heap.size) (o := 2) (u := .slice A9 m9 c9) (by omega)
                have hR10 := ((HR9.out.up hbZ5).below hb8 (by omega)).far (p := ⟨wq.heap.size, 2, none⟩) (by dsimp only; omega) (.slice A9 m9 c9)
                have hbw10 : Below w.heap.size w (w8.setCell ⟨wq.heap.size, 2, none⟩ (.slice A9 m9 c9)) := ((bel_trans hbw9 hbZ5).trans (hb8.mono (by omega))).setCell (by dsimp only; omega) _
                have HX10 := Lib.hid hX10
                have HO10 := Lib.hid hO10
                have HR10 := Lib.hid hR10
                clear hX10 hO10 hR10
                go_wp2_with fail
                go_meet
                exact ⟨A9, m9, c9, _, HX10.out, HO10.out, HR10.out, hbw10⟩
            · go_region_law (first
                | (refine step_appCsO rfl (.tmp 103) (.tmp 108) rfl rfl X.heap.size Z.heap.size (.slice A8 (k + 1) c8) v5 qs8 ps5 (D.certs.take k ++ [C]) (D.certs.drop k) (by simp [Act.eval, Act.put]) (by simp [Act.eval, Act.put]) (HO9.out.up hbZ5) (OwnC.mono hO5 (by first | exact Nat.le_refl _ | (simp; done))) (fun g hg => (HO9.out.lt g hg).2) hz9 (by have := HLK.out; omega) (by have := HLD.out; omega) (Nat.le_trans hz9 hbZ5.size) ?_; intro v8 w8 hown8 hb8; rw [← HIN.out] at hown8; obtain ⟨A9, m9, c9, rfl, -⟩ := hown8.named2 (by rw [insC_len, HN.out]; omega); have hX8 := (HX9.out.up hbZ5).below hb8 (by omega); have hf8 := hX8.frozen; have y_0 := (hX8.box).2 0 _ rfl; have y_1 := (hX8.box).2 1 _ rfl; have y_2 := (hX8.box).2 2 _ rfl; have hxl8 := hX8.lt; have HX8 := Lib.hid hX8; clear hX8)
                | (go_wp2_with (go_at_call 50; refine (copyCertsM _ 0 _ (D.certs.drop k) _ (HLS.out _ _) (HLI.out.drop k)).mono ?_; rintro e w5 ⟨v5, ps5, rfl, hO5, hb5⟩; have hbZ5 : Below Z.heap.size Z w5 := (by (repeat (first | (with_reducible exact Below.refl _ _) | (with_reducible assumption) | (with_reducible apply bel_alloc) | (with_reducible apply bel_drew) | (with_reducible apply bel_drewN) | (with_reducible refine bel_trans ?_ (by with_reducible assumption)) | (with_reducible refine bel_trans ?_ (HF.out _)) | (with_reducible refine bel_set ?_ (by simp) _) | (with_reducible refine bel_set ?_ (by simp; omega) _) | (with_reducible refine bel_set ?_ (by omega) _)))); have hX5 := HX9.out.up hbZ5; have f_0 := (hX5.box).2 0 _ rfl; have f_1 := (hX5.box).2 1 _ rfl; have f_2 := (hX5.box).2 2 _ rfl; have hxl5 := hX5.lt; have hxf5 := hX5.frozen; clear hX5)))
              all_goals
                have hX10 := HX8.out.set_ 2 (.slice A9 m9 c9)
                have hO10 := hown8.setLow (b := wq.heap.size) (o := 2) (u := .slice A9 m9 c9) (by omega)
                have hR10 := ((HR9.out.up hbZ5).below hb8 (by omega)).far (p := ⟨wq.heap.size, 2, none⟩) (by dsimp only; omega) (.slice A9 m9 c9)
                have hbw10 : Below w.heap.size w (w8.setCell ⟨wq.heap.size, 2, none⟩ (.slice A9 m9 c9)) := ((bel_trans hbw9 hbZ5).trans (hb8.mono (by omega))).setCell (by dsimp only; omega) _
                have HX10 := Lib.hid hX10
                have HO10 := Lib.hid hO10
                have HR10 := Lib.hid hR10
                clear hX10 hO10 hR10
                go_wp2_with fail
                go_meet
                exact ⟨A9, m9, c9, _, HX10.out, HO10.out, HR10.out, hbw10⟩
      case rest =>
      obtain ⟨A9, m9, c9, qs9, hX, hO, hR, hbx⟩ := hcut
      have HO := Lib.hid hO
      have hxl := hX.lt
      have hrl := hR.lt
      have hrf := hR.frozen
      clear x_0 x_1 x_2 z_0 z_1 z_2
      have x_0 := (hX.box).2 0 _ rfl; have x_1 := (hX.box).2 1 _ rfl; have x_2 := (hX.box).2 2 _ rfl
      have k_0 := (hR.box).2 0 _ rfl; have k_1 := (hR.box).2 1 _ rfl; have k_2 := (hR.box).2 2 _ rfl
      have hR7 := ((hR.set_ 0 (.int .i64 D.nodes)).set_ 1 (.int .i64 D.low)).set_ 2 (.slice A9 m9 c9)
      have r_0 := (hR7.box).2 0 _ rfl; have r_1 := (hR7.box).2 1 _ rfl; have r_2 := (hR7.box).2 2 _ rfl
      clear hO hX hR hR7
      go_wp2_with fail
      exact bodyPost_ret (v := .tuple #[.agg #[.int .i64 D.nodes, .int .i64 D.low, .slice A9 m9 c9], .int .i64 0]) (by simp [results, Try.results41, go_sem, r_0, r_1, r_2]) rfl ⟨_, _, rfl, OwnC.mono (((HO.out.setLow (by omega)).setLow (by omega)).setLow (by omega)) (by omega), by (repeat (first | (with_reducible exact Below.refl _ _) | (with_reducible assumption) | (with_reducible apply bel_alloc) | (with_reducible apply bel_drew) | (with_reducible apply bel_drewN) | (with_reducible refine bel_trans ?_ (by with_reducible assumption)) | (with_reducible refine bel_trans ?_ (HF.out _)) | ((with_reducible refine bel_set3 ?_ ?_); rotate_left; omega)))⟩
end Go.Proofs.Ytfkbilbgndekkaa
