/- Trim, at the program and at the reference. -/
import Derived.Test.YtfkbilbgndekkaaKl
namespace Go.Proofs.Ytfkbilbgndekkaa
open Go.RowKit
set_option linter.unusedSimpArgs false
set_option linter.unusedVariables false

noncomputable def trE (D : DagD) (low : Int) : Int := if mayS D = true ∧ D.low ≤ low ∧ low ≤ 1099511627776 then 0 else 1
noncomputable def trD (D : DagD) (low : Int) : DagD := if trE D low = 0 then ⟨D.nodes, low, trimL D.certs low⟩ else ⟨0, 0, []⟩
theorem trim_tiny {l : List CertD} {low : Int} (h : Tiny l) : Tiny (trimL l low) := fun k hk => by
  have hm := cth_mem hk
  obtain ⟨j, hj, e⟩ := mem_cth (List.mem_filter.1 hm).1
  rw [← e]
  exact h j hj
theorem trim_light {l : List CertD} {low : Int} (h : Light l) : Light (trimL l low) := ⟨Nat.le_trans (List.length_filter_le _ _) h.1, fun k hk => by
  have hm := cth_mem hk
  obtain ⟨j, hj, e⟩ := mem_cth (List.mem_filter.1 hm).1
  rw [← e]
  exact h.2 j hj⟩
set_option maxRecDepth 100000 in
set_option maxHeartbeats 4000000 in
theorem dag_Trim (A : Option Addr) (n c : Nat) (D : DagD) (low y : Int) (R : DagD) (w : World) (hl : CertsR w A n D.certs) (hcap : n ≤ c) (hcb : c ≤ 9223372036854775807) (hy : trE D low = y) (hR : trD D low = R) :
    Calls Try.prog 55 #[.agg #[.int .i64 D.nodes, .int .i64 D.low, .slice A n c], .int .i64 low] w fun e w' => ∃ v qs, e = .returned (.tuple #[.agg #[.int .i64 R.nodes, .int .i64 R.low, v], .int .i64 y]) ∧ OwnD w' w.heap.size v qs R.certs ∧ Below w.heap.size w w' := by
  have HL := Lib.hid hl
  have HN := Lib.hid hl.1
  cases hm : mayS D
  · have hyr : y = 1 ∧ R = ⟨0, 0, []⟩ := by
      have h1 : trE D low = 1 := by unfold trE; rw [if_neg (by rw [hm]; simp)]
      exact ⟨by rw [← hy, h1], by rw [← hR]; unfold trD; rw [if_neg (by rw [h1]; omega)]⟩
    have HYR := Lib.hid hyr
    have HM := Lib.hid hm
    clear hl hy hR hyr hm
    go_enter Try.func55, Try.ntmps55
    go_wp2_with fail
    obtain ⟨hX1, hX2, hbX, hzX⟩ := blk2 w 24 24 [.int .i64 D.nodes, .int .i64 D.low, .slice A n c] [.int .i64 0, .int .i64 0, .slice none 0 0]
    generalize ((w.alloc (.cells #[.int .i64 D.nodes, .int .i64 D.low, .slice A n c] 24)).alloc (.cells #[.int .i64 0, .int .i64 0, .slice none 0 0] 24)) = X at *
    refine (dag_May A n c D _ (HL.out.up hbX)).mono ?_
    rintro e w1 ⟨rfl, hb1⟩
    rw [HM.out]
    have hbw1 : Below w.heap.size w w1 := bel_trans hbX hb1
    have hY1 := hX1.up hb1
    have hY2 := hX2.up hb1
    have hz1 : w.heap.size + 2 ≤ w1.heap.size := Nat.le_trans hzX hb1.size
    have d_0 := (hY1.box).2 0 _ rfl; have d_1 := (hY1.box).2 1 _ rfl; have d_2 := (hY1.box).2 2 _ rfl
    have k_0 := (hY2.box).2 0 _ rfl; have k_1 := (hY2.box).2 1 _ rfl; have k_2 := (hY2.box).2 2 _ rfl
    have hf2 := hY2.frozen
    have hl1 := hY1.lt
    have hl2 := hY2.lt
    clear hX1 hX2
    have hR := ((hY2.set_ 0 (.int .i64 0)).set_ 1 (.int .i64 0)).set_ 2 (.slice none 0 0)
    have r_0 := (hR.box).2 0 _ rfl; have r_1 := (hR.box).2 1 _ rfl; have r_2 := (hR.box).2 2 _ rfl
    clear hR
    go_wp2_with fail
    exact bodyPost_ret (v := .tuple #[.agg #[.int .i64 0, .int .i64 0, .slice none 0 0], .int .i64 1]) (by simp [results, Try.results55, go_sem, r_0, r_1, r_2]) rfl ⟨.slice none 0 0, [], by rw [HYR.out.1, HYR.out.2], by rw [HYR.out.2]; exact OwnD.nil _ _, by (repeat (first | (with_reducible exact Below.refl _ _) | (with_reducible assumption) | (with_reducible apply bel_alloc) | (with_reducible apply bel_drew) | (with_reducible apply bel_drewN) | (with_reducible refine bel_trans ?_ (by with_reducible assumption)) | (with_reducible refine bel_trans ?_ (HF.out _)) | ((with_reducible refine bel_set3 ?_ ?_); rotate_left; omega)))⟩
  · by_cases h1 : low < D.low
    · have hd : decide (low < D.low) = true := by simpa using h1
      have hyr : y = 1 ∧ R = ⟨0, 0, []⟩ := by
        have h1 : trE D low = 1 := by unfold trE; rw [if_neg (fun h => by omega)]
        exact ⟨by rw [← hy, h1], by rw [← hR]; unfold trD; rw [if_neg (by rw [h1]; omega)]⟩
      have HYR := Lib.hid hyr
      have HM := Lib.hid hm
      clear hl hy hR hyr hm
      clear h1
      go_enter Try.func55, Try.ntmps55
      go_wp2_with fail
      obtain ⟨hX1, hX2, hbX, hzX⟩ := blk2 w 24 24 [.int .i64 D.nodes, .int .i64 D.low, .slice A n c] [.int .i64 0, .int .i64 0, .slice none 0 0]
      generalize ((w.alloc (.cells #[.int .i64 D.nodes, .int .i64 D.low, .slice A n c] 24)).alloc (.cells #[.int .i64 0, .int .i64 0, .slice none 0 0] 24)) = X at *
      refine (dag_May A n c D _ (HL.out.up hbX)).mono ?_
      rintro e w1 ⟨rfl, hb1⟩
      rw [HM.out]
      have hbw1 : Below w.heap.size w w1 := bel_trans hbX hb1
      have hY1 := hX1.up hb1
      have hY2 := hX2.up hb1
      have hz1 : w.heap.size + 2 ≤ w1.heap.size := Nat.le_trans hzX hb1.size
      have d_0 := (hY1.box).2 0 _ rfl; have d_1 := (hY1.box).2 1 _ rfl; have d_2 := (hY1.box).2 2 _ rfl
      have k_0 := (hY2.box).2 0 _ rfl; have k_1 := (hY2.box).2 1 _ rfl; have k_2 := (hY2.box).2 2 _ rfl
      have hf2 := hY2.frozen
      have hl1 := hY1.lt
      have hl2 := hY2.lt
      clear hX1 hX2
      have hR := ((hY2.set_ 0 (.int .i64 0)).set_ 1 (.int .i64 0)).set_ 2 (.slice none 0 0)
      have r_0 := (hR.box).2 0 _ rfl; have r_1 := (hR.box).2 1 _ rfl; have r_2 := (hR.box).2 2 _ rfl
      clear hR
      go_wp2_with fail
      exact bodyPost_ret (v := .tuple #[.agg #[.int .i64 0, .int .i64 0, .slice none 0 0], .int .i64 1]) (by simp [results, Try.results55, go_sem, r_0, r_1, r_2]) rfl ⟨.slice none 0 0, [], by rw [HYR.out.1, HYR.out.2], by rw [HYR.out.2]; exact OwnD.nil _ _, by (repeat (first | (with_reducible exact Below.refl _ _) | (with_reducible assumption) | (with_reducible apply bel_alloc) | (with_reducible apply bel_drew) | (with_reducible apply bel_drewN) | (with_reducible refine bel_trans ?_ (by with_reducible assumption)) | (with_reducible refine bel_trans ?_ (HF.out _)) | ((with_reducible refine bel_set3 ?_ ?_); rotate_left; omega)))⟩
    · have hd1 : decide (low < D.low) = false := by simpa using h1
      by_cases h2 : 1099511627776 < low
      · have hd : decide (1099511627776 < low) = true := by simpa using h2
        have hyr : y = 1 ∧ R = ⟨0, 0, []⟩ := by
          have h1 : trE D low = 1 := by unfold trE; rw [if_neg (fun h => by omega)]
          exact ⟨by rw [← hy, h1], by rw [← hR]; unfold trD; rw [if_neg (by rw [h1]; omega)]⟩
        have HYR := Lib.hid hyr
        have HM := Lib.hid hm
        clear hl hy hR hyr hm
        clear h1 h2
        go_enter Try.func55, Try.ntmps55
        go_wp2_with fail
        obtain ⟨hX1, hX2, hbX, hzX⟩ := blk2 w 24 24 [.int .i64 D.nodes, .int .i64 D.low, .slice A n c] [.int .i64 0, .int .i64 0, .slice none 0 0]
        generalize ((w.alloc (.cells #[.int .i64 D.nodes, .int .i64 D.low, .slice A n c] 24)).alloc (.cells #[.int .i64 0, .int .i64 0, .slice none 0 0] 24)) = X at *
        refine (dag_May A n c D _ (HL.out.up hbX)).mono ?_
        rintro e w1 ⟨rfl, hb1⟩
        rw [HM.out]
        have hbw1 : Below w.heap.size w w1 := bel_trans hbX hb1
        have hY1 := hX1.up hb1
        have hY2 := hX2.up hb1
        have hz1 : w.heap.size + 2 ≤ w1.heap.size := Nat.le_trans hzX hb1.size
        have d_0 := (hY1.box).2 0 _ rfl; have d_1 := (hY1.box).2 1 _ rfl; have d_2 := (hY1.box).2 2 _ rfl
        have k_0 := (hY2.box).2 0 _ rfl; have k_1 := (hY2.box).2 1 _ rfl; have k_2 := (hY2.box).2 2 _ rfl
        have hf2 := hY2.frozen
        have hl1 := hY1.lt
        have hl2 := hY2.lt
        clear hX1 hX2
        have hR := ((hY2.set_ 0 (.int .i64 0)).set_ 1 (.int .i64 0)).set_ 2 (.slice none 0 0)
        have r_0 := (hR.box).2 0 _ rfl; have r_1 := (hR.box).2 1 _ rfl; have r_2 := (hR.box).2 2 _ rfl
        clear hR
        go_wp2_with fail
        exact bodyPost_ret (v := .tuple #[.agg #[.int .i64 0, .int .i64 0, .slice none 0 0], .int .i64 1]) (by simp [results, Try.results55, go_sem, r_0, r_1, r_2]) rfl ⟨.slice none 0 0, [], by rw [HYR.out.1, HYR.out.2], by rw [HYR.out.2]; exact OwnD.nil _ _, by (repeat (first | (with_reducible exact Below.refl _ _) | (with_reducible assumption) | (with_reducible apply bel_alloc) | (with_reducible apply bel_drew) | (with_reducible apply bel_drewN) | (with_reducible refine bel_trans ?_ (by with_reducible assumption)) | (with_reducible refine bel_trans ?_ (HF.out _)) | ((with_reducible refine bel_set3 ?_ ?_); rotate_left; omega)))⟩
      · have hd2 : decide (1099511627776 < low) = false := by simpa using h2
        have hyr : y = 0 ∧ R = ⟨D.nodes, low, trimL D.certs low⟩ := by
          have h3 : trE D low = 0 := by unfold trE; rw [if_pos ⟨hm, by omega, by omega⟩]
          exact ⟨by rw [← hy, h3], by rw [← hR]; unfold trD; rw [if_pos h3]⟩
        have hok := mayS_iff.1 hm
        have hn : n ≤ 65536 := by rw [← hl.1]; exact hok.2.2.2.1
        have hlo1 : 0 ≤ D.low := hok.2.1
        have hs : Sm low := ⟨by omega, by omega⟩
        have hti := trim_tiny (low := low) (mayS_tiny hm)
        have hsh : Short (trimL D.certs low) := fun k hk => by
          have := hti k hk
          exact ⟨by omega, by omega, by omega⟩
        have htl : (trimL D.certs low).length ≤ 65536 := Nat.le_trans (List.length_filter_le _ _) hok.2.2.2.1
        have HYR := Lib.hid hyr
        have HM := Lib.hid hm
        have HOK := Lib.hid hok
        have HTI := Lib.hid hti
        have HSH := Lib.hid hsh
        clear hl hy hR hyr hm h1 h2 hok hti hsh
        go_enter Try.func55, Try.ntmps55
        go_wp2_with fail
        obtain ⟨hX1, hX2, hbX, hzX⟩ := blk2 w 24 24 [.int .i64 D.nodes, .int .i64 D.low, .slice A n c] [.int .i64 0, .int .i64 0, .slice none 0 0]
        generalize ((w.alloc (.cells #[.int .i64 D.nodes, .int .i64 D.low, .slice A n c] 24)).alloc (.cells #[.int .i64 0, .int .i64 0, .slice none 0 0] 24)) = X at *
        refine (dag_May A n c D _ (HL.out.up hbX)).mono ?_
        rintro e w1 ⟨rfl, hb1⟩
        rw [HM.out]
        have hbw1 : Below w.heap.size w w1 := bel_trans hbX hb1
        have hY1 := hX1.up hb1
        have hY2 := hX2.up hb1
        have hz1 : w.heap.size + 2 ≤ w1.heap.size := Nat.le_trans hzX hb1.size
        have d_0 := (hY1.box).2 0 _ rfl; have d_1 := (hY1.box).2 1 _ rfl; have d_2 := (hY1.box).2 2 _ rfl
        have k_0 := (hY2.box).2 0 _ rfl; have k_1 := (hY2.box).2 1 _ rfl; have k_2 := (hY2.box).2 2 _ rfl
        have hf2 := hY2.frozen
        have hl1 := hY1.lt
        have hl2 := hY2.lt
        clear hX1 hX2
        go_wp2_with fail
        refine (dag_Cut A n c D.certs D.nodes D.low low _ (HL.out.up hbw1) HOK.out.places HOK.out.auths hn hcap hcb hs).mono ?_
        rintro e w2 ⟨⟨A2, m2, c2, rfl, hC2, hmc2, hcm2⟩, hb2⟩
        have hbw2 := bel_trans hbw1 hb2
        have hm2 : m2 ≤ 65536 := by rw [← hC2.1]; exact htl
        have hW2 := hY2.up hb2
        have hz2 : w.heap.size + 2 ≤ w2.heap.size := Nat.le_trans hz1 hb2.size
        have HC2 := Lib.hid hC2
        clear hC2 d_0 d_1 d_2 k_0 k_1 k_2 hf2 hl1 hl2 hY1 hY2
        go_wp2_with fail
        refine (dag_Own A2 m2 c2 ⟨D.nodes, low, trimL D.certs low⟩ _ HC2.out (by omega) HTI.out).mono ?_
        rintro e w3 ⟨v, ps, rfl, hown, hb3⟩
        obtain ⟨A3, c3, rfl, _⟩ := own_row hown.1 (by show (trimL D.certs low).length ≤ _; omega)
        have hbw3 := bel_trans hbw2 hb3
        have hW3 := hW2.up hb3
        have hz3 : w.heap.size + 2 ≤ w3.heap.size := Nat.le_trans hz2 hb3.size
        have k_0 := (hW3.box).2 0 _ rfl; have k_1 := (hW3.box).2 1 _ rfl; have k_2 := (hW3.box).2 2 _ rfl
        have hf2 := hW3.frozen
        have hl2 := hW3.lt
        have HO := Lib.hid (OwnD.mono hown hz2)
        clear hown
        have hR := ((hW3.set_ 0 (.int .i64 D.nodes)).set_ 1 (.int .i64 low)).set_ 2 (.slice A3 (trimL D.certs low).length c3)
        have r_0 := (hR.box).2 0 _ rfl; have r_1 := (hR.box).2 1 _ rfl; have r_2 := (hR.box).2 2 _ rfl
        clear hR
        dsimp only
        go_wp2_with fail
        have hfin : ∀ u1 u2 u3 : Value, OwnD (((w3.setCell ⟨w.heap.size + 1, 0, none⟩ u1).setCell ⟨w.heap.size + 1, 1, none⟩ u2).setCell ⟨w.heap.size + 1, 2, none⟩ u3) (w.heap.size + 2) (.slice A3 (trimL D.certs low).length c3) ps (trimL D.certs low) := fun u1 u2 u3 => ((HO.out.setLow (by omega)).setLow (by omega)).setLow (by omega)
        exact bodyPost_ret (v := .tuple #[.agg #[.int .i64 D.nodes, .int .i64 low, .slice A3 (trimL D.certs low).length c3], .int .i64 0]) (by simp [results, Try.results55, go_sem, r_0, r_1, r_2]) rfl ⟨_, by rw [HYR.out.1, HYR.out.2], ⟨ps, by rw [HYR.out.2]; exact OwnD.mono (hfin _ _ _) (by omega)⟩, by (repeat (first | (with_reducible exact Below.refl _ _) | (with_reducible assumption) | (with_reducible apply bel_alloc) | (with_reducible apply bel_drew) | (with_reducible apply bel_drewN) | (with_reducible refine bel_trans ?_ (by with_reducible assumption)) | (with_reducible refine bel_trans ?_ (HF.out _)) | ((with_reducible refine bel_set3 ?_ ?_); rotate_left; omega)))⟩
/-- append of one certificate, inside a region that draws its order. -/
theorem step_appC {ops : Array Oper} {o : Oper} {a : Act} {w : World} {K : Act → World → Prop} {Q : Exit → Act → World → Prop} {E : Prop} (hg : o.guard = none) (s x : Operand)
    (ho : o.op = .call { callee := .builtin .append, args := #[s, x], argTypes := #[22, 22] })
    (B : Nat) (v : Value) (ps : List CertP) (l : List CertD) (hs : a.eval s = v) (hown : OwnC w B v ps l) (g : Nat) (p : CertP) (C : CertD) (hx : a.eval x = .slice (some ⟨g, 0, none⟩) 1 1) (hc : BoxR w g (certCells p C)) (hA : CertA v.ownBlock w p C) (hNw : CertNew B p)
    (hlen : l.length ≤ 1000000000) (hB : B ≤ w.heap.size)
    (h : ∀ v' w', OwnC w' B v' (ps ++ [p]) (l ++ [C]) → Below B w w' → K (a.put o.dst v') w') : if Region.wanted o (yielded ops a.tmps) = true then Oper.wp Try.prog o a w K Q else E := by
  have hw : Region.wanted o (yielded ops a.tmps) = true := by simp [Region.wanted, hg]
  rw [if_pos hw]
  obtain ⟨i0, hi, hz, hz1, hz2⟩ := info_parts cert_info
  obtain ⟨v', w', hrun, h2, h3, _, h5⟩ := run_append_own_at (P := Try.prog) w B 22 o.type 48 i0 _ 6 96 Try.underlying22 hi hz hz1 hz2 rfl (by omega) v l.length (rowCells ps l) hown.1 ⟨g, 0, none⟩ 1 1 (certCells p C) rfl
    (by intro j u hu; rw [Addr.add_lit, Nat.zero_add]; exact hc.2 j u hu) certCells_one (by simp only [maxLen]; omega) (by omega) hB
  have hown' : OwnC w' B v' (ps ++ [p]) (l ++ [C]) := by
    refine ⟨by rw [rowCells_snoc hown.2.1]; simpa using h2, by simp [hown.2.1], fun j hj => ?_⟩
    rcases Nat.lt_or_ge j l.length with hj' | hj'
    · have e1 : (ps ++ [p]).getD j default = ps.getD j default := by simp [List.getElem?_append, hown.2.1, hj']
      have e2 : cth (l ++ [C]) j = cth l j := by simp [cth, List.getElem?_append, hj']
      rw [e1, e2]
      exact ⟨(hown.2.2 j hj').1.grow h3 h5, (hown.2.2 j hj').2⟩
    · obtain rfl : j = l.length := by simp at hj; omega
      have e1 : (ps ++ [p]).getD l.length default = p := by rw [← hown.2.1]; simp
      have e2 : cth (l ++ [C]) l.length = C := by simp [cth]
      rw [e1, e2]
      exact ⟨hA.grow h3 h5, hNw⟩
  have hbel : Below B w w' := ⟨h3.os, h3.tape, h3.output, h3.size, fun k hk => h3.block k (by omega) (fun e => by have := (hown.lt k e.symm).1; omega)⟩
  exact Lib.wp_append_run w s x _ _ ho v _ hs hx v' w' hrun (h v' w' hown' hbel)
theorem OwnC.named2 {w : World} {B : Nat} {v : Value} {ps l} (h : OwnC w B v ps l) (hl : l.length ≤ 9223372036854775807) : ∃ A m c, v = .slice A m c ∧ l.length = m := by
  obtain ⟨A, c, e, _⟩ := h.certs hl
  exact ⟨A, _, c, e, rfl⟩
theorem OwnC.named {w : World} {B : Nat} {v : Value} {ps l} (h : OwnC w B v ps l) (hl : l.length ≤ 9223372036854775807) : ∃ A c, v = .slice A l.length c := by
  obtain ⟨A, c, e, _⟩ := h.certs hl
  exact ⟨A, c, e⟩
set_option maxRecDepth 100000 in
set_option maxHeartbeats 4000000 in
theorem ref14_Trim (A : Option Addr) (n c : Nat) (l : List CertD) (nodes dlow low : Int) (w : World) (hl : CertsR w A n l) (hli : Light l) :
    Calls Try.prog 54 #[.agg #[.int .i64 nodes, .int .i64 dlow, .slice A n c], .int .i64 low] w fun e w' => ∃ v ps, e = .returned (.agg #[.int .i64 nodes, .int .i64 low, v]) ∧ OwnC w' w.heap.size v ps (trimL l low) ∧ Below w.heap.size w w' := by
  have HL := Lib.hid hl
  have hN := hl.1
  have hn : n ≤ 80 := by rw [← hN]; exact hli.1
  have HN := Lib.hid hN
  have HLI := Lib.hid hli
  clear hl hN hli
  go_enter Try.func54, Try.ntmps54
  go_wp2_with fail
  obtain ⟨hX1, hX2, hX3, hbX, hzX⟩ := blk3 w 24 24 24 [.int .i64 nodes, .int .i64 dlow, .slice A n c] [.int .i64 0, .int .i64 0, .slice none 0 0] [.int .i64 nodes, .int .i64 low, .slice none 0 0]
  go_loopw [6] (fun i wr => ∃ (j : Nat) (v : Value) (ps : List CertP), j ≤ n ∧ i = .int .i64 j ∧ Blk wr w.heap.size 24 [.int .i64 nodes, .int .i64 dlow, .slice A n c] ∧ Blk wr (w.heap.size + 1) 24 [.int .i64 0, .int .i64 0, .slice none 0 0] ∧ Blk wr (w.heap.size + 1 + 1) 24 [.int .i64 nodes, .int .i64 low, v] ∧ OwnC wr (w.heap.size + 3) v ps (trimL (l.take j) low) ∧ Below w.heap.size w wr ∧ w.heap.size + 3 ≤ wr.heap.size) (fun i _ => n - (intOf i).toNat)
  case atStart => exact ⟨0, .slice none 0 0, [], Nat.zero_le _, rfl, hX1, hX2, hX3, OwnC.nil _ _, hbX, hzX⟩
  case round =>
    clear hX1 hX2 hX3 hbX hzX
    obtain ⟨j, v, ps, hj, rfl, hX1, hX2, hX3, hown, hbw, hsz⟩ := hrel
    (obtain ⟨wk, hwk⟩ : ∃ x, x = wr := ⟨_, rfl⟩); subst hwk
    have d_0 := (hX1.box).2 0 _ rfl; have d_1 := (hX1.box).2 1 _ rfl; have d_2 := (hX1.box).2 2 _ rfl
    have hg0 := hX1.lt
    have hlen := filter_takeC_len (p := fun c => decide (low < c.h.ro)) l j
    have hlen2 : (trimL (l.take j) low).length ≤ j := hlen
    obtain ⟨A0, c0', rfl⟩ := hown.named (by omega)
    by_cases hlt : j < n
    · obtain ⟨b, off, rfl, hb, hc⟩ := (HL.out.up hbw).2.2 (by omega)
      obtain ⟨p, hat, hcr⟩ := hc j hlt
      obtain ⟨c0, c1, c2, c3, c4, c5⟩ := hat
      have hlj := HLI.out.2 j (by rw [HN.out]; exact hlt)
      obtain ⟨⟨⟨bA, bn, bc⟩, ⟨pA, pn, pc⟩⟩, ⟨sA, sn, sc⟩⟩ := p
      dsimp only at c0 c1 c2 c3 c4 c5
      have hq1 : bn ≤ 1000000000 := by have := hlj.1; rw [hcr.1.1.1] at this; dsimp only at this; omega
      have hq2 : pn ≤ 1000000000 := by have := hlj.2.1; rw [hcr.1.2.1] at this; dsimp only at this; omega
      have hq3 : sn ≤ 1000000000 := by have := hlj.2.2; rw [hcr.2.1] at this; dsimp only at this; omega
      have HCR := Lib.hid hcr
      have HFT := Lib.hid (filter_takeC (p := fun c => decide (low < c.h.ro)) l j (by rw [HN.out]; exact hlt))
      have HO := Lib.hid hown
      have HX1 := Lib.hid hX1
      have HX2 := Lib.hid hX2
      have HX3 := Lib.hid hX3
      have hx3l := hX3.lt
      have x_0 := (hX3.box).2 0 _ rfl; have x_1 := (hX3.box).2 1 _ rfl; have x_2 := (hX3.box).2 2 _ rfl
      have hf3 := hX3.frozen
      clear hc hcr hlj hown hX1 hX2 hX3
      by_cases hq : low < (cth l j).h.ro
      · have hd : decide (low < (cth l j).h.ro) = true := by simpa using hq
        have HQ := Lib.hid hq
        clear hq
        go_wp2_with fail
        go_region_law (first
          | (refine step_appC rfl (.tmp 28) (.tmp 35) rfl (w.heap.size + 3) (.slice A0 (trimL (l.take j) low).length c0') ps (trimL (l.take j) low) (by simp [Act.eval, Act.put]) hO6 w6.heap.size p6 (cth l j) (by simp [Act.eval, Act.put]) hB6 hA6 hN6' (by omega) hs6 ?_; intro v7 w7 hown7 hb7; obtain ⟨A7, m7, c7, rfl, hm7⟩ := hown7.named2 (by simp; omega); have HM7 := Lib.hid hm7; clear hm7; have hb67 : Below w.heap.size w w7 := (Below.trans (bel_alloc (bel_trans hbw hb6k)) (hb7.mono (by omega))); have hY3 := Blk.below hB36 hb7 (by omega); have hf7 := hY3.frozen; have y_0 := (hY3.box).2 0 _ rfl; have y_1 := (hY3.box).2 1 _ rfl; have y_2 := (hY3.box).2 2 _ rfl)
          | (go_wp2_with (go_at_call 42; refine (ref0_CopyCert (cth l j) bA pA sA bn bc pn pc sn sc _ (HCR.out.up (by (repeat (first | (with_reducible exact Below.refl _ _) | (with_reducible assumption) | (with_reducible apply bel_alloc) | (with_reducible apply bel_drew) | (with_reducible apply bel_drewN) | (with_reducible refine bel_trans ?_ (by with_reducible assumption)) | (with_reducible refine bel_trans ?_ (HF.out _)) | (with_reducible refine bel_set ?_ (by simp) _) | (with_reducible refine bel_set ?_ (by simp; omega) _) | (with_reducible refine bel_set ?_ (by omega) _))))) hq1 hq2 hq3).mono ?_; rintro e w6 ⟨p6, rfl, hR6, hN6, hb6⟩; have hb6k : Below wk.heap.size wk w6 := (by (repeat (first | (with_reducible exact Below.refl _ _) | (with_reducible assumption) | (with_reducible apply bel_alloc) | (with_reducible apply bel_drew) | (with_reducible apply bel_drewN) | (with_reducible refine bel_trans ?_ (by with_reducible assumption)) | (with_reducible refine bel_trans ?_ (HF.out _)) | (with_reducible refine bel_set ?_ (by simp) _) | (with_reducible refine bel_set ?_ (by simp; omega) _) | (with_reducible refine bel_set ?_ (by omega) _)))); have hz6 := hb6k.size; have hbA : Below w6.heap.size w6 (w6.alloc (.cells (certCells p6 (cth l j)).toArray 48)) := (by (repeat (first | (with_reducible exact Below.refl _ _) | (with_reducible assumption) | (with_reducible apply bel_alloc) | (with_reducible apply bel_drew) | (with_reducible apply bel_drewN) | (with_reducible refine bel_trans ?_ (by with_reducible assumption)) | (with_reducible refine bel_trans ?_ (HF.out _)) | (with_reducible refine bel_set ?_ (by simp) _) | (with_reducible refine bel_set ?_ (by simp; omega) _) | (with_reducible refine bel_set ?_ (by omega) _)))); have hO6 := HO.out.up (bel_trans hb6k hbA); have hB6 := BoxR.new w6 (certCells p6 (cth l j)) 48; have hN6' : CertNew (w.heap.size + 3) p6 := cert_new hN6 (by first | omega | (simp; done) | (simp; omega)); have hA6 := CertA.up (hR6.toA hN6 (blk := (Value.slice A0 (trimL (l.take j) low).length c0').ownBlock) (fun g hg => (by have := (HO.out.lt g hg).2; first | omega | (simp; done) | (simp; omega)))) hbA; have hs6 : w.heap.size + 3 ≤ (w6.alloc (.cells (certCells p6 (cth l j)).toArray 48)).heap.size := (by simp; omega); have hB36 := HX3.out.up (bel_trans hb6k hbA); have hx6 : w.heap.size + 1 + 1 < w6.heap.size := (by omega); have hx61 := (HX3.out.up hb6k).frozen; have z_0 := ((HX3.out.up hb6k).box).2 0 _ rfl; have z_1 := ((HX3.out.up hb6k).box).2 1 _ rfl; have z_2 := ((HX3.out.up hb6k).box).2 2 _ rfl)))
        all_goals
          have e7 : trimL (l.take (j + 1)) low = trimL (l.take j) low ++ [cth l j] := by unfold trimL; rw [HFT.out, if_pos (by simpa using HQ.out)]
          have hY1 := Blk.below (HX1.out.up (bel_trans hb6k hbA)) hb7 (by omega)
          have hY2 := Blk.below (HX2.out.up (bel_trans hb6k hbA)) hb7 (by omega)
          have hZ1 := hY1.far (p := ⟨w.heap.size + 1 + 1, 2, none⟩) (by dsimp only; omega) (.slice A7 m7 c7)
          have hZ2 := hY2.far (p := ⟨w.heap.size + 1 + 1, 2, none⟩) (by dsimp only; omega) (.slice A7 m7 c7)
          have hZ3 := hY3.set_ 2 (.slice A7 m7 c7)
          have hZO := hown7.setLow (b := w.heap.size + 1 + 1) (o := 2) (u := .slice A7 m7 c7) (by omega)
          rw [← e7] at hZO
          have hbz : Below w.heap.size w (w7.setCell ⟨w.heap.size + 1 + 1, 2, none⟩ (.slice A7 m7 c7)) := bel_set3 hb67 (by omega)
          have hsz7 : w.heap.size + 3 ≤ (w7.setCell ⟨w.heap.size + 1 + 1, 2, none⟩ (.slice A7 m7 c7)).heap.size := Nat.le_trans hs6 (Nat.le_trans hb7.size (by simp))
          have HE7 := Lib.hid e7
          have HZ : Hid (∃ (v : Value) (ps : List CertP), Blk (w7.setCell ⟨w.heap.size + 1 + 1, 2, none⟩ (.slice A7 m7 c7)) w.heap.size 24 [.int .i64 nodes, .int .i64 dlow, .slice (some ⟨b, off, none⟩) n c] ∧ Blk (w7.setCell ⟨w.heap.size + 1 + 1, 2, none⟩ (.slice A7 m7 c7)) (w.heap.size + 1) 24 [.int .i64 0, .int .i64 0, .slice none 0 0] ∧ Blk (w7.setCell ⟨w.heap.size + 1 + 1, 2, none⟩ (.slice A7 m7 c7)) (w.heap.size + 1 + 1) 24 [.int .i64 nodes, .int .i64 low, v] ∧ OwnC (w7.setCell ⟨w.heap.size + 1 + 1, 2, none⟩ (.slice A7 m7 c7)) (w.heap.size + 3) v ps (trimL (l.take (j + 1)) low) ∧ Below w.heap.size w (w7.setCell ⟨w.heap.size + 1 + 1, 2, none⟩ (.slice A7 m7 c7)) ∧ w.heap.size + 3 ≤ (w7.setCell ⟨w.heap.size + 1 + 1, 2, none⟩ (.slice A7 m7 c7)).heap.size) := Lib.hid (by exact ⟨_, _, hZ1, hZ2, hZ3, hZO, hbz, hsz7⟩)
          clear e7 hY1 hY2 hZ1 hZ2 hZ3 hZO hbz hsz7 hown7
          go_wp2_with fail
          obtain ⟨v8, ps8, g1, g2, g3, g4, g5, g6⟩ := HZ.out
          (first | (go_round; (case rel => exact ⟨j + 1, v8, ps8, by omega, by go_num, g1, g2, g3, g4, g5, g6⟩); (case measure => (simp [intOf] <;> omega))) | (go_roundw; (case rel => exact ⟨j + 1, v8, ps8, by omega, by go_num, g1, g2, g3, g4, g5, g6⟩); (case measure => (simp [intOf] <;> omega))) | (refine ⟨?_, by simp [intOf] <;> omega⟩; (repeat apply Exists.intro); refine ⟨?rel, ?fr⟩; (case fr => ((repeat' apply And.intro) <;> rfl)); (case rel => exact ⟨j + 1, v8, ps8, by omega, by go_num, g1, g2, g3, g4, g5, g6⟩)))
      · have hd : decide (low < (cth l j).h.ro) = false := by simpa using hq
        have HQ := Lib.hid hq
        clear hq
        have e7 : trimL (l.take (j + 1)) low = trimL (l.take j) low := by unfold trimL; rw [HFT.out, if_neg (by simpa using HQ.out), List.append_nil]
        have HO7 : Hid (OwnC wk (w.heap.size + 3) (.slice A0 (trimL (l.take j) low).length c0') ps (trimL (l.take (j + 1)) low)) := Lib.hid (by rw [e7]; exact HO.out)
        clear e7
        go_wp2_with fail
        (first | (go_round; (case rel => exact ⟨j + 1, _, ps, by omega, by go_num, HX1.out, HX2.out, HX3.out, HO7.out, hbw, hsz⟩); (case measure => (simp [intOf] <;> omega))) | (go_roundw; (case rel => exact ⟨j + 1, _, ps, by omega, by go_num, HX1.out, HX2.out, HX3.out, HO7.out, hbw, hsz⟩); (case measure => (simp [intOf] <;> omega))) | (refine ⟨?_, by simp [intOf] <;> omega⟩; (repeat apply Exists.intro); refine ⟨?rel, ?fr⟩; (case fr => ((repeat' apply And.intro) <;> rfl)); (case rel => exact ⟨j + 1, _, ps, by omega, by go_num, HX1.out, HX2.out, HX3.out, HO7.out, hbw, hsz⟩)))
    · have e : l.take j = l := List.take_of_length_le (by rw [HN.out]; omega)
      rw [e] at hown hX3
      have hx3l := hX3.lt
      have hx2l := hX2.lt
      have hf2 := hX2.frozen
      have hR := ((hX2.set_ 0 (.int .i64 nodes)).set_ 1 (.int .i64 low)).set_ 2 (.slice A0 (trimL l low).length c0')
      have x_0 := (hX3.box).2 0 _ rfl; have x_1 := (hX3.box).2 1 _ rfl; have x_2 := (hX3.box).2 2 _ rfl
      have k_0 := (hX2.box).2 0 _ rfl; have k_1 := (hX2.box).2 1 _ rfl; have k_2 := (hX2.box).2 2 _ rfl
      have r_0 := (hR.box).2 0 _ rfl; have r_1 := (hR.box).2 1 _ rfl; have r_2 := (hR.box).2 2 _ rfl
      have HO := Lib.hid hown
      clear hR hown hlen hlen2 e
      go_wp2_with fail
      exact bodyPost_ret (v := .agg #[.int .i64 nodes, .int .i64 low, .slice A0 (trimL l low).length c0']) (by simp [results, Try.results54, go_sem, r_0, r_1, r_2]) rfl ⟨_, ps, rfl, OwnC.mono (((HO.out.setLow (by omega)).setLow (by omega)).setLow (by omega)) (by omega), by (repeat (first | (with_reducible exact Below.refl _ _) | (with_reducible assumption) | (with_reducible apply bel_alloc) | (with_reducible apply bel_drew) | (with_reducible apply bel_drewN) | (with_reducible refine bel_trans ?_ (by with_reducible assumption)) | (with_reducible refine bel_trans ?_ (HF.out _)) | ((with_reducible refine bel_set3 ?_ ?_); rotate_left; omega)))⟩
end Go.Proofs.Ytfkbilbgndekkaa
