/- droverlaw13: what is played. -/
import Derived.Test.YtgfakefcmbpboaaGreatSuWx
import Derived.Deep.CutBlock
namespace Go.Proofs.YtgfakefcmbpboaaGreat
set_option linter.all false
set_option maxRecDepth 100000
open Go.RowKit

/-- A script that is played. -/
structure LightJ (P : JScrP) (D : JScrD) : Prop where
  op : P.w.op.n ≤ 12000
  wa : P.w.wa.n ≤ 12000
  ak : ∀ x ∈ D.w.wa, x.ak.length ≤ 12000
  he : P.w.he.n ≤ 200
  hx : ∀ x ∈ D.w.he, x.b.tx.length ≤ 12000
  re : P.w.re.n ≤ 12000
  l : P.l.n ≤ 100
  li : ∀ a ∈ D.l, a.l.length ≤ 12000
  lm : ∀ a ∈ D.l, mwS a.m ≤ 2000
def HeavyJ (P : JScrP) (D : JScrD) (w : World) (e : Ending) (w' : World) : Prop := ∃ x : Bool, e = .returned (.bool x) ∧ (x = false → LightJ P D) ∧ Below w.heap.size w w'
theorem txs_box {w : World} {g : Nat} {t : TxD} (h : BoxR w g [.int .i64 t.se, .int .i64 t.sq, .string t.k, .string t.v]) : TxsR w (some ⟨g, 0, none⟩) 1 [t] :=
  ⟨rfl, by simp [flat, encX], by omega, fun _ => ⟨g, 0, rfl, h.1, fun j u hu => by rw [Nat.zero_add]; exact h.2 j u (by simpa [flat, encX] using hu)⟩⟩
set_option maxHeartbeats 8000000 in
theorem law13_heavy (P : JScrP) (D : JScrD) (w : World) (h : JScrR w P D) :
    Calls Tryz.prog 16 #[P.val D] w (HeavyJ P D w) := by
  obtain ⟨⟨⟨oA, on, oc⟩, ⟨tA, tn, tc⟩, ⟨eA, en, ec⟩, ⟨rA, rn, rc⟩⟩, ⟨lA, ln, lc⟩⟩ := P
  have H := ħ h
  have HO : Hid (TxsR w oA on D.w.op) := ħ h.wk.op
  have HT : Hid (WaitsR w tA tn D.w.wa) := ħ h.wk.wa
  have HE : Hid (HeldsR w eA en D.w.he) := ħ h.wk.he
  have HL : Hid (JobsR w lA ln D.l) := ħ h.l
  have so : on ≤ 17592186044416 := h.so
  have sw : tn ≤ 17592186044416 := h.sw
  have sh : en ≤ 17592186044416 := h.sh
  have sr : rn ≤ 17592186044416 := h.sr
  have sl : ln ≤ 17592186044416 := h.sl
  obtain ⟨y1, hy1⟩ : ∃ y, xwS D.w.op = y := ⟨_, rfl⟩
  obtain ⟨y2, hy2⟩ : ∃ y, hwS D.w.he = y := ⟨_, rfl⟩
  have b1 : (on : Int) ≤ y1 ∧ y1 ≤ 562949953421312 := by
    rw [← hy1, ← HO.out.1]
    exact ⟨xwS_ge _, xwS_le (by rw [HO.out.1]; exact so) h.go⟩
  have b2 : (en : Int) ≤ y2 ∧ y2 ≤ 1125899906842624 := by
    rw [← hy2, ← HE.out.1]
    exact ⟨hwS_ge _, hwS_le h.gh (by rw [HE.out.1]; exact sh)⟩
  obtain ⟨b11, b12⟩ := b1
  obtain ⟨b21, b22⟩ := b2
  have HY1 := ħ hy1
  have HY2 := ħ hy2
  obtain ⟨nodes, hnd⟩ : ∃ z, D.w.nodes = z := ⟨_, rfl⟩
  obtain ⟨id, hid⟩ : ∃ z, D.w.id = z := ⟨_, rfl⟩
  obtain ⟨next, hnx⟩ : ∃ z, D.w.next = z := ⟨_, rfl⟩
  obtain ⟨age, hag⟩ : ∃ z, D.w.age = z := ⟨_, rfl⟩
  obtain ⟨clock, hck⟩ : ∃ z, D.w.clock = z := ⟨_, rfl⟩
  clear h hy1 hy2
  show Calls Tryz.prog 16 #[.agg #[.int .i64 D.w.id, .int .i64 D.w.nodes, .int .i64 D.w.next, .slice oA on oc, .int .i64 D.w.age, .int .i64 D.w.clock, .slice tA tn tc, .slice eA en ec, .slice rA rn rc, .slice lA ln lc]] w (HeavyJ _ D w)
  rw [hid, hnd, hnx, hag, hck]
  clear hid hnd hnx hag hck
  go_enter Tryz.func16, Tryz.ntmps16
  go_wp2_with fail
  have hB : BoxR (w.alloc (.cells #[.int .i64 id, .int .i64 nodes, .int .i64 next, .slice oA on oc, .int .i64 age, .int .i64 clock, .slice tA tn tc, .slice eA en ec, .slice rA rn rc, .slice lA ln lc] 30)) w.heap.size [.int .i64 id, .int .i64 nodes, .int .i64 next, .slice oA on oc, .int .i64 age, .int .i64 clock, .slice tA tn tc, .slice eA en ec, .slice rA rn rc, .slice lA ln lc] := BoxR.new w [.int .i64 id, .int .i64 nodes, .int .i64 next, .slice oA on oc, .int .i64 age, .int .i64 clock, .slice tA tn tc, .slice eA en ec, .slice rA rn rc, .slice lA ln lc] 30
  have hbX : Below w.heap.size w (w.alloc (.cells #[.int .i64 id, .int .i64 nodes, .int .i64 next, .slice oA on oc, .int .i64 age, .int .i64 clock, .slice tA tn tc, .slice eA en ec, .slice rA rn rc, .slice lA ln lc] 30)) := by (repeat (first | (with_reducible exact Below.refl _ _) | (with_reducible assumption) | (with_reducible apply bel_alloc) | (with_reducible apply bel_drew) | (with_reducible apply bel_drewN) | (with_reducible refine bel_trans ?_ (by with_reducible assumption)) | (with_reducible refine bel_trans ?_ (HF.out _)) | (with_reducible refine bel_set ?_ (by simp) _) | (with_reducible refine bel_set ?_ (by simp; omega) _) | (with_reducible refine bel_set ?_ (by omega) _)))
  generalize (w.alloc (.cells #[.int .i64 id, .int .i64 nodes, .int .i64 next, .slice oA on oc, .int .i64 age, .int .i64 clock, .slice tA tn tc, .slice eA en ec, .slice rA rn rc, .slice lA ln lc] 30)) = X at *
  have HB := ħ hB
  have hg0 := hB.1
  have b_0 := (hB).2 0 _ rfl; have b_1 := (hB).2 1 _ rfl; have b_2 := (hB).2 2 _ rfl; have b_3 := (hB).2 3 _ rfl; have b_4 := (hB).2 4 _ rfl; have b_5 := (hB).2 5 _ rfl; have b_6 := (hB).2 6 _ rfl; have b_7 := (hB).2 7 _ rfl; have b_8 := (hB).2 8 _ rfl; have b_9 := (hB).2 9 _ rfl
  clear hB
  refine wp_region_fam (by kernel_rfl) (by kernel_rfl) (fun ι F hne hF hcl => ?_)
  have hcF0 := fun n o => (bcell (hF n)).1 (w.heap.size) o (by first | (simp; done) | (simp; omega) | omega)
  have HF := ħ hF; clear hF
  have HC := ħ hcl; clear hcl
  repeat (any_goals (first
   | go_big_quiet_step (first | (go_at_call 23; exact Calls.fam HC.out (law0_TxWeight oA on oc D.w.op y1 _ ((HO.out.up hbX).up (HF.out _)) H.out.go so HY1.out)) | (go_at_call 24; exact Calls.fam HC.out (law0_HeldWeight eA en ec D.w.he y2 _ ((HE.out.up hbX).up (HF.out _)) H.out.gh sh HY2.out)))
   | (refine wpQuiet_guard _ _ _ rfl rfl ?_; (fail_if_success (intro b' hb; have h2 := hb.symm; have : b' = true := h2.trans (by with_reducible rfl))); (fail_if_success (intro b' hb; have h2 := hb.symm; have : b' = false := h2.trans (by with_reducible rfl))); intro b' hb; simp only [hb]; cases b' <;> (try simp only [Bool.not_eq_true', Bool.not_eq_false', decide_eq_true_eq, decide_eq_false_iff_not, Int.not_lt, Int.not_le, Bool.and_eq_true, Bool.or_eq_true, Bool.or_eq_false_iff, beq_iff_eq, beq_eq_false_iff_ne, Int.natCast_pos] at hb))))
  all_goals (refine wpQuiet_nil ?_; intro nq)
  have hFwf := HF.out nq
  clear HF HC hne
  generalize F nq = wf at *
  have hbf := bel_trans hbX hFwf
  have HBF := ħ (HB.out.up hFwf)
  clear b_0 b_1 b_2 b_3 b_4 b_5 b_6 b_7 b_8 b_9 hg0 HB hFwf hbX
  have hg0 := HBF.out.1
  have b_0 := (HBF.out).2 0 _ rfl; have b_1 := (HBF.out).2 1 _ rfl; have b_2 := (HBF.out).2 2 _ rfl; have b_3 := (HBF.out).2 3 _ rfl; have b_4 := (HBF.out).2 4 _ rfl; have b_5 := (HBF.out).2 5 _ rfl; have b_6 := (HBF.out).2 6 _ rfl; have b_7 := (HBF.out).2 7 _ rfl; have b_8 := (HBF.out).2 8 _ rfl; have b_9 := (HBF.out).2 9 _ rfl
  go_wp2_with fail
  clear b_0 b_1 b_2 b_3 b_4 b_5 b_6 b_7 b_8 b_9 hg0
  go_loopw [3, 4] (fun sv si wr => ∃ (k : Nat) (v : Int), k ≤ tn ∧ si = .int .i64 k ∧ sv = .int .i64 v ∧ y1 + y2 + (tn : Int) + (rn : Int) ≤ v ∧ v ≤ 2251799813685248 ∧ Hid (v < 1048576 → ∀ j, j < k → ((wth D.w.wa j).ak.length : Int) ≤ v) ∧ Hid (BoxR wr w.heap.size [.int .i64 id, .int .i64 nodes, .int .i64 next, .slice oA on oc, .int .i64 age, .int .i64 clock, .slice tA tn tc, .slice eA en ec, .slice rA rn rc, .slice lA ln lc]) ∧ Below w.heap.size w wr) (fun _ si _ => tn - (intOf si).toNat)
  case atStart => exact ⟨0, _, Nat.zero_le _, rfl, rfl, Int.le_refl _, by omega, ħ (fun _ j hj => absurd hj (by omega)), HBF, hbf⟩
  case round =>
    clear hbf HBF
    obtain ⟨k, v, hk, rfl, rfl, hv0, hv1, HW, HB, hbw⟩ := hrel
    (obtain ⟨wk, hwk⟩ : ∃ x, x = wr := ⟨_, rfl⟩); subst hwk
    have hg1 := HB.out.1
    have b_0 := (HB.out).2 0 _ rfl; have b_1 := (HB.out).2 1 _ rfl; have b_2 := (HB.out).2 2 _ rfl; have b_3 := (HB.out).2 3 _ rfl; have b_4 := (HB.out).2 4 _ rfl; have b_5 := (HB.out).2 5 _ rfl; have b_6 := (HB.out).2 6 _ rfl; have b_7 := (HB.out).2 7 _ rfl; have b_8 := (HB.out).2 8 _ rfl; have b_9 := (HB.out).2 9 _ rfl
    have hvn : 0 ≤ v := by omega
    by_cases hlt : k < tn ∧ v < 1048576
    · obtain ⟨hlt1, hvl⟩ := hlt
      obtain ⟨b, off, rfl, hb, hc⟩ := (HT.out.up hbw).2.2 (by omega)
      obtain ⟨B, m, d, ⟨c0, c1⟩, hI⟩ := hc k hlt1
      have hm : m ≤ 17592186044416 := by rw [← hI.1]; exact sm_at H.out.gw (k := k) (by rw [HT.out.1]; exact hlt1)
      have hW5 : v + m < 1048576 → ∀ j, j < k + 1 → ((wth D.w.wa j).ak.length : Int) ≤ v + m := fun hq j hj => by
        rcases Nat.lt_or_ge j k with q | q
        · have := HW.out (by omega) j q; omega
        · obtain rfl : j = k := by omega
          have h9 := hI.1; omega
      have HW5 := ħ hW5
      clear hc hI hW5
      go_wp2_with fail
      (first | (go_round; (case rel => exact ⟨k + 1, v + m, by omega, by go_num, by first | rfl | go_num, by omega, by omega, HW5, HB, hbw⟩); (case measure => (simp [intOf] <;> omega))) | (go_roundw; (case rel => exact ⟨k + 1, v + m, by omega, by go_num, by first | rfl | go_num, by omega, by omega, HW5, HB, hbw⟩); (case measure => (simp [intOf] <;> omega))) | (refine ⟨?_, by simp [intOf] <;> omega⟩; (repeat apply Exists.intro); refine ⟨?rel, ?fr⟩; (case fr => ((repeat' apply And.intro) <;> rfl)); (case rel => exact ⟨k + 1, v + m, by omega, by go_num, by first | rfl | go_num, by omega, by omega, HW5, HB, hbw⟩)))
    · have hend : v < 1048576 → ∀ x ∈ D.w.wa, (x.ak.length : Int) ≤ v := fun hq => by
        have hkb : k = tn := by omega
        exact (mem_getD (P := fun x : WaitD => (x.ak.length : Int) ≤ v)).1 (fun j hj => HW.out hq j (by rw [hkb, ← HT.out.1]; exact hj))
      have HEND := ħ hend
      clear hend
      have HBw := HB
      have hbw1 := hbw
      by_cases h1 : k < tn
      case' pos =>
        have h2 : ¬ v < 1048576 := fun h => hlt ⟨h1, h⟩
        have h2d : decide (v < 1048576) = false := by simpa using h2
        clear h2
      all_goals
        clear hlt
        go_wp2_with fail
        clear b_0 b_1 b_2 b_3 b_4 b_5 b_6 b_7 b_8 b_9 hg1
        go_loopw [3, 5] (fun sv si wr => ∃ (i : Nat) (u : Int), i ≤ ln ∧ si = .int .i64 i ∧ sv = .int .i64 u ∧ v ≤ u ∧ u ≤ 4503599627370496 ∧ Hid (u < 1048576 → ∀ j, j < i → ((jth D.l j).l.length : Int) ≤ u) ∧ Hid (∀ j, j < i → mwS (jth D.l j).m ≤ 2000) ∧ Hid (BoxR wr w.heap.size [.int .i64 id, .int .i64 nodes, .int .i64 next, .slice oA on oc, .int .i64 age, .int .i64 clock, .slice tA tn tc, .slice eA en ec, .slice rA rn rc, .slice lA ln lc]) ∧ Below w.heap.size w wr) (fun _ si _ => ln - (intOf si).toNat)
        case atStart => exact ⟨0, v, Nat.zero_le _, rfl, rfl, Int.le_refl _, by omega, ħ (fun _ j hj => absurd hj (by omega)), ħ (fun j hj => absurd hj (by omega)), HBw, hbw1⟩
        case round =>
          clear hbw1 HBw hbw HB
          obtain ⟨i, u, hi, rfl, rfl, hu0, hu1, HU, HM, HB, hbw⟩ := hrel
          (obtain ⟨wj, hwj⟩ : ∃ x, x = wr := ⟨_, rfl⟩); subst hwj
          have hg1 := HB.out.1
          have b_0 := (HB.out).2 0 _ rfl; have b_1 := (HB.out).2 1 _ rfl; have b_2 := (HB.out).2 2 _ rfl; have b_3 := (HB.out).2 3 _ rfl; have b_4 := (HB.out).2 4 _ rfl; have b_5 := (HB.out).2 5 _ rfl; have b_6 := (HB.out).2 6 _ rfl; have b_7 := (HB.out).2 7 _ rfl; have b_8 := (HB.out).2 8 _ rfl; have b_9 := (HB.out).2 9 _ rfl
          have hun : 0 ≤ u := by omega
          by_cases hlt : i < ln ∧ u < 1048576
          · obtain ⟨hlt1, hul⟩ := hlt
            obtain ⟨b, off, rfl, hb, hc⟩ := (HL.out.up hbw).2.2 (by omega)
            obtain ⟨⟨⟨pA, pn, pc⟩, ⟨⟨p1A, p1n, p1c⟩, ⟨p2A, p2n, p2c⟩⟩, ⟨⟨⟨p3A, p3n, p3c⟩, ⟨p4A, p4n, p4c⟩⟩, ⟨p5A, p5n, p5c⟩⟩, ⟨p6A, p6n, p6c⟩⟩, ⟨sA, sn, sc⟩, hat, hM, hI⟩ := hc i hlt1
            obtain ⟨a, ha⟩ : ∃ a, jth D.l i = a := ⟨_, rfl⟩
            have hsa : SmJ (jth D.l i) := sm_at H.out.gl (k := i) (by rw [HL.out.1]; exact hlt1)
            rw [ha] at hat hM hI hsa
            have HA := ħ ha
            have hsn : sn ≤ 17592186044416 := by have h9 := hI.1; have h8 := hsa.l; dsimp only at h9; omega
            obtain ⟨y3, hy3⟩ : ∃ y, xwS [a.t] = y := ⟨_, rfl⟩
            have b31 : 0 ≤ y3 := by rw [← hy3]; have := xwS_ge [a.t]; simp at this; omega
            have b32 : y3 ≤ 562949953421312 := by rw [← hy3]; exact xwS_le (by simp) (fun x hx => by have : x = a.t := by simpa using hx
                                                                                                     rw [this]; exact hsa.t)
            obtain ⟨y4, hy4⟩ : ∃ y, mwS a.m = y := ⟨_, rfl⟩
            have HY3 := ħ hy3
            have HY4 := ħ hy4
            have HSA := ħ hsa
            have HMR := ħ hM
            have HAL : Hid (a.l.length = sn) := ħ hI.1
            have hcl : ∀ Y, Below wj.heap.size wj Y → (∀ r u, (jobCells ⟨⟨pA, pn, pc⟩, ⟨⟨p1A, p1n, p1c⟩, ⟨p2A, p2n, p2c⟩⟩, ⟨⟨⟨p3A, p3n, p3c⟩, ⟨p4A, p4n, p4c⟩⟩, ⟨p5A, p5n, p5c⟩⟩, ⟨p6A, p6n, p6c⟩⟩ ⟨sA, sn, sc⟩ a)[r]? = some u → Y.cell? ⟨b, off + i * 26 + r, none⟩ = some u) := fun Y hY r u hu => (hY.cell (p := ⟨b, off + i * 26 + r, none⟩) hb).trans (hat r u hu)
            have HCJ := ħ hcl
            have HCL : Hid (∀ Y, Below wj.heap.size wj Y → Y.cell? ⟨w.heap.size, 9, none⟩ = some (.slice (some ⟨b, off, none⟩) ln lc) ∧ Y.cell? ⟨b, off + i * 26 + 2, none⟩ = some (.int .i64 a.t.se) ∧ Y.cell? ⟨b, off + i * 26 + 3, none⟩ = some (.int .i64 a.t.sq) ∧ Y.cell? ⟨b, off + i * 26 + 4, none⟩ = some (.string a.t.k) ∧ Y.cell? ⟨b, off + i * 26 + 5, none⟩ = some (.string a.t.v) ∧ Y.cell? ⟨b, off + i * 26 + 25, none⟩ = some (.slice sA sn sc)) := ħ (fun Y hY => ⟨(HB.out.up hY).2 9 _ rfl, hcl Y hY 2 _ rfl, hcl Y hY 3 _ rfl, hcl Y hY 4 _ rfl, hcl Y hY 5 _ rfl, hcl Y hY 25 _ rfl⟩)
            have hii : (0 : Int) ≤ (i : Int) := by omega
            have hil : (i : Int) < (ln : Int) := by omega
            clear hc hat hM hI hsa ha hy3 hy4 hcl
            go_upto_region 9 with fail
            clear b_0 b_1 b_2 b_3 b_4 b_5 b_6 b_7 b_8 b_9
            go_region_held3 (fun Y => Y.cell? ⟨w.heap.size, 9, none⟩ = some (.slice (some ⟨b, off, none⟩) ln lc) ∧ Y.cell? ⟨b, off + i * 26 + 2, none⟩ = some (.int .i64 a.t.se) ∧ Y.cell? ⟨b, off + i * 26 + 3, none⟩ = some (.int .i64 a.t.sq) ∧ Y.cell? ⟨b, off + i * 26 + 4, none⟩ = some (.string a.t.k) ∧ Y.cell? ⟨b, off + i * 26 + 5, none⟩ = some (.string a.t.v) ∧ Y.cell? ⟨b, off + i * 26 + 25, none⟩ = some (.slice sA sn sc))
              (exact HCL.out _ (by (repeat (first | (with_reducible exact Below.refl _ _) | (with_reducible assumption) | (with_reducible apply bel_alloc) | (with_reducible apply bel_drew) | (with_reducible apply bel_drewN) | (with_reducible refine bel_trans ?_ (by with_reducible assumption)) | (with_reducible refine bel_trans ?_ (HF.out _)) | ((with_reducible refine bel_set3 ?_ ?_); rotate_left; omega)))))
              ((go_at_call 23; refine (law0_TxWeight _ 1 1 [a.t] y3 _ ((txs_box (BoxR.new wj [.int .i64 a.t.se, .int .i64 a.t.sq, .string a.t.k, .string a.t.v] 41)).up (by (repeat (first | (with_reducible exact Below.refl _ _) | (with_reducible assumption) | (with_reducible apply bel_alloc) | (with_reducible apply bel_drew) | (with_reducible apply bel_drewN) | (with_reducible refine bel_trans ?_ (by with_reducible assumption)) | (with_reducible refine bel_trans ?_ (HF.out _)) | ((with_reducible refine bel_set3 ?_ ?_); rotate_left; omega))))) (fun x hx => (by have e : x = a.t := (by simpa using hx); rw [e]; exact HSA.out.t)) (by omega) HY3.out).mono ?_; rintro e w7 ⟨rfl, hb7⟩))
            as_aux_lemma =>
              have hb7j : Below wj.heap.size wj w7 := by (repeat (first | (with_reducible exact Below.refl _ _) | (with_reducible assumption) | (with_reducible apply bel_alloc) | (with_reducible apply bel_drew) | (with_reducible apply bel_drewN) | (with_reducible refine bel_trans ?_ (by with_reducible assumption)) | (with_reducible refine bel_trans ?_ (HF.out _)) | ((with_reducible refine bel_set3 ?_ ?_); rotate_left; omega)))
              have HB7 := ħ (HB.out.up hb7j)
              have hg7 := HB7.out.1
              have hb7l : b < w7.heap.size := Nat.lt_of_lt_of_le hb hb7j.size
              have d_0 := (HB7.out).2 0 _ rfl; have d_1 := (HB7.out).2 1 _ rfl; have d_2 := (HB7.out).2 2 _ rfl; have d_3 := (HB7.out).2 3 _ rfl; have d_4 := (HB7.out).2 4 _ rfl; have d_5 := (HB7.out).2 5 _ rfl; have d_6 := (HB7.out).2 6 _ rfl; have d_7 := (HB7.out).2 7 _ rfl; have d_8 := (HB7.out).2 8 _ rfl; have d_9 := (HB7.out).2 9 _ rfl
              have m_6 := HCJ.out w7 hb7j 6 _ rfl
              have m_7 := HCJ.out w7 hb7j 7 _ rfl
              have m_8 := HCJ.out w7 hb7j 8 _ rfl
              have m_9 := HCJ.out w7 hb7j 9 _ rfl
              have m_10 := HCJ.out w7 hb7j 10 _ rfl
              have m_11 := HCJ.out w7 hb7j 11 _ rfl
              have m_12 := HCJ.out w7 hb7j 12 _ rfl
              have m_13 := HCJ.out w7 hb7j 13 _ rfl
              have m_14 := HCJ.out w7 hb7j 14 _ rfl
              have m_15 := HCJ.out w7 hb7j 15 _ rfl
              have m_16 := HCJ.out w7 hb7j 16 _ rfl
              have m_17 := HCJ.out w7 hb7j 17 _ rfl
              have m_18 := HCJ.out w7 hb7j 18 _ rfl
              have m_19 := HCJ.out w7 hb7j 19 _ rfl
              have m_20 := HCJ.out w7 hb7j 20 _ rfl
              have m_21 := HCJ.out w7 hb7j 21 _ rfl
              have m_22 := HCJ.out w7 hb7j 22 _ rfl
              have m_23 := HCJ.out w7 hb7j 23 _ rfl
              have hU5 : u + y3 + sn < 1048576 → ∀ j, j < i + 1 → ((jth D.l j).l.length : Int) ≤ u + y3 + sn := fun hq j hj => by
                rcases Nat.lt_or_ge j i with q | q
                · have := HU.out (by omega) j q; omega
                · obtain rfl : j = i := by omega
                  rw [HA.out]; have h9 := HAL.out; omega
              have hwr1 : IntKind.i64.wrap (u + y3) = u + y3 := IntWalk.i64_in _ (by omega)
              have hwr2 : IntKind.i64.wrap (u + y3 + (sn : Int)) = u + y3 + sn := IntWalk.i64_in _ (by omega)
              have HU5 := ħ hU5
              clear hU5
              by_cases h20 : 2000 < y4
              case' neg => have h20d : decide (2000 < y4) = false := by simpa using h20
              case' pos => have h20d : decide (2000 < y4) = true := by simpa using h20
              all_goals
                go_wp2_with (go_at_call 25; refine (law7_Heavy ⟨⟨pA, pn, pc⟩, ⟨⟨p1A, p1n, p1c⟩, ⟨p2A, p2n, p2c⟩⟩, ⟨⟨⟨p3A, p3n, p3c⟩, ⟨p4A, p4n, p4c⟩⟩, ⟨p5A, p5n, p5c⟩⟩, ⟨p6A, p6n, p6c⟩⟩ a.m y4 _ ((HMR.out.up hb7j).up (by (repeat (first | (with_reducible exact Below.refl _ _) | (with_reducible assumption) | (with_reducible apply bel_alloc) | (with_reducible apply bel_drew) | (with_reducible apply bel_drewN) | (with_reducible refine bel_trans ?_ (by with_reducible assumption)) | (with_reducible refine bel_trans ?_ (HF.out _)) | ((with_reducible refine bel_set3 ?_ ?_); rotate_left; omega))))) HSA.out.m HY4.out).mono ?_; rintro e w8 ⟨rfl, hb8⟩)
              · go_ret
                exact ⟨true, rfl, (fun h => by cases h), bel_trans hbw (bel_trans hb7j (by (repeat (first | (with_reducible exact Below.refl _ _) | (with_reducible assumption) | (with_reducible apply bel_alloc) | (with_reducible apply bel_drew) | (with_reducible apply bel_drewN) | (with_reducible refine bel_trans ?_ (by with_reducible assumption)) | (with_reducible refine bel_trans ?_ (HF.out _)) | ((with_reducible refine bel_set3 ?_ ?_); rotate_left; omega)))))⟩
              · have HM5 : Hid (∀ j, j < i + 1 → mwS (jth D.l j).m ≤ 2000) := ħ (fun j hj => by
                  rcases Nat.lt_or_ge j i with q | q
                  · exact HM.out j q
                  · obtain rfl : j = i := by omega
                    rw [HA.out]; have h9 := HY4.out; omega)
                have HB8 := ħ (HB7.out.up hb8)
                have hbw8 := bel_trans hbw (bel_trans hb7j hb8)
                go_round
                case rel =>
                  refine ⟨i + 1, u + y3 + sn, by omega, ?_, ?_, by omega, by omega, HU5, HM5, HB8, hbw8⟩
                  · go_num
                  · rfl
                case measure => (simp [intOf] <;> omega)
          · as_aux_lemma =>
              have hfin : u ≤ 12000 → en ≤ 200 → ln ≤ 100 → LightJ ⟨⟨⟨oA, on, oc⟩, ⟨tA, tn, tc⟩, ⟨eA, en, ec⟩, ⟨rA, rn, rc⟩⟩, ⟨lA, ln, lc⟩⟩ D := fun h1 h2 h3 => by
                have hib : i = ln := by omega
                have q1 := HEND.out (by omega)
                have q2 : ∀ a ∈ D.l, (a.l.length : Int) ≤ u := (mem_getD (P := fun a : JobD => (a.l.length : Int) ≤ u)).1 (fun j hj => HU.out (by omega) j (by rw [hib, ← HL.out.1]; exact hj))
                have q3 : ∀ a ∈ D.l, mwS a.m ≤ 2000 := (mem_getD (P := fun a : JobD => mwS a.m ≤ 2000)).1 (fun j hj => HM.out j (by rw [hib, ← HL.out.1]; exact hj))
                have q4 := hwS_tx (l := D.w.he) (by rw [HY2.out]; omega)
                exact { op := (by show on ≤ 12000; omega), wa := (by show tn ≤ 12000; omega), ak := (fun x hx => by have := q1 x hx; omega), he := h2, hx := (fun x hx => by have := q4 x hx; have := HY2.out; omega), re := (by show rn ≤ 12000; omega), l := h3, li := (fun a ha => by have := q2 a ha; omega), lm := q3 }
              have HFIN := ħ hfin
              clear hfin
              by_cases h9 : i < ln
              case' pos =>
                have h2 : ¬ u < 1048576 := fun h => hlt ⟨h9, h⟩
                have h2d' : decide (u < 1048576) = false := by simpa using h2
                clear h2
              all_goals
                clear hlt
                go_wp2_with fail
                all_goals
                  go_ret
                  refine ⟨_, ret_bool rfl, fun hx => ?_, hbw⟩
                  first
                    | (exfalso; simp at hx; done)
                    | (simp at hx; refine HFIN.out ?_ ?_ ?_ <;> (first | omega | simp_all))
end Go.Proofs.YtgfakefcmbpboaaGreat
