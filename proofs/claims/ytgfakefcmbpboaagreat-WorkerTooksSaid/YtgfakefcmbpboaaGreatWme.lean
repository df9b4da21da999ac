/- worker.Took: slices.DeleteFunc at numbers, worker.Out. -/
import Derived.Test.YtgfakefcmbpboaaGreatWmb
namespace Go.Proofs.YtgfakefcmbpboaaGreat
open Go.RowKit
set_option linter.unusedSimpArgs false
set_option linter.unusedVariables false

/-- What is left of l without what stands in L. -/
def outL (L l : List Int) : List Int := l.filter fun x => !memS L x
theorem outL_yes {L l : List Int} {n : Nat} (hn : n < l.length) (h : memS L (nth l n) = false) : outL L (l.take (n + 1)) = outL L (l.take n) ++ [nth l n] := by
  unfold outL; rw [take_nth l n hn, List.filter_append]; simp [h]
theorem outL_no {L l : List Int} {n : Nat} (hn : n < l.length) (h : memS L (nth l n) = true) : outL L (l.take (n + 1)) = outL L (l.take n) := by
  unfold outL; rw [take_nth l n hn, List.filter_append]; simp [h]
theorem outL_len (L l : List Int) : (outL L l).length ≤ l.length := List.length_filter_le _ _
theorem outL_all {L l : List Int} : ∀ (n : Nat), n ≤ l.length → (∀ j, j < n → memS L (nth l j) = false) → outL L (l.take n) = l.take n
  | 0, _, _ => by simp [outL]
  | n + 1, hn, h => by rw [outL_yes (by omega) (h n (by omega)), outL_all n (by omega) (fun j hj => h j (by omega)), take_nth l n (by omega)]
set_option maxRecDepth 100000 in
set_option maxHeartbeats 1000000 in
theorem worker_Out1 (x : Int) (g : Nat) (lA : Option Addr) (ln lc : Nat) (L : List Int) (y : Bool) (w : World) (hg : w.cell? ⟨g, 0, none⟩ = some (.slice lA ln lc)) (hL : IntsR w lA ln L) (hy : memS L x = y) :
    Calls Tryz.prog 137 #[.int .i64 x, .pointer (some ⟨g, 0, none⟩)] w fun e w' => e = .returned (.bool y) ∧ Below w.heap.size w w' := by
  have HL := Lib.hid hL
  have HY := Lib.hid hy
  clear hL hy
  go_enter Tryz.func137, Tryz.ntmps137
  go_wp2_with (go_at_call 132; refine (slices_Contains lA ln lc L x y _ HL.out HY.out).mono ?_; rintro e w1 ⟨rfl, hb1⟩)
  go_ret
  exact ⟨rfl, hb1⟩
/-- The first that stands in L. -/
def FirstI (L l : List Int) (n : Nat) (y : Int) : Prop := (y = -1 ∧ ∀ j, j < n → memS L (nth l j) = false) ∨ ∃ i : Nat, i < n ∧ y = (i : Int) ∧ memS L (nth l i) = true ∧ ∀ j, j < i → memS L (nth l j) = false
set_option maxRecDepth 100000 in
set_option maxHeartbeats 2000000 in
theorem slices_IndexFunc_I (A : Option Addr) (n c : Nat) (l : List Int) (g : Nat) (lA : Option Addr) (ln lc : Nat) (L : List Int) (w : World) (hl : IntsR w A n l) (hg : w.cell? ⟨g, 0, none⟩ = some (.slice lA ln lc)) (hgl : g < w.heap.size) (hL : IntsR w lA ln L) :
    Calls Tryz.prog 156 #[.slice A n c, .func (.func 137) #[] #[.pointer (some ⟨g, 0, none⟩)]] w fun e w' => ∃ y, e = .returned (.int .i64 y) ∧ FirstI L l n y ∧ Below w.heap.size w w' := by
  have HL := Lib.hid hl
  have HM := Lib.hid hL
  have hnn : n ≤ 9223372036854775807 := hl.2.1
  clear hl hL
  go_enter Tryz.func156, Tryz.ntmps156
  go_wp2
  go_loopw [8] (fun i wr => ∃ k : Nat, k ≤ n ∧ i = .int .i64 k ∧ Hid (∀ j, j < k → memS L (nth l j) = false) ∧ Below w.heap.size w wr) (fun i _ => n - (intOf i).toNat)
  case atStart => exact ⟨0, Nat.zero_le _, rfl, Lib.hid (fun j hj => absurd hj (by omega)), Below.refl _ _⟩
  case round =>
    obtain ⟨k, hk, rfl, hr, hbw⟩ := hrel
    (obtain ⟨wk, hwk⟩ : ∃ x, x = wr := ⟨_, rfl⟩); subst hwk
    by_cases hlt : k < n
    · obtain ⟨b, off, rfl, hb, hc⟩ := (HL.out.up hbw).2.2 (by omega)
      have c0 := hc k hlt
      have hg' := (hbw.cell (p := ⟨g, 0, none⟩) hgl).trans hg
      have hgl' : g < wk.heap.size := Nat.lt_of_lt_of_le hgl hbw.size
      clear hc
      obtain ⟨y, hy⟩ : ∃ y, memS L (nth l k) = y := ⟨_, rfl⟩
      have HQ := Lib.hid hy
      clear hy
      cases y
      · go_wp2_with (go_at_call 137; refine (worker_Out1 (nth l k) g lA ln lc L false _ hg' (HM.out.up hbw) HQ.out).mono ?_; rintro e w1 ⟨rfl, hb1⟩)
        (first | (go_round; (case rel => (refine ⟨k + 1, by omega, by go_num, Lib.hid (fun j hj => ?_), bel_trans hbw hb1⟩; rcases Nat.lt_or_ge j k with h5 | h5; exact hr.out j h5; (obtain rfl : j = k := by omega); exact HQ.out)); (case measure => (simp [intOf] <;> omega))) | (go_roundw; (case rel => (refine ⟨k + 1, by omega, by go_num, Lib.hid (fun j hj => ?_), bel_trans hbw hb1⟩; rcases Nat.lt_or_ge j k with h5 | h5; exact hr.out j h5; (obtain rfl : j = k := by omega); exact HQ.out)); (case measure => (simp [intOf] <;> omega))) | (refine ⟨?_, by simp [intOf] <;> omega⟩; (repeat apply Exists.intro); refine ⟨?rel, ?fr⟩; (case fr => ((repeat' apply And.intro) <;> rfl)); (case rel => (refine ⟨k + 1, by omega, by go_num, Lib.hid (fun j hj => ?_), bel_trans hbw hb1⟩; rcases Nat.lt_or_ge j k with h5 | h5; exact hr.out j h5; (obtain rfl : j = k := by omega); exact HQ.out))))
      · go_wp2_with (go_at_call 137; refine (worker_Out1 (nth l k) g lA ln lc L true _ hg' (HM.out.up hbw) HQ.out).mono ?_; rintro e w1 ⟨rfl, hb1⟩)
        go_ret
        exact ⟨k, rfl, .inr ⟨k, hlt, rfl, HQ.out, hr.out⟩, bel_trans hbw hb1⟩
    · go_wp2
      go_ret
      exact ⟨-1, rfl, .inl ⟨rfl, fun j hj => hr.out j (by omega)⟩, hbw⟩
set_option maxRecDepth 100000 in
/-- clear of what stands from i on. -/
theorem run_clear_I {w : World} {B n c g i cc : Nat} {xs : List Value} (h : w.ownsRow B 3 1 (.slice (some ⟨g, 0, none⟩) n c) n xs) (hi : i < n) (ty : TypeId) : ∃ w', (Builtin.clear_ #[25] ty #[.slice (some ⟨g, i, none⟩) (n - i) cc]).run Tryz.prog w = .ok (.tuple #[]) w' ∧ w'.ownsRow B 3 1 (.slice (some ⟨g, 0, none⟩) i c) i (xs.take i) ∧ Below B w w' := by
  obtain ⟨i0, hi0, hz0, hzs, hzb⟩ := info_parts int_info
  have hx := h.1
  rcases h.2 with ⟨e, _⟩ | ⟨g', cap, cur, e, hb, hg, hc, hm, hs, ht⟩
  · cases e
  · injection e with e1 e2 e3
    injection e1 with e1; injection e1 with e1
    subst e1; subst e3
    obtain ⟨zs, hzz⟩ : ∃ zs, zs = (Builtin.zeroCells (.int .i64 0 : Value).cells (n - i)).toList := ⟨_, rfl⟩
    have hzl : zs.length = n - i := by rw [hzz]; simp [Builtin.zeroCells, Value.cells]
    have hz1 : ∀ v ∈ zs, v.oneCell' = true := fun v hv => by
      rw [hzz] at hv
      simp only [Builtin.zeroCells, Value.cells, Array.toList_map, List.mem_map] at hv
      obtain ⟨q, _, rfl⟩ := hv
      have : q % 1 = 0 := by omega
      simp [this, Value.oneCell']
    have hst := run_storeCells_at Tryz.prog g i 3 zs 0 cur w hg (by rw [hzl, hs]; omega) hz1
    rw [Nat.add_zero] at hst
    obtain ⟨m, hm2⟩ : ∃ m, n - i = m + 1 := ⟨n - i - 1, by omega⟩
    have hrun : (Builtin.clear_ #[25] ty #[.slice (some ⟨g, i, none⟩) (n - i) cc]).run Tryz.prog w = .ok (.tuple #[]) (w.setRow g (cur.toList.take i ++ zs ++ cur.toList.drop (i + zs.length)).toArray) := by
      rw [hm2] at hzz ⊢
      rw [hzz] at hst ⊢
      simp [Builtin.clear_, run_underlying Tryz.underlying25, zeroValue, typeInfo, hi0, hz0, hst]
    have hcl : cur.toList.length = c := by simpa using hs
    refine ⟨_, hrun, ⟨by rw [List.length_take, hx]; omega, .inr ⟨g, c, _, rfl, hb, setRow_heap w g cur _ _ _ hg, by omega, hm, ?_, ?_⟩⟩, ⟨rfl, rfl, rfl, by simp, fun k hk => setRow_other _ _ _ _ (by omega)⟩⟩
    · simp only [List.size_toArray, List.length_append, List.length_take, List.length_drop, hzl, hcl]; omega
    · have e1 : (cur.toList.take i).length = i := by rw [List.length_take, hcl]; omega
      simp only [List.append_assoc]
      rw [Nat.mul_one, List.take_left' e1]
      rw [Nat.mul_one] at ht
      rw [← ht, List.take_take]
      congr 1; omega
/-- Half way: j looked at, i kept. -/
structure DelI (L l : List Int) (n j i : Nat) (cur : List Int) : Prop where
  len : cur.length = n
  hij : i < j
  hj : j ≤ n
  kept : cur.take i = outL L (l.take j)
  rest : ∀ q, j ≤ q → q < n → nth cur q = nth l q
theorem nth_set {l : List Int} {i q : Nat} {v : Int} (h : q ≠ i) : nth (l.set i v) q = nth l q := by
  unfold nth; simp [List.getElem?_set, Ne.symm h]
theorem DelI.yes {L l : List Int} {n j i : Nat} {cur : List Int} (h : DelI L l n j i cur) (hN : l.length = n) (hjn : j < n) (hr : memS L (nth l j) = false) : DelI L l n (j + 1) (i + 1) (cur.set i (nth l j)) := by
  have hi := h.hij
  refine ⟨by simpa using h.len, by omega, by omega, ?_, fun q h1 h2 => ?_⟩
  · rw [outL_yes (by omega) hr, ← h.kept]
    rw [List.take_succ_eq_append_getElem (by simp; rw [h.len]; omega)]
    have e : (cur.set i (nth l j)).take i = cur.take i := by rw [List.take_set]; exact List.set_eq_of_length_le (by rw [List.length_take]; omega)
    rw [e]
    simp
  · rw [nth_set (by omega)]; exact h.rest q (by omega) h2
theorem DelI.no {L l : List Int} {n j i : Nat} {cur : List Int} (h : DelI L l n j i cur) (hN : l.length = n) (hjn : j < n) (hr : memS L (nth l j) = true) : DelI L l n (j + 1) i cur :=
  ⟨h.len, by have := h.hij; omega, by omega, by rw [outL_no (by omega) hr]; exact h.kept, fun q h1 h2 => h.rest q (by omega) h2⟩
set_option maxRecDepth 100000 in
set_option maxHeartbeats 4000000 in
theorem slices_DeleteFunc_I (v : Value) (l : List Int) (B g : Nat) (lA : Option Addr) (ln lc : Nat) (L : List Int) (w : World) (hown : OwnI w B v l) (hn : l.length ≤ 900000000) (hg : w.cell? ⟨g, 0, none⟩ = some (.slice lA ln lc)) (hgB : g < B) (hB : B ≤ w.heap.size) (hL : ∀ Y, Below B w Y → IntsR Y lA ln L) :
    Calls Tryz.prog 136 #[v, .func (.func 137) #[] #[.pointer (some ⟨g, 0, none⟩)]] w fun e w' => ∃ u, e = .returned u ∧ OwnI w' B u (outL L l) ∧ Below B w w' := by
  obtain ⟨n, hN⟩ : ∃ n, n = l.length := ⟨_, rfl⟩
  obtain ⟨A, c, rfl, hr, _⟩ := hown.ints (by omega)
  rw [← hN] at hr hn hown
  rw [← hN]
  have HO := Lib.hid hown
  have HN := Lib.hid hN.symm
  have HR := Lib.hid hr
  have HM := Lib.hid hL
  have hgl : g < w.heap.size := by omega
  clear hr hown hN hL
  go_enter Tryz.func136, Tryz.ntmps136
  go_wp2_with fail
  refine (slices_IndexFunc_I A n c l g lA ln lc L _ HR.out hg hgl (HM.out _ (Below.refl _ _))).mono ?_
  rintro e w1 ⟨y, rfl, hF, hb1⟩
  have hbB1 : Below B w w1 := hb1.mono hB
  rcases hF with ⟨rfl, hall⟩ | ⟨i, hi, rfl, hlow, hfst⟩
  · have he : outL L l = l := by
      have := outL_all (l := l) (L := L) n (by rw [HN.out]; exact Nat.le_refl _) hall
      rw [List.take_of_length_le (by rw [HN.out]; exact Nat.le_refl _)] at this
      exact this
    have HE := Lib.hid he
    clear he hall
    go_wp2_with fail
    go_ret
    exact ⟨_, rfl, by rw [HE.out]; exact HO.out.up hb1, hbB1⟩
  · have hD0 : DelI L l n (i + 1) i l := ⟨HN.out, by omega, by omega, by rw [outL_no (by rw [HN.out]; exact hi) hlow, outL_all i (by rw [HN.out]; omega) hfst], fun q _ _ => rfl⟩
    have HD0 := Lib.hid hD0
    have hO2 : w.ownsRow B 3 1 (.slice A n c) n (l.map (Value.int .i64)) := by have := HO.out; unfold OwnI at this; rw [HN.out] at this; exact this
    rcases own_shape hO2 with ⟨_, h0⟩ | ⟨gv, c', e, hgvB, hnc⟩
    · omega
    · injection e with e1 e2 e3
      subst e1; subst e3
      have HO2 := Lib.hid (HO.out.up hb1)
      have hg1 := (hb1.cell (p := ⟨g, 0, none⟩) hgl).trans hg
      have hsz1 := hb1.size
      clear hlow hfst hD0 hg hO2
      go_wp2_with fail
      go_loopw [5, 6] (fun ii ij wr => ∃ (j i : Nat) (cur : List Int), ii = .int .i64 i ∧ ij = .int .i64 j ∧ j ≤ n ∧ i < n ∧ Hid (DelI L l n j i cur) ∧ Hid (OwnI wr B (.slice (some ⟨gv, 0, none⟩) n c) cur) ∧ Below B w1 wr) (fun _ ij _ => n - (intOf ij).toNat)
      case atStart => exact ⟨i + 1, i, l, rfl, by go_num, by omega, hi, HD0, HO2, Below.refl _ _⟩
      case round =>
        obtain ⟨j, i, cur, rfl, rfl, hj, hi, HD, HC, hbw⟩ := hrel
        (obtain ⟨wj, hwj⟩ : ∃ x, x = wr := ⟨_, rfl⟩); subst hwj
        have hszj := hbw.size
        by_cases hlt : j < n
        · have hcl : cur.length = n := HD.out.len
          obtain ⟨c0, _⟩ := HC.out.get (i := j) (by omega)
          have f0 := (HC.out.get (i := i) (by omega)).2
          obtain ⟨x, hx⟩ : ∃ x, x = nth l j := ⟨_, rfl⟩
          rw [HD.out.rest j (Nat.le_refl _) hlt, ← hx] at c0
          have hgj : wj.cell? ⟨g, 0, none⟩ = some (.slice lA ln lc) := (hbw.cell (p := ⟨g, 0, none⟩) hgB).trans hg1
          have hgvl : gv < wj.heap.size := (HC.out.lt gv rfl).2
          have hglj : g < wj.heap.size := by omega
          have HX := Lib.hid hx
          have hLj := HM.out wj (hbB1.trans hbw)
          have HLJ := Lib.hid hLj
          clear hx hLj hcl
          obtain ⟨y, hy⟩ : ∃ y, memS L x = y := ⟨_, rfl⟩
          have HQ := Lib.hid hy
          clear hy
          cases y
          · go_wp2_with (go_at_call 137; refine (worker_Out1 x g lA ln lc L false _ hgj HLJ.out HQ.out).mono ?_; rintro e w2 ⟨rfl, hb2⟩; have f2 := ((HC.out.up hb2).get (i := i) (by rw [HD.out.len]; omega)).2; have i2 := ((HC.out.up hb2).get (i := i) (by rw [HD.out.len]; omega)).1; have hl2 : gv < w2.heap.size := Nat.lt_of_lt_of_le hgvl hb2.size; clear c0 f0)
            have hij := HD.out.hij
            have hbB2 : Below B w1 w2 := hbw.trans (hb2.mono (by omega))
            (first | (go_round; (case rel => exact ⟨j + 1, i + 1, cur.set i x, by go_num, by go_num, by omega, by omega, Lib.hid (HX.out ▸ HD.out.yes HN.out hlt (HX.out ▸ HQ.out)), Lib.hid ((HC.out.up hb2).put (by rw [HD.out.len]; omega)), hbB2.setCell hgvB _⟩); (case measure => (simp [intOf] <;> omega))) | (go_roundw; (case rel => exact ⟨j + 1, i + 1, cur.set i x, by go_num, by go_num, by omega, by omega, Lib.hid (HX.out ▸ HD.out.yes HN.out hlt (HX.out ▸ HQ.out)), Lib.hid ((HC.out.up hb2).put (by rw [HD.out.len]; omega)), hbB2.setCell hgvB _⟩); (case measure => (simp [intOf] <;> omega))) | (refine ⟨?_, by simp [intOf] <;> omega⟩; (repeat apply Exists.intro); refine ⟨?rel, ?fr⟩; (case fr => ((repeat' apply And.intro) <;> rfl)); (case rel => exact ⟨j + 1, i + 1, cur.set i x, by go_num, by go_num, by omega, by omega, Lib.hid (HX.out ▸ HD.out.yes HN.out hlt (HX.out ▸ HQ.out)), Lib.hid ((HC.out.up hb2).put (by rw [HD.out.len]; omega)), hbB2.setCell hgvB _⟩)))
          · go_wp2_with (go_at_call 137; refine (worker_Out1 x g lA ln lc L true _ hgj HLJ.out HQ.out).mono ?_; rintro e w2 ⟨rfl, hb2⟩)
            have hbB2 : Below B w1 w2 := hbw.trans (hb2.mono (by omega))
            (first | (go_round; (case rel => exact ⟨j + 1, i, cur, rfl, by go_num, by omega, hi, Lib.hid (HD.out.no HN.out hlt (HX.out ▸ HQ.out)), Lib.hid (HC.out.up hb2), hbB2⟩); (case measure => (simp [intOf] <;> omega))) | (go_roundw; (case rel => exact ⟨j + 1, i, cur, rfl, by go_num, by omega, hi, Lib.hid (HD.out.no HN.out hlt (HX.out ▸ HQ.out)), Lib.hid (HC.out.up hb2), hbB2⟩); (case measure => (simp [intOf] <;> omega))) | (refine ⟨?_, by simp [intOf] <;> omega⟩; (repeat apply Exists.intro); refine ⟨?rel, ?fr⟩; (case fr => ((repeat' apply And.intro) <;> rfl)); (case rel => exact ⟨j + 1, i, cur, rfl, by go_num, by omega, hi, Lib.hid (HD.out.no HN.out hlt (HX.out ▸ HQ.out)), Lib.hid (HC.out.up hb2), hbB2⟩)))
        · obtain rfl : j = n := by omega
          have hO3 : wj.ownsRow B 3 1 (.slice (some ⟨gv, 0, none⟩) j c) j (cur.map (Value.int .i64)) := by have := HC.out; unfold OwnI at this; rw [HD.out.len] at this; exact this
          obtain ⟨w3, hrun, hcut, hb3⟩ := run_clear_I (cc := c - i) hO3 hi 0
          have hci : ¬ (c = i) := by omega
          have hij := HD.out.hij
          have hcutl : outL L l = cur.take i := by
            have := HD.out.kept
            rw [show l.take j = l from List.take_of_length_le (by rw [HN.out]; exact Nat.le_refl _)] at this
            exact this.symm
          have hcl : (outL L l).length = i := by rw [hcutl, List.length_take, HD.out.len]; omega
          have hfin : OwnI w3 B (.slice (some ⟨gv, 0, none⟩) i c) (outL L l) := by
            unfold OwnI
            rw [hcl, hcutl, List.map_take]
            exact hcut
          have HFIN := Lib.hid hfin
          clear hcut hcutl hcl hfin hO3
          go_wp2_with fail
          go_ret
          exact ⟨_, rfl, HFIN.out, hbB1.trans (hbw.trans hb3)⟩
end Go.Proofs.YtgfakefcmbpboaaGreat
