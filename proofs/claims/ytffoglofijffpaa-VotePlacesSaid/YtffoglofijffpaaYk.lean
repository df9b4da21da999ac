/- Votes: trimming, at the program: slices.IndexFunc, DeleteFunc. -/
import Derived.Test.YtffoglofijffpaaYj
namespace Go.Proofs.Ytffoglofijffpaa
open Go.RowKit
set_option linter.unusedSimpArgs false
set_option linter.unusedVariables false

set_option maxRecDepth 100000 in
set_option maxHeartbeats 1000000 in
theorem vote_Cut1 (ro au di : Int) (g : Nat) (low : Int) (w : World) (hg : w.cell? ⟨g, 0, none⟩ = some (.int .i64 low)) (hgl : g < w.heap.size) :
    Calls Try.prog 105 #[.agg #[.int .i64 ro, .int .i64 au, .int .i64 di], .pointer (some ⟨g, 0, none⟩)] w fun e w' => e = .returned (.bool (decide (ro ≤ low))) ∧ Below w.heap.size w w' := by
  go_enter Try.func105, Try.ntmps105
  go_wp2
  go_ret
  exact ⟨rfl, by (repeat (first | (with_reducible exact Below.refl _ _) | (with_reducible assumption) | (with_reducible apply bel_alloc) | (with_reducible apply bel_drew) | (with_reducible apply bel_drewN) | (with_reducible refine bel_trans ?_ (by with_reducible assumption)) | (with_reducible refine bel_trans ?_ (HF.out _)) | (with_reducible refine bel_set ?_ (by simp) _) | (with_reducible refine bel_set ?_ (by simp; omega) _) | (with_reducible refine bel_set ?_ (by omega) _)))⟩
/-- The first that is not above low. -/
def FirstV (l : List VoteD) (low : Int) (n : Nat) (y : Int) : Prop := (y = -1 ∧ ∀ j, j < n → low < (vth l j).ro) ∨ ∃ i : Nat, i < n ∧ y = (i : Int) ∧ (vth l i).ro ≤ low ∧ ∀ j, j < i → low < (vth l j).ro
set_option maxRecDepth 100000 in
set_option maxHeartbeats 2000000 in
theorem slices_IndexFunc_V (A : Option Addr) (n c : Nat) (l : List VoteD) (g : Nat) (low : Int) (w : World) (hl : VotesR w A n l) (hg : w.cell? ⟨g, 0, none⟩ = some (.int .i64 low)) (hgl : g < w.heap.size) :
    Calls Try.prog 120 #[.slice A n c, .func (.func 105) #[] #[.pointer (some ⟨g, 0, none⟩)]] w fun e w' => ∃ y, e = .returned (.int .i64 y) ∧ FirstV l low n y ∧ Below w.heap.size w w' := by
  have HL := Lib.hid hl
  have hnn : n ≤ 9223372036854775807 := hl.2.2.1
  clear hl
  go_enter Try.func120, Try.ntmps120
  go_wp2
  go_loopw [8] (fun i wr => ∃ k : Nat, k ≤ n ∧ i = .int .i64 k ∧ Hid (∀ j, j < k → low < (vth l j).ro) ∧ Below w.heap.size w wr) (fun i _ => n - (intOf i).toNat)
  case atStart => exact ⟨0, Nat.zero_le _, rfl, Lib.hid (fun j hj => absurd hj (by omega)), Below.refl _ _⟩
  case round =>
    obtain ⟨k, hk, rfl, hr, hbw⟩ := hrel
    by_cases hlt : k < n
    · obtain ⟨b, off, rfl, hb, hc⟩ := (HL.out.up hbw).at (by omega)
      obtain ⟨c0, c1, c2⟩ := hc k hlt
      have hg' := (hbw.cell (p := ⟨g, 0, none⟩) hgl).trans hg
      have hgl' : g < wr.heap.size := Nat.lt_of_lt_of_le hgl hbw.size
      clear hc
      by_cases hq : (vth l k).ro ≤ low
      · have hd : decide ((vth l k).ro ≤ low) = true := by simpa using hq
        have HQ := Lib.hid hq
        clear hq
        go_wp2_with (go_at_call 105; refine (vote_Cut1 _ _ _ _ _ _ hg' hgl').mono ?_; rintro e w1 ⟨rfl, hb1⟩)
        go_ret
        exact ⟨k, rfl, .inr ⟨k, hlt, rfl, HQ.out, hr.out⟩, bel_trans hbw hb1⟩
      · have hd : decide ((vth l k).ro ≤ low) = false := by simpa using hq
        have HQ := Lib.hid hq
        clear hq
        go_wp2_with (go_at_call 105; refine (vote_Cut1 _ _ _ _ _ _ hg' hgl').mono ?_; rintro e w1 ⟨rfl, hb1⟩)
        (first | (go_round; (case rel => (refine ⟨k + 1, by omega, by go_num, Lib.hid (fun j hj => ?_), bel_trans hbw hb1⟩; rcases Nat.lt_or_ge j k with h5 | h5; exact hr.out j h5; (obtain rfl : j = k := by omega); (have := HQ.out; omega))); (case measure => (simp [intOf] <;> omega))) | (go_roundw; (case rel => (refine ⟨k + 1, by omega, by go_num, Lib.hid (fun j hj => ?_), bel_trans hbw hb1⟩; rcases Nat.lt_or_ge j k with h5 | h5; exact hr.out j h5; (obtain rfl : j = k := by omega); (have := HQ.out; omega))); (case measure => (simp [intOf] <;> omega))) | (refine ⟨?_, by simp [intOf] <;> omega⟩; (repeat apply Exists.intro); refine ⟨?rel, ?fr⟩; (case fr => ((repeat' apply And.intro) <;> rfl)); (case rel => (refine ⟨k + 1, by omega, by go_num, Lib.hid (fun j hj => ?_), bel_trans hbw hb1⟩; rcases Nat.lt_or_ge j k with h5 | h5; exact hr.out j h5; (obtain rfl : j = k := by omega); (have := HQ.out; omega)))))
    · go_wp2
      go_ret
      exact ⟨-1, rfl, .inl ⟨rfl, fun j hj => hr.out j (by omega)⟩, hbw⟩
set_option maxRecDepth 100000 in
/-- clear of what stands from i on. -/
theorem run_clear_V {w : World} {B n c g i cc : Nat} {xs : List Value} (h : w.ownsRow B 67 3 (.slice (some ⟨g, 0, none⟩) n c) n xs) (hi : i < n) (ty : TypeId) : ∃ w', (Builtin.clear_ #[51] ty #[.slice (some ⟨g, i * 3, none⟩) (n - i) cc]).run Try.prog w = .ok (.tuple #[]) w' ∧ w'.ownsRow B 67 3 (.slice (some ⟨g, 0, none⟩) i c) i (xs.take (i * 3)) ∧ Below B w w' := by
  obtain ⟨i0, hi0, hz0, hzs, hzb⟩ := info_parts info_Vote
  have hx := h.1
  rcases h.2 with ⟨e, _⟩ | ⟨g', cap, cur, e, hb, hg, hc, hm, hs, ht⟩
  · cases e
  · injection e with e1 e2 e3
    injection e1 with e1; injection e1 with e1
    subst e1; subst e3
    obtain ⟨zs, hzz⟩ : ∃ zs, zs = (Builtin.zeroCells (.agg #[.int .i64 0, .int .i64 0, .int .i64 0] : Value).cells (n - i)).toList := ⟨_, rfl⟩
    have hzl : zs.length = (n - i) * 3 := by rw [hzz]; simp [Builtin.zeroCells, Value.cells]
    have hz1 : ∀ v ∈ zs, v.oneCell' = true := fun v hv => by
      rw [hzz] at hv
      simp only [Builtin.zeroCells, Value.cells, Array.toList_map, List.mem_map] at hv
      obtain ⟨q, _, rfl⟩ := hv
      have : q % 3 = 0 ∨ q % 3 = 1 ∨ q % 3 = 2 := by omega
      rcases this with h | h | h <;> simp [h, Value.oneCell']
    have hst := run_storeCells_at Try.prog g (i * 3) 67 zs 0 cur w hg (by rw [hzl, hs]; omega) hz1
    rw [Nat.add_zero] at hst
    obtain ⟨m, hm2⟩ : ∃ m, n - i = m + 1 := ⟨n - i - 1, by omega⟩
    have hrun : (Builtin.clear_ #[51] ty #[.slice (some ⟨g, i * 3, none⟩) (n - i) cc]).run Try.prog w = .ok (.tuple #[]) (w.setRow g (cur.toList.take (i * 3) ++ zs ++ cur.toList.drop (i * 3 + zs.length)).toArray) := by
      rw [hm2] at hzz ⊢
      rw [hzz] at hst ⊢
      simp [Builtin.clear_, run_underlying Try.underlying51, zeroValue, typeInfo, hi0, hz0, hst]
    have hcl : cur.toList.length = c * 3 := by simpa using hs
    refine ⟨_, hrun, ⟨by rw [List.length_take, hx]; omega, .inr ⟨g, c, _, rfl, hb, setRow_heap w g cur _ _ _ hg, by omega, hm, ?_, ?_⟩⟩, ⟨rfl, rfl, rfl, by simp, fun k hk => setRow_other _ _ _ _ (by omega)⟩⟩
    · simp only [List.size_toArray, List.length_append, List.length_take, List.length_drop, hzl, hcl]; omega
    · have e1 : (cur.toList.take (i * 3)).length = i * 3 := by rw [List.length_take, hcl]; omega
      simp only [List.append_assoc]
      rw [List.take_left' e1, ← ht, List.take_take]
      congr 1; omega
/-- Half way: j looked at, i kept. -/
structure DelF (l : List VoteD) (low : Int) (n j i : Nat) (cur : List VoteD) : Prop where
  len : cur.length = n
  hij : i < j
  hj : j ≤ n
  kept : cur.take i = cutV (l.take j) low
  rest : ∀ q, j ≤ q → q < n → vth cur q = vth l q
theorem vth_set {l : List VoteD} {i q : Nat} {v : VoteD} (h : q ≠ i) : vth (l.set i v) q = vth l q := by
  unfold vth; simp [List.getElem?_set, Ne.symm h]
theorem DelF.yes {l : List VoteD} {low : Int} {n j i : Nat} {cur : List VoteD} (h : DelF l low n j i cur) (hN : l.length = n) (hjn : j < n) (hr : low < (vth l j).ro) : DelF l low n (j + 1) (i + 1) (cur.set i (vth l j)) := by
  have hi := h.hij
  refine ⟨by simpa using h.len, by omega, by omega, ?_, fun q h1 h2 => ?_⟩
  · rw [cutV_yes (by omega) hr, ← h.kept]
    rw [List.take_succ_eq_append_getElem (by simp; rw [h.len]; omega)]
    have e : (cur.set i (vth l j)).take i = cur.take i := by rw [List.take_set]; exact List.set_eq_of_length_le (by rw [List.length_take]; omega)
    rw [e]
    simp
  · rw [vth_set (by omega)]; exact h.rest q (by omega) h2
theorem DelF.no {l : List VoteD} {low : Int} {n j i : Nat} {cur : List VoteD} (h : DelF l low n j i cur) (hN : l.length = n) (hjn : j < n) (hr : ¬ low < (vth l j).ro) : DelF l low n (j + 1) i cur :=
  ⟨h.len, by have := h.hij; omega, by omega, by rw [cutV_no (by omega) hr]; exact h.kept, fun q h1 h2 => h.rest q (by omega) h2⟩
theorem cutV_all {l : List VoteD} {low : Int} : ∀ (n : Nat), n ≤ l.length → (∀ j, j < n → low < (vth l j).ro) → cutV (l.take n) low = l.take n
  | 0, _, _ => by simp [cutV]
  | n + 1, hn, h => by rw [cutV_yes (by omega) (h n (by omega)), cutV_all n (by omega) (fun j hj => h j (by omega)), take_vth l n (by omega)]
set_option maxRecDepth 100000 in
set_option maxHeartbeats 4000000 in
theorem slices_DeleteFunc_V (v : Value) (l : List VoteD) (B g : Nat) (low : Int) (w : World) (hown : OwnV w B v l) (hn : l.length ≤ 900000000) (hg : w.cell? ⟨g, 0, none⟩ = some (.int .i64 low)) (hgB : g < B) (hB : B ≤ w.heap.size) :
    Calls Try.prog 104 #[v, .func (.func 105) #[] #[.pointer (some ⟨g, 0, none⟩)]] w fun e w' => ∃ u, e = .returned u ∧ OwnV w' B u (cutV l low) ∧ Below B w w' := by
  obtain ⟨n, hN⟩ : ∃ n, n = l.length := ⟨_, rfl⟩
  obtain ⟨A, c, rfl, hr, _, _⟩ := hown.votes (by omega)
  rw [← hN] at hr hn
  have hown2 : w.ownsRow B 67 3 (.slice A n c) n (flat encV l) := by rw [hN]; exact hown
  have HO1 : Hid (OwnV w B (.slice A n c) l) := Lib.hid (by rw [hN]; exact hown)
  rw [← hN]
  have HN := Lib.hid hN.symm
  have HR := Lib.hid hr
  have HO := Lib.hid hown2
  have hgl : g < w.heap.size := by omega
  clear hr hown hown2 hN
  go_enter Try.func104, Try.ntmps104
  go_wp2_with fail
  refine (slices_IndexFunc_V A n c l g low _ HR.out hg hgl).mono ?_
  rintro e w1 ⟨y, rfl, hF, hb1⟩
  have hbB1 : Below B w w1 := hb1.mono hB
  rcases hF with ⟨rfl, hall⟩ | ⟨i, hi, rfl, hlow, hfst⟩
  · have he : cutV l low = l := by
      have := cutV_all (l := l) (low := low) n (by rw [HN.out]; exact Nat.le_refl _) hall
      rw [List.take_of_length_le (by rw [HN.out]; exact Nat.le_refl _)] at this
      exact this
    have HE := Lib.hid he
    clear he hall
    go_wp2_with fail
    go_ret
    exact ⟨_, rfl, by rw [HE.out]; exact HO1.out.up hb1, hbB1⟩
  · have hD0 : DelF l low n (i + 1) i l := ⟨HN.out, by omega, by omega, by rw [cutV_no (by rw [HN.out]; exact hi) (by omega), cutV_all i (by rw [HN.out]; omega) hfst], fun q _ _ => rfl⟩
    have HD0 := Lib.hid hD0
    rcases own_shape HO.out with ⟨_, h0⟩ | ⟨gv, c', e, hgvB, hnc⟩
    · omega
    · injection e with e1 e2 e3
      subst e1; subst e3
      have HO2 := Lib.hid (own_up HO.out hb1)
      have hg1 := (hb1.cell (p := ⟨g, 0, none⟩) hgl).trans hg
      have hsz1 := hb1.size
      clear hlow hfst hD0 hg
      go_wp2_with fail
      go_loopw [5, 6] (fun ii ij wr => ∃ (j i : Nat) (cur : List VoteD), ii = .int .i64 i ∧ ij = .int .i64 j ∧ j ≤ n ∧ i < n ∧ Hid (DelF l low n j i cur) ∧ Hid (wr.ownsRow B 67 3 (.slice (some ⟨gv, 0, none⟩) n c) n (flat encV cur)) ∧ Below B w1 wr) (fun _ ij _ => n - (intOf ij).toNat)
      case atStart => exact ⟨i + 1, i, l, rfl, by go_num, by omega, hi, HD0, HO2, Below.refl _ _⟩
      case round =>
        obtain ⟨j, i, cur, rfl, rfl, hj, hi, HD, HC, hbw⟩ := hrel
        (obtain ⟨wj, hwj⟩ : ∃ x, x = wr := ⟨_, rfl⟩); subst hwj
        have hszj := hbw.size
        by_cases hlt : j < n
        · obtain ⟨g1, f1⟩ := own_get HC.out
          have hat : ∀ q, q < n → ∀ r u, r < 3 → (encV (vth cur q))[r]? = some u → wj.cell? ⟨gv, q * 3 + r, none⟩ = some u := fun q hq r u hr hu =>
            g1 _ u (by rw [flat_at encV_len cur q r (by rw [HD.out.len]; exact hq) hr]; exact hu)
          have hvj : vth cur j = vth l j := HD.out.rest j (Nat.le_refl _) hlt
          have c0 : wj.cell? ⟨gv, j * 3, none⟩ = some (.int .i64 (vth cur j).ro) := hat j hlt 0 _ (by omega) rfl
          have c1 : wj.cell? ⟨gv, j * 3 + 1, none⟩ = some (.int .i64 (vth cur j).au) := hat j hlt 1 _ (by omega) rfl
          have c2 : wj.cell? ⟨gv, j * 3 + 2, none⟩ = some (.int .i64 (vth cur j).di) := hat j hlt 2 _ (by omega) rfl
          have i0 : wj.cell? ⟨gv, i * 3, none⟩ = some (.int .i64 (vth cur i).ro) := hat i hi 0 _ (by omega) rfl
          have i1 : wj.cell? ⟨gv, i * 3 + 1, none⟩ = some (.int .i64 (vth cur i).au) := hat i hi 1 _ (by omega) rfl
          have i2 : wj.cell? ⟨gv, i * 3 + 2, none⟩ = some (.int .i64 (vth cur i).di) := hat i hi 2 _ (by omega) rfl
          have hgj : wj.cell? ⟨g, 0, none⟩ = some (.int .i64 low) := (hbw.cell (p := ⟨g, 0, none⟩) hgB).trans hg1
          have hgvl : gv < wj.heap.size := (own_lt HC.out gv rfl).2
          have hglj : g < wj.heap.size := by omega
          obtain ⟨x, hx⟩ : ∃ x, x = vth l j := ⟨_, rfl⟩
          rw [hvj, ← hx] at c0 c1 c2
          have hA : BoxR (wj.alloc (.cells #[.int .i64 x.ro, .int .i64 x.au, .int .i64 x.di] 67)) wj.heap.size [.int .i64 x.ro, .int .i64 x.au, .int .i64 x.di] := BoxR.new wj [.int .i64 x.ro, .int .i64 x.au, .int .i64 x.di] 67
          have hba : Below wj.heap.size wj (wj.alloc (.cells #[.int .i64 x.ro, .int .i64 x.au, .int .i64 x.di] 67)) := by (repeat (first | (with_reducible exact Below.refl _ _) | (with_reducible assumption) | (with_reducible apply bel_alloc) | (with_reducible apply bel_drew) | (with_reducible apply bel_drewN) | (with_reducible refine bel_trans ?_ (by with_reducible assumption)) | (with_reducible refine bel_trans ?_ (HF.out _)) | (with_reducible refine bel_set ?_ (by simp) _) | (with_reducible refine bel_set ?_ (by simp; omega) _) | (with_reducible refine bel_set ?_ (by omega) _)))
          have hga := (hba.cell (p := ⟨g, 0, none⟩) hglj).trans hgj
          have hgla : g < (wj.alloc (.cells #[.int .i64 x.ro, .int .i64 x.au, .int .i64 x.di] 67)).heap.size := by simp; omega
          have HX := Lib.hid hx
          clear g1 hat hvj hx
          by_cases hq : x.ro ≤ low
          · have hd : decide (x.ro ≤ low) = true := by simpa using hq
            have HQ : Hid (¬ low < (vth l j).ro) := Lib.hid (by rw [← HX.out]; omega)
            clear hq
            go_wp2_with fail
            refine (vote_Cut1 _ _ _ g low _ hga hgla).mono ?_
            rintro e w2 ⟨rfl, hb2⟩
            have hbj2 : Below wj.heap.size wj w2 := bel_trans hba hb2
            have hbB2 : Below B w1 w2 := hbw.trans (hbj2.mono (by omega))
            clear c0 c1 c2 i0 i1 i2
            go_wp2_with fail
            (first | (go_round; (case rel => exact ⟨j + 1, i, cur, rfl, by go_num, by omega, hi, Lib.hid (HD.out.no HN.out hlt (by have := HQ.out; omega)), Lib.hid (own_up HC.out hbj2), hbB2⟩); (case measure => (simp [intOf] <;> omega))) | (go_roundw; (case rel => exact ⟨j + 1, i, cur, rfl, by go_num, by omega, hi, Lib.hid (HD.out.no HN.out hlt (by have := HQ.out; omega)), Lib.hid (own_up HC.out hbj2), hbB2⟩); (case measure => (simp [intOf] <;> omega))) | (refine ⟨?_, by simp [intOf] <;> omega⟩; (repeat apply Exists.intro); refine ⟨?rel, ?fr⟩; (case fr => ((repeat' apply And.intro) <;> rfl)); (case rel => exact ⟨j + 1, i, cur, rfl, by go_num, by omega, hi, Lib.hid (HD.out.no HN.out hlt (by have := HQ.out; omega)), Lib.hid (own_up HC.out hbj2), hbB2⟩)))
          · have hd : decide (x.ro ≤ low) = false := by simpa using hq
            have HQ : Hid (low < (vth l j).ro) := Lib.hid (by rw [← HX.out]; omega)
            clear hq
            go_wp2_with fail
            refine (vote_Cut1 _ _ _ g low _ hga hgla).mono ?_
            rintro e w2 ⟨rfl, hb2⟩
            have hbj2 : Below wj.heap.size wj w2 := bel_trans hba hb2
            have hbB2 : Below B w1 w2 := hbw.trans (hbj2.mono (by omega))
            have hA2 := hA.up hb2
            have hC2 := own_up HC.out hbj2
            have f2 := (own_get hC2).2
            have hij := HD.out.hij
            have i0' := (hbj2.cell (p := ⟨gv, i * 3, none⟩) hgvl).trans i0
            have i1' := (hbj2.cell (p := ⟨gv, i * 3 + 1, none⟩) hgvl).trans i1
            have i2' := (hbj2.cell (p := ⟨gv, i * 3 + 2, none⟩) hgvl).trans i2
            have HC2 := Lib.hid hC2
            clear c0 c1 c2 i0 i1 i2 hC2 f1
            have a_0 := (hA2).2 0 _ rfl; have a_1 := (hA2).2 1 _ rfl; have a_2 := (hA2).2 2 _ rfl
            go_wp2_with fail
            (first | (go_round; (case rel => exact ⟨j + 1, i + 1, cur.set i x, by go_num, by go_num, by omega, by omega, Lib.hid (HX.out ▸ HD.out.yes HN.out hlt HQ.out), Lib.hid (OwnV.put HC2.out HD.out.len hi), ((hbB2.setCell hgvB _).setCell hgvB _).setCell hgvB _⟩); (case measure => (simp [intOf] <;> omega))) | (go_roundw; (case rel => exact ⟨j + 1, i + 1, cur.set i x, by go_num, by go_num, by omega, by omega, Lib.hid (HX.out ▸ HD.out.yes HN.out hlt HQ.out), Lib.hid (OwnV.put HC2.out HD.out.len hi), ((hbB2.setCell hgvB _).setCell hgvB _).setCell hgvB _⟩); (case measure => (simp [intOf] <;> omega))) | (refine ⟨?_, by simp [intOf] <;> omega⟩; (repeat apply Exists.intro); refine ⟨?rel, ?fr⟩; (case fr => ((repeat' apply And.intro) <;> rfl)); (case rel => exact ⟨j + 1, i + 1, cur.set i x, by go_num, by go_num, by omega, by omega, Lib.hid (HX.out ▸ HD.out.yes HN.out hlt HQ.out), Lib.hid (OwnV.put HC2.out HD.out.len hi), ((hbB2.setCell hgvB _).setCell hgvB _).setCell hgvB _⟩)))
        · obtain rfl : j = n := by omega
          obtain ⟨w3, hrun, hcut, hb3⟩ := run_clear_V (cc := c - i) HC.out hi 0
          have hci : ¬ (c = i) := by omega
          have hij := HD.out.hij
          have hcutl : cutV l low = cur.take i := by
            have := HD.out.kept
            rw [show l.take j = l from List.take_of_length_le (by rw [HN.out]; exact Nat.le_refl _)] at this
            exact this.symm
          have hcl : (cutV l low).length = i := by rw [hcutl, List.length_take, HD.out.len]; omega
          have hfin : OwnV w3 B (.slice (some ⟨gv, 0, none⟩) i c) (cutV l low) := by
            unfold OwnV
            rw [hcl, hcutl, flat_take encV_len]
            exact hcut
          have HFIN := Lib.hid hfin
          clear hcut hcutl hcl hfin
          go_wp2_with fail
          go_ret
          exact ⟨_, rfl, HFIN.out, hbB1.trans (hbw.trans hb3)⟩
set_option maxRecDepth 100000 in
set_option maxHeartbeats 1000000 in
theorem vote_Cut (A : Option Addr) (n c : Nat) (l : List VoteD) (low : Int) (w : World) (hl : VotesR w A n l) (hn : n ≤ 900000000) :
    Calls Try.prog 78 #[.slice A n c, .int .i64 low] w fun e w' => ∃ u, e = .returned u ∧ OwnV w' w.heap.size u (cutV l low) ∧ Below w.heap.size w w' := by
  have HL := Lib.hid hl
  have HN := Lib.hid hl.1
  clear hl
  go_enter Try.func78, Try.ntmps78
  go_wp2_with fail
  refine (slices_Clone_Vote A n c (flat encV l) _ (HL.out.2.up (by (repeat (first | (with_reducible exact Below.refl _ _) | (with_reducible assumption) | (with_reducible apply bel_alloc) | (with_reducible apply bel_drew) | (with_reducible apply bel_drewN) | (with_reducible refine bel_trans ?_ (by with_reducible assumption)) | (with_reducible refine bel_trans ?_ (HF.out _)) | (with_reducible refine bel_set ?_ (by simp) _) | (with_reducible refine bel_set ?_ (by simp; omega) _) | (with_reducible refine bel_set ?_ (by omega) _))))) (flat_oneCell encV_one l) hn).mono ?_
  rintro e w1 ⟨v1, rfl, hown, hb1⟩
  have hown1 : OwnV w1 (w.heap.size + 1) v1 l := by
    unfold OwnV
    rw [HN.out]
    have := hown
    simpa using this
  have hB1 : BoxR w1 w.heap.size [.int .i64 low] := (BoxR.new w [.int .i64 low] 3).up hb1
  have hbw1 : Below w.heap.size w w1 := by (repeat (first | (with_reducible exact Below.refl _ _) | (with_reducible assumption) | (with_reducible apply bel_alloc) | (with_reducible apply bel_drew) | (with_reducible apply bel_drewN) | (with_reducible refine bel_trans ?_ (by with_reducible assumption)) | (with_reducible refine bel_trans ?_ (HF.out _)) | (with_reducible refine bel_set ?_ (by simp) _) | (with_reducible refine bel_set ?_ (by simp; omega) _) | (with_reducible refine bel_set ?_ (by omega) _)))
  have g0 := hB1.2 0 _ rfl
  have hlt := hB1.1
  have HOWN := Lib.hid hown1
  clear hown hown1
  go_wp2_with fail
  refine (slices_DeleteFunc_V v1 l (w.heap.size + 1) w.heap.size low _ HOWN.out (by rw [HN.out]; exact hn) g0 (by omega) hlt).mono ?_
  rintro e w2 ⟨u, rfl, hu, hb2⟩
  go_wp2_with fail
  go_ret
  exact ⟨u, rfl, hu.mono (by omega), hbw1.trans (hb2.mono (by omega))⟩
noncomputable def trB (l : List VoteD) (low : Int) : List VoteD := if mayV l = true then cutV l low else []
noncomputable def trE (l : List VoteD) : Int := if mayV l = true then 0 else 1
set_option maxRecDepth 100000 in
set_option maxHeartbeats 1000000 in
theorem vote_Trim (A : Option Addr) (n c : Nat) (l : List VoteD) (low : Int) (y : Int) (m : List VoteD) (w : World) (hl : VotesR w A n l) (hy : trE l = y) (hm : trB l low = m) :
    Calls Try.prog 47 #[.slice A n c, .int .i64 low] w fun e w' => ∃ u, e = .returned (.tuple #[u, .int .i64 y]) ∧ OwnV w' w.heap.size u m ∧ Below w.heap.size w w' := by
  subst hy; subst hm
  have HL := Lib.hid hl
  have HN := Lib.hid hl.1
  clear hl
  cases hm : mayV l
  · have e1 : trE l = 1 ∧ trB l low = [] := by simp [trE, trB, hm]
    have E1 := Lib.hid e1
    have HM := Lib.hid hm
    clear e1 hm
    go_enter Try.func47, Try.ntmps47
    go_wp2_with fail
    refine (vote_May A n c l false _ HL.out HM.out).mono ?_
    rintro e w1 ⟨rfl, hb1⟩
    go_wp2_with fail
    go_ret2
    exact ⟨.slice none 0 0, by rw [E1.out.1]; rfl, by rw [E1.out.2]; exact OwnV.nil _ _, hb1⟩
  · have e1 : trE l = 0 ∧ trB l low = cutV l low := by simp [trE, trB, hm]
    have hn : n ≤ 900000000 := by have := (mayV_iff.1 hm).1; rw [HN.out] at this; omega
    have E1 := Lib.hid e1
    have HM := Lib.hid hm
    clear e1 hm
    go_enter Try.func47, Try.ntmps47
    go_wp2_with fail
    refine (vote_May A n c l true _ HL.out HM.out).mono ?_
    rintro e w1 ⟨rfl, hb1⟩
    have hsz := hb1.size
    go_wp2_with fail
    refine (vote_Cut A n c l low _ (HL.out.up hb1) hn).mono ?_
    rintro e w2 ⟨u, rfl, hu, hb2⟩
    go_wp2_with fail
    go_ret2
    exact ⟨u, by rw [E1.out.1]; rfl, by rw [E1.out.2]; exact hu.mono hsz, bel_trans hb1 hb2⟩
end Go.Proofs.Ytffoglofijffpaa
