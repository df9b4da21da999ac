/- slices.Insert: one element into a row of one's own. slices.Clone. At pairs, at accounts. -/
import Derived.Test.YtbakkpabiknlmaaSzNe
namespace Go.Proofs.Ytbakkpabiknlmaa
open Go.RowKit
set_option linter.unusedSimpArgs false
set_option linter.unusedVariables false

theorem info_Pair : (Try.prog.info? 85).map (fun i => (i.zero, i.size, i.bytes)) = some (some (.agg #[.string ⟨#[]⟩, .string ⟨#[]⟩]), 2, 32) := by kernel_rfl
theorem run_app_Pair (w : World) (B : Nat) (v : Value) (n : Nat) (xs : List Value) (hown : w.ownsRow B 85 2 v n xs) (vb off m c : Nat) (e : List Value) (hm : e.length = m * 2) (hv : ∀ j u, e[j]? = some u → w.cell? ⟨vb, off + j, none⟩ = some u) (h1e : ∀ u ∈ e, u.oneCell' = true) (hn : n + m ≤ 1000000000) (hB : B ≤ w.heap.size) :
    ∃ v' w', (Builtin.append_ #[22, 22] 22 #[v, .slice (some ⟨vb, off, none⟩) m c]).run Try.prog w = .ok v' w' ∧ w'.ownsRow B 85 2 v' (n + m) (xs ++ e) ∧ w.grownBy w' v.ownBlock ∧ Below B w w' ∧ (v'.ownBlock = v.ownBlock ∨ v'.ownBlock = some w.heap.size) := by
  obtain ⟨i0, hi, hz, hz1, hz2⟩ := info_parts info_Pair
  obtain ⟨v', w', hrun, h2, h3, _, h5⟩ := run_append_own_at (P := Try.prog) w B 22 22 85 i0 _ 2 32 Try.underlying22 hi hz hz1 hz2 rfl (by omega) v n xs hown ⟨vb, off, none⟩ m c e hm
    (by intro j u hu; rw [Addr.add_lit]; exact hv j u hu) h1e (by simp only [maxLen]; omega) (by omega) hB
  exact ⟨v', w', hrun, h2, h3, ⟨h3.os, h3.tape, h3.output, h3.size, fun k hk => h3.block k (by omega) (fun e => by have := (own_lt hown k e.symm).1; omega)⟩, h5⟩
set_option maxHeartbeats 2000000 in
set_option maxRecDepth 100000 in
theorem slices_Insert_Pair_end (w : World) (B : Nat) (v : Value) (n i : Nat) (xs e : List Value) (vb : Nat) (hown : w.ownsRow B 85 2 v n xs) (hi : i = n) (hn : n ≤ 900000000) (hv : Blk w vb 85 e) (hvb : (v).ownBlock ≠ some vb) (h1x : ∀ u ∈ xs, u.oneCell' = true) (h1e : ∀ u ∈ e, u.oneCell' = true) (he : e.length = 2) (hB : B ≤ w.heap.size) :
    Calls Try.prog 75 #[v, .int .i64 i, .slice (some ⟨vb, 0, none⟩) 1 1] w fun r w' => ∃ v', r = .returned v' ∧ w'.ownsRow B 85 2 v' (n + 1) (xs.take (i * 2) ++ e ++ xs.drop (i * 2)) ∧ Below B w w' ∧ w.grownBy w' (v).ownBlock ∧ (v'.ownBlock = (v).ownBlock ∨ v'.ownBlock = some w.heap.size) := by
  have hbox := hv.box
  have hxl := hown.1
  subst hi
  obtain ⟨v', w', hrun, h2, h3, h4, h5⟩ := run_app_Pair w B v i xs hown vb 0 1 1 e (by rw [he]) (fun j u hu => by rw [Nat.zero_add]; exact hbox.2 j u hu) h1e (by omega) hB
  have hx : xs.take (i * 2) ++ (e ++ xs.drop (i * 2)) = xs ++ e := by rw [← hxl, List.take_length, List.drop_length, List.append_nil]
  rw [← hx] at h2
  have H2 := Lib.hid h2
  clear hx h2 h1x h1e he hv hbox
  obtain ⟨A, c, rfl, hrow, _, hnc, hc⟩ := own_row hown (by omega)
  clear hrow hown hxl
  cases A
  all_goals
    go_enter Try.func75, Try.ntmps75
    go_wp2_with (at_builtin; refine Lib.wpList_append_run _ rfl _ _ _ _ rfl _ _ rfl rfl _ _ hrun ?_)
    all_goals
      go_ret
      exact ⟨v', rfl, by first | exact H2.out | (rw [List.append_assoc]; exact H2.out), h4, h3, h5⟩
set_option maxHeartbeats 2000000 in
set_option maxRecDepth 100000 in
theorem slices_Insert_Pair_room (w : World) (B : Nat) (n i : Nat) (xs e : List Value) (vb : Nat) (g cap : Nat) (cur : Array Value) (hown : w.ownsRow B 85 2 (Value.slice (some ⟨g, 0, none⟩) n cap) n xs) (hi : i < n) (hn : n ≤ 900000000) (hv : Blk w vb 85 e) (hvb : (Value.slice (some ⟨g, 0, none⟩) n cap).ownBlock ≠ some vb) (h1x : ∀ u ∈ xs, u.oneCell' = true) (h1e : ∀ u ∈ e, u.oneCell' = true) (he : e.length = 2) (hB : B ≤ w.heap.size) (hBg : B ≤ g) (hg : w.heap[g]? = some (.cells cur 85 (0, 0))) (hnc : n ≤ cap) (hcm : cap ≤ maxLen) (hsz : cur.size = cap * 2) (htk : cur.toList.take (n * 2) = xs) (hroom : n < cap) :
    Calls Try.prog 75 #[Value.slice (some ⟨g, 0, none⟩) n cap, .int .i64 i, .slice (some ⟨vb, 0, none⟩) 1 1] w fun r w' => ∃ v', r = .returned v' ∧ w'.ownsRow B 85 2 v' (n + 1) (xs.take (i * 2) ++ e ++ xs.drop (i * 2)) ∧ Below B w w' ∧ w.grownBy w' (Value.slice (some ⟨g, 0, none⟩) n cap).ownBlock ∧ (v'.ownBlock = (Value.slice (some ⟨g, 0, none⟩) n cap).ownBlock ∨ v'.ownBlock = some w.heap.size) := by
  have hbox := hv.box
  have hxl := hown.1
  have hgl : g < w.heap.size := (Array.getElem?_eq_some_iff.1 hg).1
  have hvl : vb < w.heap.size := hv.lt
  have hgv : g ≠ vb := fun h => hvb (by rw [h]; rfl)
  have hcm' : cap ≤ 9223372036854775807 := by simpa [maxLen] using hcm
  have hszi : (Try.prog.info? 85).map (·.size) = some 2 := by
    obtain ⟨i0, hi0, h0, h1, h2⟩ := info_parts info_Pair
    rw [hi0]; simp [h1]
  have hcell : ∀ j u, xs[j]? = some u → w.cell? ⟨g, j, none⟩ = some u := fun j u hj => by
    have := World.ownsRow.cells hown (g := g) rfl j u hj
    simpa [Addr.add_lit] using this
  have hw1 : IntKind.i64.wrap ((i : Int) + 1) = (i : Int) + 1 := by rw [IntKind.wrap_i64]; omega
  have hb1 : (0 : Int) ≤ (i : Int) + 1 := by omega
  have htn : ((i : Int) + 1).toNat = i + 1 := by omega
  have hb3 : (i : Int) ≤ (n : Int) := by omega
  have hb4 : (i : Int) ≤ (n : Int) + 1 := by omega
  have hin : i ≤ n := by omega
  have hbs : ∃ tA kA, w.shape? vb = some (tA, kA) ∧ w.frozen? ⟨vb, kA, none⟩ = false := ⟨85, e.length, by unfold Blk at hv; simp [World.shape?, hv], hv.frozen _⟩
  obtain ⟨tA, kA, hsa, hfe⟩ := hbs
  have hsb : w.shape? g = some (85, cur.size) := by simp [World.shape?, hg]
  have hks : cur.size ≠ 0 := by rw [hsz]; omega
  have hov : ∀ lb cb, (callFunc 82 #[.slice (some ⟨vb, 0, none⟩) 1 1, .slice (some ⟨g, (i + 1) * 2, none⟩) lb cb]).run Try.prog w = .ok (.value (.bool false)) w := fun lb cb => by
    rw [run_callFunc_extern (P := Try.prog) (fn := Try.f82) (by kernel_rfl) (by kernel_rfl) (by kernel_rfl) (by kernel_rfl) (e := Extern.SlicesOverlaps.overlaps #[22, 22] #[4]) (by kernel_rfl),
      Lib.run_overlaps_apart w 22 4 85 Try.underlying22 2 (by intro w; exact Try.sizeOf85 w) ⟨vb, 0, none⟩ ⟨g, (i + 1) * 2, none⟩ 1 1 lb cb (fun h => hgv h.symm) tA 85 kA cur.size hsa hsb hks (hv.frozen _) hfe]
    rfl
  have hmin1 : Nat.min (n + 1 - i) (n - i) = n - i := by simp only [Nat.min_def]; split <;> omega
  have hmin2 : Nat.min 1 (n + 1 - i) = 1 := by simp only [Nat.min_def]; split <;> omega
  have hdl : (xs.drop (i * 2)).length = (n - i) * 2 := by rw [List.length_drop, hxl]; omega
  obtain ⟨r1, hr1⟩ : ∃ r1, r1 = cur.toList.take ((i + 1) * 2) ++ xs.drop (i * 2) ++ cur.toList.drop ((i + 1) * 2 + (xs.drop (i * 2)).length) := ⟨_, rfl⟩
  obtain ⟨r2, hr2⟩ : ∃ r2, r2 = r1.take (i * 2) ++ e ++ r1.drop (i * 2 + e.length) := ⟨_, rfl⟩
  have hcs : cur.toList.length = cap * 2 := by simpa using hsz
  have hins := ins_room (a := i * 2) (N := n * 2) (k := 2) (R := cur.toList) hxl he (by omega) htk (by omega)
  rw [show i * 2 + 2 = (i + 1) * 2 by omega, ← hr1, ← hr2] at hins
  have hr1l : r1.length = cap * 2 := by
    rw [hr1]; simp only [List.length_append, List.length_take, List.length_drop, hcs, hxl]; omega
  have hcp1 : ∀ (W : World), W.heap = w.heap → ∀ ty dc sc, (Builtin.copy_ #[22, 22] ty #[.slice (some ⟨g, (i + 1) * 2, none⟩) (n - i) dc, .slice (some ⟨g, i * 2, none⟩) (n + 1 - i) sc]).run Try.prog W = .ok (goInt (n - i : Nat)) (W.setRow g r1.toArray) := fun W hW ty dc sc => by
    have h := run_copyK W 22 22 ty 85 g ((i + 1) * 2) (n - i) dc ⟨g, i * 2, none⟩ (n + 1 - i) sc 2 cur 85 (xs.drop (i * 2)) Try.underlying22 hszi (by rw [hW]; exact hg) (by rw [hmin1, hdl])
      (fun j u hj => by
        rw [Addr.add_lit]
        rw [List.getElem?_drop] at hj
        exact (World.cell?_of_block (w := w) (w' := W) (a := ⟨g, i * 2 + j, none⟩) (by rw [hW])).trans (hcell _ u hj)) (by rw [hdl, hsz]; omega) (fun u hu => h1x u (List.mem_of_mem_drop hu))
    rw [hmin1, ← hr1] at h
    exact h
  have hcp2 : ∀ (W : World), W.heap = (w.setRow g r1.toArray).heap → ∀ ty dc, (Builtin.copy_ #[22, 22] ty #[.slice (some ⟨g, i * 2, none⟩) (n + 1 - i) dc, .slice (some ⟨vb, 0, none⟩) 1 1]).run Try.prog W = .ok (goInt (1 : Nat)) (W.setRow g r2.toArray) := fun W hW ty dc => by
    have h := run_copyK W 22 22 ty 85 g (i * 2) (n + 1 - i) dc ⟨vb, 0, none⟩ 1 1 2 r1.toArray 85 e Try.underlying22 hszi (by rw [hW]; exact setRow_heap w g cur _ _ _ hg) (by rw [hmin2, he])
      (fun j u hj => by
        rw [Addr.add_lit, Nat.zero_add]
        exact (World.cell?_of_block (w := w) (w' := W) (a := ⟨vb, j, none⟩) (by rw [hW]; exact setRow_other w g vb _ (fun h => hgv h.symm))).trans (hbox.2 j u hj)) (by simp only [List.size_toArray]; omega) h1e
    rw [hmin2] at h
    simp only [List.toList_toArray] at h
    rw [← hr2] at h
    exact h
  have hfin : ∀ W : World, W.heap = ((w.setRow g r1.toArray).setRow g r2.toArray).heap → W.os = w.os → W.tape = w.tape → W.output = w.output → W.ownsRow B 85 2 (.slice (some ⟨g, 0, none⟩) (n + 1) cap) (n + 1) (xs.take (i * 2) ++ (e ++ xs.drop (i * 2))) ∧ Below B w W ∧ w.grownBy W (Value.slice (some ⟨g, 0, none⟩) n cap).ownBlock := fun W hW h1 h2 h3 => by
    have hsz2 : W.heap.size = w.heap.size := by rw [hW]; simp
    have hblk : ∀ k, k ≠ g → W.heap[k]? = w.heap[k]? := fun k hk => by rw [hW, setRow_other _ _ _ _ hk, setRow_other _ _ _ _ hk]
    refine ⟨⟨by simp only [List.length_append, List.length_take, List.length_drop, he, hxl]; omega, .inr ⟨g, cap, r2.toArray, rfl, hBg, ?_, by omega, hcm, ?_, ?_⟩⟩, ⟨h1, h2, h3, by omega, fun k hk => hblk k (by omega)⟩, ⟨h1, h2, h3, by omega, fun k hk hne => hblk k (fun h => hne (by rw [h]; rfl))⟩⟩
    · rw [hW]; exact setRow_heap _ g r1.toArray _ _ _ (setRow_heap w g cur _ _ _ hg)
    · have := hins.2; rw [List.size_toArray, this]; exact hcs
    · have := hins.1; rw [show n * 2 + 2 = (n + 1) * 2 by omega] at this; rw [← List.append_assoc]; exact this
  have HF := Lib.hid hfin
  have hci : ¬ (cap = i + 1) := by omega
  have hci2 : ¬ (cap = i) := by omega
  clear hfin hins hr1 hr2 hdl hmin1 hmin2 hown hxl htk hsz hcs h1x h1e he hv hbox hcell hsa hfe hsb hks
  go_enter Try.func75, Try.ntmps75
  go_wp2_with (simp only [hov])
  go_region_law (refine step_copy_runR rfl _ _ 22 22 rfl (.slice (some ⟨g, (i + 1) * 2, none⟩) (n - i) (cap - (i + 1))) (.slice (some ⟨g, i * 2, none⟩) (n + 1 - i) (cap - i)) (by simp [Act.eval, Act.put]) (by simp [Act.eval, Act.put]) (hcp1 _ (by rfl) 3 (cap - (i + 1)) (cap - i)) ?_)
  have hcp3 := hcp2 (w.drew.setRow g r1.toArray) rfl 3 (cap - i)
  go_wp2_with fail
  go_ret
  obtain ⟨a1, a2, a3⟩ := HF.out ((w.drew.setRow g r1.toArray).setRow g r2.toArray) rfl rfl rfl rfl
  exact ⟨_, rfl, by first | exact a1 | (rw [List.append_assoc]; exact a1), a2, a3, .inl rfl⟩
set_option maxHeartbeats 2000000 in
set_option maxRecDepth 100000 in
theorem slices_Insert_Pair_grow (w : World) (B : Nat) (n i : Nat) (xs e : List Value) (vb : Nat) (g cap : Nat) (cur : Array Value) (hown : w.ownsRow B 85 2 (Value.slice (some ⟨g, 0, none⟩) n cap) n xs) (hi : i < n) (hn : n ≤ 900000000) (hv : Blk w vb 85 e) (hvb : (Value.slice (some ⟨g, 0, none⟩) n cap).ownBlock ≠ some vb) (h1x : ∀ u ∈ xs, u.oneCell' = true) (h1e : ∀ u ∈ e, u.oneCell' = true) (he : e.length = 2) (hB : B ≤ w.heap.size) (hBg : B ≤ g) (hg : w.heap[g]? = some (.cells cur 85 (0, 0))) (hnc : n ≤ cap) (hcm : cap ≤ maxLen) (hsz : cur.size = cap * 2) (htk : cur.toList.take (n * 2) = xs) (hroom : cap ≤ n) :
    Calls Try.prog 75 #[Value.slice (some ⟨g, 0, none⟩) n cap, .int .i64 i, .slice (some ⟨vb, 0, none⟩) 1 1] w fun r w' => ∃ v', r = .returned v' ∧ w'.ownsRow B 85 2 v' (n + 1) (xs.take (i * 2) ++ e ++ xs.drop (i * 2)) ∧ Below B w w' ∧ w.grownBy w' (Value.slice (some ⟨g, 0, none⟩) n cap).ownBlock ∧ (v'.ownBlock = (Value.slice (some ⟨g, 0, none⟩) n cap).ownBlock ∨ v'.ownBlock = some w.heap.size) := by
  have hbox := hv.box
  have hxl := hown.1
  have hgl : g < w.heap.size := (Array.getElem?_eq_some_iff.1 hg).1
  have hvl : vb < w.heap.size := hv.lt
  have hgv : g ≠ vb := fun h => hvb (by rw [h]; rfl)
  have hcm' : cap ≤ 9223372036854775807 := by simpa [maxLen] using hcm
  have hszi : (Try.prog.info? 85).map (·.size) = some 2 := by
    obtain ⟨i0, hi0, h0, h1, h2⟩ := info_parts info_Pair
    rw [hi0]; simp [h1]
  have hcell : ∀ j u, xs[j]? = some u → w.cell? ⟨g, j, none⟩ = some u := fun j u hj => by
    have := World.ownsRow.cells hown (g := g) rfl j u hj
    simpa [Addr.add_lit] using this
  have hw1 : IntKind.i64.wrap ((i : Int) + 1) = (i : Int) + 1 := by rw [IntKind.wrap_i64]; omega
  have hb1 : (0 : Int) ≤ (i : Int) + 1 := by omega
  have htn : ((i : Int) + 1).toNat = i + 1 := by omega
  have hb3 : (i : Int) ≤ (n : Int) := by omega
  have hb4 : (i : Int) ≤ (n : Int) + 1 := by omega
  have hin : i ≤ n := by omega
  obtain ⟨i0, hi0, hz0, hzs, hzb⟩ := info_parts info_Pair
  have hcn : cap = n := by omega
  have hold : (Builtin.firstCells i0.size i (.slice (some ⟨g, 0, none⟩) i cap)).run Try.prog w.drew = .ok (xs.take (i * 2)).toArray w.drew := by
    rw [hzs]
    exact run_firstCells_some w.drew 2 i ⟨g, 0, none⟩ i cap (xs.take (i * 2)) (by rw [List.length_take]; omega) (fun j u hj => by
      rw [Addr.add_lit, Nat.zero_add]
      rw [List.getElem?_take] at hj
      split at hj
      · exact hcell j u hj
      · cases hj)
  obtain ⟨G, hG⟩ : ∃ G, G = grownCap w (n + 1) cap 85 := ⟨_, rfl⟩
  obtain ⟨ROW, hROW⟩ : ∃ ROW : Array Value, ROW = (xs.take (i * 2)).toArray ++ Builtin.zeroCells (.agg #[.string ⟨#[]⟩, .string ⟨#[]⟩] : Value).cells (n + 1 - i) ++ Builtin.zeroCells (.agg #[.string ⟨#[]⟩, .string ⟨#[]⟩] : Value).cells (G - (n + 1)) := ⟨_, rfl⟩
  have hrz : (Builtin.append_ #[22, 3] 22 #[.slice (some ⟨g, 0, none⟩) i cap, .int .i64 ((n : Int) + 1 - (i : Int))]).run Try.prog w =
      .ok (.slice (some ⟨w.heap.size, 0, none⟩) (n + 1) G) (w.drew.alloc (.cells ROW 85)) := by
    have h := Lib.run_append_grow_zeros w 22 3 22 85 i0 _ .i64 .i64 Try.underlying22 Try.underlying3 hi0 hz0 (some ⟨g, 0, none⟩) i cap (xs.take (i * 2)) hold (n + 1 - i) (by omega) (by omega) (by omega) (by omega) (by rw [hzb]; omega) (by rw [hzb]; exact growslice_fits (by omega) (by omega))
    rw [show i + (n + 1 - i) = n + 1 by omega, ← hG, ← hROW] at h
    rw [show (n : Int) + 1 - (i : Int) = ((n + 1 - i : Nat) : Int) by omega]
    exact h
  have hGn : n + 1 ≤ G := by rw [hG]; exact grownCap_ge w _ _ _
  have hG63 : G ≤ 9223372036854775807 := by
    have := grownCap_le_maxLen w (n + 1) cap 85 (by unfold maxLen; omega)
    rw [← hG] at this
    simpa [maxLen] using this
  have hRl : ROW.size = G * 2 := by
    rw [hROW]
    simp [Builtin.zeroCells, Value.cells, hxl]
    omega
  have hRt : ROW.toList.take (i * 2) = xs.take (i * 2) := by
    rw [hROW]
    simp only [Array.toList_append, List.append_assoc]
    rw [List.take_left' (by simp [hxl]; omega)]
  obtain ⟨W1, hW1⟩ : ∃ W1, W1 = w.alloc (.cells ROW 85) := ⟨_, rfl⟩
  have hW1h : W1.heap[w.heap.size]? = some (.cells ROW 85 (0, 0)) := by rw [hW1]; exact heap_alloc_new w _
  have hW1o : ∀ k, k < w.heap.size → W1.heap[k]? = w.heap[k]? := fun k hk => by rw [hW1]; exact ((Below.refl w.heap.size w).alloc (Nat.le_refl _) _).block k hk
  have hW1s : W1.heap.size = w.heap.size + 1 := by rw [hW1]; simp
  have hmin1 : Nat.min (n - i) (n - i) = n - i := by simp only [Nat.min_def]; split <;> omega
  have hmin2 : Nat.min 1 (n + 1 - i) = 1 := by simp only [Nat.min_def]; split <;> omega
  have hdl : (xs.drop (i * 2)).length = (n - i) * 2 := by rw [List.length_drop, hxl]; omega
  obtain ⟨r1, hr1⟩ : ∃ r1, r1 = ROW.toList.take (i * 2) ++ e ++ ROW.toList.drop (i * 2 + e.length) := ⟨_, rfl⟩
  obtain ⟨r2, hr2⟩ : ∃ r2, r2 = r1.take ((i + 1) * 2) ++ xs.drop (i * 2) ++ r1.drop ((i + 1) * 2 + (xs.drop (i * 2)).length) := ⟨_, rfl⟩
  have hcs : ROW.toList.length = G * 2 := by simpa using hRl
  have hins := ins_new (a := i * 2) (N := n * 2) (k := 2) (R := ROW.toList) hxl he (by omega) hRt (by omega)
  rw [show i * 2 + 2 = (i + 1) * 2 by omega, ← hr1, ← hr2] at hins
  have hr1l : r1.length = G * 2 := by
    rw [hr1]; simp only [List.length_append, List.length_take, List.length_drop, hcs, he]; omega
  have hcpA : ∀ (W : World), W.heap = W1.heap → ∀ ty dc, (Builtin.copy_ #[22, 22] ty #[.slice (some ⟨w.heap.size, i * 2, none⟩) (n + 1 - i) dc, .slice (some ⟨vb, 0, none⟩) 1 1]).run Try.prog W = .ok (goInt (1 : Nat)) (W.setRow w.heap.size r1.toArray) := fun W hW ty dc => by
    have h := run_copyK W 22 22 ty 85 w.heap.size (i * 2) (n + 1 - i) dc ⟨vb, 0, none⟩ 1 1 2 ROW 85 e Try.underlying22 hszi (by rw [hW]; exact hW1h) (by rw [hmin2, he])
      (fun j u hj => by
        rw [Addr.add_lit, Nat.zero_add]
        exact (World.cell?_of_block (w := w) (w' := W) (a := ⟨vb, j, none⟩) (by rw [hW]; exact hW1o vb hvl)).trans (hbox.2 j u hj)) (by rw [hRl, he]; omega) h1e
    rw [hmin2, ← hr1] at h
    exact h
  have hcpB : ∀ (W : World), W.heap = (W1.setRow w.heap.size r1.toArray).heap → ∀ ty dc sc, (Builtin.copy_ #[22, 22] ty #[.slice (some ⟨w.heap.size, (i + 1) * 2, none⟩) (n - i) dc, .slice (some ⟨g, i * 2, none⟩) (n - i) sc]).run Try.prog W = .ok (goInt (n - i : Nat)) (W.setRow w.heap.size r2.toArray) := fun W hW ty dc sc => by
    have h := run_copyK W 22 22 ty 85 w.heap.size ((i + 1) * 2) (n - i) dc ⟨g, i * 2, none⟩ (n - i) sc 2 r1.toArray 85 (xs.drop (i * 2)) Try.underlying22 hszi (by rw [hW]; exact setRow_heap W1 _ ROW _ _ _ hW1h) (by rw [hmin1, hdl])
      (fun j u hj => by
        rw [Addr.add_lit]
        rw [List.getElem?_drop] at hj
        exact (World.cell?_of_block (w := w) (w' := W) (a := ⟨g, i * 2 + j, none⟩) (by rw [hW, setRow_other _ _ _ _ (by show g ≠ w.heap.size; omega)]; exact hW1o g hgl)).trans (hcell _ u hj)) (by simp only [List.size_toArray]; rw [hdl]; omega) (fun u hu => h1x u (List.mem_of_mem_drop hu))
    rw [hmin1] at h
    simp only [List.toList_toArray] at h
    rw [← hr2] at h
    exact h
  have hfin : ∀ W : World, W.heap = ((W1.setRow w.heap.size r1.toArray).setRow w.heap.size r2.toArray).heap → W.os = w.os → W.tape = w.tape → W.output = w.output → W.ownsRow B 85 2 (.slice (some ⟨w.heap.size, 0, none⟩) (n + 1) G) (n + 1) (xs.take (i * 2) ++ (e ++ xs.drop (i * 2))) ∧ Below B w W ∧ w.grownBy W (Value.slice (some ⟨g, 0, none⟩) n cap).ownBlock := fun W hW h1 h2 h3 => by
    have hsz2 : W.heap.size = w.heap.size + 1 := by rw [hW]; simp [hW1s]
    have hblk : ∀ k, k < w.heap.size → W.heap[k]? = w.heap[k]? := fun k hk => by rw [hW, setRow_other _ _ _ _ (by omega), setRow_other _ _ _ _ (by omega)]; exact hW1o k hk
    refine ⟨⟨by simp only [List.length_append, List.length_take, List.length_drop, he, hxl]; omega, .inr ⟨w.heap.size, G, r2.toArray, rfl, hB, ?_, by omega, by simpa [maxLen] using hG63, ?_, ?_⟩⟩, ⟨h1, h2, h3, by omega, fun k hk => hblk k (by omega)⟩, ⟨h1, h2, h3, by omega, fun k hk hne => hblk k hk⟩⟩
    · rw [hW]; exact setRow_heap _ _ r1.toArray _ _ _ (setRow_heap W1 _ ROW _ _ _ hW1h)
    · have := hins.2; rw [List.size_toArray, this]; exact hcs
    · have := hins.1; rw [show n * 2 + 2 = (n + 1) * 2 by omega] at this; rw [← List.append_assoc]; exact this
  have HF := Lib.hid hfin
  have hGi : ¬ (G = i) := by omega
  have hGim : ¬ (G = i + 1) := by omega
  have hci : ¬ (cap = i) := by omega
  have hcap1 : (cap : Int) < (n : Int) + 1 := by omega
  clear hfin hins hr1 hr2 hdl hmin1 hmin2 hown hxl htk hsz hcs h1x h1e he hv hbox hcell hold hROW hG hRl hRt hW1h hW1o hW1s hr1l
  subst hW1
  go_enter Try.func75, Try.ntmps75
  have HRZ := Lib.hid hrz
  have HCA := Lib.hid hcpA
  have HCB := Lib.hid hcpB
  have hcpA1 := hcpA (w.alloc (.cells ROW 85)).drew rfl 3 (G - i)
  clear hrz hcpA hcpB hcn hi0 hz0 hzs hzb hszi
  go_wp2_with (at_builtin; refine Lib.wpList_append_run _ rfl _ _ _ _ rfl _ _ rfl rfl _ _ HRZ.out ?_)
  go_region_law (refine step_copy_runR rfl _ _ 22 22 rfl (.slice (some ⟨w.heap.size, (i + 1) * 2, none⟩) (n - i) (G - (i + 1))) (.slice (some ⟨g, i * 2, none⟩) (n - i) (cap - i)) (by simp [Act.eval, Act.put]) (by simp [Act.eval, Act.put]) (HCB.out _ (by rfl) 3 (G - (i + 1)) (cap - i)) ?_)
  go_wp2_with fail
  go_ret
  obtain ⟨a1, a2, a3⟩ := HF.out (((w.alloc (.cells ROW 85)).drew.setRow w.heap.size r1.toArray).drew.setRow w.heap.size r2.toArray) rfl rfl rfl rfl
  exact ⟨_, rfl, by first | exact a1 | (rw [List.append_assoc]; exact a1), a2, a3, .inr rfl⟩
set_option maxHeartbeats 2000000 in
set_option maxRecDepth 100000 in
theorem slices_Insert_Pair (w : World) (B : Nat) (v : Value) (n i : Nat) (xs e : List Value) (vb : Nat) (hown : w.ownsRow B 85 2 v n xs) (hi : i ≤ n) (hn : n ≤ 900000000) (hv : Blk w vb 85 e) (hvb : v.ownBlock ≠ some vb) (h1x : ∀ u ∈ xs, u.oneCell' = true) (h1e : ∀ u ∈ e, u.oneCell' = true) (he : e.length = 2) (hB : B ≤ w.heap.size) :
    Calls Try.prog 75 #[v, .int .i64 i, .slice (some ⟨vb, 0, none⟩) 1 1] w fun r w' => ∃ v', r = .returned v' ∧ w'.ownsRow B 85 2 v' (n + 1) (xs.take (i * 2) ++ e ++ xs.drop (i * 2)) ∧ Below B w w' ∧ w.grownBy w' v.ownBlock ∧ (v'.ownBlock = v.ownBlock ∨ v'.ownBlock = some w.heap.size) := by
  rcases Nat.lt_or_ge i n with hlt | hge
  · rcases hown.2 with ⟨_, h0⟩ | ⟨g, cap, cur, rfl, hBg, hg, hnc, hcm, hsz, htk⟩
    · omega
    · rcases Nat.lt_or_ge n cap with hroom | hroom
      · exact slices_Insert_Pair_room w B n i xs e vb g cap cur hown hlt hn hv hvb h1x h1e he hB hBg hg hnc hcm hsz htk hroom
      · exact slices_Insert_Pair_grow w B n i xs e vb g cap cur hown hlt hn hv hvb h1x h1e he hB hBg hg hnc hcm hsz htk hroom
  · exact slices_Insert_Pair_end w B v n i xs e vb hown (by omega) hn hv hvb h1x h1e he hB
set_option maxHeartbeats 1000000 in
set_option maxRecDepth 100000 in
theorem slices_Clone_Pair (A : Option Addr) (n c : Nat) (xs : List Value) (w : World) (hr : RowV w A n 2 xs) (h1x : ∀ u ∈ xs, u.oneCell' = true) (hn : n ≤ 900000000) :
    Calls Try.prog 60 #[.slice A n c] w fun r w' => ∃ v', r = .returned v' ∧ w'.ownsRow w.heap.size 85 2 v' n xs ∧ Below w.heap.size w w' := by
  obtain ⟨g1, g2, g3⟩ := hr
  cases A with
  | none =>
    have h0 : n = 0 := by
      rcases Nat.eq_zero_or_pos n with h | h
      · exact h
      · obtain ⟨b, off, e, _⟩ := g3 h; cases e
    subst h0
    have hx : xs = [] := by simpa using g1
    subst hx
    clear g1 g2 g3
    have hnil := Lib.run_eql_slice_nil (P := Try.prog) w 22 85 none 0 c 0 0 Try.underlying22
    go_enter Try.func60, Try.ntmps60
    go_wp2_with fail
    go_ret
    exact ⟨_, rfl, own_nil _ _ _ _, Below.refl _ _⟩
  | some a =>
    have hown : (w.alloc (.cells #[] 85)).ownsRow w.heap.size 85 2 (.slice (some ⟨w.heap.size, 0, none⟩) 0 0) 0 [] :=
      ⟨rfl, .inr ⟨w.heap.size, 0, #[], rfl, Nat.le_refl _, heap_alloc_new w _, Nat.le_refl _, by decide, rfl, rfl⟩⟩
    rcases Nat.eq_zero_or_pos n with h0 | h0
    · subst h0
      have hx : xs = [] := by simpa using g1
      subst hx
      clear g1 g2 g3
      obtain ⟨b, off, sp⟩ := a
      have hrun : (Builtin.append_ #[22, 22] 22 #[.slice (some ⟨w.heap.size, 0, none⟩) 0 0, .slice (some ⟨b, off, sp⟩) 0 c]).run Try.prog (w.alloc (.cells #[] 85)) = .ok (.slice (some ⟨w.heap.size, 0, none⟩) 0 0) (w.alloc (.cells #[] 85)) := by
        obtain ⟨i0, hi, hz, hz1, hz2⟩ := info_parts info_Pair
        simp [Builtin.append_, run_underlying Try.underlying22, sizeOf, typeInfo, hi, Builtin.lenOf, Builtin.firstCells, loadCells, loadCellsFrom, storeCells]
      have HR := Lib.hid hrun
      clear hrun
      have hnil := Lib.run_eql_slice_nil (P := Try.prog) w 22 85 (some ⟨b, off, sp⟩) 0 c 0 0 Try.underlying22
      go_enter Try.func60, Try.ntmps60
      go_wp2_with (at_builtin; refine Lib.wpList_append_run _ rfl _ _ _ _ rfl _ _ rfl rfl _ _ HR.out ?_)
      go_ret
      exact ⟨_, rfl, hown, (Below.refl _ _).alloc (Nat.le_refl _) _⟩
    · obtain ⟨b, off, e, hb, hc⟩ := g3 h0
      injection e with e
      subst e
      have hba : Below w.heap.size w (w.alloc (.cells #[] 85)) := (Below.refl _ _).alloc (Nat.le_refl _) _
      obtain ⟨v', w', hrun, h2, h3, h4, h5⟩ := run_app_Pair (w.alloc (.cells #[] 85)) w.heap.size _ 0 [] hown b off n c xs g1 (fun j u hj => (hba.cell (p := ⟨b, off + j, none⟩) hb).trans (hc j u hj)) h1x (by omega) (by simp)
      rw [Nat.zero_add, List.nil_append] at h2
      have HR := Lib.hid hrun
      have H2 := Lib.hid h2
      have hbel : Below w.heap.size w w' := hba.trans h4
      clear hrun h2 h3 h4 h5 g1 g2 g3 hc hown
      have hnil := Lib.run_eql_slice_nil (P := Try.prog) w 22 85 (some ⟨b, off, none⟩) n c 0 0 Try.underlying22
      go_enter Try.func60, Try.ntmps60
      go_wp2_with (at_builtin; refine Lib.wpList_append_run _ rfl _ _ _ _ rfl _ _ rfl rfl _ _ HR.out ?_)
      go_ret
      exact ⟨_, rfl, H2.out, hbel⟩
theorem info_Acct : (Try.prog.info? 87).map (fun i => (i.zero, i.size, i.bytes)) = some (some (.agg #[.int .i64 0, .int .i64 0]), 2, 16) := by kernel_rfl
theorem run_app_Acct (w : World) (B : Nat) (v : Value) (n : Nat) (xs : List Value) (hown : w.ownsRow B 87 2 v n xs) (vb off m c : Nat) (e : List Value) (hm : e.length = m * 2) (hv : ∀ j u, e[j]? = some u → w.cell? ⟨vb, off + j, none⟩ = some u) (h1e : ∀ u ∈ e, u.oneCell' = true) (hn : n + m ≤ 1000000000) (hB : B ≤ w.heap.size) :
    ∃ v' w', (Builtin.append_ #[23, 23] 23 #[v, .slice (some ⟨vb, off, none⟩) m c]).run Try.prog w = .ok v' w' ∧ w'.ownsRow B 87 2 v' (n + m) (xs ++ e) ∧ w.grownBy w' v.ownBlock ∧ Below B w w' ∧ (v'.ownBlock = v.ownBlock ∨ v'.ownBlock = some w.heap.size) := by
  obtain ⟨i0, hi, hz, hz1, hz2⟩ := info_parts info_Acct
  obtain ⟨v', w', hrun, h2, h3, _, h5⟩ := run_append_own_at (P := Try.prog) w B 23 23 87 i0 _ 2 16 Try.underlying23 hi hz hz1 hz2 rfl (by omega) v n xs hown ⟨vb, off, none⟩ m c e hm
    (by intro j u hu; rw [Addr.add_lit]; exact hv j u hu) h1e (by simp only [maxLen]; omega) (by omega) hB
  exact ⟨v', w', hrun, h2, h3, ⟨h3.os, h3.tape, h3.output, h3.size, fun k hk => h3.block k (by omega) (fun e => by have := (own_lt hown k e.symm).1; omega)⟩, h5⟩
set_option maxHeartbeats 2000000 in
set_option maxRecDepth 100000 in
theorem slices_Insert_Acct_end (w : World) (B : Nat) (v : Value) (n i : Nat) (xs e : List Value) (vb : Nat) (hown : w.ownsRow B 87 2 v n xs) (hi : i = n) (hn : n ≤ 900000000) (hv : Blk w vb 87 e) (hvb : (v).ownBlock ≠ some vb) (h1x : ∀ u ∈ xs, u.oneCell' = true) (h1e : ∀ u ∈ e, u.oneCell' = true) (he : e.length = 2) (hB : B ≤ w.heap.size) :
    Calls Try.prog 73 #[v, .int .i64 i, .slice (some ⟨vb, 0, none⟩) 1 1] w fun r w' => ∃ v', r = .returned v' ∧ w'.ownsRow B 87 2 v' (n + 1) (xs.take (i * 2) ++ e ++ xs.drop (i * 2)) ∧ Below B w w' ∧ w.grownBy w' (v).ownBlock ∧ (v'.ownBlock = (v).ownBlock ∨ v'.ownBlock = some w.heap.size) := by
  have hbox := hv.box
  have hxl := hown.1
  subst hi
  obtain ⟨v', w', hrun, h2, h3, h4, h5⟩ := run_app_Acct w B v i xs hown vb 0 1 1 e (by rw [he]) (fun j u hu => by rw [Nat.zero_add]; exact hbox.2 j u hu) h1e (by omega) hB
  have hx : xs.take (i * 2) ++ (e ++ xs.drop (i * 2)) = xs ++ e := by rw [← hxl, List.take_length, List.drop_length, List.append_nil]
  rw [← hx] at h2
  have H2 := Lib.hid h2
  clear hx h2 h1x h1e he hv hbox
  obtain ⟨A, c, rfl, hrow, _, hnc, hc⟩ := own_row hown (by omega)
  clear hrow hown hxl
  cases A
  all_goals
    go_enter Try.func73, Try.ntmps73
    go_wp2_with (at_builtin; refine Lib.wpList_append_run _ rfl _ _ _ _ rfl _ _ rfl rfl _ _ hrun ?_)
    all_goals
      go_ret
      exact ⟨v', rfl, by first | exact H2.out | (rw [List.append_assoc]; exact H2.out), h4, h3, h5⟩
set_option maxHeartbeats 2000000 in
set_option maxRecDepth 100000 in
theorem slices_Insert_Acct_room (w : World) (B : Nat) (n i : Nat) (xs e : List Value) (vb : Nat) (g cap : Nat) (cur : Array Value) (hown : w.ownsRow B 87 2 (Value.slice (some ⟨g, 0, none⟩) n cap) n xs) (hi : i < n) (hn : n ≤ 900000000) (hv : Blk w vb 87 e) (hvb : (Value.slice (some ⟨g, 0, none⟩) n cap).ownBlock ≠ some vb) (h1x : ∀ u ∈ xs, u.oneCell' = true) (h1e : ∀ u ∈ e, u.oneCell' = true) (he : e.length = 2) (hB : B ≤ w.heap.size) (hBg : B ≤ g) (hg : w.heap[g]? = some (.cells cur 87 (0, 0))) (hnc : n ≤ cap) (hcm : cap ≤ maxLen) (hsz : cur.size = cap * 2) (htk : cur.toList.take (n * 2) = xs) (hroom : n < cap) :
    Calls Try.prog 73 #[Value.slice (some ⟨g, 0, none⟩) n cap, .int .i64 i, .slice (some ⟨vb, 0, none⟩) 1 1] w fun r w' => ∃ v', r = .returned v' ∧ w'.ownsRow B 87 2 v' (n + 1) (xs.take (i * 2) ++ e ++ xs.drop (i * 2)) ∧ Below B w w' ∧ w.grownBy w' (Value.slice (some ⟨g, 0, none⟩) n cap).ownBlock ∧ (v'.ownBlock = (Value.slice (some ⟨g, 0, none⟩) n cap).ownBlock ∨ v'.ownBlock = some w.heap.size) := by
  have hbox := hv.box
  have hxl := hown.1
  have hgl : g < w.heap.size := (Array.getElem?_eq_some_iff.1 hg).1
  have hvl : vb < w.heap.size := hv.lt
  have hgv : g ≠ vb := fun h => hvb (by rw [h]; rfl)
  have hcm' : cap ≤ 9223372036854775807 := by simpa [maxLen] using hcm
  have hszi : (Try.prog.info? 87).map (·.size) = some 2 := by
    obtain ⟨i0, hi0, h0, h1, h2⟩ := info_parts info_Acct
    rw [hi0]; simp [h1]
  have hcell : ∀ j u, xs[j]? = some u → w.cell? ⟨g, j, none⟩ = some u := fun j u hj => by
    have := World.ownsRow.cells hown (g := g) rfl j u hj
    simpa [Addr.add_lit] using this
  have hw1 : IntKind.i64.wrap ((i : Int) + 1) = (i : Int) + 1 := by rw [IntKind.wrap_i64]; omega
  have hb1 : (0 : Int) ≤ (i : Int) + 1 := by omega
  have htn : ((i : Int) + 1).toNat = i + 1 := by omega
  have hb3 : (i : Int) ≤ (n : Int) := by omega
  have hb4 : (i : Int) ≤ (n : Int) + 1 := by omega
  have hin : i ≤ n := by omega
  have hbs : ∃ tA kA, w.shape? vb = some (tA, kA) ∧ w.frozen? ⟨vb, kA, none⟩ = false := ⟨87, e.length, by unfold Blk at hv; simp [World.shape?, hv], hv.frozen _⟩
  obtain ⟨tA, kA, hsa, hfe⟩ := hbs
  have hsb : w.shape? g = some (87, cur.size) := by simp [World.shape?, hg]
  have hks : cur.size ≠ 0 := by rw [hsz]; omega
  have hov : ∀ lb cb, (callFunc 80 #[.slice (some ⟨vb, 0, none⟩) 1 1, .slice (some ⟨g, (i + 1) * 2, none⟩) lb cb]).run Try.prog w = .ok (.value (.bool false)) w := fun lb cb => by
    rw [run_callFunc_extern (P := Try.prog) (fn := Try.f80) (by kernel_rfl) (by kernel_rfl) (by kernel_rfl) (by kernel_rfl) (e := Extern.SlicesOverlaps.overlaps #[23, 23] #[4]) (by kernel_rfl),
      Lib.run_overlaps_apart w 23 4 87 Try.underlying23 2 (by intro w; exact Try.sizeOf87 w) ⟨vb, 0, none⟩ ⟨g, (i + 1) * 2, none⟩ 1 1 lb cb (fun h => hgv h.symm) tA 87 kA cur.size hsa hsb hks (hv.frozen _) hfe]
    rfl
  have hmin1 : Nat.min (n + 1 - i) (n - i) = n - i := by simp only [Nat.min_def]; split <;> omega
  have hmin2 : Nat.min 1 (n + 1 - i) = 1 := by simp only [Nat.min_def]; split <;> omega
  have hdl : (xs.drop (i * 2)).length = (n - i) * 2 := by rw [List.length_drop, hxl]; omega
  obtain ⟨r1, hr1⟩ : ∃ r1, r1 = cur.toList.take ((i + 1) * 2) ++ xs.drop (i * 2) ++ cur.toList.drop ((i + 1) * 2 + (xs.drop (i * 2)).length) := ⟨_, rfl⟩
  obtain ⟨r2, hr2⟩ : ∃ r2, r2 = r1.take (i * 2) ++ e ++ r1.drop (i * 2 + e.length) := ⟨_, rfl⟩
  have hcs : cur.toList.length = cap * 2 := by simpa using hsz
  have hins := ins_room (a := i * 2) (N := n * 2) (k := 2) (R := cur.toList) hxl he (by omega) htk (by omega)
  rw [show i * 2 + 2 = (i + 1) * 2 by omega, ← hr1, ← hr2] at hins
  have hr1l : r1.length = cap * 2 := by
    rw [hr1]; simp only [List.length_append, List.length_take, List.length_drop, hcs, hxl]; omega
  have hcp1 : ∀ (W : World), W.heap = w.heap → ∀ ty dc sc, (Builtin.copy_ #[23, 23] ty #[.slice (some ⟨g, (i + 1) * 2, none⟩) (n - i) dc, .slice (some ⟨g, i * 2, none⟩) (n + 1 - i) sc]).run Try.prog W = .ok (goInt (n - i : Nat)) (W.setRow g r1.toArray) := fun W hW ty dc sc => by
    have h := run_copyK W 23 23 ty 87 g ((i + 1) * 2) (n - i) dc ⟨g, i * 2, none⟩ (n + 1 - i) sc 2 cur 87 (xs.drop (i * 2)) Try.underlying23 hszi (by rw [hW]; exact hg) (by rw [hmin1, hdl])
      (fun j u hj => by
        rw [Addr.add_lit]
        rw [List.getElem?_drop] at hj
        exact (World.cell?_of_block (w := w) (w' := W) (a := ⟨g, i * 2 + j, none⟩) (by rw [hW])).trans (hcell _ u hj)) (by rw [hdl, hsz]; omega) (fun u hu => h1x u (List.mem_of_mem_drop hu))
    rw [hmin1, ← hr1] at h
    exact h
  have hcp2 : ∀ (W : World), W.heap = (w.setRow g r1.toArray).heap → ∀ ty dc, (Builtin.copy_ #[23, 23] ty #[.slice (some ⟨g, i * 2, none⟩) (n + 1 - i) dc, .slice (some ⟨vb, 0, none⟩) 1 1]).run Try.prog W = .ok (goInt (1 : Nat)) (W.setRow g r2.toArray) := fun W hW ty dc => by
    have h := run_copyK W 23 23 ty 87 g (i * 2) (n + 1 - i) dc ⟨vb, 0, none⟩ 1 1 2 r1.toArray 87 e Try.underlying23 hszi (by rw [hW]; exact setRow_heap w g cur _ _ _ hg) (by rw [hmin2, he])
      (fun j u hj => by
        rw [Addr.add_lit, Nat.zero_add]
        exact (World.cell?_of_block (w := w) (w' := W) (a := ⟨vb, j, none⟩) (by rw [hW]; exact setRow_other w g vb _ (fun h => hgv h.symm))).trans (hbox.2 j u hj)) (by simp only [List.size_toArray]; omega) h1e
    rw [hmin2] at h
    simp only [List.toList_toArray] at h
    rw [← hr2] at h
    exact h
  have hfin : ∀ W : World, W.heap = ((w.setRow g r1.toArray).setRow g r2.toArray).heap → W.os = w.os → W.tape = w.tape → W.output = w.output → W.ownsRow B 87 2 (.slice (some ⟨g, 0, none⟩) (n + 1) cap) (n + 1) (xs.take (i * 2) ++ (e ++ xs.drop (i * 2))) ∧ Below B w W ∧ w.grownBy W (Value.slice (some ⟨g, 0, none⟩) n cap).ownBlock := fun W hW h1 h2 h3 => by
    have hsz2 : W.heap.size = w.heap.size := by rw [hW]; simp
    have hblk : ∀ k, k ≠ g → W.heap[k]? = w.heap[k]? := fun k hk => by rw [hW, setRow_other _ _ _ _ hk, setRow_other _ _ _ _ hk]
    refine ⟨⟨by simp only [List.length_append, List.length_take, List.length_drop, he, hxl]; omega, .inr ⟨g, cap, r2.toArray, rfl, hBg, ?_, by omega, hcm, ?_, ?_⟩⟩, ⟨h1, h2, h3, by omega, fun k hk => hblk k (by omega)⟩, ⟨h1, h2, h3, by omega, fun k hk hne => hblk k (fun h => hne (by rw [h]; rfl))⟩⟩
    · rw [hW]; exact setRow_heap _ g r1.toArray _ _ _ (setRow_heap w g cur _ _ _ hg)
    · have := hins.2; rw [List.size_toArray, this]; exact hcs
    · have := hins.1; rw [show n * 2 + 2 = (n + 1) * 2 by omega] at this; rw [← List.append_assoc]; exact this
  have HF := Lib.hid hfin
  have hci : ¬ (cap = i + 1) := by omega
  have hci2 : ¬ (cap = i) := by omega
  clear hfin hins hr1 hr2 hdl hmin1 hmin2 hown hxl htk hsz hcs h1x h1e he hv hbox hcell hsa hfe hsb hks
  go_enter Try.func73, Try.ntmps73
  go_wp2_with (simp only [hov])
  go_region_law (refine step_copy_runR rfl _ _ 23 23 rfl (.slice (some ⟨g, (i + 1) * 2, none⟩) (n - i) (cap - (i + 1))) (.slice (some ⟨g, i * 2, none⟩) (n + 1 - i) (cap - i)) (by simp [Act.eval, Act.put]) (by simp [Act.eval, Act.put]) (hcp1 _ (by rfl) 3 (cap - (i + 1)) (cap - i)) ?_)
  have hcp3 := hcp2 (w.drew.setRow g r1.toArray) rfl 3 (cap - i)
  go_wp2_with fail
  go_ret
  obtain ⟨a1, a2, a3⟩ := HF.out ((w.drew.setRow g r1.toArray).setRow g r2.toArray) rfl rfl rfl rfl
  exact ⟨_, rfl, by first | exact a1 | (rw [List.append_assoc]; exact a1), a2, a3, .inl rfl⟩
set_option maxHeartbeats 2000000 in
set_option maxRecDepth 100000 in
theorem slices_Insert_Acct_grow (w : World) (B : Nat) (n i : Nat) (xs e : List Value) (vb : Nat) (g cap : Nat) (cur : Array Value) (hown : w.ownsRow B 87 2 (Value.slice (some ⟨g, 0, none⟩) n cap) n xs) (hi : i < n) (hn : n ≤ 900000000) (hv : Blk w vb 87 e) (hvb : (Value.slice (some ⟨g, 0, none⟩) n cap).ownBlock ≠ some vb) (h1x : ∀ u ∈ xs, u.oneCell' = true) (h1e : ∀ u ∈ e, u.oneCell' = true) (he : e.length = 2) (hB : B ≤ w.heap.size) (hBg : B ≤ g) (hg : w.heap[g]? = some (.cells cur 87 (0, 0))) (hnc : n ≤ cap) (hcm : cap ≤ maxLen) (hsz : cur.size = cap * 2) (htk : cur.toList.take (n * 2) = xs) (hroom : cap ≤ n) :
    Calls Try.prog 73 #[Value.slice (some ⟨g, 0, none⟩) n cap, .int .i64 i, .slice (some ⟨vb, 0, none⟩) 1 1] w fun r w' => ∃ v', r = .returned v' ∧ w'.ownsRow B 87 2 v' (n + 1) (xs.take (i * 2) ++ e ++ xs.drop (i * 2)) ∧ Below B w w' ∧ w.grownBy w' (Value.slice (some ⟨g, 0, none⟩) n cap).ownBlock ∧ (v'.ownBlock = (Value.slice (some ⟨g, 0, none⟩) n cap).ownBlock ∨ v'.ownBlock = some w.heap.size) := by
  have hbox := hv.box
  have hxl := hown.1
  have hgl : g < w.heap.size := (Array.getElem?_eq_some_iff.1 hg).1
  have hvl : vb < w.heap.size := hv.lt
  have hgv : g ≠ vb := fun h => hvb (by rw [h]; rfl)
  have hcm' : cap ≤ 9223372036854775807 := by simpa [maxLen] using hcm
  have hszi : (Try.prog.info? 87).map (·.size) = some 2 := by
    obtain ⟨i0, hi0, h0, h1, h2⟩ := info_parts info_Acct
    rw [hi0]; simp [h1]
  have hcell : ∀ j u, xs[j]? = some u → w.cell? ⟨g, j, none⟩ = some u := fun j u hj => by
    have := World.ownsRow.cells hown (g := g) rfl j u hj
    simpa [Addr.add_lit] using this
  have hw1 : IntKind.i64.wrap ((i : Int) + 1) = (i : Int) + 1 := by rw [IntKind.wrap_i64]; omega
  have hb1 : (0 : Int) ≤ (i : Int) + 1 := by omega
  have htn : ((i : Int) + 1).toNat = i + 1 := by omega
  have hb3 : (i : Int) ≤ (n : Int) := by omega
  have hb4 : (i : Int) ≤ (n : Int) + 1 := by omega
  have hin : i ≤ n := by omega
  obtain ⟨i0, hi0, hz0, hzs, hzb⟩ := info_parts info_Acct
  have hcn : cap = n := by omega
  have hold : (Builtin.firstCells i0.size i (.slice (some ⟨g, 0, none⟩) i cap)).run Try.prog w.drew = .ok (xs.take (i * 2)).toArray w.drew := by
    rw [hzs]
    exact run_firstCells_some w.drew 2 i ⟨g, 0, none⟩ i cap (xs.take (i * 2)) (by rw [List.length_take]; omega) (fun j u hj => by
      rw [Addr.add_lit, Nat.zero_add]
      rw [List.getElem?_take] at hj
      split at hj
      · exact hcell j u hj
      · cases hj)
  obtain ⟨G, hG⟩ : ∃ G, G = grownCap w (n + 1) cap 87 := ⟨_, rfl⟩
  obtain ⟨ROW, hROW⟩ : ∃ ROW : Array Value, ROW = (xs.take (i * 2)).toArray ++ Builtin.zeroCells (.agg #[.int .i64 0, .int .i64 0] : Value).cells (n + 1 - i) ++ Builtin.zeroCells (.agg #[.int .i64 0, .int .i64 0] : Value).cells (G - (n + 1)) := ⟨_, rfl⟩
  have hrz : (Builtin.append_ #[23, 3] 23 #[.slice (some ⟨g, 0, none⟩) i cap, .int .i64 ((n : Int) + 1 - (i : Int))]).run Try.prog w =
      .ok (.slice (some ⟨w.heap.size, 0, none⟩) (n + 1) G) (w.drew.alloc (.cells ROW 87)) := by
    have h := Lib.run_append_grow_zeros w 23 3 23 87 i0 _ .i64 .i64 Try.underlying23 Try.underlying3 hi0 hz0 (some ⟨g, 0, none⟩) i cap (xs.take (i * 2)) hold (n + 1 - i) (by omega) (by omega) (by omega) (by omega) (by rw [hzb]; omega) (by rw [hzb]; exact growslice_fits (by omega) (by omega))
    rw [show i + (n + 1 - i) = n + 1 by omega, ← hG, ← hROW] at h
    rw [show (n : Int) + 1 - (i : Int) = ((n + 1 - i : Nat) : Int) by omega]
    exact h
  have hGn : n + 1 ≤ G := by rw [hG]; exact grownCap_ge w _ _ _
  have hG63 : G ≤ 9223372036854775807 := by
    have := grownCap_le_maxLen w (n + 1) cap 87 (by unfold maxLen; omega)
    rw [← hG] at this
    simpa [maxLen] using this
  have hRl : ROW.size = G * 2 := by
    rw [hROW]
    simp [Builtin.zeroCells, Value.cells, hxl]
    omega
  have hRt : ROW.toList.take (i * 2) = xs.take (i * 2) := by
    rw [hROW]
    simp only [Array.toList_append, List.append_assoc]
    rw [List.take_left' (by simp [hxl]; omega)]
  obtain ⟨W1, hW1⟩ : ∃ W1, W1 = w.alloc (.cells ROW 87) := ⟨_, rfl⟩
  have hW1h : W1.heap[w.heap.size]? = some (.cells ROW 87 (0, 0)) := by rw [hW1]; exact heap_alloc_new w _
  have hW1o : ∀ k, k < w.heap.size → W1.heap[k]? = w.heap[k]? := fun k hk => by rw [hW1]; exact ((Below.refl w.heap.size w).alloc (Nat.le_refl _) _).block k hk
  have hW1s : W1.heap.size = w.heap.size + 1 := by rw [hW1]; simp
  have hmin1 : Nat.min (n - i) (n - i) = n - i := by simp only [Nat.min_def]; split <;> omega
  have hmin2 : Nat.min 1 (n + 1 - i) = 1 := by simp only [Nat.min_def]; split <;> omega
  have hdl : (xs.drop (i * 2)).length = (n - i) * 2 := by rw [List.length_drop, hxl]; omega
  obtain ⟨r1, hr1⟩ : ∃ r1, r1 = ROW.toList.take (i * 2) ++ e ++ ROW.toList.drop (i * 2 + e.length) := ⟨_, rfl⟩
  obtain ⟨r2, hr2⟩ : ∃ r2, r2 = r1.take ((i + 1) * 2) ++ xs.drop (i * 2) ++ r1.drop ((i + 1) * 2 + (xs.drop (i * 2)).length) := ⟨_, rfl⟩
  have hcs : ROW.toList.length = G * 2 := by simpa using hRl
  have hins := ins_new (a := i * 2) (N := n * 2) (k := 2) (R := ROW.toList) hxl he (by omega) hRt (by omega)
  rw [show i * 2 + 2 = (i + 1) * 2 by omega, ← hr1, ← hr2] at hins
  have hr1l : r1.length = G * 2 := by
    rw [hr1]; simp only [List.length_append, List.length_take, List.length_drop, hcs, he]; omega
  have hcpA : ∀ (W : World), W.heap = W1.heap → ∀ ty dc, (Builtin.copy_ #[23, 23] ty #[.slice (some ⟨w.heap.size, i * 2, none⟩) (n + 1 - i) dc, .slice (some ⟨vb, 0, none⟩) 1 1]).run Try.prog W = .ok (goInt (1 : Nat)) (W.setRow w.heap.size r1.toArray) := fun W hW ty dc => by
    have h := run_copyK W 23 23 ty 87 w.heap.size (i * 2) (n + 1 - i) dc ⟨vb, 0, none⟩ 1 1 2 ROW 87 e Try.underlying23 hszi (by rw [hW]; exact hW1h) (by rw [hmin2, he])
      (fun j u hj => by
        rw [Addr.add_lit, Nat.zero_add]
        exact (World.cell?_of_block (w := w) (w' := W) (a := ⟨vb, j, none⟩) (by rw [hW]; exact hW1o vb hvl)).trans (hbox.2 j u hj)) (by rw [hRl, he]; omega) h1e
    rw [hmin2, ← hr1] at h
    exact h
  have hcpB : ∀ (W : World), W.heap = (W1.setRow w.heap.size r1.toArray).heap → ∀ ty dc sc, (Builtin.copy_ #[23, 23] ty #[.slice (some ⟨w.heap.size, (i + 1) * 2, none⟩) (n - i) dc, .slice (some ⟨g, i * 2, none⟩) (n - i) sc]).run Try.prog W = .ok (goInt (n - i : Nat)) (W.setRow w.heap.size r2.toArray) := fun W hW ty dc sc => by
    have h := run_copyK W 23 23 ty 87 w.heap.size ((i + 1) * 2) (n - i) dc ⟨g, i * 2, none⟩ (n - i) sc 2 r1.toArray 87 (xs.drop (i * 2)) Try.underlying23 hszi (by rw [hW]; exact setRow_heap W1 _ ROW _ _ _ hW1h) (by rw [hmin1, hdl])
      (fun j u hj => by
        rw [Addr.add_lit]
        rw [List.getElem?_drop] at hj
        exact (World.cell?_of_block (w := w) (w' := W) (a := ⟨g, i * 2 + j, none⟩) (by rw [hW, setRow_other _ _ _ _ (by show g ≠ w.heap.size; omega)]; exact hW1o g hgl)).trans (hcell _ u hj)) (by simp only [List.size_toArray]; rw [hdl]; omega) (fun u hu => h1x u (List.mem_of_mem_drop hu))
    rw [hmin1] at h
    simp only [List.toList_toArray] at h
    rw [← hr2] at h
    exact h
  have hfin : ∀ W : World, W.heap = ((W1.setRow w.heap.size r1.toArray).setRow w.heap.size r2.toArray).heap → W.os = w.os → W.tape = w.tape → W.output = w.output → W.ownsRow B 87 2 (.slice (some ⟨w.heap.size, 0, none⟩) (n + 1) G) (n + 1) (xs.take (i * 2) ++ (e ++ xs.drop (i * 2))) ∧ Below B w W ∧ w.grownBy W (Value.slice (some ⟨g, 0, none⟩) n cap).ownBlock := fun W hW h1 h2 h3 => by
    have hsz2 : W.heap.size = w.heap.size + 1 := by rw [hW]; simp [hW1s]
    have hblk : ∀ k, k < w.heap.size → W.heap[k]? = w.heap[k]? := fun k hk => by rw [hW, setRow_other _ _ _ _ (by omega), setRow_other _ _ _ _ (by omega)]; exact hW1o k hk
    refine ⟨⟨by simp only [List.length_append, List.length_take, List.length_drop, he, hxl]; omega, .inr ⟨w.heap.size, G, r2.toArray, rfl, hB, ?_, by omega, by simpa [maxLen] using hG63, ?_, ?_⟩⟩, ⟨h1, h2, h3, by omega, fun k hk => hblk k (by omega)⟩, ⟨h1, h2, h3, by omega, fun k hk hne => hblk k hk⟩⟩
    · rw [hW]; exact setRow_heap _ _ r1.toArray _ _ _ (setRow_heap W1 _ ROW _ _ _ hW1h)
    · have := hins.2; rw [List.size_toArray, this]; exact hcs
    · have := hins.1; rw [show n * 2 + 2 = (n + 1) * 2 by omega] at this; rw [← List.append_assoc]; exact this
  have HF := Lib.hid hfin
  have hGi : ¬ (G = i) := by omega
  have hGim : ¬ (G = i + 1) := by omega
  have hci : ¬ (cap = i) := by omega
  have hcap1 : (cap : Int) < (n : Int) + 1 := by omega
  clear hfin hins hr1 hr2 hdl hmin1 hmin2 hown hxl htk hsz hcs h1x h1e he hv hbox hcell hold hROW hG hRl hRt hW1h hW1o hW1s hr1l
  subst hW1
  go_enter Try.func73, Try.ntmps73
  have HRZ := Lib.hid hrz
  have HCA := Lib.hid hcpA
  have HCB := Lib.hid hcpB
  have hcpA1 := hcpA (w.alloc (.cells ROW 87)).drew rfl 3 (G - i)
  clear hrz hcpA hcpB hcn hi0 hz0 hzs hzb hszi
  go_wp2_with (at_builtin; refine Lib.wpList_append_run _ rfl _ _ _ _ rfl _ _ rfl rfl _ _ HRZ.out ?_)
  go_region_law (refine step_copy_runR rfl _ _ 23 23 rfl (.slice (some ⟨w.heap.size, (i + 1) * 2, none⟩) (n - i) (G - (i + 1))) (.slice (some ⟨g, i * 2, none⟩) (n - i) (cap - i)) (by simp [Act.eval, Act.put]) (by simp [Act.eval, Act.put]) (HCB.out _ (by rfl) 3 (G - (i + 1)) (cap - i)) ?_)
  go_wp2_with fail
  go_ret
  obtain ⟨a1, a2, a3⟩ := HF.out (((w.alloc (.cells ROW 87)).drew.setRow w.heap.size r1.toArray).drew.setRow w.heap.size r2.toArray) rfl rfl rfl rfl
  exact ⟨_, rfl, by first | exact a1 | (rw [List.append_assoc]; exact a1), a2, a3, .inr rfl⟩
set_option maxHeartbeats 2000000 in
set_option maxRecDepth 100000 in
theorem slices_Insert_Acct (w : World) (B : Nat) (v : Value) (n i : Nat) (xs e : List Value) (vb : Nat) (hown : w.ownsRow B 87 2 v n xs) (hi : i ≤ n) (hn : n ≤ 900000000) (hv : Blk w vb 87 e) (hvb : v.ownBlock ≠ some vb) (h1x : ∀ u ∈ xs, u.oneCell' = true) (h1e : ∀ u ∈ e, u.oneCell' = true) (he : e.length = 2) (hB : B ≤ w.heap.size) :
    Calls Try.prog 73 #[v, .int .i64 i, .slice (some ⟨vb, 0, none⟩) 1 1] w fun r w' => ∃ v', r = .returned v' ∧ w'.ownsRow B 87 2 v' (n + 1) (xs.take (i * 2) ++ e ++ xs.drop (i * 2)) ∧ Below B w w' ∧ w.grownBy w' v.ownBlock ∧ (v'.ownBlock = v.ownBlock ∨ v'.ownBlock = some w.heap.size) := by
  rcases Nat.lt_or_ge i n with hlt | hge
  · rcases hown.2 with ⟨_, h0⟩ | ⟨g, cap, cur, rfl, hBg, hg, hnc, hcm, hsz, htk⟩
    · omega
    · rcases Nat.lt_or_ge n cap with hroom | hroom
      · exact slices_Insert_Acct_room w B n i xs e vb g cap cur hown hlt hn hv hvb h1x h1e he hB hBg hg hnc hcm hsz htk hroom
      · exact slices_Insert_Acct_grow w B n i xs e vb g cap cur hown hlt hn hv hvb h1x h1e he hB hBg hg hnc hcm hsz htk hroom
  · exact slices_Insert_Acct_end w B v n i xs e vb hown (by omega) hn hv hvb h1x h1e he hB
set_option maxHeartbeats 1000000 in
set_option maxRecDepth 100000 in
theorem slices_Clone_Acct (A : Option Addr) (n c : Nat) (xs : List Value) (w : World) (hr : RowV w A n 2 xs) (h1x : ∀ u ∈ xs, u.oneCell' = true) (hn : n ≤ 900000000) :
    Calls Try.prog 61 #[.slice A n c] w fun r w' => ∃ v', r = .returned v' ∧ w'.ownsRow w.heap.size 87 2 v' n xs ∧ Below w.heap.size w w' := by
  obtain ⟨g1, g2, g3⟩ := hr
  cases A with
  | none =>
    have h0 : n = 0 := by
      rcases Nat.eq_zero_or_pos n with h | h
      · exact h
      · obtain ⟨b, off, e, _⟩ := g3 h; cases e
    subst h0
    have hx : xs = [] := by simpa using g1
    subst hx
    clear g1 g2 g3
    have hnil := Lib.run_eql_slice_nil (P := Try.prog) w 23 87 none 0 c 0 0 Try.underlying23
    go_enter Try.func61, Try.ntmps61
    go_wp2_with fail
    go_ret
    exact ⟨_, rfl, own_nil _ _ _ _, Below.refl _ _⟩
  | some a =>
    have hown : (w.alloc (.cells #[] 87)).ownsRow w.heap.size 87 2 (.slice (some ⟨w.heap.size, 0, none⟩) 0 0) 0 [] :=
      ⟨rfl, .inr ⟨w.heap.size, 0, #[], rfl, Nat.le_refl _, heap_alloc_new w _, Nat.le_refl _, by decide, rfl, rfl⟩⟩
    rcases Nat.eq_zero_or_pos n with h0 | h0
    · subst h0
      have hx : xs = [] := by simpa using g1
      subst hx
      clear g1 g2 g3
      obtain ⟨b, off, sp⟩ := a
      have hrun : (Builtin.append_ #[23, 23] 23 #[.slice (some ⟨w.heap.size, 0, none⟩) 0 0, .slice (some ⟨b, off, sp⟩) 0 c]).run Try.prog (w.alloc (.cells #[] 87)) = .ok (.slice (some ⟨w.heap.size, 0, none⟩) 0 0) (w.alloc (.cells #[] 87)) := by
        obtain ⟨i0, hi, hz, hz1, hz2⟩ := info_parts info_Acct
        simp [Builtin.append_, run_underlying Try.underlying23, sizeOf, typeInfo, hi, Builtin.lenOf, Builtin.firstCells, loadCells, loadCellsFrom, storeCells]
      have HR := Lib.hid hrun
      clear hrun
      have hnil := Lib.run_eql_slice_nil (P := Try.prog) w 23 87 (some ⟨b, off, sp⟩) 0 c 0 0 Try.underlying23
      go_enter Try.func61, Try.ntmps61
      go_wp2_with (at_builtin; refine Lib.wpList_append_run _ rfl _ _ _ _ rfl _ _ rfl rfl _ _ HR.out ?_)
      go_ret
      exact ⟨_, rfl, hown, (Below.refl _ _).alloc (Nat.le_refl _) _⟩
    · obtain ⟨b, off, e, hb, hc⟩ := g3 h0
      injection e with e
      subst e
      have hba : Below w.heap.size w (w.alloc (.cells #[] 87)) := (Below.refl _ _).alloc (Nat.le_refl _) _
      obtain ⟨v', w', hrun, h2, h3, h4, h5⟩ := run_app_Acct (w.alloc (.cells #[] 87)) w.heap.size _ 0 [] hown b off n c xs g1 (fun j u hj => (hba.cell (p := ⟨b, off + j, none⟩) hb).trans (hc j u hj)) h1x (by omega) (by simp)
      rw [Nat.zero_add, List.nil_append] at h2
      have HR := Lib.hid hrun
      have H2 := Lib.hid h2
      have hbel : Below w.heap.size w w' := hba.trans h4
      clear hrun h2 h3 h4 h5 g1 g2 g3 hc hown
      have hnil := Lib.run_eql_slice_nil (P := Try.prog) w 23 87 (some ⟨b, off, none⟩) n c 0 0 Try.underlying23
      go_enter Try.func61, Try.ntmps61
      go_wp2_with (at_builtin; refine Lib.wpList_append_run _ rfl _ _ _ _ rfl _ _ rfl rfl _ _ HR.out ?_)
      go_ret
      exact ⟨_, rfl, H2.out, hbel⟩
end Go.Proofs.Ytbakkpabiknlmaa
