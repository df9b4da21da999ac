/- A certificate put into a DAG, at the program; Add. -/
import Derived.Test.YtfkbilbgndekkaaKd
namespace Go.Proofs.Ytfkbilbgndekkaa
open Go.RowKit
set_option linter.unusedSimpArgs false
set_option linter.unusedVariables false

theorem info_Cert : (Try.prog.info? 48).map (fun i => (i.zero, i.size, i.bytes)) = some (some (.agg #[.int .i64 0, .int .i64 0, .slice none 0 0, .slice none 0 0, .int .i64 0, .slice none 0 0]), 6, 96) := by kernel_rfl
theorem run_app_Cert (w : World) (B : Nat) (v : Value) (n : Nat) (xs : List Value) (hown : w.ownsRow B 48 6 v n xs) (vb off m c : Nat) (e : List Value) (hm : e.length = m * 6) (hv : ∀ j u, e[j]? = some u → w.cell? ⟨vb, off + j, none⟩ = some u) (h1e : ∀ u ∈ e, u.oneCell' = true) (hn : n + m ≤ 1000000000) (hB : B ≤ w.heap.size) :
    ∃ v' w', (Builtin.append_ #[22, 22] 22 #[v, .slice (some ⟨vb, off, none⟩) m c]).run Try.prog w = .ok v' w' ∧ w'.ownsRow B 48 6 v' (n + m) (xs ++ e) ∧ w.grownBy w' v.ownBlock ∧ Below B w w' ∧ (v'.ownBlock = v.ownBlock ∨ v'.ownBlock = some w.heap.size) := by
  obtain ⟨i0, hi, hz, hz1, hz2⟩ := info_parts info_Cert
  obtain ⟨v', w', hrun, h2, h3, _, h5⟩ := run_append_own_at (P := Try.prog) w B 22 22 48 i0 _ 6 96 Try.underlying22 hi hz hz1 hz2 rfl (by omega) v n xs hown ⟨vb, off, none⟩ m c e hm
    (by intro j u hu; rw [Addr.add_lit]; exact hv j u hu) h1e (by simp only [maxLen]; omega) (by omega) hB
  exact ⟨v', w', hrun, h2, h3, ⟨h3.os, h3.tape, h3.output, h3.size, fun k hk => h3.block k (by omega) (fun e => by have := (own_lt hown k e.symm).1; omega)⟩, h5⟩
set_option maxHeartbeats 2000000 in
set_option maxRecDepth 100000 in
theorem slices_Insert_Cert_end (w : World) (B : Nat) (v : Value) (n i : Nat) (xs e : List Value) (vb : Nat) (hown : w.ownsRow B 48 6 v n xs) (hi : i = n) (hn : n ≤ 900000000) (hv : Blk w vb 48 e) (hvb : (v).ownBlock ≠ some vb) (h1x : ∀ u ∈ xs, u.oneCell' = true) (h1e : ∀ u ∈ e, u.oneCell' = true) (he : e.length = 6) (hB : B ≤ w.heap.size) :
    Calls Try.prog 121 #[v, .int .i64 i, .slice (some ⟨vb, 0, none⟩) 1 1] w fun r w' => ∃ v', r = .returned v' ∧ w'.ownsRow B 48 6 v' (n + 1) (xs.take (i * 6) ++ e ++ xs.drop (i * 6)) ∧ Below B w w' ∧ w.grownBy w' (v).ownBlock ∧ (v'.ownBlock = (v).ownBlock ∨ v'.ownBlock = some w.heap.size) := by
  have hbox := hv.box
  have hxl := hown.1
  subst hi
  obtain ⟨v', w', hrun, h2, h3, h4, h5⟩ := run_app_Cert w B v i xs hown vb 0 1 1 e (by rw [he]) (fun j u hu => by rw [Nat.zero_add]; exact hbox.2 j u hu) h1e (by omega) hB
  have hx : xs.take (i * 6) ++ (e ++ xs.drop (i * 6)) = xs ++ e := by rw [← hxl, List.take_length, List.drop_length, List.append_nil]
  rw [← hx] at h2
  have H2 := Lib.hid h2
  clear hx h2 h1x h1e he hv hbox
  obtain ⟨A, c, rfl, hrow, _, hnc, hc⟩ := own_row hown (by omega)
  clear hrow hown hxl
  cases A
  all_goals
    go_enter Try.func121, Try.ntmps121
    go_wp2_with (at_builtin; refine Lib.wpList_append_run _ rfl _ _ _ _ rfl _ _ rfl rfl _ _ hrun ?_)
    all_goals
      go_ret
      exact ⟨v', rfl, by first | exact H2.out | (rw [List.append_assoc]; exact H2.out), h4, h3, h5⟩
set_option maxHeartbeats 2000000 in
set_option maxRecDepth 100000 in
theorem slices_Insert_Cert_room (w : World) (B : Nat) (n i : Nat) (xs e : List Value) (vb : Nat) (g cap : Nat) (cur : Array Value) (hown : w.ownsRow B 48 6 (Value.slice (some ⟨g, 0, none⟩) n cap) n xs) (hi : i < n) (hn : n ≤ 900000000) (hv : Blk w vb 48 e) (hvb : (Value.slice (some ⟨g, 0, none⟩) n cap).ownBlock ≠ some vb) (h1x : ∀ u ∈ xs, u.oneCell' = true) (h1e : ∀ u ∈ e, u.oneCell' = true) (he : e.length = 6) (hB : B ≤ w.heap.size) (hBg : B ≤ g) (hg : w.heap[g]? = some (.cells cur 48 (0, 0))) (hnc : n ≤ cap) (hcm : cap ≤ maxLen) (hsz : cur.size = cap * 6) (htk : cur.toList.take (n * 6) = xs) (hroom : n < cap) :
    Calls Try.prog 121 #[Value.slice (some ⟨g, 0, none⟩) n cap, .int .i64 i, .slice (some ⟨vb, 0, none⟩) 1 1] w fun r w' => ∃ v', r = .returned v' ∧ w'.ownsRow B 48 6 v' (n + 1) (xs.take (i * 6) ++ e ++ xs.drop (i * 6)) ∧ Below B w w' ∧ w.grownBy w' (Value.slice (some ⟨g, 0, none⟩) n cap).ownBlock ∧ (v'.ownBlock = (Value.slice (some ⟨g, 0, none⟩) n cap).ownBlock ∨ v'.ownBlock = some w.heap.size) := by
  have hbox := hv.box
  have hxl := hown.1
  have hgl : g < w.heap.size := (Array.getElem?_eq_some_iff.1 hg).1
  have hvl : vb < w.heap.size := hv.lt
  have hgv : g ≠ vb := fun h => hvb (by rw [h]; rfl)
  have hcm' : cap ≤ 9223372036854775807 := by simpa [maxLen] using hcm
  have hszi : (Try.prog.info? 48).map (·.size) = some 6 := by
    obtain ⟨i0, hi0, h0, h1, h2⟩ := info_parts info_Cert
    rw [hi0]; simp [h1]
  have hcell : ∀ j u, xs[j]? = some u → w.cell? ⟨g, j, none⟩ = some u := fun j u hj => by
    have := World.ownsRow.cells hown (g := g) rfl j u hj
    simpa [Addr.add_lit] using this
  have hw1 : IntKind.i64.wrap ((i : Int) + 1) = (i : Int) + 1 := by rw [IntKind.wrap_i64]; omega
  have hb1 : (0 : Int) ≤ (i : Int) + 1 := by omega
  have htn : ((i : Int) + 1).toNat = i + 1 := by omega
  have hb3 : (i : Int) ≤ (n : Int) := by omega
  have hb4 : (i : Int) ≤ (n : Int) + 1 := by omega
  have hin : i ≤ n := by omega
  have hbs : ∃ tA kA, w.shape? vb = some (tA, kA) ∧ w.frozen? ⟨vb, kA, none⟩ = false := ⟨48, e.length, by unfold Blk at hv; simp [World.shape?, hv], hv.frozen _⟩
  obtain ⟨tA, kA, hsa, hfe⟩ := hbs
  have hsb : w.shape? g = some (48, cur.size) := by simp [World.shape?, hg]
  have hks : cur.size ≠ 0 := by rw [hsz]; omega
  have hov : ∀ lb cb, (callFunc 138 #[.slice (some ⟨vb, 0, none⟩) 1 1, .slice (some ⟨g, (i + 1) * 6, none⟩) lb cb]).run Try.prog w = .ok (.value (.bool false)) w := fun lb cb => by
    rw [run_callFunc_extern (P := Try.prog) (fn := Try.f138) (by kernel_rfl) (by kernel_rfl) (by kernel_rfl) (by kernel_rfl) (e := Extern.SlicesOverlaps.overlaps #[22, 22] #[4]) (by kernel_rfl),
      Lib.run_overlaps_apart w 22 4 48 Try.underlying22 6 (by intro w; exact Try.sizeOf48 w) ⟨vb, 0, none⟩ ⟨g, (i + 1) * 6, none⟩ 1 1 lb cb (fun h => hgv h.symm) tA 48 kA cur.size hsa hsb hks (hv.frozen _) hfe]
    rfl
  have hmin1 : Nat.min (n + 1 - i) (n - i) = n - i := by simp only [Nat.min_def]; split <;> omega
  have hmin2 : Nat.min 1 (n + 1 - i) = 1 := by simp only [Nat.min_def]; split <;> omega
  have hdl : (xs.drop (i * 6)).length = (n - i) * 6 := by rw [List.length_drop, hxl]; omega
  obtain ⟨r1, hr1⟩ : ∃ r1, r1 = cur.toList.take ((i + 1) * 6) ++ xs.drop (i * 6) ++ cur.toList.drop ((i + 1) * 6 + (xs.drop (i * 6)).length) := ⟨_, rfl⟩
  obtain ⟨r2, hr2⟩ : ∃ r2, r2 = r1.take (i * 6) ++ e ++ r1.drop (i * 6 + e.length) := ⟨_, rfl⟩
  have hcs : cur.toList.length = cap * 6 := by simpa using hsz
  have hins := ins_room (a := i * 6) (N := n * 6) (k := 6) (R := cur.toList) hxl he (by omega) htk (by omega)
  rw [show i * 6 + 6 = (i + 1) * 6 by omega, ← hr1, ← hr2] at hins
  have hr1l : r1.length = cap * 6 := by
    rw [hr1]; simp only [List.length_append, List.length_take, List.length_drop, hcs, hxl]; omega
  have hcp1 : ∀ (W : World), W.heap = w.heap → ∀ ty dc sc, (Builtin.copy_ #[22, 22] ty #[.slice (some ⟨g, (i + 1) * 6, none⟩) (n - i) dc, .slice (some ⟨g, i * 6, none⟩) (n + 1 - i) sc]).run Try.prog W = .ok (goInt (n - i : Nat)) (W.setRow g r1.toArray) := fun W hW ty dc sc => by
    have h := run_copyK W 22 22 ty 48 g ((i + 1) * 6) (n - i) dc ⟨g, i * 6, none⟩ (n + 1 - i) sc 6 cur 48 (xs.drop (i * 6)) Try.underlying22 hszi (by rw [hW]; exact hg) (by rw [hmin1, hdl])
      (fun j u hj => by
        rw [Addr.add_lit]
        rw [List.getElem?_drop] at hj
        exact (World.cell?_of_block (w := w) (w' := W) (a := ⟨g, i * 6 + j, none⟩) (by rw [hW])).trans (hcell _ u hj)) (by rw [hdl, hsz]; omega) (fun u hu => h1x u (List.mem_of_mem_drop hu))
    rw [hmin1, ← hr1] at h
    exact h
  have hcp2 : ∀ (W : World), W.heap = (w.setRow g r1.toArray).heap → ∀ ty dc, (Builtin.copy_ #[22, 22] ty #[.slice (some ⟨g, i * 6, none⟩) (n + 1 - i) dc, .slice (some ⟨vb, 0, none⟩) 1 1]).run Try.prog W = .ok (goInt (1 : Nat)) (W.setRow g r2.toArray) := fun W hW ty dc => by
    have h := run_copyK W 22 22 ty 48 g (i * 6) (n + 1 - i) dc ⟨vb, 0, none⟩ 1 1 6 r1.toArray 48 e Try.underlying22 hszi (by rw [hW]; exact setRow_heap w g cur _ _ _ hg) (by rw [hmin2, he])
      (fun j u hj => by
        rw [Addr.add_lit, Nat.zero_add]
        exact (World.cell?_of_block (w := w) (w' := W) (a := ⟨vb, j, none⟩) (by rw [hW]; exact setRow_other w g vb _ (fun h => hgv h.symm))).trans (hbox.2 j u hj)) (by simp only [List.size_toArray]; omega) h1e
    rw [hmin2] at h
    simp only [List.toList_toArray] at h
    rw [← hr2] at h
    exact h
  have hfin : ∀ W : World, W.heap = ((w.setRow g r1.toArray).setRow g r2.toArray).heap → W.os = w.os → W.tape = w.tape → W.output = w.output → W.ownsRow B 48 6 (.slice (some ⟨g, 0, none⟩) (n + 1) cap) (n + 1) (xs.take (i * 6) ++ (e ++ xs.drop (i * 6))) ∧ Below B w W ∧ w.grownBy W (Value.slice (some ⟨g, 0, none⟩) n cap).ownBlock := fun W hW h1 h2 h3 => by
    have hsz2 : W.heap.size = w.heap.size := by rw [hW]; simp
    have hblk : ∀ k, k ≠ g → W.heap[k]? = w.heap[k]? := fun k hk => by rw [hW, setRow_other _ _ _ _ hk, setRow_other _ _ _ _ hk]
    refine ⟨⟨by simp only [List.length_append, List.length_take, List.length_drop, he, hxl]; omega, .inr ⟨g, cap, r2.toArray, rfl, hBg, ?_, by omega, hcm, ?_, ?_⟩⟩, ⟨h1, h2, h3, by omega, fun k hk => hblk k (by omega)⟩, ⟨h1, h2, h3, by omega, fun k hk hne => hblk k (fun h => hne (by rw [h]; rfl))⟩⟩
    · rw [hW]; exact setRow_heap _ g r1.toArray _ _ _ (setRow_heap w g cur _ _ _ hg)
    · have := hins.2; rw [List.size_toArray, this]; exact hcs
    · have := hins.1; rw [show n * 6 + 6 = (n + 1) * 6 by omega] at this; rw [← List.append_assoc]; exact this
  have HF := Lib.hid hfin
  have hci : ¬ (cap = i + 1) := by omega
  have hci2 : ¬ (cap = i) := by omega
  clear hfin hins hr1 hr2 hdl hmin1 hmin2 hown hxl htk hsz hcs h1x h1e he hv hbox hcell hsa hfe hsb hks
  go_enter Try.func121, Try.ntmps121
  go_wp2_with (simp only [hov])
  go_region_law (refine step_copy_runR rfl _ _ 22 22 rfl (.slice (some ⟨g, (i + 1) * 6, none⟩) (n - i) (cap - (i + 1))) (.slice (some ⟨g, i * 6, none⟩) (n + 1 - i) (cap - i)) (by simp [Act.eval, Act.put]) (by simp [Act.eval, Act.put]) (hcp1 _ (by rfl) 3 (cap - (i + 1)) (cap - i)) ?_)
  have hcp3 := hcp2 (w.drew.setRow g r1.toArray) rfl 3 (cap - i)
  go_wp2_with fail
  go_ret
  obtain ⟨a1, a2, a3⟩ := HF.out ((w.drew.setRow g r1.toArray).setRow g r2.toArray) rfl rfl rfl rfl
  exact ⟨_, rfl, by first | exact a1 | (rw [List.append_assoc]; exact a1), a2, a3, .inl rfl⟩
set_option maxHeartbeats 2000000 in
set_option maxRecDepth 100000 in
theorem slices_Insert_Cert_grow (w : World) (B : Nat) (n i : Nat) (xs e : List Value) (vb : Nat) (g cap : Nat) (cur : Array Value) (hown : w.ownsRow B 48 6 (Value.slice (some ⟨g, 0, none⟩) n cap) n xs) (hi : i < n) (hn : n ≤ 900000000) (hv : Blk w vb 48 e) (hvb : (Value.slice (some ⟨g, 0, none⟩) n cap).ownBlock ≠ some vb) (h1x : ∀ u ∈ xs, u.oneCell' = true) (h1e : ∀ u ∈ e, u.oneCell' = true) (he : e.length = 6) (hB : B ≤ w.heap.size) (hBg : B ≤ g) (hg : w.heap[g]? = some (.cells cur 48 (0, 0))) (hnc : n ≤ cap) (hcm : cap ≤ maxLen) (hsz : cur.size = cap * 6) (htk : cur.toList.take (n * 6) = xs) (hroom : cap ≤ n) :
    Calls Try.prog 121 #[Value.slice (some ⟨g, 0, none⟩) n cap, .int .i64 i, .slice (some ⟨vb, 0, none⟩) 1 1] w fun r w' => ∃ v', r = .returned v' ∧ w'.ownsRow B 48 6 v' (n + 1) (xs.take (i * 6) ++ e ++ xs.drop (i * 6)) ∧ Below B w w' ∧ w.grownBy w' (Value.slice (some ⟨g, 0, none⟩) n cap).ownBlock ∧ (v'.ownBlock = (Value.slice (some ⟨g, 0, none⟩) n cap).ownBlock ∨ v'.ownBlock = some w.heap.size) := by
  have hbox := hv.box
  have hxl := hown.1
  have hgl : g < w.heap.size := (Array.getElem?_eq_some_iff.1 hg).1
  have hvl : vb < w.heap.size := hv.lt
  have hgv : g ≠ vb := fun h => hvb (by rw [h]; rfl)
  have hcm' : cap ≤ 9223372036854775807 := by simpa [maxLen] using hcm
  have hszi : (Try.prog.info? 48).map (·.size) = some 6 := by
    obtain ⟨i0, hi0, h0, h1, h2⟩ := info_parts info_Cert
    rw [hi0]; simp [h1]
  have hcell : ∀ j u, xs[j]? = some u → w.cell? ⟨g, j, none⟩ = some u := fun j u hj => by
    have := World.ownsRow.cells hown (g := g) rfl j u hj
    simpa [Addr.add_lit] using this
  have hw1 : IntKind.i64.wrap ((i : Int) + 1) = (i : Int) + 1 := by rw [IntKind.wrap_i64]; omega
  have hb1 : (0 : Int) ≤ (i : Int) + 1 := by omega
  have htn : ((i : Int) + 1).toNat = i + 1 := by omega
  have hb3 : (i : Int) ≤ (n : Int) := by omega
  have hb4 : (i : Int) ≤ (n : Int) + 1 := by omega
  have hin : i ≤ n := by omega
  obtain ⟨i0, hi0, hz0, hzs, hzb⟩ := info_parts info_Cert
  have hcn : cap = n := by omega
  have hold : (Builtin.firstCells i0.size i (.slice (some ⟨g, 0, none⟩) i cap)).run Try.prog w.drew = .ok (xs.take (i * 6)).toArray w.drew := by
    rw [hzs]
    exact run_firstCells_some w.drew 6 i ⟨g, 0, none⟩ i cap (xs.take (i * 6)) (by rw [List.length_take]; omega) (fun j u hj => by
      rw [Addr.add_lit, Nat.zero_add]
      rw [List.getElem?_take] at hj
      split at hj
      · exact hcell j u hj
      · cases hj)
  obtain ⟨G, hG⟩ : ∃ G, G = grownCap w (n + 1) cap 48 := ⟨_, rfl⟩
  obtain ⟨ROW, hROW⟩ : ∃ ROW : Array Value, ROW = (xs.take (i * 6)).toArray ++ Builtin.zeroCells (.agg #[.int .i64 0, .int .i64 0, .slice none 0 0, .slice none 0 0, .int .i64 0, .slice none 0 0] : Value).cells (n + 1 - i) ++ Builtin.zeroCells (.agg #[.int .i64 0, .int .i64 0, .slice none 0 0, .slice none 0 0, .int .i64 0, .slice none 0 0] : Value).cells (G - (n + 1)) := ⟨_, rfl⟩
  have hrz : (Builtin.append_ #[22, 3] 22 #[.slice (some ⟨g, 0, none⟩) i cap, .int .i64 ((n : Int) + 1 - (i : Int))]).run Try.prog w =
      .ok (.slice (some ⟨w.heap.size, 0, none⟩) (n + 1) G) (w.drew.alloc (.cells ROW 48)) := by
    have h := Lib.run_append_grow_zeros w 22 3 22 48 i0 _ .i64 .i64 Try.underlying22 Try.underlying3 hi0 hz0 (some ⟨g, 0, none⟩) i cap (xs.take (i * 6)) hold (n + 1 - i) (by omega) (by omega) (by omega) (by omega) (by rw [hzb]; omega) (by rw [hzb]; exact growslice_fits (by omega) (by omega))
    rw [show i + (n + 1 - i) = n + 1 by omega, ← hG, ← hROW] at h
    rw [show (n : Int) + 1 - (i : Int) = ((n + 1 - i : Nat) : Int) by omega]
    exact h
  have hGn : n + 1 ≤ G := by rw [hG]; exact grownCap_ge w _ _ _
  have hG63 : G ≤ 9223372036854775807 := by
    have := grownCap_le_maxLen w (n + 1) cap 48 (by unfold maxLen; omega)
    rw [← hG] at this
    simpa [maxLen] using this
  have hRl : ROW.size = G * 6 := by
    rw [hROW]
    simp [Builtin.zeroCells, Value.cells, hxl]
    omega
  have hRt : ROW.toList.take (i * 6) = xs.take (i * 6) := by
    rw [hROW]
    simp only [Array.toList_append, List.append_assoc]
    rw [List.take_left' (by simp [hxl]; omega)]
  obtain ⟨W1, hW1⟩ : ∃ W1, W1 = w.alloc (.cells ROW 48) := ⟨_, rfl⟩
  have hW1h : W1.heap[w.heap.size]? = some (.cells ROW 48 (0, 0)) := by rw [hW1]; exact heap_alloc_new w _
  have hW1o : ∀ k, k < w.heap.size → W1.heap[k]? = w.heap[k]? := fun k hk => by rw [hW1]; exact ((Below.refl w.heap.size w).alloc (Nat.le_refl _) _).block k hk
  have hW1s : W1.heap.size = w.heap.size + 1 := by rw [hW1]; simp
  have hmin1 : Nat.min (n - i) (n - i) = n - i := by simp only [Nat.min_def]; split <;> omega
  have hmin2 : Nat.min 1 (n + 1 - i) = 1 := by simp only [Nat.min_def]; split <;> omega
  have hdl : (xs.drop (i * 6)).length = (n - i) * 6 := by rw [List.length_drop, hxl]; omega
  obtain ⟨r1, hr1⟩ : ∃ r1, r1 = ROW.toList.take (i * 6) ++ e ++ ROW.toList.drop (i * 6 + e.length) := ⟨_, rfl⟩
  obtain ⟨r2, hr2⟩ : ∃ r2, r2 = r1.take ((i + 1) * 6) ++ xs.drop (i * 6) ++ r1.drop ((i + 1) * 6 + (xs.drop (i * 6)).length) := ⟨_, rfl⟩
  have hcs : ROW.toList.length = G * 6 := by simpa using hRl
  have hins := ins_new (a := i * 6) (N := n * 6) (k := 6) (R := ROW.toList) hxl he (by omega) hRt (by omega)
  rw [show i * 6 + 6 = (i + 1) * 6 by omega, ← hr1, ← hr2] at hins
  have hr1l : r1.length = G * 6 := by
    rw [hr1]; simp only [List.length_append, List.length_take, List.length_drop, hcs, he]; omega
  have hcpA : ∀ (W : World), W.heap = W1.heap → ∀ ty dc, (Builtin.copy_ #[22, 22] ty #[.slice (some ⟨w.heap.size, i * 6, none⟩) (n + 1 - i) dc, .slice (some ⟨vb, 0, none⟩) 1 1]).run Try.prog W = .ok (goInt (1 : Nat)) (W.setRow w.heap.size r1.toArray) := fun W hW ty dc => by
    have h := run_copyK W 22 22 ty 48 w.heap.size (i * 6) (n + 1 - i) dc ⟨vb, 0, none⟩ 1 1 6 ROW 48 e Try.underlying22 hszi (by rw [hW]; exact hW1h) (by rw [hmin2, he])
      (fun j u hj => by
        rw [Addr.add_lit, Nat.zero_add]
        exact (World.cell?_of_block (w := w) (w' := W) (a := ⟨vb, j, none⟩) (by rw [hW]; exact hW1o vb hvl)).trans (hbox.2 j u hj)) (by rw [hRl, he]; omega) h1e
    rw [hmin2, ← hr1] at h
    exact h
  have hcpB : ∀ (W : World), W.heap = (W1.setRow w.heap.size r1.toArray).heap → ∀ ty dc sc, (Builtin.copy_ #[22, 22] ty #[.slice (some ⟨w.heap.size, (i + 1) * 6, none⟩) (n - i) dc, .slice (some ⟨g, i * 6, none⟩) (n - i) sc]).run Try.prog W = .ok (goInt (n - i : Nat)) (W.setRow w.heap.size r2.toArray) := fun W hW ty dc sc => by
    have h := run_copyK W 22 22 ty 48 w.heap.size ((i + 1) * 6) (n - i) dc ⟨g, i * 6, none⟩ (n - i) sc 6 r1.toArray 48 (xs.drop (i * 6)) Try.underlying22 hszi (by rw [hW]; exact setRow_heap W1 _ ROW _ _ _ hW1h) (by rw [hmin1, hdl])
      (fun j u hj => by
        rw [Addr.add_lit]
        rw [List.getElem?_drop] at hj
        exact (World.cell?_of_block (w := w) (w' := W) (a := ⟨g, i * 6 + j, none⟩) (by rw [hW, setRow_other _ _ _ _ (by show g ≠ w.heap.size; omega)]; exact hW1o g hgl)).trans (hcell _ u hj)) (by simp only [List.size_toArray]; rw [hdl]; omega) (fun u hu => h1x u (List.mem_of_mem_drop hu))
    rw [hmin1] at h
    simp only [List.toList_toArray] at h
    rw [← hr2] at h
    exact h
  have hfin : ∀ W : World, W.heap = ((W1.setRow w.heap.size r1.toArray).setRow w.heap.size r2.toArray).heap → W.os = w.os → W.tape = w.tape → W.output = w.output → W.ownsRow B 48 6 (.slice (some ⟨w.heap.size, 0, none⟩) (n + 1) G) (n + 1) (xs.take (i * 6) ++ (e ++ xs.drop (i * 6))) ∧ Below B w W ∧ w.grownBy W (Value.slice (some ⟨g, 0, none⟩) n cap).ownBlock := fun W hW h1 h2 h3 => by
    have hsz2 : W.heap.size = w.heap.size + 1 := by rw [hW]; simp [hW1s]
    have hblk : ∀ k, k < w.heap.size → W.heap[k]? = w.heap[k]? := fun k hk => by rw [hW, setRow_other _ _ _ _ (by omega), setRow_other _ _ _ _ (by omega)]; exact hW1o k hk
    refine ⟨⟨by simp only [List.length_append, List.length_take, List.length_drop, he, hxl]; omega, .inr ⟨w.heap.size, G, r2.toArray, rfl, hB, ?_, by omega, by simpa [maxLen] using hG63, ?_, ?_⟩⟩, ⟨h1, h2, h3, by omega, fun k hk => hblk k (by omega)⟩, ⟨h1, h2, h3, by omega, fun k hk hne => hblk k hk⟩⟩
    · rw [hW]; exact setRow_heap _ _ r1.toArray _ _ _ (setRow_heap W1 _ ROW _ _ _ hW1h)
    · have := hins.2; rw [List.size_toArray, this]; exact hcs
    · have := hins.1; rw [show n * 6 + 6 = (n + 1) * 6 by omega] at this; rw [← List.append_assoc]; exact this
  have HF := Lib.hid hfin
  have hGi : ¬ (G = i) := by omega
  have hGim : ¬ (G = i + 1) := by omega
  have hci : ¬ (cap = i) := by omega
  have hcap1 : (cap : Int) < (n : Int) + 1 := by omega
  clear hfin hins hr1 hr2 hdl hmin1 hmin2 hown hxl htk hsz hcs h1x h1e he hv hbox hcell hold hROW hG hRl hRt hW1h hW1o hW1s hr1l
  subst hW1
  go_enter Try.func121, Try.ntmps121
  have HRZ := Lib.hid hrz
  have HCA := Lib.hid hcpA
  have HCB := Lib.hid hcpB
  have hcpA1 := hcpA (w.alloc (.cells ROW 48)).drew rfl 3 (G - i)
  clear hrz hcpA hcpB hcn hi0 hz0 hzs hzb hszi
  go_wp2_with (at_builtin; refine Lib.wpList_append_run _ rfl _ _ _ _ rfl _ _ rfl rfl _ _ HRZ.out ?_)
  go_region_law (refine step_copy_runR rfl _ _ 22 22 rfl (.slice (some ⟨w.heap.size, (i + 1) * 6, none⟩) (n - i) (G - (i + 1))) (.slice (some ⟨g, i * 6, none⟩) (n - i) (cap - i)) (by simp [Act.eval, Act.put]) (by simp [Act.eval, Act.put]) (HCB.out _ (by rfl) 3 (G - (i + 1)) (cap - i)) ?_)
  go_wp2_with fail
  go_ret
  obtain ⟨a1, a2, a3⟩ := HF.out (((w.alloc (.cells ROW 48)).drew.setRow w.heap.size r1.toArray).drew.setRow w.heap.size r2.toArray) rfl rfl rfl rfl
  exact ⟨_, rfl, by first | exact a1 | (rw [List.append_assoc]; exact a1), a2, a3, .inr rfl⟩
set_option maxHeartbeats 2000000 in
set_option maxRecDepth 100000 in
theorem slices_Insert_Cert (w : World) (B : Nat) (v : Value) (n i : Nat) (xs e : List Value) (vb : Nat) (hown : w.ownsRow B 48 6 v n xs) (hi : i ≤ n) (hn : n ≤ 900000000) (hv : Blk w vb 48 e) (hvb : v.ownBlock ≠ some vb) (h1x : ∀ u ∈ xs, u.oneCell' = true) (h1e : ∀ u ∈ e, u.oneCell' = true) (he : e.length = 6) (hB : B ≤ w.heap.size) :
    Calls Try.prog 121 #[v, .int .i64 i, .slice (some ⟨vb, 0, none⟩) 1 1] w fun r w' => ∃ v', r = .returned v' ∧ w'.ownsRow B 48 6 v' (n + 1) (xs.take (i * 6) ++ e ++ xs.drop (i * 6)) ∧ Below B w w' ∧ w.grownBy w' v.ownBlock ∧ (v'.ownBlock = v.ownBlock ∨ v'.ownBlock = some w.heap.size) := by
  rcases Nat.lt_or_ge i n with hlt | hge
  · rcases hown.2 with ⟨_, h0⟩ | ⟨g, cap, cur, rfl, hBg, hg, hnc, hcm, hsz, htk⟩
    · omega
    · rcases Nat.lt_or_ge n cap with hroom | hroom
      · exact slices_Insert_Cert_room w B n i xs e vb g cap cur hown hlt hn hv hvb h1x h1e he hB hBg hg hnc hcm hsz htk hroom
      · exact slices_Insert_Cert_grow w B n i xs e vb g cap cur hown hlt hn hv hvb h1x h1e he hB hBg hg hnc hcm hsz htk hroom
  · exact slices_Insert_Cert_end w B v n i xs e vb hown (by omega) hn hv hvb h1x h1e he hB
set_option maxHeartbeats 1000000 in
set_option maxRecDepth 100000 in
theorem slices_Clone_Cert (A : Option Addr) (n c : Nat) (xs : List Value) (w : World) (hr : RowV w A n 6 xs) (h1x : ∀ u ∈ xs, u.oneCell' = true) (hn : n ≤ 900000000) :
    Calls Try.prog 122 #[.slice A n c] w fun r w' => ∃ v', r = .returned v' ∧ w'.ownsRow w.heap.size 48 6 v' n xs ∧ Below w.heap.size w w' := by
  obtain ⟨g1, g2, g3⟩ := hr
  cases A with
  | none =>
    have h0 : n = 0 := by
      rcases Nat.eq_zero_or_pos n with h | h
      · exact h
      · obtain ⟨b, off, e, _⟩ := g3 h; cases e
    subst h0
    have hx : xs = [] := by simpa using g1
    subst hx
    clear g1 g2 g3
    have hnil := Lib.run_eql_slice_nil (P := Try.prog) w 22 48 none 0 c 0 0 Try.underlying22
    go_enter Try.func122, Try.ntmps122
    go_wp2_with fail
    go_ret
    exact ⟨_, rfl, own_nil _ _ _ _, Below.refl _ _⟩
  | some a =>
    have hown : (w.alloc (.cells #[] 48)).ownsRow w.heap.size 48 6 (.slice (some ⟨w.heap.size, 0, none⟩) 0 0) 0 [] :=
      ⟨rfl, .inr ⟨w.heap.size, 0, #[], rfl, Nat.le_refl _, heap_alloc_new w _, Nat.le_refl _, by decide, rfl, rfl⟩⟩
    rcases Nat.eq_zero_or_pos n with h0 | h0
    · subst h0
      have hx : xs = [] := by simpa using g1
      subst hx
      clear g1 g2 g3
      obtain ⟨b, off, sp⟩ := a
      have hrun : (Builtin.append_ #[22, 22] 22 #[.slice (some ⟨w.heap.size, 0, none⟩) 0 0, .slice (some ⟨b, off, sp⟩) 0 c]).run Try.prog (w.alloc (.cells #[] 48)) = .ok (.slice (some ⟨w.heap.size, 0, none⟩) 0 0) (w.alloc (.cells #[] 48)) := by
        obtain ⟨i0, hi, hz, hz1, hz2⟩ := info_parts info_Cert
        simp [Builtin.append_, run_underlying Try.underlying22, sizeOf, typeInfo, hi, Builtin.lenOf, Builtin.firstCells, loadCells, loadCellsFrom, storeCells]
      have HR := Lib.hid hrun
      clear hrun
      have hnil := Lib.run_eql_slice_nil (P := Try.prog) w 22 48 (some ⟨b, off, sp⟩) 0 c 0 0 Try.underlying22
      go_enter Try.func122, Try.ntmps122
      go_wp2_with (at_builtin; refine Lib.wpList_append_run _ rfl _ _ _ _ rfl _ _ rfl rfl _ _ HR.out ?_)
      go_ret
      exact ⟨_, rfl, hown, (Below.refl _ _).alloc (Nat.le_refl _) _⟩
    · obtain ⟨b, off, e, hb, hc⟩ := g3 h0
      injection e with e
      subst e
      have hba : Below w.heap.size w (w.alloc (.cells #[] 48)) := (Below.refl _ _).alloc (Nat.le_refl _) _
      obtain ⟨v', w', hrun, h2, h3, h4, h5⟩ := run_app_Cert (w.alloc (.cells #[] 48)) w.heap.size _ 0 [] hown b off n c xs g1 (fun j u hj => (hba.cell (p := ⟨b, off + j, none⟩) hb).trans (hc j u hj)) h1x (by omega) (by simp)
      rw [Nat.zero_add, List.nil_append] at h2
      have HR := Lib.hid hrun
      have H2 := Lib.hid h2
      have hbel : Below w.heap.size w w' := hba.trans h4
      clear hrun h2 h3 h4 h5 g1 g2 g3 hc hown
      have hnil := Lib.run_eql_slice_nil (P := Try.prog) w 22 48 (some ⟨b, off, none⟩) n c 0 0 Try.underlying22
      go_enter Try.func122, Try.ntmps122
      go_wp2_with (at_builtin; refine Lib.wpList_append_run _ rfl _ _ _ _ rfl _ _ rfl rfl _ _ HR.out ?_)
      go_ret
      exact ⟨_, rfl, H2.out, hbel⟩
theorem head_ba {H : HeaderD} {n : Int} (h : headS H n = true) : H.ba.length ≤ 16 := by
  have := headS_bd h
  simp only [headS, digsS, Bool.and_eq_true, decide_eq_true_eq] at h
  omega
theorem ris_ge {l : List Int} {lo hi : Int} (h : crisS l lo hi = true) : ∀ j, j < l.length → lo + (j : Int) ≤ nth l j
  | 0, hj => by have := ((dec_iff.1 h).2 0 hj).1; omega
  | j + 1, hj => by
    have h1 := (dec_iff.1 h).1 j hj
    have h2 := ris_ge h j (by omega)
    omega
theorem cert_si {C : CertD} {n : Int} (h : certS C n = true) : C.si.length ≤ 16 := by
  have hb := certS_bd h
  have hn := (headS_bd (certS_hd h)).2.1
  simp only [certS, Bool.and_eq_true, decide_eq_true_eq] at h
  have hc := h.1.2
  rcases Nat.eq_zero_or_pos C.si.length with h0 | h0
  · omega
  · have h1 := ris_ge hc (C.si.length - 1) (by omega)
    have h2 := ((dec_iff.1 hc).2 (C.si.length - 1) (by omega)).2
    omega
theorem blk_apart {w : World} {B k n b : Nat} {t t' : TypeId} {v : Value} {xs cs : List Value} (h : w.ownsRow B t k v n xs) (hb : Blk w b t' cs) (ht : t ≠ t') : v.ownBlock ≠ some b := fun e => by
  obtain ⟨c1, e1⟩ := own_type h b e
  unfold Blk at hb
  rw [e1] at hb
  injection hb with hb
  injection hb with _ e3 _
  exact ht e3
theorem own_setT {w : World} {B k n b o : Nat} {t t' : TypeId} {v u : Value} {xs cs : List Value} (h : w.ownsRow B t k v n xs) (hb : Blk w b t' cs) (ht : t ≠ t') : (w.setCell ⟨b, o, none⟩ u).ownsRow B t k v n xs :=
  own_of_heap h fun g hg => Below.heap_setCell _ _ _ _ (fun e => blk_apart h hb ht (by rw [hg, e]))
theorem CertO.setT {w : World} {B b o : Nat} {p C} {u : Value} {cs : List Value} (h : CertO w B p C) (hb : Blk w b 24 cs) : CertO (w.setCell ⟨b, o, none⟩ u) B p C :=
  ⟨⟨own_setT h.1.1 hb (by decide), own_setT h.1.2 hb (by decide)⟩, own_setT h.2 hb (by decide)⟩
theorem OwnD.setT {w : World} {B b o : Nat} {v u : Value} {ps l} {cs : List Value} (h : OwnD w B v ps l) (hb : Blk w b 24 cs) : OwnD (w.setCell ⟨b, o, none⟩ u) B v ps l :=
  ⟨own_setT h.1 hb (by decide), h.2.1, fun j hj => (h.2.2 j hj).setT hb⟩
theorem getD_ins {α : Type} {d : α} (l : List α) (i : Nat) (x : α) (hi : i ≤ l.length) (j : Nat) : (l.take i ++ [x] ++ l.drop i).getD j d = if j < i then l.getD j d else if j = i then x else l.getD (j - 1) d := by
  have h1 : (l.take i).length = i := by rw [List.length_take]; omega
  rcases Nat.lt_trichotomy j i with h | h | h
  · rw [if_pos h, List.append_assoc]
    simp only [List.getD_eq_getElem?_getD]
    rw [List.getElem?_append_left (by omega), List.getElem?_take, if_pos h]
  · subst h
    rw [if_neg (by omega), if_pos rfl]
    simp only [List.getD_eq_getElem?_getD]
    rw [List.append_assoc, List.getElem?_append_right (by omega), h1]
    simp
  · rw [if_neg (by omega), if_neg (by omega)]
    simp only [List.getD_eq_getElem?_getD]
    rw [List.getElem?_append_right (by simp; omega)]
    simp only [List.length_append, h1, List.length_singleton, List.getElem?_drop]
    congr 2
    omega
/-- A certificate put into a row of one's own. -/
theorem OwnD.ins {w : World} {B lo : Nat} {v : Value} {ps : List CertP} {l : List CertD} {p : CertP} {C : CertD} (hps : ps.length = l.length) (hlo : lo ≤ l.length) (hrow : w.ownsRow B 48 6 v (l.length + 1) ((rowCells ps l).take (lo * 6) ++ certCells p C ++ (rowCells ps l).drop (lo * 6)))
    (hold : ∀ j, j < l.length → CertO w B (ps.getD j default) (cth l j)) (hnew : CertO w B p C) : OwnD w B v (ps.take lo ++ [p] ++ ps.drop lo) (l.take lo ++ [C] ++ l.drop lo) := by
  have hlen : (l.take lo ++ [C] ++ l.drop lo).length = l.length + 1 := by simp; omega
  refine ⟨?_, by simp [hps], fun j hj => ?_⟩
  · rw [hlen, ← rowCells_ins hps]
    exact hrow
  · rw [hlen] at hj
    unfold cth
    rw [getD_ins ps lo p (by omega) j, getD_ins l lo C hlo j]
    by_cases h1 : j < lo
    · rw [if_pos h1, if_pos h1]; exact hold j (by omega)
    · rw [if_neg h1, if_neg h1]
      by_cases h2 : j = lo
      · rw [if_pos h2, if_pos h2]; exact hnew
      · rw [if_neg h2, if_neg h2]; exact hold (j - 1) (by omega)
set_option maxRecDepth 100000 in
set_option maxHeartbeats 8000000 in
theorem dag_Put_ok (B : Nat) (ps : List CertP) (A : Option Addr) (n c : Nat) (D : DagD) (C : CertD) (bA pA sA : Option Addr) (bn bc pn pc sn sc : Nat) (w : World) (hl : CertsR w A n D.certs) (hr : CertR w ⟨⟨⟨bA, bn, bc⟩, ⟨pA, pn, pc⟩⟩, ⟨sA, sn, sc⟩⟩ C) (hok : DagOk D) (hC : certS C D.nodes = true) (hcap : n ≤ c) (hcb : c ≤ 9223372036854775807) (hown : OwnD w B (.slice A n c) ps D.certs) (hB : B ≤ w.heap.size) (hq : D.low < C.h.ro) (hat : atS D.certs C.h.ro C.h.au < 0) (hdi : findS D.certs C.di < 0) (hlk : lacksS D.certs D.low C.h = []) :
    Calls Try.prog 84 #[.agg #[.int .i64 D.nodes, .int .i64 D.low, .slice A n c], .agg #[.int .i64 C.h.au, .int .i64 C.h.ro, .slice bA bn bc, .slice pA pn pc, .int .i64 C.di, .slice sA sn sc]] w fun e w' => ∃ v qs, e = .returned (.tuple #[.agg #[.int .i64 D.nodes, .int .i64 D.low, v], .int .i64 0]) ∧ OwnD w' B v qs (insC D.certs C) ∧ Below w.heap.size w w' := by
  have HL := Lib.hid hl
  have HR := Lib.hid hr
  have HN := Lib.hid hl.1
  have hn : n ≤ 65536 := by rw [← hl.1]; exact hok.2.2.2.1
  have HP := Lib.hid hok.places
  have HA := Lib.hid hok.auths
  have HOK := Lib.hid hok
  have HCS := Lib.hid hC
  have hsm := certS_sm hC
  have hs1 := hsm.1
  have hs2 := hsm.2
  have hbd := certS_bd hC
  have hr1 : 1 ≤ C.h.ro := hbd.2.2.2.2.2.1
  have hr2 : C.h.ro ≤ 1099511627776 := hbd.2.2.2.2.2.2.1
  have hlo1 : 0 ≤ D.low := hok.2.1
  have hlo2 : D.low ≤ 1099511627776 := hok.2.2.1
  obtain ⟨lo, hlo⟩ : ∃ lo, posC D.certs C.h.ro C.h.au = lo := ⟨_, rfl⟩
  obtain ⟨y, hy⟩ : ∃ y, hereS D.certs C.h.ro C.h.au lo = y := ⟨_, rfl⟩
  have hln : lo ≤ n := by rw [← hlo, ← hl.1]; exact posC_le _ _ _
  have hhere := here_at (l := D.certs) hok.places hlo hy
  have HLO := Lib.hid hlo
  have HY := Lib.hid hy
  have hd : decide (C.h.ro ≤ D.low) = false := by simpa using hq
  obtain rfl : y = false := by
    rcases hhere with ⟨h1, h2, h3⟩ | ⟨h1, h2⟩
    · omega
    · exact h1
  obtain ⟨hv, hhv⟩ : ∃ hv, hasC D.certs C.di = hv := ⟨_, rfl⟩
  obtain rfl : hv = false := by rw [← hhv]; unfold hasC; simpa using hdi
  have HHV := Lib.hid hhv
  have hk : lackP D.certs D.low C.h = [] := by rw [lackP_eq hok.dist]; exact hlk
  have hpn : pn ≤ 65536 := by
    have h1 := hr.1.2.1
    have h2 := head_pa (certS_hd hC)
    dsimp only at h1
    omega
  have hbn : bn ≤ 65536 := by
    have h1 := hr.1.1.1
    have h2 := head_ba (certS_hd hC)
    dsimp only at h1
    omega
  have hsn : sn ≤ 65536 := by
    have h1 := hr.2.1
    have h2 := cert_si hC
    dsimp only at h1
    omega
  have HK := Lib.hid hk
  have HOWN := Lib.hid hown
  have hrv : RowV w A n 6 (rowCells ps D.certs) := by
    obtain ⟨A', c', e', hrow, _⟩ := own_row hown.1 (by rw [hl.1]; omega)
    injection e' with e1 e2 e3
    subst e1
    rw [hl.1] at hrow
    exact hrow
  have HRV := Lib.hid hrv
  clear hhere hat hdi hq hhv hlk hk hown hrv
  clear hl hr hok hC hsm hbd hlo hy
  go_enter Try.func84, Try.ntmps84
  go_wp2_with fail
  obtain ⟨hX1, hX2, hX3, hbX, hzX⟩ := blk3 w 24 48 24 [.int .i64 D.nodes, .int .i64 D.low, .slice A n c] [.int .i64 C.h.au, .int .i64 C.h.ro, .slice bA bn bc, .slice pA pn pc, .int .i64 C.di, .slice sA sn sc] [.int .i64 0, .int .i64 0, .slice none 0 0]
  generalize (((w.alloc (.cells #[.int .i64 D.nodes, .int .i64 D.low, .slice A n c] 24)).alloc (.cells #[.int .i64 C.h.au, .int .i64 C.h.ro, .slice bA bn bc, .slice pA pn pc, .int .i64 C.di, .slice sA sn sc] 48)).alloc (.cells #[.int .i64 0, .int .i64 0, .slice none 0 0] 24)) = X at *
  have d_0 := (hX1.box).2 0 _ rfl; have d_1 := (hX1.box).2 1 _ rfl; have d_2 := (hX1.box).2 2 _ rfl
  have e_0 := (hX2.box).2 0 _ rfl; have e_1 := (hX2.box).2 1 _ rfl; have e_2 := (hX2.box).2 2 _ rfl; have e_3 := (hX2.box).2 3 _ rfl; have e_4 := (hX2.box).2 4 _ rfl; have e_5 := (hX2.box).2 5 _ rfl
  have HX1 := Lib.hid hX1
  have HX2 := Lib.hid hX2
  have HX3 := Lib.hid hX3
  have HLX := Lib.hid (HL.out.up hbX)
  clear hX1 hX2 hX3
  refine wp_region_fam (by kernel_rfl) (by kernel_rfl) (fun ι F hne hF hcl => ?_)
  have hcF0 := fun n o => (bcell (hF n)).1 (w.heap.size) o (by first | (simp; done) | (simp; omega) | omega)
  have hcF1 := fun n o => (bcell (hF n)).1 (w.heap.size + 1) o (by first | (simp; done) | (simp; omega) | omega)
  have HF := Lib.hid hF; clear hF
  have HC := Lib.hid hcl; clear hcl
  repeat (any_goals (first
   | go_big_quiet_step (first | (go_at_call 102; exact Calls.fam HC.out (dag_Place' _ _ _ _ _ _ _ _ _ _ _ _ _)) | (go_at_call 119; exact Calls.fam HC.out (dag_findAt A n c D.certs C.h.ro C.h.au lo _ _ (HLX.out.up (HF.out _)) HP.out (by omega) hs1 hs2 HLO.out HY.out)))
   | (refine wpQuiet_guard _ _ _ rfl rfl ?_; (fail_if_success (intro b' hb; have h2 := hb.symm; have : b' = true := h2.trans (by with_reducible rfl))); (fail_if_success (intro b' hb; have h2 := hb.symm; have : b' = false := h2.trans (by with_reducible rfl))); intro b' hb; simp only [hb]; cases b' <;> (try simp only [Bool.not_eq_true', Bool.not_eq_false', decide_eq_true_eq, decide_eq_false_iff_not, Int.not_lt, Int.not_le, Bool.and_eq_true, Bool.or_eq_true, Bool.or_eq_false_iff, beq_iff_eq, beq_eq_false_iff_ne, Int.natCast_pos] at hb))))
  all_goals (refine wpQuiet_nil ?_; intro nq)
  have hFwf := HF.out nq
  clear HF HC hne
  generalize F nq = wf at *
  have hbwf : Below w.heap.size w wf := bel_trans hbX hFwf
  have hX1 := HX1.out.up hFwf
  have hX2 := HX2.out.up hFwf
  have hX3 := HX3.out.up hFwf
  have hzf : w.heap.size + 3 ≤ wf.heap.size := Nat.le_trans hzX hFwf.size
  clear hcF0 hcF1 d_0 d_1 d_2 e_0 e_1 e_2 e_3 e_4 e_5 HX1 HX2 HX3 HLX
  have d_0 := (hX1.box).2 0 _ rfl; have d_1 := (hX1.box).2 1 _ rfl; have d_2 := (hX1.box).2 2 _ rfl
  have e_0 := (hX2.box).2 0 _ rfl; have e_1 := (hX2.box).2 1 _ rfl; have e_2 := (hX2.box).2 2 _ rfl; have e_3 := (hX2.box).2 3 _ rfl; have e_4 := (hX2.box).2 4 _ rfl; have e_5 := (hX2.box).2 5 _ rfl
  have hX3l := hX3.lt
  have hX3f := hX3.frozen
  have HX1 := Lib.hid hX1
  have HX2 := Lib.hid hX2
  have HX3 := Lib.hid hX3
  clear hX1 hX2 hX3
  go_wp2_with fail
  refine wp_region_fam (by kernel_rfl) (by kernel_rfl) (fun ι F hne hF hcl => ?_)
  have hcF0 := fun n o => (bcell (hF n)).1 (w.heap.size) o (by first | (simp; done) | (simp; omega) | omega)
  have hcF1 := fun n o => (bcell (hF n)).1 (w.heap.size + 1) o (by first | (simp; done) | (simp; omega) | omega)
  have HF := Lib.hid hF; clear hF
  have HC := Lib.hid hcl; clear hcl
  repeat (any_goals (first
   | go_big_quiet_step (first | (fail))
   | (refine wpQuiet_guard _ _ _ rfl rfl ?_; (fail_if_success (intro b' hb; have h2 := hb.symm; have : b' = true := h2.trans (by with_reducible rfl))); (fail_if_success (intro b' hb; have h2 := hb.symm; have : b' = false := h2.trans (by with_reducible rfl))); intro b' hb; simp only [hb]; cases b' <;> (try simp only [Bool.not_eq_true', Bool.not_eq_false', decide_eq_true_eq, decide_eq_false_iff_not, Int.not_lt, Int.not_le, Bool.and_eq_true, Bool.or_eq_true, Bool.or_eq_false_iff, beq_iff_eq, beq_eq_false_iff_ne, Int.natCast_pos] at hb))))
  all_goals (refine wpQuiet_nil ?_; intro nq)
  all_goals (try (exfalso; omega))
  have hFwg := HF.out nq
  clear HF HC hne
  generalize F nq = wg at *
  have hbwg : Below w.heap.size w wg := bel_trans hbwf hFwg
  have hX1 := HX1.out.up hFwg
  have hX2 := HX2.out.up hFwg
  have hX3 := HX3.out.up hFwg
  have hzg : w.heap.size + 3 ≤ wg.heap.size := Nat.le_trans hzf hFwg.size
  clear hcF0 hcF1 d_0 d_1 d_2 e_0 e_1 e_2 e_3 e_4 e_5 HX1 HX2 HX3 hX3f hX3l
  have d_0 := (hX1.box).2 0 _ rfl; have d_1 := (hX1.box).2 1 _ rfl; have d_2 := (hX1.box).2 2 _ rfl
  have e_0 := (hX2.box).2 0 _ rfl; have e_1 := (hX2.box).2 1 _ rfl; have e_2 := (hX2.box).2 2 _ rfl; have e_3 := (hX2.box).2 3 _ rfl; have e_4 := (hX2.box).2 4 _ rfl; have e_5 := (hX2.box).2 5 _ rfl
  have hX3l := hX3.lt
  have hX3f := hX3.frozen
  go_wp2_with fail
  refine (dag_has A n c D.certs C.di _ _ (HL.out.up hbwg) HHV.out).mono ?_
  rintro e w3 ⟨rfl, hb3⟩
  have hbw3 : Below w.heap.size w w3 := bel_trans hbwg hb3
  have hY1 := hX1.up hb3
  have hY2 := hX2.up hb3
  have hY3 := hX3.up hb3
  have hz3 : w.heap.size + 3 ≤ w3.heap.size := Nat.le_trans hzg hb3.size
  clear d_0 d_1 d_2 e_0 e_1 e_2 e_3 e_4 e_5 hX3f hX3l hX1 hX2 hX3
  have d_0 := (hY1.box).2 0 _ rfl; have d_1 := (hY1.box).2 1 _ rfl; have d_2 := (hY1.box).2 2 _ rfl
  have e_0 := (hY2.box).2 0 _ rfl; have e_1 := (hY2.box).2 1 _ rfl; have e_2 := (hY2.box).2 2 _ rfl; have e_3 := (hY2.box).2 3 _ rfl; have e_4 := (hY2.box).2 4 _ rfl; have e_5 := (hY2.box).2 5 _ rfl
  have hX3l := hY3.lt
  have hX3f := hY3.frozen
  go_wp2_with fail
  refine (dag_Lack A n c D.certs D.nodes D.low bA pA bn bc pn pc C.h _ (HL.out.up hbw3) (HR.out.1.up hbw3) HP.out HA.out hn hcap hcb hpn hr1 hr2 hlo1 hlo2).mono ?_
  rintro e w4 ⟨v4, rfl, hown4, hb4⟩
  rw [HK.out] at hown4
  obtain ⟨A4, c4, rfl, _⟩ := hown4.ints (by simp)
  have hbw4 : Below w.heap.size w w4 := bel_trans hbw3 hb4
  have hZ1 := hY1.up hb4
  have hZ2 := hY2.up hb4
  have hZ3 := hY3.up hb4
  have hz4 : w.heap.size + 3 ≤ w4.heap.size := Nat.le_trans hz3 hb4.size
  clear d_0 d_1 d_2 e_0 e_1 e_2 e_3 e_4 e_5 hX3f hX3l hY1 hY2 hY3 hown4
  have d_0 := (hZ1.box).2 0 _ rfl; have d_1 := (hZ1.box).2 1 _ rfl; have d_2 := (hZ1.box).2 2 _ rfl
  have e_0 := (hZ2.box).2 0 _ rfl; have e_1 := (hZ2.box).2 1 _ rfl; have e_2 := (hZ2.box).2 2 _ rfl; have e_3 := (hZ2.box).2 3 _ rfl; have e_4 := (hZ2.box).2 4 _ rfl; have e_5 := (hZ2.box).2 5 _ rfl
  have HZ1 := Lib.hid hZ1
  have HZ3 := Lib.hid hZ3
  clear hZ1 hZ2 hZ3
  go_wp2_with fail
  go_region_with (first
    | (go_at_call 122; refine (slices_Clone_Cert A n c (rowCells ps D.certs) _ (HRV.out.up (by (repeat (first | (with_reducible exact Below.refl _ _) | (with_reducible assumption) | (with_reducible apply bel_alloc) | (with_reducible apply bel_drew) | (with_reducible apply bel_drewN) | (with_reducible refine bel_trans ?_ (by with_reducible assumption)) | (with_reducible refine bel_trans ?_ (HF.out _)) | (with_reducible refine bel_set ?_ (by simp) _) | (with_reducible refine bel_set ?_ (by simp; omega) _) | (with_reducible refine bel_set ?_ (by omega) _))))) (rowCells_ones ps D.certs) (by omega)).mono ?_; rintro e w5 ⟨v5, rfl, hown5, hb5⟩; have hz_w5 : w.heap.size + 3 ≤ w5.heap.size := (by have hq := (hb5).size; (try simp at hq); omega); have hc0_w5 := fun o => (bcell hb5).1 (w.heap.size) o (by first | (simp; done) | (simp; omega) | omega); have hc1_w5 := fun o => (bcell hb5).1 (w.heap.size + 1) o (by first | (simp; done) | (simp; omega) | omega))
    | (go_at_call 96; refine (header_OwnCert C bA pA sA bn bc pn pc sn sc _ (HR.out.up (by (repeat (first | (with_reducible exact Below.refl _ _) | (with_reducible assumption) | (with_reducible apply bel_alloc) | (with_reducible apply bel_drew) | (with_reducible apply bel_drewN) | (with_reducible refine bel_trans ?_ (by with_reducible assumption)) | (with_reducible refine bel_trans ?_ (HF.out _)) | (with_reducible refine bel_set ?_ (by simp) _) | (with_reducible refine bel_set ?_ (by simp; omega) _) | (with_reducible refine bel_set ?_ (by omega) _))))) (by omega) (by omega) (by omega)).mono ?_; rintro e w6 ⟨p6, rfl, hcert6, hb6⟩; have hz_w6 : w.heap.size + 3 ≤ w6.heap.size := (by have hq := (hb6).size; (try simp at hq); omega); have hc0_w6 := fun o => (bcell hb6).1 (w.heap.size) o (by first | (simp; done) | (simp; omega) | omega); have hc1_w6 := fun o => (bcell hb6).1 (w.heap.size + 1) o (by first | (simp; done) | (simp; omega) | omega))
    | (go_at_call 121; refine (slices_Insert_Cert _ (w.heap.size + 3) v5 n lo (rowCells ps D.certs) (certCells p6 C) _ (own_mono (own_up hown5 (by (repeat (first | (with_reducible exact Below.refl _ _) | (with_reducible assumption) | (with_reducible apply bel_alloc) | (with_reducible apply bel_drew) | (with_reducible apply bel_drewN) | (with_reducible refine bel_trans ?_ (by with_reducible assumption)) | (with_reducible refine bel_trans ?_ (HF.out _)) | (with_reducible refine bel_set ?_ (by simp) _) | (with_reducible refine bel_set ?_ (by simp; omega) _) | (with_reducible refine bel_set ?_ (by omega) _))))) (by first | omega | (simp; done) | (simp; omega))) hln (by omega) (Blk.new w6 48 (certCells p6 C)) (fun h => by have hq := (own_lt hown5 _ h).2; have hq2 := hb6.size; (try simp at hq2); omega) (rowCells_ones ps D.certs) certCells_one rfl (by first | omega | (simp; done) | (simp; omega))).mono ?_; rintro e w7 ⟨v7, rfl, hown7, hb7, hg7, hat7⟩; obtain ⟨A7, c7, rfl, _⟩ := own_row hown7 (by omega); have hB7 := Blk.below (Blk.up HZ1.out (by (repeat (first | (with_reducible exact Below.refl _ _) | (with_reducible assumption) | (with_reducible apply bel_alloc) | (with_reducible apply bel_drew) | (with_reducible apply bel_drewN) | (with_reducible refine bel_trans ?_ (by with_reducible assumption)) | (with_reducible refine bel_trans ?_ (HF.out _)) | (with_reducible refine bel_set ?_ (by simp) _) | (with_reducible refine bel_set ?_ (by simp; omega) _) | (with_reducible refine bel_set ?_ (by omega) _))))) hb7 (by omega); have hK7 := Blk.below (Blk.up HZ3.out (by (repeat (first | (with_reducible exact Below.refl _ _) | (with_reducible assumption) | (with_reducible apply bel_alloc) | (with_reducible apply bel_drew) | (with_reducible apply bel_drewN) | (with_reducible refine bel_trans ?_ (by with_reducible assumption)) | (with_reducible refine bel_trans ?_ (HF.out _)) | (with_reducible refine bel_set ?_ (by simp) _) | (with_reducible refine bel_set ?_ (by simp; omega) _) | (with_reducible refine bel_set ?_ (by omega) _))))) hb7 (by omega); have f_0 := (hB7.box).2 0 _ rfl; have f_1 := (hB7.box).2 1 _ rfl; have f_2 := (hB7.box).2 2 _ rfl; have k_0 := (hK7.box).2 0 _ rfl; have k_1 := (hK7.box).2 1 _ rfl; have k_2 := (hK7.box).2 2 _ rfl; have hff7 := hB7.frozen; have hkf7 := hK7.frozen; have hB7l := hB7.lt; have hK7l := hK7.lt; have hR7 := (((hK7.far (p := ⟨w.heap.size, 2, none⟩) (by dsimp only; omega) (.slice A7 (n + 1) c7)).set_ 0 (.int .i64 D.nodes)).set_ 1 (.int .i64 D.low)).set_ 2 (.slice A7 (n + 1) c7); have r_0 := (hR7.box).2 0 _ rfl; have r_1 := (hR7.box).2 1 _ rfl; have r_2 := (hR7.box).2 2 _ rfl))
  all_goals
    go_wp2_with fail
    have hbw6 : Below w.heap.size w w6 := by (repeat (first | (with_reducible exact Below.refl _ _) | (with_reducible assumption) | (with_reducible apply bel_alloc) | (with_reducible apply bel_drew) | (with_reducible apply bel_drewN) | (with_reducible refine bel_trans ?_ (by with_reducible assumption)) | (with_reducible refine bel_trans ?_ (HF.out _)) | (with_reducible refine bel_set ?_ (by simp) _) | (with_reducible refine bel_set ?_ (by simp; omega) _) | (with_reducible refine bel_set ?_ (by omega) _)))
    have hbw7 : Below w.heap.size w w7 := Below.trans (bel_alloc hbw6) (hb7.mono (by omega))
    have hnew : CertO w7 B p6 C := CertO.grownC (CertO.mono (CertO.up hcert6 (bel_alloc (Below.refl _ _))) (by first | omega | (simp; omega))) (own_up hown5 (by (repeat (first | (with_reducible exact Below.refl _ _) | (with_reducible assumption) | (with_reducible apply bel_alloc) | (with_reducible apply bel_drew) | (with_reducible apply bel_drewN) | (with_reducible refine bel_trans ?_ (by with_reducible assumption)) | (with_reducible refine bel_trans ?_ (HF.out _)) | (with_reducible refine bel_set ?_ (by simp) _) | (with_reducible refine bel_set ?_ (by simp; omega) _) | (with_reducible refine bel_set ?_ (by omega) _))))) hg7
    have hD7 : OwnD w7 B (.slice A7 (n + 1) c7) (ps.take lo ++ [p6] ++ ps.drop lo) (insC D.certs C) := by
      unfold insC
      rw [HLO.out]
      refine OwnD.ins (ps := ps) HOWN.out.2.1 (by rw [HN.out]; exact hln) ?_ (fun j hj => (HOWN.out.2.2 j hj).up hbw7) hnew
      rw [HN.out]
      exact own_mono hown7 (by omega)
    exact bodyPost_ret (v := .tuple #[.agg #[.int .i64 D.nodes, .int .i64 D.low, .slice A7 (n + 1) c7], .int .i64 0]) (by simp [results, Try.results84, go_sem, r_0, r_1, r_2]) rfl ⟨_, _, rfl, (((hD7.setT hB7).setT (hK7.far (p := ⟨w.heap.size, 2, none⟩) (by dsimp only; omega) _)).setT ((hK7.far (p := ⟨w.heap.size, 2, none⟩) (by dsimp only; omega) _).set_ 0 _)).setT (((hK7.far (p := ⟨w.heap.size, 2, none⟩) (by dsimp only; omega) _).set_ 0 _).set_ 1 _), by (repeat (first | (with_reducible exact Below.refl _ _) | (with_reducible assumption) | (with_reducible apply bel_alloc) | (with_reducible apply bel_drew) | (with_reducible apply bel_drewN) | (with_reducible refine bel_trans ?_ (by with_reducible assumption)) | (with_reducible refine bel_trans ?_ (HF.out _)) | ((with_reducible refine bel_set3 ?_ ?_); rotate_left; omega)))⟩
end Go.Proofs.Ytfkbilbgndekkaa
