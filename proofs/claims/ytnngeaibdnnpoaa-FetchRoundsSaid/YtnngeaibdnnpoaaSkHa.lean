/- Fetch: rows of what is wanted, wants, acts, scripts of droverlaw21: how they lie; opened, with the bound that the form sets. -/
import Derived.Test.YtnngeaibdnnpoaaSkWx2
namespace Go.Proofs.Ytnngeaibdnnpoaa
open Go.RowKit Go.ChangeShapes Go.WideShapes Go.ChangeAt
set_option linter.unusedSimpArgs false
set_option linter.unusedVariables false

structure FRowD where
  ki : Int
  di : Int
  ag : Int
  tr : Int
deriving Inhabited
def encQ (x : FRowD) : List Value := [.int .i64 x.ki, .int .i64 x.di, .int .i64 x.ag, .int .i64 x.tr]
theorem encQ_len (x : FRowD) : (encQ x).length = 4 := rfl
theorem encQ_one (x : FRowD) : ∀ u ∈ encQ x, u.oneCell' = true := by
  intro u hu
  simp only [encQ, List.mem_cons, List.not_mem_nil, or_false] at hu
  rcases hu with rfl | rfl | rfl | rfl <;> rfl
def qth (l : List FRowD) (i : Nat) : FRowD := l.getD i default
def RowsR (w : World) (A : Option Addr) (n : Nat) (l : List FRowD) : Prop := l.length = n ∧ RowV w A n 4 (flat encQ l)
theorem RowsR.up {w w' : World} {A n l} (h : RowsR w A n l) (hb : Below w.heap.size w w') : RowsR w' A n l := ⟨h.1, h.2.up hb⟩
theorem RowsR.at {w : World} {A n l} (h : RowsR w A n l) (hn : 0 < n) : ∃ b off, A = some ⟨b, off, none⟩ ∧ b < w.heap.size ∧ ∀ j, j < n → w.cell? ⟨b, off + j * 4, none⟩ = some (.int .i64 (qth l j).ki) ∧ w.cell? ⟨b, off + j * 4 + 1, none⟩ = some (.int .i64 (qth l j).di) ∧ w.cell? ⟨b, off + j * 4 + 2, none⟩ = some (.int .i64 (qth l j).ag) ∧ w.cell? ⟨b, off + j * 4 + 3, none⟩ = some (.int .i64 (qth l j).tr) := by
  obtain ⟨b, off, e, hb, hc⟩ := h.2.2.2 hn
  refine ⟨b, off, e, hb, fun j hj => ?_⟩
  have hat : ∀ r u, r < 4 → (encQ (qth l j))[r]? = some u → w.cell? ⟨b, off + j * 4 + r, none⟩ = some u := fun r u hr hu => by
    rw [Nat.add_assoc]
    exact hc _ u (by rw [flat_at encQ_len l j r (by rw [h.1]; exact hj) hr]; exact hu)
  exact ⟨hat 0 _ (by omega) rfl, hat 1 _ (by omega) rfl, hat 2 _ (by omega) rfl, hat 3 _ (by omega) rfl⟩
theorem RowsR.nil (w : World) (A : Option Addr) : RowsR w A 0 [] := ⟨rfl, rfl, by omega, fun h => absurd h (by omega)⟩
theorem info_Row : (Try.prog.info? 55).map (fun i => (i.zero, i.size, i.bytes)) = some (some (.agg #[.int .i64 0, .int .i64 0, .int .i64 0, .int .i64 0]), 4, 32) := by kernel_rfl
theorem run_app_Row (w : World) (B : Nat) (v : Value) (n : Nat) (xs : List Value) (hown : w.ownsRow B 55 4 v n xs) (vb off m c : Nat) (e : List Value) (hm : e.length = m * 4) (hv : ∀ j u, e[j]? = some u → w.cell? ⟨vb, off + j, none⟩ = some u) (h1e : ∀ u ∈ e, u.oneCell' = true) (hn : n + m ≤ 1000000000) (hB : B ≤ w.heap.size) :
    ∃ v' w', (Builtin.append_ #[22, 22] 22 #[v, .slice (some ⟨vb, off, none⟩) m c]).run Try.prog w = .ok v' w' ∧ w'.ownsRow B 55 4 v' (n + m) (xs ++ e) ∧ w.grownBy w' v.ownBlock ∧ Below B w w' ∧ (v'.ownBlock = v.ownBlock ∨ v'.ownBlock = some w.heap.size) := by
  obtain ⟨i0, hi, hz, hz1, hz2⟩ := info_parts info_Row
  obtain ⟨v', w', hrun, h2, h3, _, h5⟩ := run_append_own_at (P := Try.prog) w B 22 22 55 i0 _ 4 32 Try.underlying22 hi hz hz1 hz2 rfl (by omega) v n xs hown ⟨vb, off, none⟩ m c e hm
    (by intro j u hu; rw [Addr.add_lit]; exact hv j u hu) h1e (by simp only [maxLen]; omega) (by omega) hB
  exact ⟨v', w', hrun, h2, h3, ⟨h3.os, h3.tape, h3.output, h3.size, fun k hk => h3.block k (by omega) (fun e => by have := (own_lt hown k e.symm).1; omega)⟩, h5⟩
set_option maxHeartbeats 2000000 in
set_option maxRecDepth 100000 in
theorem slices_Insert_Row_end (w : World) (B : Nat) (v : Value) (n i : Nat) (xs e : List Value) (vb : Nat) (hown : w.ownsRow B 55 4 v n xs) (hi : i = n) (hn : n ≤ 900000000) (hv : Blk w vb 55 e) (hvb : (v).ownBlock ≠ some vb) (h1x : ∀ u ∈ xs, u.oneCell' = true) (h1e : ∀ u ∈ e, u.oneCell' = true) (he : e.length = 4) (hB : B ≤ w.heap.size) :
    Calls Try.prog 60 #[v, .int .i64 i, .slice (some ⟨vb, 0, none⟩) 1 1] w fun r w' => ∃ v', r = .returned v' ∧ w'.ownsRow B 55 4 v' (n + 1) (xs.take (i * 4) ++ e ++ xs.drop (i * 4)) ∧ Below B w w' ∧ w.grownBy w' (v).ownBlock ∧ (v'.ownBlock = (v).ownBlock ∨ v'.ownBlock = some w.heap.size) := by
  have hbox := hv.box
  have hxl := hown.1
  subst hi
  obtain ⟨v', w', hrun, h2, h3, h4, h5⟩ := run_app_Row w B v i xs hown vb 0 1 1 e (by rw [he]) (fun j u hu => by rw [Nat.zero_add]; exact hbox.2 j u hu) h1e (by omega) hB
  have hx : xs.take (i * 4) ++ (e ++ xs.drop (i * 4)) = xs ++ e := by rw [← hxl, List.take_length, List.drop_length, List.append_nil]
  rw [← hx] at h2
  have H2 := Lib.hid h2
  clear hx h2 h1x h1e he hv hbox
  obtain ⟨A, c, rfl, hrow, _, hnc, hc⟩ := own_row hown (by omega)
  clear hrow hown hxl
  cases A
  all_goals
    go_enter Try.func60, Try.ntmps60
    go_wp2_with (at_builtin; refine Lib.wpList_append_run _ rfl _ _ _ _ rfl _ _ rfl rfl _ _ hrun ?_)
    all_goals
      go_ret
      exact ⟨v', rfl, by first | exact H2.out | (rw [List.append_assoc]; exact H2.out), h4, h3, h5⟩
set_option maxHeartbeats 2000000 in
set_option maxRecDepth 100000 in
theorem slices_Insert_Row_room (w : World) (B : Nat) (n i : Nat) (xs e : List Value) (vb : Nat) (g cap : Nat) (cur : Array Value) (hown : w.ownsRow B 55 4 (Value.slice (some ⟨g, 0, none⟩) n cap) n xs) (hi : i < n) (hn : n ≤ 900000000) (hv : Blk w vb 55 e) (hvb : (Value.slice (some ⟨g, 0, none⟩) n cap).ownBlock ≠ some vb) (h1x : ∀ u ∈ xs, u.oneCell' = true) (h1e : ∀ u ∈ e, u.oneCell' = true) (he : e.length = 4) (hB : B ≤ w.heap.size) (hBg : B ≤ g) (hg : w.heap[g]? = some (.cells cur 55 (0, 0))) (hnc : n ≤ cap) (hcm : cap ≤ maxLen) (hsz : cur.size = cap * 4) (htk : cur.toList.take (n * 4) = xs) (hroom : n < cap) :
    Calls Try.prog 60 #[Value.slice (some ⟨g, 0, none⟩) n cap, .int .i64 i, .slice (some ⟨vb, 0, none⟩) 1 1] w fun r w' => ∃ v', r = .returned v' ∧ w'.ownsRow B 55 4 v' (n + 1) (xs.take (i * 4) ++ e ++ xs.drop (i * 4)) ∧ Below B w w' ∧ w.grownBy w' (Value.slice (some ⟨g, 0, none⟩) n cap).ownBlock ∧ (v'.ownBlock = (Value.slice (some ⟨g, 0, none⟩) n cap).ownBlock ∨ v'.ownBlock = some w.heap.size) := by
  have hbox := hv.box
  have hxl := hown.1
  have hgl : g < w.heap.size := (Array.getElem?_eq_some_iff.1 hg).1
  have hvl : vb < w.heap.size := hv.lt
  have hgv : g ≠ vb := fun h => hvb (by rw [h]; rfl)
  have hcm' : cap ≤ 9223372036854775807 := by simpa [maxLen] using hcm
  have hszi : (Try.prog.info? 55).map (·.size) = some 4 := by
    obtain ⟨i0, hi0, h0, h1, h2⟩ := info_parts info_Row
    rw [hi0]; simp [h1]
  have hcell : ∀ j u, xs[j]? = some u → w.cell? ⟨g, j, none⟩ = some u := fun j u hj => by
    have := World.ownsRow.cells hown (g := g) rfl j u hj
    simpa [Addr.add_lit] using this
  have hw1 : IntKind.i64.wrap ((i : Int) + 1) = (i : Int) + 1 := by rw [IntKind.wrap_i64]; omega
  have hb1 : (0 : Int) ≤ (i : Int) + 1 := by omega
  have htn : ((i : Int) + 1).toNat = i + 1 := by omega
  have hb3 : (i : Int) ≤ (n : Int) := by omega
  have hb4 : (i : Int) ≤ (n : Int) + 1 := by omega
  have hin : i ≤ n := by omega
  have hbs : ∃ tA kA, w.shape? vb = some (tA, kA) ∧ w.frozen? ⟨vb, kA, none⟩ = false := ⟨55, e.length, by unfold Blk at hv; simp [World.shape?, hv], hv.frozen _⟩
  obtain ⟨tA, kA, hsa, hfe⟩ := hbs
  have hsb : w.shape? g = some (55, cur.size) := by simp [World.shape?, hg]
  have hks : cur.size ≠ 0 := by rw [hsz]; omega
  have hov : ∀ lb cb, (callFunc 82 #[.slice (some ⟨vb, 0, none⟩) 1 1, .slice (some ⟨g, (i + 1) * 4, none⟩) lb cb]).run Try.prog w = .ok (.value (.bool false)) w := fun lb cb => by
    rw [run_callFunc_extern (P := Try.prog) (fn := Try.f82) (by kernel_rfl) (by kernel_rfl) (by kernel_rfl) (by kernel_rfl) (e := Extern.SlicesOverlaps.overlaps #[22, 22] #[4]) (by kernel_rfl),
      Lib.run_overlaps_apart w 22 4 55 Try.underlying22 4 (by intro w; exact Try.sizeOf55 w) ⟨vb, 0, none⟩ ⟨g, (i + 1) * 4, none⟩ 1 1 lb cb (fun h => hgv h.symm) tA 55 kA cur.size hsa hsb hks (hv.frozen _) hfe]
    rfl
  have hmin1 : Nat.min (n + 1 - i) (n - i) = n - i := by simp only [Nat.min_def]; split <;> omega
  have hmin2 : Nat.min 1 (n + 1 - i) = 1 := by simp only [Nat.min_def]; split <;> omega
  have hdl : (xs.drop (i * 4)).length = (n - i) * 4 := by rw [List.length_drop, hxl]; omega
  obtain ⟨r1, hr1⟩ : ∃ r1, r1 = cur.toList.take ((i + 1) * 4) ++ xs.drop (i * 4) ++ cur.toList.drop ((i + 1) * 4 + (xs.drop (i * 4)).length) := ⟨_, rfl⟩
  obtain ⟨r2, hr2⟩ : ∃ r2, r2 = r1.take (i * 4) ++ e ++ r1.drop (i * 4 + e.length) := ⟨_, rfl⟩
  have hcs : cur.toList.length = cap * 4 := by simpa using hsz
  have hins := ins_room (a := i * 4) (N := n * 4) (k := 4) (R := cur.toList) hxl he (by omega) htk (by omega)
  rw [show i * 4 + 4 = (i + 1) * 4 by omega, ← hr1, ← hr2] at hins
  have hr1l : r1.length = cap * 4 := by
    rw [hr1]; simp only [List.length_append, List.length_take, List.length_drop, hcs, hxl]; omega
  have hcp1 : ∀ (W : World), W.heap = w.heap → ∀ ty dc sc, (Builtin.copy_ #[22, 22] ty #[.slice (some ⟨g, (i + 1) * 4, none⟩) (n - i) dc, .slice (some ⟨g, i * 4, none⟩) (n + 1 - i) sc]).run Try.prog W = .ok (goInt (n - i : Nat)) (W.setRow g r1.toArray) := fun W hW ty dc sc => by
    have h := run_copyK W 22 22 ty 55 g ((i + 1) * 4) (n - i) dc ⟨g, i * 4, none⟩ (n + 1 - i) sc 4 cur 55 (xs.drop (i * 4)) Try.underlying22 hszi (by rw [hW]; exact hg) (by rw [hmin1, hdl])
      (fun j u hj => by
        rw [Addr.add_lit]
        rw [List.getElem?_drop] at hj
        exact (World.cell?_of_block (w := w) (w' := W) (a := ⟨g, i * 4 + j, none⟩) (by rw [hW])).trans (hcell _ u hj)) (by rw [hdl, hsz]; omega) (fun u hu => h1x u (List.mem_of_mem_drop hu))
    rw [hmin1, ← hr1] at h
    exact h
  have hcp2 : ∀ (W : World), W.heap = (w.setRow g r1.toArray).heap → ∀ ty dc, (Builtin.copy_ #[22, 22] ty #[.slice (some ⟨g, i * 4, none⟩) (n + 1 - i) dc, .slice (some ⟨vb, 0, none⟩) 1 1]).run Try.prog W = .ok (goInt (1 : Nat)) (W.setRow g r2.toArray) := fun W hW ty dc => by
    have h := run_copyK W 22 22 ty 55 g (i * 4) (n + 1 - i) dc ⟨vb, 0, none⟩ 1 1 4 r1.toArray 55 e Try.underlying22 hszi (by rw [hW]; exact setRow_heap w g cur _ _ _ hg) (by rw [hmin2, he])
      (fun j u hj => by
        rw [Addr.add_lit, Nat.zero_add]
        exact (World.cell?_of_block (w := w) (w' := W) (a := ⟨vb, j, none⟩) (by rw [hW]; exact setRow_other w g vb _ (fun h => hgv h.symm))).trans (hbox.2 j u hj)) (by simp only [List.size_toArray]; omega) h1e
    rw [hmin2] at h
    simp only [List.toList_toArray] at h
    rw [← hr2] at h
    exact h
  have hfin : ∀ W : World, W.heap = ((w.setRow g r1.toArray).setRow g r2.toArray).heap → W.os = w.os → W.tape = w.tape → W.output = w.output → W.ownsRow B 55 4 (.slice (some ⟨g, 0, none⟩) (n + 1) cap) (n + 1) (xs.take (i * 4) ++ (e ++ xs.drop (i * 4))) ∧ Below B w W ∧ w.grownBy W (Value.slice (some ⟨g, 0, none⟩) n cap).ownBlock := fun W hW h1 h2 h3 => by
    have hsz2 : W.heap.size = w.heap.size := by rw [hW]; simp
    have hblk : ∀ k, k ≠ g → W.heap[k]? = w.heap[k]? := fun k hk => by rw [hW, setRow_other _ _ _ _ hk, setRow_other _ _ _ _ hk]
    refine ⟨⟨by simp only [List.length_append, List.length_take, List.length_drop, he, hxl]; omega, .inr ⟨g, cap, r2.toArray, rfl, hBg, ?_, by omega, hcm, ?_, ?_⟩⟩, ⟨h1, h2, h3, by omega, fun k hk => hblk k (by omega)⟩, ⟨h1, h2, h3, by omega, fun k hk hne => hblk k (fun h => hne (by rw [h]; rfl))⟩⟩
    · rw [hW]; exact setRow_heap _ g r1.toArray _ _ _ (setRow_heap w g cur _ _ _ hg)
    · have := hins.2; rw [List.size_toArray, this]; exact hcs
    · have := hins.1; rw [show n * 4 + 4 = (n + 1) * 4 by omega] at this; rw [← List.append_assoc]; exact this
  have HF := Lib.hid hfin
  have hci : ¬ (cap = i + 1) := by omega
  have hci2 : ¬ (cap = i) := by omega
  clear hfin hins hr1 hr2 hdl hmin1 hmin2 hown hxl htk hsz hcs h1x h1e he hv hbox hcell hsa hfe hsb hks
  go_enter Try.func60, Try.ntmps60
  go_wp2_with (simp only [hov])
  go_region_law (refine step_copy_runR rfl _ _ 22 22 rfl (.slice (some ⟨g, (i + 1) * 4, none⟩) (n - i) (cap - (i + 1))) (.slice (some ⟨g, i * 4, none⟩) (n + 1 - i) (cap - i)) (by simp [Act.eval, Act.put]) (by simp [Act.eval, Act.put]) (hcp1 _ (by rfl) 3 (cap - (i + 1)) (cap - i)) ?_)
  have hcp3 := hcp2 (w.drew.setRow g r1.toArray) rfl 3 (cap - i)
  go_wp2_with fail
  go_ret
  obtain ⟨a1, a2, a3⟩ := HF.out ((w.drew.setRow g r1.toArray).setRow g r2.toArray) rfl rfl rfl rfl
  exact ⟨_, rfl, by first | exact a1 | (rw [List.append_assoc]; exact a1), a2, a3, .inl rfl⟩
set_option maxHeartbeats 2000000 in
set_option maxRecDepth 100000 in
theorem slices_Insert_Row_grow (w : World) (B : Nat) (n i : Nat) (xs e : List Value) (vb : Nat) (g cap : Nat) (cur : Array Value) (hown : w.ownsRow B 55 4 (Value.slice (some ⟨g, 0, none⟩) n cap) n xs) (hi : i < n) (hn : n ≤ 900000000) (hv : Blk w vb 55 e) (hvb : (Value.slice (some ⟨g, 0, none⟩) n cap).ownBlock ≠ some vb) (h1x : ∀ u ∈ xs, u.oneCell' = true) (h1e : ∀ u ∈ e, u.oneCell' = true) (he : e.length = 4) (hB : B ≤ w.heap.size) (hBg : B ≤ g) (hg : w.heap[g]? = some (.cells cur 55 (0, 0))) (hnc : n ≤ cap) (hcm : cap ≤ maxLen) (hsz : cur.size = cap * 4) (htk : cur.toList.take (n * 4) = xs) (hroom : cap ≤ n) :
    Calls Try.prog 60 #[Value.slice (some ⟨g, 0, none⟩) n cap, .int .i64 i, .slice (some ⟨vb, 0, none⟩) 1 1] w fun r w' => ∃ v', r = .returned v' ∧ w'.ownsRow B 55 4 v' (n + 1) (xs.take (i * 4) ++ e ++ xs.drop (i * 4)) ∧ Below B w w' ∧ w.grownBy w' (Value.slice (some ⟨g, 0, none⟩) n cap).ownBlock ∧ (v'.ownBlock = (Value.slice (some ⟨g, 0, none⟩) n cap).ownBlock ∨ v'.ownBlock = some w.heap.size) := by
  have hbox := hv.box
  have hxl := hown.1
  have hgl : g < w.heap.size := (Array.getElem?_eq_some_iff.1 hg).1
  have hvl : vb < w.heap.size := hv.lt
  have hgv : g ≠ vb := fun h => hvb (by rw [h]; rfl)
  have hcm' : cap ≤ 9223372036854775807 := by simpa [maxLen] using hcm
  have hszi : (Try.prog.info? 55).map (·.size) = some 4 := by
    obtain ⟨i0, hi0, h0, h1, h2⟩ := info_parts info_Row
    rw [hi0]; simp [h1]
  have hcell : ∀ j u, xs[j]? = some u → w.cell? ⟨g, j, none⟩ = some u := fun j u hj => by
    have := World.ownsRow.cells hown (g := g) rfl j u hj
    simpa [Addr.add_lit] using this
  have hw1 : IntKind.i64.wrap ((i : Int) + 1) = (i : Int) + 1 := by rw [IntKind.wrap_i64]; omega
  have hb1 : (0 : Int) ≤ (i : Int) + 1 := by omega
  have htn : ((i : Int) + 1).toNat = i + 1 := by omega
  have hb3 : (i : Int) ≤ (n : Int) := by omega
  have hb4 : (i : Int) ≤ (n : Int) + 1 := by omega
  have hin : i ≤ n := by omega
  obtain ⟨i0, hi0, hz0, hzs, hzb⟩ := info_parts info_Row
  have hcn : cap = n := by omega
  have hold : (Builtin.firstCells i0.size i (.slice (some ⟨g, 0, none⟩) i cap)).run Try.prog w.drew = .ok (xs.take (i * 4)).toArray w.drew := by
    rw [hzs]
    exact run_firstCells_some w.drew 4 i ⟨g, 0, none⟩ i cap (xs.take (i * 4)) (by rw [List.length_take]; omega) (fun j u hj => by
      rw [Addr.add_lit, Nat.zero_add]
      rw [List.getElem?_take] at hj
      split at hj
      · exact hcell j u hj
      · cases hj)
  obtain ⟨G, hG⟩ : ∃ G, G = grownCap w (n + 1) cap 55 := ⟨_, rfl⟩
  obtain ⟨ROW, hROW⟩ : ∃ ROW : Array Value, ROW = (xs.take (i * 4)).toArray ++ Builtin.zeroCells (.agg #[.int .i64 0, .int .i64 0, .int .i64 0, .int .i64 0] : Value).cells (n + 1 - i) ++ Builtin.zeroCells (.agg #[.int .i64 0, .int .i64 0, .int .i64 0, .int .i64 0] : Value).cells (G - (n + 1)) := ⟨_, rfl⟩
  have hrz : (Builtin.append_ #[22, 3] 22 #[.slice (some ⟨g, 0, none⟩) i cap, .int .i64 ((n : Int) + 1 - (i : Int))]).run Try.prog w =
      .ok (.slice (some ⟨w.heap.size, 0, none⟩) (n + 1) G) (w.drew.alloc (.cells ROW 55)) := by
    have h := Lib.run_append_grow_zeros w 22 3 22 55 i0 _ .i64 .i64 Try.underlying22 Try.underlying3 hi0 hz0 (some ⟨g, 0, none⟩) i cap (xs.take (i * 4)) hold (n + 1 - i) (by omega) (by omega) (by omega) (by omega) (by rw [hzb]; omega) (by rw [hzb]; exact growslice_fits (by omega) (by omega))
    rw [show i + (n + 1 - i) = n + 1 by omega, ← hG, ← hROW] at h
    rw [show (n : Int) + 1 - (i : Int) = ((n + 1 - i : Nat) : Int) by omega]
    exact h
  have hGn : n + 1 ≤ G := by rw [hG]; exact grownCap_ge w _ _ _
  have hG63 : G ≤ 9223372036854775807 := by
    have := grownCap_le_maxLen w (n + 1) cap 55 (by unfold maxLen; omega)
    rw [← hG] at this
    simpa [maxLen] using this
  have hRl : ROW.size = G * 4 := by
    rw [hROW]
    simp [Builtin.zeroCells, Value.cells, hxl]
    omega
  have hRt : ROW.toList.take (i * 4) = xs.take (i * 4) := by
    rw [hROW]
    simp only [Array.toList_append, List.append_assoc]
    rw [List.take_left' (by simp [hxl]; omega)]
  obtain ⟨W1, hW1⟩ : ∃ W1, W1 = w.alloc (.cells ROW 55) := ⟨_, rfl⟩
  have hW1h : W1.heap[w.heap.size]? = some (.cells ROW 55 (0, 0)) := by rw [hW1]; exact heap_alloc_new w _
  have hW1o : ∀ k, k < w.heap.size → W1.heap[k]? = w.heap[k]? := fun k hk => by rw [hW1]; exact ((Below.refl w.heap.size w).alloc (Nat.le_refl _) _).block k hk
  have hW1s : W1.heap.size = w.heap.size + 1 := by rw [hW1]; simp
  have hmin1 : Nat.min (n - i) (n - i) = n - i := by simp only [Nat.min_def]; split <;> omega
  have hmin2 : Nat.min 1 (n + 1 - i) = 1 := by simp only [Nat.min_def]; split <;> omega
  have hdl : (xs.drop (i * 4)).length = (n - i) * 4 := by rw [List.length_drop, hxl]; omega
  obtain ⟨r1, hr1⟩ : ∃ r1, r1 = ROW.toList.take (i * 4) ++ e ++ ROW.toList.drop (i * 4 + e.length) := ⟨_, rfl⟩
  obtain ⟨r2, hr2⟩ : ∃ r2, r2 = r1.take ((i + 1) * 4) ++ xs.drop (i * 4) ++ r1.drop ((i + 1) * 4 + (xs.drop (i * 4)).length) := ⟨_, rfl⟩
  have hcs : ROW.toList.length = G * 4 := by simpa using hRl
  have hins := ins_new (a := i * 4) (N := n * 4) (k := 4) (R := ROW.toList) hxl he (by omega) hRt (by omega)
  rw [show i * 4 + 4 = (i + 1) * 4 by omega, ← hr1, ← hr2] at hins
  have hr1l : r1.length = G * 4 := by
    rw [hr1]; simp only [List.length_append, List.length_take, List.length_drop, hcs, he]; omega
  have hcpA : ∀ (W : World), W.heap = W1.heap → ∀ ty dc, (Builtin.copy_ #[22, 22] ty #[.slice (some ⟨w.heap.size, i * 4, none⟩) (n + 1 - i) dc, .slice (some ⟨vb, 0, none⟩) 1 1]).run Try.prog W = .ok (goInt (1 : Nat)) (W.setRow w.heap.size r1.toArray) := fun W hW ty dc => by
    have h := run_copyK W 22 22 ty 55 w.heap.size (i * 4) (n + 1 - i) dc ⟨vb, 0, none⟩ 1 1 4 ROW 55 e Try.underlying22 hszi (by rw [hW]; exact hW1h) (by rw [hmin2, he])
      (fun j u hj => by
        rw [Addr.add_lit, Nat.zero_add]
        exact (World.cell?_of_block (w := w) (w' := W) (a := ⟨vb, j, none⟩) (by rw [hW]; exact hW1o vb hvl)).trans (hbox.2 j u hj)) (by rw [hRl, he]; omega) h1e
    rw [hmin2, ← hr1] at h
    exact h
  have hcpB : ∀ (W : World), W.heap = (W1.setRow w.heap.size r1.toArray).heap → ∀ ty dc sc, (Builtin.copy_ #[22, 22] ty #[.slice (some ⟨w.heap.size, (i + 1) * 4, none⟩) (n - i) dc, .slice (some ⟨g, i * 4, none⟩) (n - i) sc]).run Try.prog W = .ok (goInt (n - i : Nat)) (W.setRow w.heap.size r2.toArray) := fun W hW ty dc sc => by
    have h := run_copyK W 22 22 ty 55 w.heap.size ((i + 1) * 4) (n - i) dc ⟨g, i * 4, none⟩ (n - i) sc 4 r1.toArray 55 (xs.drop (i * 4)) Try.underlying22 hszi (by rw [hW]; exact setRow_heap W1 _ ROW _ _ _ hW1h) (by rw [hmin1, hdl])
      (fun j u hj => by
        rw [Addr.add_lit]
        rw [List.getElem?_drop] at hj
        exact (World.cell?_of_block (w := w) (w' := W) (a := ⟨g, i * 4 + j, none⟩) (by rw [hW, setRow_other _ _ _ _ (by show g ≠ w.heap.size; omega)]; exact hW1o g hgl)).trans (hcell _ u hj)) (by simp only [List.size_toArray]; rw [hdl]; omega) (fun u hu => h1x u (List.mem_of_mem_drop hu))
    rw [hmin1] at h
    simp only [List.toList_toArray] at h
    rw [← hr2] at h
    exact h
  have hfin : ∀ W : World, W.heap = ((W1.setRow w.heap.size r1.toArray).setRow w.heap.size r2.toArray).heap → W.os = w.os → W.tape = w.tape → W.output = w.output → W.ownsRow B 55 4 (.slice (some ⟨w.heap.size, 0, none⟩) (n + 1) G) (n + 1) (xs.take (i * 4) ++ (e ++ xs.drop (i * 4))) ∧ Below B w W ∧ w.grownBy W (Value.slice (some ⟨g, 0, none⟩) n cap).ownBlock := fun W hW h1 h2 h3 => by
    have hsz2 : W.heap.size = w.heap.size + 1 := by rw [hW]; simp [hW1s]
    have hblk : ∀ k, k < w.heap.size → W.heap[k]? = w.heap[k]? := fun k hk => by rw [hW, setRow_other _ _ _ _ (by omega), setRow_other _ _ _ _ (by omega)]; exact hW1o k hk
    refine ⟨⟨by simp only [List.length_append, List.length_take, List.length_drop, he, hxl]; omega, .inr ⟨w.heap.size, G, r2.toArray, rfl, hB, ?_, by omega, by simpa [maxLen] using hG63, ?_, ?_⟩⟩, ⟨h1, h2, h3, by omega, fun k hk => hblk k (by omega)⟩, ⟨h1, h2, h3, by omega, fun k hk hne => hblk k hk⟩⟩
    · rw [hW]; exact setRow_heap _ _ r1.toArray _ _ _ (setRow_heap W1 _ ROW _ _ _ hW1h)
    · have := hins.2; rw [List.size_toArray, this]; exact hcs
    · have := hins.1; rw [show n * 4 + 4 = (n + 1) * 4 by omega] at this; rw [← List.append_assoc]; exact this
  have HF := Lib.hid hfin
  have hGi : ¬ (G = i) := by omega
  have hGim : ¬ (G = i + 1) := by omega
  have hci : ¬ (cap = i) := by omega
  have hcap1 : (cap : Int) < (n : Int) + 1 := by omega
  clear hfin hins hr1 hr2 hdl hmin1 hmin2 hown hxl htk hsz hcs h1x h1e he hv hbox hcell hold hROW hG hRl hRt hW1h hW1o hW1s hr1l
  subst hW1
  go_enter Try.func60, Try.ntmps60
  have HRZ := Lib.hid hrz
  have HCA := Lib.hid hcpA
  have HCB := Lib.hid hcpB
  have hcpA1 := hcpA (w.alloc (.cells ROW 55)).drew rfl 3 (G - i)
  clear hrz hcpA hcpB hcn hi0 hz0 hzs hzb hszi
  go_wp2_with (at_builtin; refine Lib.wpList_append_run _ rfl _ _ _ _ rfl _ _ rfl rfl _ _ HRZ.out ?_)
  go_region_law (refine step_copy_runR rfl _ _ 22 22 rfl (.slice (some ⟨w.heap.size, (i + 1) * 4, none⟩) (n - i) (G - (i + 1))) (.slice (some ⟨g, i * 4, none⟩) (n - i) (cap - i)) (by simp [Act.eval, Act.put]) (by simp [Act.eval, Act.put]) (HCB.out _ (by rfl) 3 (G - (i + 1)) (cap - i)) ?_)
  go_wp2_with fail
  go_ret
  obtain ⟨a1, a2, a3⟩ := HF.out (((w.alloc (.cells ROW 55)).drew.setRow w.heap.size r1.toArray).drew.setRow w.heap.size r2.toArray) rfl rfl rfl rfl
  exact ⟨_, rfl, by first | exact a1 | (rw [List.append_assoc]; exact a1), a2, a3, .inr rfl⟩
set_option maxHeartbeats 2000000 in
set_option maxRecDepth 100000 in
theorem slices_Insert_Row (w : World) (B : Nat) (v : Value) (n i : Nat) (xs e : List Value) (vb : Nat) (hown : w.ownsRow B 55 4 v n xs) (hi : i ≤ n) (hn : n ≤ 900000000) (hv : Blk w vb 55 e) (hvb : v.ownBlock ≠ some vb) (h1x : ∀ u ∈ xs, u.oneCell' = true) (h1e : ∀ u ∈ e, u.oneCell' = true) (he : e.length = 4) (hB : B ≤ w.heap.size) :
    Calls Try.prog 60 #[v, .int .i64 i, .slice (some ⟨vb, 0, none⟩) 1 1] w fun r w' => ∃ v', r = .returned v' ∧ w'.ownsRow B 55 4 v' (n + 1) (xs.take (i * 4) ++ e ++ xs.drop (i * 4)) ∧ Below B w w' ∧ w.grownBy w' v.ownBlock ∧ (v'.ownBlock = v.ownBlock ∨ v'.ownBlock = some w.heap.size) := by
  rcases Nat.lt_or_ge i n with hlt | hge
  · rcases hown.2 with ⟨_, h0⟩ | ⟨g, cap, cur, rfl, hBg, hg, hnc, hcm, hsz, htk⟩
    · omega
    · rcases Nat.lt_or_ge n cap with hroom | hroom
      · exact slices_Insert_Row_room w B n i xs e vb g cap cur hown hlt hn hv hvb h1x h1e he hB hBg hg hnc hcm hsz htk hroom
      · exact slices_Insert_Row_grow w B n i xs e vb g cap cur hown hlt hn hv hvb h1x h1e he hB hBg hg hnc hcm hsz htk hroom
  · exact slices_Insert_Row_end w B v n i xs e vb hown (by omega) hn hv hvb h1x h1e he hB
set_option maxHeartbeats 1000000 in
set_option maxRecDepth 100000 in
theorem slices_Clone_Row (A : Option Addr) (n c : Nat) (xs : List Value) (w : World) (hr : RowV w A n 4 xs) (h1x : ∀ u ∈ xs, u.oneCell' = true) (hn : n ≤ 900000000) :
    Calls Try.prog 44 #[.slice A n c] w fun r w' => ∃ v', r = .returned v' ∧ w'.ownsRow w.heap.size 55 4 v' n xs ∧ Below w.heap.size w w' := by
  obtain ⟨g1, g2, g3⟩ := hr
  cases A with
  | none =>
    have h0 : n = 0 := by
      rcases Nat.eq_zero_or_pos n with h | h
      · exact h
      · obtain ⟨b, off, e, _⟩ := g3 h; cases e
    subst h0
    have hx : xs = [] := by simpa using g1
    subst hx
    clear g1 g2 g3
    have hnil := Lib.run_eql_slice_nil (P := Try.prog) w 22 55 none 0 c 0 0 Try.underlying22
    go_enter Try.func44, Try.ntmps44
    go_wp2_with fail
    go_ret
    exact ⟨_, rfl, own_nil _ _ _ _, Below.refl _ _⟩
  | some a =>
    have hown : (w.alloc (.cells #[] 55)).ownsRow w.heap.size 55 4 (.slice (some ⟨w.heap.size, 0, none⟩) 0 0) 0 [] :=
      ⟨rfl, .inr ⟨w.heap.size, 0, #[], rfl, Nat.le_refl _, heap_alloc_new w _, Nat.le_refl _, by decide, rfl, rfl⟩⟩
    rcases Nat.eq_zero_or_pos n with h0 | h0
    · subst h0
      have hx : xs = [] := by simpa using g1
      subst hx
      clear g1 g2 g3
      obtain ⟨b, off, sp⟩ := a
      have hrun : (Builtin.append_ #[22, 22] 22 #[.slice (some ⟨w.heap.size, 0, none⟩) 0 0, .slice (some ⟨b, off, sp⟩) 0 c]).run Try.prog (w.alloc (.cells #[] 55)) = .ok (.slice (some ⟨w.heap.size, 0, none⟩) 0 0) (w.alloc (.cells #[] 55)) := by
        obtain ⟨i0, hi, hz, hz1, hz2⟩ := info_parts info_Row
        simp [Builtin.append_, run_underlying Try.underlying22, sizeOf, typeInfo, hi, Builtin.lenOf, Builtin.firstCells, loadCells, loadCellsFrom, storeCells]
      have HR := Lib.hid hrun
      clear hrun
      have hnil := Lib.run_eql_slice_nil (P := Try.prog) w 22 55 (some ⟨b, off, sp⟩) 0 c 0 0 Try.underlying22
      go_enter Try.func44, Try.ntmps44
      go_wp2_with (at_builtin; refine Lib.wpList_append_run _ rfl _ _ _ _ rfl _ _ rfl rfl _ _ HR.out ?_)
      go_ret
      exact ⟨_, rfl, hown, (Below.refl _ _).alloc (Nat.le_refl _) _⟩
    · obtain ⟨b, off, e, hb, hc⟩ := g3 h0
      injection e with e
      subst e
      have hba : Below w.heap.size w (w.alloc (.cells #[] 55)) := (Below.refl _ _).alloc (Nat.le_refl _) _
      obtain ⟨v', w', hrun, h2, h3, h4, h5⟩ := run_app_Row (w.alloc (.cells #[] 55)) w.heap.size _ 0 [] hown b off n c xs g1 (fun j u hj => (hba.cell (p := ⟨b, off + j, none⟩) hb).trans (hc j u hj)) h1x (by omega) (by simp)
      rw [Nat.zero_add, List.nil_append] at h2
      have HR := Lib.hid hrun
      have H2 := Lib.hid h2
      have hbel : Below w.heap.size w w' := hba.trans h4
      clear hrun h2 h3 h4 h5 g1 g2 g3 hc hown
      have hnil := Lib.run_eql_slice_nil (P := Try.prog) w 22 55 (some ⟨b, off, none⟩) n c 0 0 Try.underlying22
      go_enter Try.func44, Try.ntmps44
      go_wp2_with (at_builtin; refine Lib.wpList_append_run _ rfl _ _ _ _ rfl _ _ rfl rfl _ _ HR.out ?_)
      go_ret
      exact ⟨_, rfl, H2.out, hbel⟩
def OwnQ (w : World) (B : Nat) (v : Value) (l : List FRowD) : Prop := w.ownsRow B 55 4 v l.length (flat encQ l)
theorem OwnQ.nil (w : World) (B : Nat) : OwnQ w B (.slice none 0 0) [] := own_nil w B 4 _
theorem OwnQ.rows {w : World} {B : Nat} {v : Value} {l : List FRowD} (h : OwnQ w B v l) (hl : l.length ≤ 9223372036854775807) : ∃ A c, v = .slice A l.length c ∧ RowsR w A l.length l ∧ l.length ≤ c ∧ c ≤ 9223372036854775807 := by
  obtain ⟨A, c, e, hr, _, h1, h2⟩ := own_row h hl
  exact ⟨A, c, e, ⟨rfl, hr⟩, h1, h2⟩
theorem OwnQ.up {w w' : World} {B : Nat} {v : Value} {l : List FRowD} (h : OwnQ w B v l) (hb : Below w.heap.size w w') : OwnQ w' B v l := own_up h hb
theorem OwnQ.mono {w : World} {B B' : Nat} {v : Value} {l : List FRowD} (h : OwnQ w B v l) (hB : B' ≤ B) : OwnQ w B' v l := own_mono h hB
theorem OwnQ.set3 {w : World} {B : Nat} {v : Value} {l : List FRowD} (h : OwnQ w B v l) {b o : Nat} (hp : b < B) (u : Value) : OwnQ (w.setCell ⟨b, o, none⟩ u) B v l := own_set3 h hp u
theorem take_qth (l : List FRowD) (k : Nat) (h : k < l.length) : l.take (k + 1) = l.take k ++ [qth l k] := by
  rw [List.take_succ_eq_append_getElem h]; simp [qth, h]
theorem wpList_appQ {w : World} {ops : Array Oper} {rest : List Oper} {o : Oper} {a : Act} {Q : Exit → Act → World → Prop} (hgd : o.guard = none) (s x : Operand)
    (ho : o.op = .call { callee := .builtin .append, args := #[s, x], argTypes := #[22, 22] }) (hty : o.type = 22)
    (B : Nat) (v : Value) (l : List FRowD) (hs : a.eval s = v) (hown : OwnQ w B v l) (vb off m c : Nat) (e : List FRowD) (hx : a.eval x = .slice (some ⟨vb, off, none⟩) m c) (hm : e.length = m) (hv : ∀ j u, (flat encQ e)[j]? = some u → w.cell? ⟨vb, off + j, none⟩ = some u)
    (hlen : l.length + m ≤ 900000000) (hB : B ≤ w.heap.size)
    (h : ∀ v' w', OwnQ w' B v' (l ++ e) → w.grownBy w' v.ownBlock → Below B w w' → (v'.ownBlock = v.ownBlock ∨ v'.ownBlock = some w.heap.size) → wpList Try.prog ops Q rest (a.put o.dst v') w') : wpList Try.prog ops Q (o :: rest) a w := by
  obtain ⟨v', w', hrun, h2, h3, h4, h5⟩ := run_app_Row w B v l.length (flat encQ l) hown vb off m c (flat encQ e) (by rw [flat_len encQ_len, hm]) hv (flat_oneCell encQ_one e) (by omega) hB
  have hown' : OwnQ w' B v' (l ++ e) := by unfold OwnQ; rw [List.length_append, hm, flat_app]; exact h2
  exact Lib.wpList_append_run w hgd s x _ _ ho v _ hs hx v' w' (by rw [hty]; exact hrun) (h v' w' hown' h3 h4 h5)
theorem step_appQ {ops : Array Oper} {o : Oper} {a : Act} {w : World} {K : Act → World → Prop} {Q : Exit → Act → World → Prop} {E : Prop}
    (hg : o.guard = none) (s x : Operand) (ho : o.op = .call { callee := .builtin .append, args := #[s, x], argTypes := #[22, 22] }) (hty : o.type = 22)
    (B : Nat) (v : Value) (l : List FRowD) (hs : a.eval s = v) (hown : OwnQ w B v l) (vb off m c : Nat) (e : List FRowD) (hx : a.eval x = .slice (some ⟨vb, off, none⟩) m c) (hm : e.length = m) (hv : ∀ j u, (flat encQ e)[j]? = some u → w.cell? ⟨vb, off + j, none⟩ = some u)
    (hlen : l.length + m ≤ 900000000) (hB : B ≤ w.heap.size)
    (h : ∀ v' w', OwnQ w' B v' (l ++ e) → w.grownBy w' v.ownBlock → Below B w w' → (v'.ownBlock = v.ownBlock ∨ v'.ownBlock = some w.heap.size) → K (a.put o.dst v') w') :
    if Region.wanted o (yielded ops a.tmps) = true then Oper.wp Try.prog o a w K Q else E := by
  have hw : Region.wanted o (yielded ops a.tmps) = true := by simp [Region.wanted, hg]
  rw [if_pos hw]
  obtain ⟨v', w', hrun, h2, h3, h4, h5⟩ := run_app_Row w B v l.length (flat encQ l) hown vb off m c (flat encQ e) (by rw [flat_len encQ_len, hm]) hv (flat_oneCell encQ_one e) (by omega) hB
  have hown' : OwnQ w' B v' (l ++ e) := by unfold OwnQ; rw [List.length_append, hm, flat_app]; exact h2
  exact Lib.wp_append_run w s x _ _ ho v _ hs hx v' w' (by rw [hty]; exact hrun) (h v' w' hown' h3 h4 h5)
theorem wpList_app0Q {w : World} {ops : Array Oper} {rest : List Oper} {o : Oper} {a : Act} {Q : Exit → Act → World → Prop} (hgd : o.guard = none) (s x : Operand)
    (ho : o.op = .call { callee := .builtin .append, args := #[s, x], argTypes := #[22, 22] })
    (v : Value) (A : Option Addr) (n cap : Nat) (hs : a.eval s = v) (hv : v = .slice A n cap) (hA : A = none → cap = 0) (hnc : n ≤ cap) (xa : Option Addr) (c : Nat) (hx : a.eval x = .slice xa 0 c)
    (h : wpList Try.prog ops Q rest (a.put o.dst v) w) : wpList Try.prog ops Q (o :: rest) a w := by
  obtain ⟨i0, hi, hz, hz1, hz2⟩ := info_parts info_Row
  have hrun : (Builtin.append_ #[22, 22] o.type #[v, .slice xa 0 c]).run Try.prog w = .ok v w := by
    subst hv
    cases A with
    | none =>
      have hc0 := hA rfl
      subst hc0
      obtain rfl : n = 0 := by omega
      cases xa <;> simp [Builtin.append_, run_underlying Try.underlying22, sizeOf, typeInfo, hi, Builtin.lenOf, Builtin.firstCells, loadCells, loadCellsFrom, hnc, storeCells]
    | some ad => cases xa <;> simp [Builtin.append_, run_underlying Try.underlying22, sizeOf, typeInfo, hi, Builtin.lenOf, Builtin.firstCells, loadCells, loadCellsFrom, hnc, storeCells]
  exact Lib.wpList_append_run w hgd s x _ _ ho _ _ hs hx _ _ hrun h
theorem box_Q {w : World} {g : Nat} {p : FRowD} (h : BoxR w g (encQ p)) : ∀ j u, (flat encQ [p])[j]? = some u → w.cell? ⟨g, 0 + j, none⟩ = some u := fun j u hj => by
  rw [Nat.zero_add]
  exact h.2 j u (by simpa [flat] using hj)
theorem drop_Q {w : World} {b off n : Nat} {l : List FRowD} {i : Nat} (h : RowsR w (some ⟨b, off, none⟩) n l) (hi : i < n) : ∀ j u, (flat encQ (l.drop i))[j]? = some u → w.cell? ⟨b, off + i * 4 + j, none⟩ = some u := fun j u hj => by
  obtain ⟨b', off', e, hb, hc⟩ := h.2.2.2 (by omega)
  injection e with e; injection e with e1 e2 e3
  subst e1; subst e2
  rw [flat_drop encQ_len, List.getElem?_drop] at hj
  rw [Nat.add_assoc]
  exact hc _ u hj
theorem RowsR.take {w : World} {A : Option Addr} {n i : Nat} {l : List FRowD} (h : RowsR w A n l) (hi : i ≤ n) : RowsR w A i (l.take i) := by
  refine ⟨by rw [List.length_take, h.1]; omega, by rw [flat_len encQ_len, List.length_take, h.1]; rw [Nat.min_eq_left hi], by have := h.2.2.1; omega, fun h0 => ?_⟩
  obtain ⟨b, off, e, hb, hc⟩ := h.2.2.2 (by omega)
  refine ⟨b, off, e, hb, fun j u hj => hc j u ?_⟩
  rw [flat_take encQ_len, List.getElem?_take] at hj
  split at hj
  · exact hj
  · cases hj
set_option maxRecDepth 100000 in
set_option maxHeartbeats 1000000 in
theorem ref0_CopyRows (A : Option Addr) (n c : Nat) (l : List FRowD) (w : World) (hl : RowsR w A n l) (hn : n ≤ 800000000) :
    Calls Try.prog 45 #[.slice A n c] w fun e w' => ∃ v, e = .returned v ∧ OwnQ w' w.heap.size v l ∧ Below w.heap.size w w' := by
  have HL := Lib.hid hl
  have HN := Lib.hid hl.1
  clear hl
  go_enter Try.func45, Try.ntmps45
  go_wp2_with fail
  go_loopw [3, 4] (fun v i wr => ∃ j : Nat, j ≤ n ∧ i = .int .i64 j ∧ OwnQ wr w.heap.size v (l.take j) ∧ Below w.heap.size w wr) (fun _ i _ => n - (intOf i).toNat)
  case atStart => exact ⟨0, Nat.zero_le _, rfl, OwnQ.nil _ _, Below.refl _ _⟩
  case round =>
    obtain ⟨j, hj, rfl, hown, hbw⟩ := hrel
    by_cases hlt : j < n
    · obtain ⟨b, off, rfl, hb, hc⟩ := (HL.out.up hbw).at (by omega)
      obtain ⟨c0, c1, c2, c3⟩ := hc j hlt
      clear hc
      have hlenj : (l.take j).length ≤ j := by simp; omega
      have hsz := hbw.size
      go_wp2_with (at_builtin; refine wpList_appQ rfl (.tmp 11) (.tmp 16) rfl rfl (w.heap.size) u3 _ rfl (own_alloc hown _) _ 0 1 _ [qth l j] rfl rfl (box_Q (BoxR.new _ (encQ (qth l j)) _)) (by omega) (le_alloc hsz) ?_; intro v1 w1 hown1 hg1 hbel1 hat1)
      (first | (go_round; (case rel => exact ⟨j + 1, by omega, by go_num, by rw [take_qth l j (by rw [HN.out]; exact hlt)]; exact hown1, Below.trans (bel_alloc hbw) hbel1⟩); (case measure => (simp [intOf] <;> omega))) | (go_roundw; (case rel => exact ⟨j + 1, by omega, by go_num, by rw [take_qth l j (by rw [HN.out]; exact hlt)]; exact hown1, Below.trans (bel_alloc hbw) hbel1⟩); (case measure => (simp [intOf] <;> omega))) | (refine ⟨?_, by simp [intOf] <;> omega⟩; (repeat apply Exists.intro); refine ⟨?rel, ?fr⟩; (case fr => ((repeat' apply And.intro) <;> rfl)); (case rel => exact ⟨j + 1, by omega, by go_num, by rw [take_qth l j (by rw [HN.out]; exact hlt)]; exact hown1, Below.trans (bel_alloc hbw) hbel1⟩)))
    · go_wp2_with fail
      go_ret
      have e : l.take j = l := List.take_of_length_le (by rw [HN.out]; omega)
      exact ⟨_, rfl, e ▸ hown, hbw⟩
set_option maxRecDepth 100000 in
set_option maxHeartbeats 2000000 in
theorem ref0_EqRows (A : Option Addr) (n c : Nat) (A' : Option Addr) (n' c' : Nat) (l : List FRowD) (w : World) (hl : RowsR w A n l) (hl' : RowsR w A' n' l) : Calls Try.prog 32 #[.slice A n c, .slice A' n' c'] w fun e w' => e = .returned (.bool true) ∧ Below w.heap.size w w' := by
  have hnn : n' = n := by rw [← hl.1, ← hl'.1]
  subst hnn
  have HL := Lib.hid hl
  have HL' := Lib.hid hl'
  have hnn : n' ≤ 9223372036854775807 := hl.2.2.1
  clear hl hl'
  go_enter Try.func32, Try.ntmps32
  go_wp2_with fail
  go_loopw [5] (fun ix wr => ∃ k : Nat, k ≤ n' ∧ ix = .int .i64 k ∧ Below w.heap.size w wr) (fun ix _ => n' - (intOf ix).toNat)
  case atStart => exact ⟨0, Nat.zero_le _, rfl, Below.refl _ _⟩
  case round =>
    obtain ⟨k, hk, rfl, hbw⟩ := hrel
    (obtain ⟨wk, hwk⟩ : ∃ x, x = wr := ⟨_, rfl⟩); subst hwk
    by_cases hlt : k < n'
    · obtain ⟨b, off, rfl, hb, hc⟩ := (HL.out.up hbw).at (by omega)
      obtain ⟨b', off', rfl, hb', hc'⟩ := (HL'.out.up hbw).at (by omega)
      obtain ⟨c0, c1, c2, c3⟩ := hc k hlt
      obtain ⟨d0, d1, d2, d3⟩ := hc' k hlt
      clear hc hc'
      go_wp2_with fail
      refine wp_region_fam (by kernel_rfl) (by kernel_rfl) (fun ι F hne hF hcl => ?_)
      have hcF0 := fun n o => (bcell (hF n)).1 (b) o (by first | (simp; done) | (simp; omega) | omega)
      have hcF1 := fun n o => (bcell (hF n)).1 (b') o (by first | (simp; done) | (simp; omega) | omega)
      have HF := Lib.hid hF; clear hF
      have HC := Lib.hid hcl; clear hcl
      repeat (any_goals (first
       | go_big_quiet_step (first | (fail))
       | (refine wpQuiet_guard _ _ _ rfl rfl ?_; (fail_if_success (intro b' hb; have h2 := hb.symm; have : b' = true := h2.trans (by with_reducible rfl))); (fail_if_success (intro b' hb; have h2 := hb.symm; have : b' = false := h2.trans (by with_reducible rfl))); intro b' hb; simp only [hb]; cases b' <;> (try simp only [Bool.not_eq_true', Bool.not_eq_false', decide_eq_true_eq, decide_eq_false_iff_not, Int.not_lt, Int.not_le, Bool.and_eq_true, Bool.or_eq_true, Bool.or_eq_false_iff, beq_iff_eq, beq_eq_false_iff_ne, Int.natCast_pos] at hb))))
      all_goals (refine wpQuiet_nil ?_; intro nq)
      have hFwf := HF.out nq
      clear HF HC hne
      generalize F nq = wf at *
      go_wp2_with fail
      (first | (go_round; (case rel => exact ⟨k + 1, by omega, by go_num, bel_trans hbw hFwf⟩); (case measure => (simp [intOf] <;> omega))) | (go_roundw; (case rel => exact ⟨k + 1, by omega, by go_num, bel_trans hbw hFwf⟩); (case measure => (simp [intOf] <;> omega))) | (refine ⟨?_, by simp [intOf] <;> omega⟩; (repeat apply Exists.intro); refine ⟨?rel, ?fr⟩; (case fr => ((repeat' apply And.intro) <;> rfl)); (case rel => exact ⟨k + 1, by omega, by go_num, bel_trans hbw hFwf⟩)))
    · go_wp2_with fail
      go_ret
      exact ⟨rfl, hbw⟩
theorem clone_Rows (A : Option Addr) (n c : Nat) (l : List FRowD) (w : World) (hl : RowsR w A n l) (hn : n ≤ 900000000) :
    Calls Try.prog 44 #[.slice A n c] w fun r w' => ∃ v, r = .returned v ∧ OwnQ w' w.heap.size v l ∧ Below w.heap.size w w' :=
  (slices_Clone_Row A n c (flat encQ l) w hl.2 (flat_oneCell encQ_one l) hn).mono fun r w' ⟨v, h1, h2, h3⟩ => ⟨v, h1, by unfold OwnQ; rw [hl.1]; exact h2, h3⟩
structure FetD where
  id : Int
  nodes : Int
  rows : List FRowD
deriving Inhabited
structure FActD where
  d : Int
  k : Int
  g : Int
  l : List Int
deriving Inhabited
def fath (l : List FActD) (i : Nat) : FActD := l.getD i default
def FActsR (w : World) (A : Option Addr) (n : Nat) (l : List FActD) : Prop :=
  l.length = n ∧ n ≤ 9223372036854775807 ∧ (0 < n → ∃ b off, A = some ⟨b, off, none⟩ ∧ b < w.heap.size ∧ ∀ j, j < n → ∃ (B : Option Addr) (m d : Nat), w.cell? ⟨b, off + j * 4, none⟩ = some (.int .i64 (fath l j).d) ∧ w.cell? ⟨b, off + j * 4 + 1, none⟩ = some (.int .i64 (fath l j).k) ∧ w.cell? ⟨b, off + j * 4 + 2, none⟩ = some (.int .i64 (fath l j).g) ∧ w.cell? ⟨b, off + j * 4 + 3, none⟩ = some (.slice B m d) ∧ IntsR w B m (fath l j).l)
theorem FActsR.up {w w' : World} {A n l} (h : FActsR w A n l) (hb : Below w.heap.size w w') : FActsR w' A n l := by
  obtain ⟨h1, h2, h3⟩ := h
  refine ⟨h1, h2, fun hn => ?_⟩
  obtain ⟨b, off, e, hlt, hc⟩ := h3 hn
  refine ⟨b, off, e, Nat.lt_of_lt_of_le hlt hb.size, fun j hj => ?_⟩
  obtain ⟨B, m, d, g0, g1, g2, g3, g4⟩ := hc j hj
  have g := (bcell hb).1
  exact ⟨B, m, d, (g _ _ hlt).trans g0, (g _ _ hlt).trans g1, (g _ _ hlt).trans g2, (g _ _ hlt).trans g3, g4.up hb⟩
def SmF (a : FActD) : Prop := a.l.length ≤ 17592186044416
structure FScrD where
  f : FetD
  l : List FActD
structure FScrP where
  r : SlP
  l : SlP
def FScrP.val (P : FScrP) (D : FScrD) : Value := .agg #[.int .i64 D.f.id, .int .i64 D.f.nodes, .slice P.r.A P.r.n P.r.c, .slice P.l.A P.l.n P.l.c]
structure FScrR (w : World) (P : FScrP) (D : FScrD) : Prop where
  r : RowsR w P.r.A P.r.n D.f.rows
  l : FActsR w P.l.A P.l.n D.l
  sr : P.r.n ≤ 17592186044416
  sl : P.l.n ≤ 17592186044416
  rc : P.r.n ≤ P.r.c
  gl : ∀ v ∈ D.l, SmF v
theorem FScrR.up {w w' : World} {P : FScrP} {D : FScrD} (h : FScrR w P D) (hb : Below w.heap.size w w') : FScrR w' P D := { h with r := h.r.up hb, l := h.l.up hb }

section
variable {H : Type} {enc : TypeId × Value → H} {w : World} {base : Nat} {spare : Nat → Bool} {held : Bool}
theorem cells_row : Try.prog.cellsOf 55 = 4 := by kernel_rfl
theorem cells_rows : Try.prog.cellsOf 22 = 1 := by kernel_rfl
theorem bytes_row : Try.prog.bytesOf 55 = 32 := by kernel_rfl
theorem cells_fetch : Try.prog.cellsOf 24 = 3 := by kernel_rfl
theorem cells_fact : Try.prog.cellsOf 62 = 4 := by kernel_rfl
theorem cells_facts : Try.prog.cellsOf 25 = 1 := by kernel_rfl
theorem bytes_fact : Try.prog.bytesOf 62 = 48 := by kernel_rfl
theorem cells_fscr : Try.prog.cellsOf 27 = 4 := by kernel_rfl
set_option maxRecDepth 20000 in
theorem open_RowS {fuel : Nat} {cs : List Value} {x : DataW H × List MemPlace} (h : DataW.trod enc Try.prog w base spare held fuel 55 cs = some x) (hw : Wok 55 x.1) : ∃ v, cs = encQ v ∧ True := by
  obtain ⟨xs, n, _, hx, hl, hlen, hf⟩ := DataW.trod_struct Try.underlying55 h
  rw [hx] at hw
  rw [cells_row] at hl
  obtain ⟨v0, v1, v2, v3, rfl⟩ := list4 hl
  obtain ⟨y0, y1, y2, y3, rfl⟩ := list4 hlen
  have f0 : DataW.trod enc Try.prog w base spare held n 3 [v0] = some y0 := by simpa [cells_int] using hf 0 _ rfl
  have f1 : DataW.trod enc Try.prog w base spare held n 3 [v1] = some y1 := by simpa [cells_int] using hf 1 _ rfl
  have f2 : DataW.trod enc Try.prog w base spare held n 3 [v2] = some y2 := by simpa [cells_int] using hf 2 _ rfl
  have f3 : DataW.trod enc Try.prog w base spare held n 3 [v3] = some y3 := by simpa [cells_int] using hf 3 _ rfl
  obtain ⟨z0, e0⟩ := open_Int f0
  obtain ⟨z1, e1⟩ := open_Int f1
  obtain ⟨z2, e2⟩ := open_Int f2
  obtain ⟨z3, e3⟩ := open_Int f3
  injection e0 with e0; injection e1 with e1; injection e2 with e2; injection e3 with e3
  subst e0; subst e1; subst e2; subst e3
  exact ⟨⟨z0, z1, z2, z3⟩, rfl, trivial⟩
set_option maxRecDepth 20000 in
theorem open_FActsS {fuel : Nat} {cs : List Value} {x : DataW H × List MemPlace} (h : DataW.trod enc Try.prog w base spare held fuel 25 cs = some x) (hw : Wok 25 x.1) : ∃ A n c l, cs = [.slice A n c] ∧ FActsR w A n l ∧ n ≤ 17592186044416 ∧ ∀ v ∈ l, SmF v := by
  obtain ⟨A, n, c, l, e, h1, h2, h3, h4, h5⟩ := open_deepS (α := FActD) (k := 4) (kb := 48) (G := SmF) (R := fun cs v => ∃ (B : Option Addr) (m d : Nat), cs = [.int .i64 v.d, .int .i64 v.k, .int .i64 v.g, .slice B m d] ∧ IntsR w B m v.l) (by omega) (by omega) Try.underlying25 cells_fact bytes_fact (fun fuel cs x h hw hl => by
    obtain ⟨v0, v1, v2, v3, rfl⟩ := list4 hl
    obtain ⟨xs, n, _, hx, hl', hlen, hf⟩ := DataW.trod_struct Try.underlying62 h
    rw [hx] at hw
    obtain ⟨y0, y1, y2, y3, rfl⟩ := list4 hlen
    have f0 : DataW.trod enc Try.prog w base spare held n 3 [v0] = some y0 := by simpa [cells_int] using hf 0 _ rfl
    have f1 : DataW.trod enc Try.prog w base spare held n 3 [v1] = some y1 := by simpa [cells_int] using hf 1 _ rfl
    have f2 : DataW.trod enc Try.prog w base spare held n 3 [v2] = some y2 := by simpa [cells_int] using hf 2 _ rfl
    have f3 : DataW.trod enc Try.prog w base spare held n 31 [v3] = some y3 := by simpa [cells_int, cells_ints] using hf 3 _ rfl
    obtain ⟨z0, e0⟩ := open_Int f0
    obtain ⟨z1, e1⟩ := open_Int f1
    obtain ⟨z2, e2⟩ := open_Int f2
    obtain ⟨B, m, d, l1, e3, r1, s1, -⟩ := open_IntsS f3 (hw.field Try.underlying62 (i := 3) (f := 31) rfl rfl)
    injection e0 with e0; injection e1 with e1; injection e2 with e2; injection e3 with e3
    subst e0; subst e1; subst e2; subst e3
    exact ⟨⟨z0, z1, z2, l1⟩, ⟨B, m, d, rfl, r1⟩, by show l1.length ≤ _; rw [r1.1]; omega⟩) h hw
  refine ⟨A, n, c, l, e, ⟨h1, h2, fun hn => ?_⟩, by omega, h4⟩
  obtain ⟨b, off, e2, hb, hc⟩ := h5 hn
  refine ⟨b, off, e2, hb, fun j hj => ?_⟩
  obtain ⟨cs', _, ⟨B, m, d, rfl, r1⟩, hat⟩ := hc j hj
  exact ⟨B, m, d, hat 0 _ rfl, hat 1 _ rfl, hat 2 _ rfl, hat 3 _ rfl, r1⟩
set_option maxRecDepth 20000 in
theorem open_FScr {r : Reach} {b0 : Nat} {v : Value} {d : DataW H} {p : List MemPlace} (hv : Value.okWide Try.prog w r b0 27 v) (h : DataW.Trod enc Try.prog w base spare held 27 v d p) (hw : Wok 27 d) :
    ∃ (P : FScrP) (D : FScrD), v = P.val D ∧ FScrR w P D := by
  obtain ⟨cs, rfl, hsz⟩ := okWide_struct Try.underlying27 hv
  obtain ⟨l⟩ := cs
  rw [cells_fscr] at hsz
  obtain ⟨v0, v1, v2, v3, rfl⟩ := list4 hsz
  obtain ⟨fuel, hfu⟩ := h
  obtain ⟨xs, n, _, hx, hl, hlen, hf⟩ := DataW.trod_struct Try.underlying27 hfu
  have hx2 := congrArg Prod.fst hx
  dsimp only at hx2
  rw [hx2] at hw
  obtain ⟨y0, y1, rfl⟩ := list2 hlen
  have f0 : DataW.trod enc Try.prog w base spare held n 24 [v0, v1, v2] = some y0 := by simpa [cells_fetch, Value.cells] using hf 0 _ rfl
  have f1 : DataW.trod enc Try.prog w base spare held n 25 [v3] = some y1 := by simpa [cells_fetch, cells_facts, Value.cells] using hf 1 _ rfl
  have w0 := hw.field Try.underlying27 (i := 0) (f := 24) rfl rfl
  have w1 := hw.field Try.underlying27 (i := 1) (f := 25) rfl rfl
  obtain ⟨xe, ne, _, hxe, hle, hlene, hfe⟩ := DataW.trod_struct Try.underlying24 f0
  obtain ⟨e0, e1, e2, rfl⟩ := list3 hlene
  rw [hxe] at w0
  dsimp only at w0
  have g0 : DataW.trod enc Try.prog w base spare held ne 3 [v0] = some e0 := by simpa [cells_int] using hfe 0 _ rfl
  have g1 : DataW.trod enc Try.prog w base spare held ne 3 [v1] = some e1 := by simpa [cells_int] using hfe 1 _ rfl
  have g2 : DataW.trod enc Try.prog w base spare held ne 22 [v2] = some e2 := by simpa [cells_int, cells_rows] using hfe 2 _ rfl
  obtain ⟨z0, ez0⟩ := open_Int g0
  obtain ⟨z1, ez1⟩ := open_Int g1
  obtain ⟨A2, n2, c2, l2, ez2, a1, a2, a3, a4, a5, a6⟩ := open_flatS (e := encQ) (G := fun _ => True) encQ_len (by omega) Try.underlying22 cells_row bytes_row (fun _ _ _ h hw => open_RowS h hw) g2 (w0.field Try.underlying24 (i := 2) (f := 22) rfl rfl)
  obtain ⟨A3, n3, c3, l3, ez3, r3, s3, t3⟩ := open_FActsS f1 w1
  simp only [List.cons.injEq, and_true] at ez0 ez1 ez2 ez3
  subst ez0; subst ez1; subst ez2; subst ez3
  exact ⟨⟨⟨A2, n2, c2⟩, ⟨A3, n3, c3⟩⟩, ⟨⟨z0, z1, l2⟩, l3⟩, rfl,
    { r := ⟨a1, a2⟩, l := r3, sr := by show n2 ≤ _; omega, sl := s3, rc := a3, gl := t3 }⟩
end
end Go.Proofs.Ytnngeaibdnnpoaa
