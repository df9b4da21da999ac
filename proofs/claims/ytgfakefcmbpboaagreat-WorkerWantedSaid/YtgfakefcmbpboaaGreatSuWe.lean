/- Waits, held batches, workers: copies, sameness, at the reference. -/
import Derived.Test.YtgfakefcmbpboaaGreatSuWb
namespace Go.Proofs.YtgfakefcmbpboaaGreat
set_option linter.all false
set_option maxRecDepth 100000
open Go.RowKit

theorem info_Held : (Tryz.prog.info? 101).map (fun i => (i.zero, i.size, i.bytes)) = some (some (.agg #[.int .i64 0, .int .i64 0, .int .i64 0, .slice none 0 0]), 4, 48) := by kernel_rfl
theorem run_app_Held (w : World) (B : Nat) (v : Value) (n : Nat) (xs : List Value) (hown : w.ownsRow B 101 4 v n xs) (vb off m c : Nat) (e : List Value) (hm : e.length = m * 4) (hv : ∀ j u, e[j]? = some u → w.cell? ⟨vb, off + j, none⟩ = some u) (h1e : ∀ u ∈ e, u.oneCell' = true) (hn : n + m ≤ 1000000000) (hB : B ≤ w.heap.size) :
    ∃ v' w', (Builtin.append_ #[24, 24] 24 #[v, .slice (some ⟨vb, off, none⟩) m c]).run Tryz.prog w = .ok v' w' ∧ w'.ownsRow B 101 4 v' (n + m) (xs ++ e) ∧ w.grownBy w' v.ownBlock ∧ Below B w w' ∧ (v'.ownBlock = v.ownBlock ∨ v'.ownBlock = some w.heap.size) := by
  obtain ⟨i0, hi, hz, hz1, hz2⟩ := info_parts info_Held
  obtain ⟨v', w', hrun, h2, h3, _, h5⟩ := run_append_own_at (P := Tryz.prog) w B 24 24 101 i0 _ 4 48 Tryz.underlying24 hi hz hz1 hz2 rfl (by omega) v n xs hown ⟨vb, off, none⟩ m c e hm
    (by intro j u hu; rw [Addr.add_lit]; exact hv j u hu) h1e (by simp only [maxLen]; omega) (by omega) hB
  exact ⟨v', w', hrun, h2, h3, ⟨h3.os, h3.tape, h3.output, h3.size, fun k hk => h3.block k (by omega) (fun e => by have := (own_lt hown k e.symm).1; omega)⟩, h5⟩
theorem info_Wait : (Tryz.prog.info? 56).map (fun i => (i.zero, i.size, i.bytes)) = some (some (.agg #[.int .i64 0, .slice none 0 0]), 2, 32) := by kernel_rfl
theorem run_app_Wait (w : World) (B : Nat) (v : Value) (n : Nat) (xs : List Value) (hown : w.ownsRow B 56 2 v n xs) (vb off m c : Nat) (e : List Value) (hm : e.length = m * 2) (hv : ∀ j u, e[j]? = some u → w.cell? ⟨vb, off + j, none⟩ = some u) (h1e : ∀ u ∈ e, u.oneCell' = true) (hn : n + m ≤ 1000000000) (hB : B ≤ w.heap.size) :
    ∃ v' w', (Builtin.append_ #[23, 23] 23 #[v, .slice (some ⟨vb, off, none⟩) m c]).run Tryz.prog w = .ok v' w' ∧ w'.ownsRow B 56 2 v' (n + m) (xs ++ e) ∧ w.grownBy w' v.ownBlock ∧ Below B w w' ∧ (v'.ownBlock = v.ownBlock ∨ v'.ownBlock = some w.heap.size) := by
  obtain ⟨i0, hi, hz, hz1, hz2⟩ := info_parts info_Wait
  obtain ⟨v', w', hrun, h2, h3, _, h5⟩ := run_append_own_at (P := Tryz.prog) w B 23 23 56 i0 _ 2 32 Tryz.underlying23 hi hz hz1 hz2 rfl (by omega) v n xs hown ⟨vb, off, none⟩ m c e hm
    (by intro j u hu; rw [Addr.add_lit]; exact hv j u hu) h1e (by simp only [maxLen]; omega) (by omega) hB
  exact ⟨v', w', hrun, h2, h3, ⟨h3.os, h3.tape, h3.output, h3.size, fun k hk => h3.block k (by omega) (fun e => by have := (own_lt hown k e.symm).1; omega)⟩, h5⟩
theorem OwnI.low {w : World} {B : Nat} {v : Value} {l : List Int} (h : OwnI w B v l) {b o : Nat} (hp : b < B) (u : Value) : OwnI (w.setCell ⟨b, o, none⟩ u) B v l := own_set3 h hp u
set_option maxHeartbeats 1000000 in
theorem ref0_CopyBatchO (b : BatchD) (A : Option Addr) (n c : Nat) (w : World) (hl : TxsR w A n b.tx) (hn : n ≤ 800000000) :
    Calls Tryz.prog 86 #[.agg #[.int .i64 b.au, .int .i64 b.n, .slice A n c]] w fun e w' => ∃ v, e = .returned (.agg #[.int .i64 b.au, .int .i64 b.n, v]) ∧ OwnX w' w.heap.size v b.tx ∧ Below w.heap.size w w' := by
  have HL := ħ hl
  have HN := ħ hl.1
  clear hl
  go_enter Tryz.func86, Tryz.ntmps86
  go_wp2_with fail
  refine (ref0_CopyTxs A n c b.tx _ (HL.out.up (belB)) hn).mono ?_
  rintro e w1 ⟨v, rfl, hown, hb1⟩
  obtain ⟨A1, c1, rfl, hx, _⟩ := hown.txs (by rw [HN.out]; omega)
  rw [HN.out] at hx hown ⊢
  have hown' := hown.mono (B' := w.heap.size + 3) (by simp)
  have HO := ħ hown'
  clear hown hown' hx
  have hz_w1 : w.heap.size + 3 ≤ w1.heap.size := (by have hq := (hb1).size; (try simp at hq); omega); have hc0_w1 := fun o => (bcell hb1).1 (w.heap.size) o (by first | (simp; done) | (simp; omega) | omega); have hc1_w1 := fun o => (bcell hb1).1 (w.heap.size + 1) o (by first | (simp; done) | (simp; omega) | omega); have hc2_w1 := fun o => (bcell hb1).1 (w.heap.size + 2) o (by first | (simp; done) | (simp; omega) | omega); have hf0_w1 := fun o => (bcell hb1).2 (w.heap.size) o (by first | (simp; done) | (simp; omega) | omega); have hf1_w1 := fun o => (bcell hb1).2 (w.heap.size + 1) o (by first | (simp; done) | (simp; omega) | omega); have hf2_w1 := fun o => (bcell hb1).2 (w.heap.size + 2) o (by first | (simp; done) | (simp; omega) | omega)
  go_wp2_with fail
  have ho2 := (((HO.out.set3 (b := w.heap.size + 1 + 1) (o := 2) (by omega) (.slice A1 n c1)).set3 (b := w.heap.size + 1) (o := 0) (by omega) (.int .i64 b.au)).set3 (b := w.heap.size + 1) (o := 1) (by omega) (.int .i64 b.n)).set3 (b := w.heap.size + 1) (o := 2) (by omega) (.slice A1 n c1)
  exact bodyPost_ret (v := .agg #[.int .i64 b.au, .int .i64 b.n, .slice A1 n c1]) (by simp [results, Tryz.results86, go_sem, hc0_w1, hc1_w1, hc2_w1]) rfl ⟨_, rfl, ho2.mono (by omega), belB⟩
set_option maxHeartbeats 1000000 in
theorem ref0_CopyWait (x : WaitD) (A : Option Addr) (n c : Nat) (w : World) (hl : IntsR w A n x.ak) (hn : n ≤ 800000000) :
    Calls Tryz.prog 67 #[.agg #[.int .i64 x.di, .slice A n c]] w fun e w' => ∃ v, e = .returned (.agg #[.int .i64 x.di, v]) ∧ OwnI w' w.heap.size v x.ak ∧ Below w.heap.size w w' := by
  have HL := ħ hl
  have HN := ħ hl.1
  clear hl
  go_enter Tryz.func67, Tryz.ntmps67
  go_wp2_with fail
  refine (ref0_CopyNumbers A n c x.ak _ (HL.out.up (belB)) (by omega)).mono ?_
  rintro e w1 ⟨v, rfl, hown, hb1⟩
  obtain ⟨A1, c1, rfl, hx, _⟩ := hown.ints (by rw [HN.out]; omega)
  rw [HN.out] at hx hown ⊢
  have hown' := hown.mono (B' := w.heap.size + 3) (by simp)
  have HO := ħ hown'
  clear hown hown' hx
  have hz_w1 : w.heap.size + 3 ≤ w1.heap.size := (by have hq := (hb1).size; (try simp at hq); omega); have hc0_w1 := fun o => (bcell hb1).1 (w.heap.size) o (by first | (simp; done) | (simp; omega) | omega); have hc1_w1 := fun o => (bcell hb1).1 (w.heap.size + 1) o (by first | (simp; done) | (simp; omega) | omega); have hc2_w1 := fun o => (bcell hb1).1 (w.heap.size + 2) o (by first | (simp; done) | (simp; omega) | omega); have hf0_w1 := fun o => (bcell hb1).2 (w.heap.size) o (by first | (simp; done) | (simp; omega) | omega); have hf1_w1 := fun o => (bcell hb1).2 (w.heap.size + 1) o (by first | (simp; done) | (simp; omega) | omega); have hf2_w1 := fun o => (bcell hb1).2 (w.heap.size + 2) o (by first | (simp; done) | (simp; omega) | omega)
  go_wp2_with fail
  have ho2 := ((HO.out.low (b := w.heap.size + 1 + 1) (o := 1) (by omega) (.slice A1 n c1)).low (b := w.heap.size + 1) (o := 0) (by omega) (.int .i64 x.di)).low (b := w.heap.size + 1) (o := 1) (by omega) (.slice A1 n c1)
  exact bodyPost_ret (v := .agg #[.int .i64 x.di, .slice A1 n c1]) (by simp [results, Tryz.results67, go_sem, hc0_w1, hc1_w1, hc2_w1]) rfl ⟨_, rfl, ho2.mono (by omega), belB⟩
set_option maxHeartbeats 1000000 in
theorem ref0_CopyHeld (x : HeldD) (A : Option Addr) (n c : Nat) (w : World) (hl : TxsR w A n x.b.tx) (hn : n ≤ 800000000) :
    Calls Tryz.prog 68 #[.agg #[.int .i64 x.di, .int .i64 x.b.au, .int .i64 x.b.n, .slice A n c]] w fun e w' => ∃ v, e = .returned (.agg #[.int .i64 x.di, .int .i64 x.b.au, .int .i64 x.b.n, v]) ∧ OwnX w' w.heap.size v x.b.tx ∧ Below w.heap.size w w' := by
  have HL := ħ hl
  have HN := ħ hl.1
  clear hl
  go_enter Tryz.func68, Tryz.ntmps68
  go_wp2_with fail
  refine (ref0_CopyBatchO x.b A n c _ (HL.out.up (belB)) hn).mono ?_
  rintro e w1 ⟨v, rfl, hown, hb1⟩
  obtain ⟨A1, c1, rfl, hx, _⟩ := hown.txs (by rw [HN.out]; omega)
  rw [HN.out] at hx hown ⊢
  have hown' := hown.mono (B' := w.heap.size + 3) (by simp)
  have HO := ħ hown'
  clear hown hown' hx
  have hz_w1 : w.heap.size + 3 ≤ w1.heap.size := (by have hq := (hb1).size; (try simp at hq); omega); have hc0_w1 := fun o => (bcell hb1).1 (w.heap.size) o (by first | (simp; done) | (simp; omega) | omega); have hc1_w1 := fun o => (bcell hb1).1 (w.heap.size + 1) o (by first | (simp; done) | (simp; omega) | omega); have hc2_w1 := fun o => (bcell hb1).1 (w.heap.size + 2) o (by first | (simp; done) | (simp; omega) | omega); have hf0_w1 := fun o => (bcell hb1).2 (w.heap.size) o (by first | (simp; done) | (simp; omega) | omega); have hf1_w1 := fun o => (bcell hb1).2 (w.heap.size + 1) o (by first | (simp; done) | (simp; omega) | omega); have hf2_w1 := fun o => (bcell hb1).2 (w.heap.size + 2) o (by first | (simp; done) | (simp; omega) | omega)
  go_wp2_with fail
  exact bodyPost_ret (v := .agg #[.int .i64 x.di, .int .i64 x.b.au, .int .i64 x.b.n, .slice A1 n c1]) (by simp [results, Tryz.results68, go_sem, hc0_w1, hc1_w1, hc2_w1]) rfl ⟨_, rfl, (by (refine OwnX.mono (B := w.heap.size + 3) ?_ (by omega)); (repeat (first | (with_reducible exact HO.out) | ((with_reducible refine OwnX.set3 ?_ ?_ _); rotate_left; (omega))))), belB⟩
set_option maxHeartbeats 2000000 in
theorem ref0_CopyWaits (A : Option Addr) (n c : Nat) (l : List WaitD) (w : World) (hl : WaitsR w A n l) (hs : BigW l) :
    Calls Tryz.prog 27 #[.slice A n c] w fun e w' => ∃ v, e = .returned v ∧ OwnWs w' w.heap.size v l ∧ Below w.heap.size w w' := by
  have HL := ħ hl
  have hN := hl.1
  have hn : n ≤ 800000000 := by rw [← hN]; exact hs.1
  have HN := ħ hN
  have HS := ħ hs
  clear hl hN hs
  suffices h : Calls Tryz.prog 27 #[.slice A n c] w fun e w' => ∃ v ps, e = .returned v ∧ OwnT dWait w' w.heap.size v ps l ∧ Below w.heap.size w w' from h.mono fun e w' ⟨v, ps, h1, h2, h3⟩ => ⟨v, h1, ⟨ps, h2⟩, h3⟩
  go_enter Tryz.func27, Tryz.ntmps27
  go_wp2_with fail
  go_loopw [3, 4] (fun v i wr => ∃ (j : Nat) (ps : List Value), j ≤ n ∧ i = .int .i64 j ∧ OwnT dWait wr w.heap.size v ps (l.take j) ∧ Below w.heap.size w wr) (fun _ i _ => n - (intOf i).toNat)
  case atStart => exact ⟨0, [], Nat.zero_le _, rfl, OwnT.nil _ _, Below.refl _ _⟩
  case round =>
    obtain ⟨j, ps, hj, rfl, hown, hbw⟩ := hrel
    (obtain ⟨wk, hwk⟩ : ∃ x, x = wr := ⟨_, rfl⟩); subst hwk
    by_cases hlt : j < n
    · obtain ⟨b, off, rfl, hb, hc⟩ := (HL.out.up hbw).2.2 (by omega)
      obtain ⟨B, m, d, ⟨c0, c1⟩, hin⟩ := hc j hlt
      have hm : m ≤ 800000000 := by rw [← hin.1]; exact HS.out.2 _ (getD_mem (by rw [HN.out]; exact hlt))
      have htk : l.take (j + 1) = l.take j ++ [wth l j] := by rw [List.take_succ_eq_append_getElem (by rw [HN.out]; exact hlt)]; simp [wth, show j < l.length by rw [HN.out]; exact hlt]
      have HTK := ħ htk
      obtain ⟨x, hx⟩ : ∃ x, wth l j = x := ⟨_, rfl⟩
      rw [hx] at hin c0
      have HX := ħ hx
      have HIN := ħ hin
      have hlenj : (l.take j).length ≤ j := by simp; omega
      have hsz := hbw.size
      have HO := ħ hown
      clear hc hin hx htk hown
      go_wp2_with fail
      refine (ref0_CopyWait x B m d _ HIN.out hm).mono ?_
      rintro e w1 ⟨v1, rfl, ho1, hb1⟩
      have HO1 := ħ (HO.out.up hb1)
      have HI1 := ħ ho1
      have hbx := BoxR.new w1 [.int .i64 x.di, v1] 56
      have hba : Below w1.heap.size w1 (w1.alloc (.cells #[.int .i64 x.di, v1] 56)) := belB
      have HBX := ħ hbx
      have hsz1 : w.heap.size ≤ w1.heap.size := Nat.le_trans hsz hb1.size
      have hsz2 : w.heap.size ≤ (w1.alloc (.cells #[.int .i64 x.di, v1] 56)).heap.size := Nat.le_trans hsz1 hba.size
      have HSZ := ħ hsz2
      clear ho1 hbx hsz2
      obtain ⟨v2, w2, hrun, h2, h3, h4, h5⟩ := run_app_Wait (w1.alloc (.cells #[.int .i64 x.di, v1] 56)) w.heap.size u3 (l.take j).length (dcells dWait (l.take j) ps) ((HO1.out.up hba).1) w1.heap.size 0 1 1 [.int .i64 x.di, v1] rfl (fun r u hu => by rw [Nat.zero_add]; exact HBX.out.2 r u hu) (dWait.one (w := w1) (B := wk.heap.size) (p := v1) (x := x) HI1.out) (by omega) HSZ.out
      have hnew : OwnT dWait w2 w.heap.size v2 (ps ++ [v1]) (l.take (j + 1)) := by
        rw [HTK.out, HX.out]
        exact (HO1.out.up hba).snoc (dWait.up (dWait.mono HI1.out hsz) hba) h2 h3
      have HNEW := ħ hnew
      have HRUN := ħ hrun
      clear hrun h2 h3 h5 hnew
      go_wp2_with (at_builtin; refine Lib.wpList_append_run _ rfl (.tmp 11) (.tmp 17) _ _ rfl _ _ rfl rfl _ _ HRUN.out ?_)
      (first | (go_round; (case rel => exact ⟨j + 1, ps ++ [v1], by omega, by go_num, HNEW.out, Below.trans (bel_trans (bel_trans hbw hb1) hba) h4⟩); (case measure => (simp [intOf] <;> omega))) | (go_roundw; (case rel => exact ⟨j + 1, ps ++ [v1], by omega, by go_num, HNEW.out, Below.trans (bel_trans (bel_trans hbw hb1) hba) h4⟩); (case measure => (simp [intOf] <;> omega))) | (refine ⟨?_, by simp [intOf] <;> omega⟩; (repeat apply Exists.intro); refine ⟨?rel, ?fr⟩; (case fr => ((repeat' apply And.intro) <;> rfl)); (case rel => exact ⟨j + 1, ps ++ [v1], by omega, by go_num, HNEW.out, Below.trans (bel_trans (bel_trans hbw hb1) hba) h4⟩)))
    · go_wp2_with fail
      go_ret
      have e : l.take j = l := List.take_of_length_le (by rw [HN.out]; omega)
      rw [e] at hown
      exact ⟨_, _, rfl, hown, hbw⟩
set_option maxHeartbeats 2000000 in
theorem ref0_CopyHelds (A : Option Addr) (n c : Nat) (l : List HeldD) (w : World) (hl : HeldsR w A n l) (hs : BigH l) :
    Calls Tryz.prog 28 #[.slice A n c] w fun e w' => ∃ v, e = .returned v ∧ OwnHs w' w.heap.size v l ∧ Below w.heap.size w w' := by
  have HL := ħ hl
  have hN := hl.1
  have hn : n ≤ 800000000 := by rw [← hN]; exact hs.1
  have HN := ħ hN
  have HS := ħ hs
  clear hl hN hs
  suffices h : Calls Tryz.prog 28 #[.slice A n c] w fun e w' => ∃ v ps, e = .returned v ∧ OwnT dHeld w' w.heap.size v ps l ∧ Below w.heap.size w w' from h.mono fun e w' ⟨v, ps, h1, h2, h3⟩ => ⟨v, h1, ⟨ps, h2⟩, h3⟩
  go_enter Tryz.func28, Tryz.ntmps28
  go_wp2_with fail
  go_loopw [3, 4] (fun v i wr => ∃ (j : Nat) (ps : List Value), j ≤ n ∧ i = .int .i64 j ∧ OwnT dHeld wr w.heap.size v ps (l.take j) ∧ Below w.heap.size w wr) (fun _ i _ => n - (intOf i).toNat)
  case atStart => exact ⟨0, [], Nat.zero_le _, rfl, OwnT.nil _ _, Below.refl _ _⟩
  case round =>
    obtain ⟨j, ps, hj, rfl, hown, hbw⟩ := hrel
    (obtain ⟨wk, hwk⟩ : ∃ x, x = wr := ⟨_, rfl⟩); subst hwk
    by_cases hlt : j < n
    · obtain ⟨b, off, rfl, hb, hc⟩ := (HL.out.up hbw).2.2 (by omega)
      obtain ⟨B, m, d, ⟨c0, c1, c2, c3⟩, hin⟩ := hc j hlt
      have hm : m ≤ 800000000 := by rw [← hin.1]; exact HS.out.2 _ (getD_mem (by rw [HN.out]; exact hlt))
      have htk : l.take (j + 1) = l.take j ++ [hth l j] := by rw [List.take_succ_eq_append_getElem (by rw [HN.out]; exact hlt)]; simp [hth, show j < l.length by rw [HN.out]; exact hlt]
      have HTK := ħ htk
      obtain ⟨x, hx⟩ : ∃ x, hth l j = x := ⟨_, rfl⟩
      rw [hx] at hin c0 c1 c2
      have HX := ħ hx
      have HIN := ħ hin
      have hlenj : (l.take j).length ≤ j := by simp; omega
      have hsz := hbw.size
      have HO := ħ hown
      clear hc hin hx htk hown
      go_wp2_with fail
      refine (ref0_CopyHeld x B m d _ HIN.out hm).mono ?_
      rintro e w1 ⟨v1, rfl, ho1, hb1⟩
      have HO1 := ħ (HO.out.up hb1)
      have HI1 := ħ ho1
      have hbx := BoxR.new w1 [.int .i64 x.di, .int .i64 x.b.au, .int .i64 x.b.n, v1] 101
      have hba : Below w1.heap.size w1 (w1.alloc (.cells #[.int .i64 x.di, .int .i64 x.b.au, .int .i64 x.b.n, v1] 101)) := belB
      have HBX := ħ hbx
      have hsz1 : w.heap.size ≤ w1.heap.size := Nat.le_trans hsz hb1.size
      have hsz2 : w.heap.size ≤ (w1.alloc (.cells #[.int .i64 x.di, .int .i64 x.b.au, .int .i64 x.b.n, v1] 101)).heap.size := Nat.le_trans hsz1 hba.size
      have HSZ := ħ hsz2
      clear ho1 hbx hsz2
      obtain ⟨v2, w2, hrun, h2, h3, h4, h5⟩ := run_app_Held (w1.alloc (.cells #[.int .i64 x.di, .int .i64 x.b.au, .int .i64 x.b.n, v1] 101)) w.heap.size u3 (l.take j).length (dcells dHeld (l.take j) ps) ((HO1.out.up hba).1) w1.heap.size 0 1 1 [.int .i64 x.di, .int .i64 x.b.au, .int .i64 x.b.n, v1] rfl (fun r u hu => by rw [Nat.zero_add]; exact HBX.out.2 r u hu) (dHeld.one (w := w1) (B := wk.heap.size) (p := v1) (x := x) HI1.out) (by omega) HSZ.out
      have hnew : OwnT dHeld w2 w.heap.size v2 (ps ++ [v1]) (l.take (j + 1)) := by
        rw [HTK.out, HX.out]
        exact (HO1.out.up hba).snoc (dHeld.up (dHeld.mono HI1.out hsz) hba) h2 h3
      have HNEW := ħ hnew
      have HRUN := ħ hrun
      clear hrun h2 h3 h5 hnew
      go_wp2_with (at_builtin; refine Lib.wpList_append_run _ rfl (.tmp 11) (.tmp 17) _ _ rfl _ _ rfl rfl _ _ HRUN.out ?_)
      (first | (go_round; (case rel => exact ⟨j + 1, ps ++ [v1], by omega, by go_num, HNEW.out, Below.trans (bel_trans (bel_trans hbw hb1) hba) h4⟩); (case measure => (simp [intOf] <;> omega))) | (go_roundw; (case rel => exact ⟨j + 1, ps ++ [v1], by omega, by go_num, HNEW.out, Below.trans (bel_trans (bel_trans hbw hb1) hba) h4⟩); (case measure => (simp [intOf] <;> omega))) | (refine ⟨?_, by simp [intOf] <;> omega⟩; (repeat apply Exists.intro); refine ⟨?rel, ?fr⟩; (case fr => ((repeat' apply And.intro) <;> rfl)); (case rel => exact ⟨j + 1, ps ++ [v1], by omega, by go_num, HNEW.out, Below.trans (bel_trans (bel_trans hbw hb1) hba) h4⟩)))
    · go_wp2_with fail
      go_ret
      have e : l.take j = l := List.take_of_length_le (by rw [HN.out]; omega)
      rw [e] at hown
      exact ⟨_, _, rfl, hown, hbw⟩
end Go.Proofs.YtgfakefcmbpboaaGreat
