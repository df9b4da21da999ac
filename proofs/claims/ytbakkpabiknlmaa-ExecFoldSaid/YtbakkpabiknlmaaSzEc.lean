/- Exec at the program: what may be; copies of one's own; more that was seen. -/
import Derived.Test.YtbakkpabiknlmaaSzEa
namespace Go.Proofs.Ytbakkpabiknlmaa
open Go.RowKit
set_option linter.unusedSimpArgs false
set_option linter.unusedVariables false

noncomputable def exB (p : List PairD) (q : List AcctD) (s : List Int) (c : Int) : Bool := dec (MayT p q ∧ Seen s ∧ 0 ≤ c ∧ c ≤ (s.length : Int))
theorem exB_iff {p : List PairD} {q : List AcctD} {s : List Int} {c : Int} : exB p q s c = true ↔ (MayT p q ∧ Seen s ∧ 0 ≤ c ∧ c ≤ (s.length : Int)) := dec_iff
theorem exB_no {p : List PairD} {q : List AcctD} {s : List Int} {c : Int} (h : ¬ (MayT p q ∧ Seen s ∧ 0 ≤ c ∧ c ≤ (s.length : Int))) : false = exB p q s c := dec_false h
theorem comm_Digest (d : Int) (y : Bool) (w : World) (hy : digS d = y) : Calls Try.prog 31 #[.int .i64 d] w fun e w' => e = .returned (.bool y) ∧ w = w' :=
  (committee_Digest d w).mono fun e w' ⟨h1, h2⟩ => ⟨by rw [h1, hy], h2⟩
theorem take_succ_mem {s : List Int} {k : Nat} {x : Int} (h : k < s.length) (hx : nth s k = x) : (fun m => if m = x then true else decide (m ∈ s.take k)) = fun m => decide (m ∈ s.take (k + 1)) := by
  funext m
  rw [take_nth s k h, hx]
  by_cases e : m = x
  · simp [e]
  · simp [e]
theorem take_succ_nodup {s : List Int} {k : Nat} {x : Int} (h : k < s.length) (hx : nth s k = x) (hu : (s.take k).Nodup) (hn : x ∉ s.take k) : (s.take (k + 1)).Nodup := by
  rw [take_nth s k h, hx]
  refine List.nodup_append.2 ⟨hu, by simp, ?_⟩
  intro a ha b hb e
  simp at hb
  subst hb; subst e
  exact hn ha
theorem nodup_not {s : List Int} {k : Nat} {x : Int} (h : k < s.length) (hx : nth s k = x) (hm : x ∈ s.take k) : ¬ s.Nodup := fun hu => by
  have h1 : (s.take (k + 1)).Nodup := hu.sublist (List.take_sublist _ _)
  rw [take_nth s k h, hx] at h1
  exact (List.nodup_append.1 h1).2.2 x hm x (by simp) rfl
set_option maxRecDepth 100000 in
set_option maxHeartbeats 4000000 in
theorem exec_May (pA qA sA : Option Addr) (pn pc qn qc sn sc : Nat) (p : List PairD) (q : List AcctD) (s : List Int) (c : Int) (y : Bool) (w : World) (hp : PairsR w pA pn p) (hq : AcctsR w qA qn q) (hs : IntsR w sA sn s) (hy : exB p q s c = y) :
    Calls Try.prog 28 #[.agg #[.slice pA pn pc, .slice qA qn qc, .slice sA sn sc, .int .i64 c]] w fun e w' => e = .returned (.bool y) ∧ Below w.heap.size w w' := by
  have HP := Lib.hid hp
  have HQ := Lib.hid hq
  have HS := Lib.hid hs
  have HN := Lib.hid hs.1
  have hsn : sn ≤ 9223372036854775807 := hs.2.1
  have HY := Lib.hid hy
  clear hp hq hs hy
  have hmm := @run_makeMap Try.prog
  go_enter Try.func28, Try.ntmps28
  go_wp2_with fail
  go_loopw [10] (fun ix wr => ∃ k : Nat, k ≤ sn ∧ ix = .int .i64 k ∧ Hid (∀ j, j < k → digS (nth s j) = true) ∧ Hid ((s.take k).Nodup) ∧ Hid (MapR Value.bool false wr (w.heap.size + 1) (fun m => decide (m ∈ s.take k))) ∧ Hid (BoxR wr w.heap.size [.slice pA pn pc, .slice qA qn qc, .slice sA sn sc, .int .i64 c]) ∧ Below w.heap.size w wr) (fun ix _ => sn - (intOf ix).toNat)
  case atStart => exact ⟨0, Nat.zero_le _, rfl, Lib.hid (fun j hj => absurd hj (by omega)), Lib.hid (by simp), Lib.hid (MapR.made' (by simp) (by funext m; simp)), Lib.hid ((BoxR.new w [.slice pA pn pc, .slice qA qn qc, .slice sA sn sc, .int .i64 c] 28).up (by (repeat (first | (with_reducible exact Below.refl _ _) | (with_reducible assumption) | (with_reducible apply bel_alloc) | (with_reducible apply bel_drew) | (with_reducible apply bel_drewN) | (with_reducible refine bel_trans ?_ (by with_reducible assumption)) | (with_reducible refine bel_trans ?_ (HF.out _)) | (with_reducible refine bel_set ?_ (by simp) _) | (with_reducible refine bel_set ?_ (by simp; omega) _) | (with_reducible refine bel_set ?_ (by omega) _))))), by (repeat (first | (with_reducible exact Below.refl _ _) | (with_reducible assumption) | (with_reducible apply bel_alloc) | (with_reducible apply bel_drew) | (with_reducible apply bel_drewN) | (with_reducible refine bel_trans ?_ (by with_reducible assumption)) | (with_reducible refine bel_trans ?_ (HF.out _)) | (with_reducible refine bel_set ?_ (by simp) _) | (with_reducible refine bel_set ?_ (by simp; omega) _) | (with_reducible refine bel_set ?_ (by omega) _)))⟩
  case round =>
    obtain ⟨k, hk, rfl, HD, HU, HM, HB, hbw⟩ := hrel
    (obtain ⟨wk, hwk⟩ : ∃ x, x = wr := ⟨_, rfl⟩); subst hwk
    have b_0 := (HB.out).2 0 _ rfl; have b_1 := (HB.out).2 1 _ rfl; have b_2 := (HB.out).2 2 _ rfl; have b_3 := (HB.out).2 3 _ rfl
    have hg0 := HB.out.1
    by_cases hlt : k < sn
    · obtain ⟨b, off, rfl, hb, hc⟩ := (HS.out.up hbw).2.2 (by omega)
      have hck := hc k hlt
      clear hc
      obtain ⟨x, hx⟩ : ∃ x, nth s k = x := ⟨_, rfl⟩
      rw [hx] at hck
      have HX := Lib.hid hx
      have HKL : Hid (k < s.length) := Lib.hid (by rw [HN.out]; exact hlt)
      clear hx
      cases hd : digS x
      · have HDX := Lib.hid hd
        clear hd
        go_wp2_with (go_at_call 31; refine (comm_Digest x false _ HDX.out).mono ?_; rintro e w' ⟨rfl, rfl⟩)
        go_ret
        have hf : false = exB p q s c := exB_no fun h => by
          have := h.2.1.1 k HKL.out
          rw [HX.out, ← digS_iff, HDX.out] at this
          cases this
        exact ⟨ret_bool (by rw [← HY.out]; exact hf), by (repeat (first | (with_reducible exact Below.refl _ _) | (with_reducible assumption) | (with_reducible apply bel_alloc) | (with_reducible apply bel_drew) | (with_reducible apply bel_drewN) | (with_reducible refine bel_trans ?_ (by with_reducible assumption)) | (with_reducible refine bel_trans ?_ (HF.out _)) | (with_reducible refine bel_set ?_ (by simp) _) | (with_reducible refine bel_set ?_ (by simp; omega) _) | (with_reducible refine bel_set ?_ (by omega) _)))⟩
      · have HDX := Lib.hid hd
        clear hd
        have hlook := HM.out.lookup (P := Try.prog) Try.underlying90 Try.underlying3 (by kernel_rfl) x
        obtain ⟨z, hz⟩ : ∃ z, decide (x ∈ s.take k) = z := ⟨_, rfl⟩
        rw [hz] at hlook
        cases z
        · have HZ : Hid (x ∉ s.take k) := Lib.hid (by simpa using hz)
          clear hz
          go_wp2_with (first | (go_at_call 31; refine (comm_Digest x true _ HDX.out).mono ?_; rintro e w' ⟨rfl, rfl⟩) | (at_mapUpdate; refine wpList_mapUpd Value.bool false rfl _ _ _ 90 3 4 (.inl rfl) Try.underlying90 Try.underlying3 HM.out rfl _ rfl true rfl ?_; intro w2 hM2 hg2 hsz2))
          have hb2 : Below w.heap.size w w2 := bel_grown hbw hg2 (by omega)
          rw [take_succ_mem HKL.out HX.out] at hM2
          (first | (go_round; (case rel => exact ⟨k + 1, by omega, by go_num, Lib.hid (fun j hj => by (rcases Nat.lt_or_ge j k with h | h; exact HD.out j h; (obtain rfl : j = k := by omega); rw [HX.out]; exact HDX.out)), Lib.hid (take_succ_nodup HKL.out HX.out HU.out HZ.out), Lib.hid hM2, Lib.hid (HB.out.grown hg2 (by omega)), hb2⟩); (case measure => (simp [intOf] <;> omega))) | (go_roundw; (case rel => exact ⟨k + 1, by omega, by go_num, Lib.hid (fun j hj => by (rcases Nat.lt_or_ge j k with h | h; exact HD.out j h; (obtain rfl : j = k := by omega); rw [HX.out]; exact HDX.out)), Lib.hid (take_succ_nodup HKL.out HX.out HU.out HZ.out), Lib.hid hM2, Lib.hid (HB.out.grown hg2 (by omega)), hb2⟩); (case measure => (simp [intOf] <;> omega))) | (refine ⟨?_, by simp [intOf] <;> omega⟩; (repeat apply Exists.intro); refine ⟨?rel, ?fr⟩; (case fr => ((repeat' apply And.intro) <;> rfl)); (case rel => exact ⟨k + 1, by omega, by go_num, Lib.hid (fun j hj => by (rcases Nat.lt_or_ge j k with h | h; exact HD.out j h; (obtain rfl : j = k := by omega); rw [HX.out]; exact HDX.out)), Lib.hid (take_succ_nodup HKL.out HX.out HU.out HZ.out), Lib.hid hM2, Lib.hid (HB.out.grown hg2 (by omega)), hb2⟩)))
        · have HZ : Hid (x ∈ s.take k) := Lib.hid (by simpa using hz)
          clear hz
          go_wp2_with (go_at_call 31; refine (comm_Digest x true _ HDX.out).mono ?_; rintro e w' ⟨rfl, rfl⟩)
          go_ret
          exact ⟨ret_bool (by rw [← HY.out]; exact exB_no fun h => nodup_not HKL.out HX.out HZ.out h.2.1.2), by (repeat (first | (with_reducible exact Below.refl _ _) | (with_reducible assumption) | (with_reducible apply bel_alloc) | (with_reducible apply bel_drew) | (with_reducible apply bel_drewN) | (with_reducible refine bel_trans ?_ (by with_reducible assumption)) | (with_reducible refine bel_trans ?_ (HF.out _)) | (with_reducible refine bel_set ?_ (by simp) _) | (with_reducible refine bel_set ?_ (by simp; omega) _) | (with_reducible refine bel_set ?_ (by omega) _)))⟩
    · obtain rfl : k = sn := by omega
      have hseen : Seen s := ⟨fun j hj => digS_iff.1 (HD.out j (by rw [HN.out] at hj; exact hj)), by have := HU.out; rwa [List.take_of_length_le (by rw [HN.out]; omega)] at this⟩
      have HSE := Lib.hid hseen
      clear hseen
      obtain ⟨ym, hm⟩ : ∃ ym, mayT p q = ym := ⟨_, rfl⟩
      have HMT := Lib.hid hm
      clear hm
      by_cases h0 : 0 ≤ c
      case' neg => have h0d : decide (0 ≤ c) = false := by simpa using h0
      case' pos =>
        have h0d : decide (0 ≤ c) = true := by simpa using h0
        by_cases h1 : c ≤ (k : Int)
        case' neg => have h1d : decide (c ≤ (k : Int)) = false := by simpa using h1
        case' pos => have h1d : decide (c ≤ (k : Int)) = true := by simpa using h1
      all_goals
        cases ym
        all_goals
          go_wp2_with (go_at_call 38; refine (table_May pA pn pc p qA qn qc q _ _ (HP.out.up (by (repeat (first | (with_reducible exact Below.refl _ _) | (with_reducible assumption) | (with_reducible apply bel_alloc) | (with_reducible apply bel_drew) | (with_reducible apply bel_drewN) | (with_reducible refine bel_trans ?_ (by with_reducible assumption)) | (with_reducible refine bel_trans ?_ (HF.out _)) | (with_reducible refine bel_set ?_ (by simp) _) | (with_reducible refine bel_set ?_ (by simp; omega) _) | (with_reducible refine bel_set ?_ (by omega) _))))) (HQ.out.up (by (repeat (first | (with_reducible exact Below.refl _ _) | (with_reducible assumption) | (with_reducible apply bel_alloc) | (with_reducible apply bel_drew) | (with_reducible apply bel_drewN) | (with_reducible refine bel_trans ?_ (by with_reducible assumption)) | (with_reducible refine bel_trans ?_ (HF.out _)) | (with_reducible refine bel_set ?_ (by simp) _) | (with_reducible refine bel_set ?_ (by simp; omega) _) | (with_reducible refine bel_set ?_ (by omega) _))))) HMT.out).mono ?_; rintro e w1 ⟨rfl, hb1⟩; have hBB := HB.out.up hb1; have d_0 := (hBB).2 0 _ rfl; have d_1 := (hBB).2 1 _ rfl; have d_2 := (hBB).2 2 _ rfl; have d_3 := (hBB).2 3 _ rfl; have hgg := hBB.1; clear hBB)
          go_ret
          refine ⟨ret_bool ?_, by (repeat (first | (with_reducible exact Below.refl _ _) | (with_reducible assumption) | (with_reducible apply bel_alloc) | (with_reducible apply bel_drew) | (with_reducible apply bel_drewN) | (with_reducible refine bel_trans ?_ (by with_reducible assumption)) | (with_reducible refine bel_trans ?_ (HF.out _)) | (with_reducible refine bel_set ?_ (by simp) _) | (with_reducible refine bel_set ?_ (by simp; omega) _) | (with_reducible refine bel_set ?_ (by omega) _)))⟩
          rw [← HY.out, Bool.eq_iff_iff, exB_iff, ← mayT_iff, HMT.out, HN.out]
          have := HSE.out
          simp [*]
          try omega
theorem run_app_any (w : World) (B : Nat) (v : Value) (l : List Int) (hown : OwnI w B v l) (A : Option Addr) (m c : Nat) (e : List Int) (he : IntsR w A m e) (hlen : l.length + m ≤ 900000000) (hB : B ≤ w.heap.size) :
    ∃ v' w', (Builtin.append_ #[26, 26] 26 #[v, .slice A m c]).run Try.prog w = .ok v' w' ∧ OwnI w' B v' (l ++ e) ∧ w.grownBy w' v.ownBlock ∧ Below B w w' ∧ (v'.ownBlock = v.ownBlock ∨ v'.ownBlock = some w.heap.size) := by
  rcases Nat.eq_zero_or_pos m with h0 | h0
  · subst h0
    have e0 : e = [] := List.length_eq_zero_iff.1 he.1
    subst e0
    obtain ⟨i0, hi, hz, hz1, hz2⟩ := info_parts info_Int
    refine ⟨v, w, ?_, by simpa using hown, World.grownBy.refl _ _, Below.refl _ _, .inl rfl⟩
    have hsh := hown.2
    rcases hsh with ⟨rfl, _⟩ | ⟨g, cap, cur, rfl, _, _, hnc, _⟩
    · cases A <;> simp [Builtin.append_, run_underlying Try.underlying26, sizeOf, typeInfo, hi, Builtin.lenOf, Builtin.firstCells, loadCells, loadCellsFrom, storeCells]
    · cases A <;> simp [Builtin.append_, run_underlying Try.underlying26, sizeOf, typeInfo, hi, Builtin.lenOf, Builtin.firstCells, loadCells, loadCellsFrom, hnc, storeCells]
  · obtain ⟨b, off, rfl, hb, hc⟩ := he.2.2 h0
    obtain ⟨v', w', h1, h2, h3, h4, h5⟩ := run_app_Int w B v l.length (l.map (Value.int .i64)) hown b off m c (e.map (Value.int .i64)) (by simp [he.1])
      (fun j u hj => by
        have hjl : j < e.length := by have := (List.getElem?_eq_some_iff.1 hj).1; simpa using this
        have e2 : u = .int .i64 (nth e j) := by simp [List.getElem?_map, hjl, nth] at hj ⊢; exact hj.symm
        rw [e2]; exact hc j (by rw [he.1] at hjl; exact hjl)) (ints_one e) (by omega) hB
    refine ⟨v', w', h1, ?_, h3, h4, h5⟩
    unfold OwnI
    rw [List.map_append, List.length_append, he.1]
    exact h2
theorem wpList_appAny {w : World} {ops : Array Oper} {rest : List Oper} {o : Oper} {a : Act} {Q : Exit → Act → World → Prop} (hgd : o.guard = none) (s x : Operand)
    (ho : o.op = .call { callee := .builtin .append, args := #[s, x], argTypes := #[26, 26] }) (hty : o.type = 26)
    (B : Nat) (v : Value) (l : List Int) (hs : a.eval s = v) (hown : OwnI w B v l) (A : Option Addr) (m c : Nat) (e : List Int) (hx : a.eval x = .slice A m c) (he : IntsR w A m e)
    (hlen : l.length + m ≤ 900000000) (hB : B ≤ w.heap.size)
    (h : ∀ v' w', OwnI w' B v' (l ++ e) → w.grownBy w' v.ownBlock → Below B w w' → (v'.ownBlock = v.ownBlock ∨ v'.ownBlock = some w.heap.size) → wpList Try.prog ops Q rest (a.put o.dst v') w') : wpList Try.prog ops Q (o :: rest) a w := by
  obtain ⟨v', w', hrun, h2, h3, h4, h5⟩ := run_app_any w B v l hown A m c e he hlen hB
  exact Lib.wpList_append_run w hgd s x _ _ ho v _ hs hx v' w' (by rw [hty]; exact hrun) (h v' w' h2 h3 h4 h5)
/-- New room, empty. -/
theorem grow_run (w : World) (n : Nat) (h0 : 0 < n) (hn : n ≤ 900000000) : ∃ cap w', (Builtin.append_ #[26, 3] 26 #[.slice none 0 0, .int .i64 n]).run Try.prog w = .ok (.slice (some ⟨w.heap.size, 0, none⟩) n cap) w' ∧ n ≤ cap ∧ cap ≤ 9223372036854775807 ∧ OwnI w' w.heap.size (.slice (some ⟨w.heap.size, 0, none⟩) 0 cap) [] ∧ Below w.heap.size w w' := by
  obtain ⟨i0, hi, hz, hz1, hz2⟩ := info_parts info_Int
  have hrun := Lib.run_append_nil_zeros (P := Try.prog) w 26 3 26 3 i0 _ .i64 .i64 Try.underlying26 Try.underlying3 hi hz n h0 (by rw [hz1]; omega) (by omega) (by rw [hz2]; omega)
  have hge := grownCap_ge w n 0 3
  have hle := grownCap_le_maxLen w n 0 3 (by unfold maxLen; omega)
  refine ⟨_, _, hrun, hge, by simpa [maxLen] using hle, ?_, by (repeat (first | (with_reducible exact Below.refl _ _) | (with_reducible assumption) | (with_reducible apply bel_alloc) | (with_reducible apply bel_drew) | (with_reducible apply bel_drewN) | (with_reducible refine bel_trans ?_ (by with_reducible assumption)) | (with_reducible refine bel_trans ?_ (HF.out _)) | (with_reducible refine bel_set ?_ (by simp) _) | (with_reducible refine bel_set ?_ (by simp; omega) _) | (with_reducible refine bel_set ?_ (by omega) _)))⟩
  refine ⟨rfl, .inr ⟨w.heap.size, _, Builtin.zeroCells (Value.int .i64 0).cells n ++ Builtin.zeroCells (Value.int .i64 0).cells (grownCap w n 0 3 - n), rfl, Nat.le_refl _, ?_, Nat.zero_le _, hle, ?_, by simp⟩⟩
  · show (w.heap.push _)[w.heap.size]? = _
    simp
  · simp [size_zeroCells, Value.cells]
    omega
set_option maxRecDepth 100000 in
set_option maxHeartbeats 2000000 in
theorem slices_Grow_Int (n : Nat) (w : World) (hn : n ≤ 900000000) :
    Calls Try.prog 65 #[.slice none 0 0, .int .i64 n] w fun e w' => ∃ v, e = .returned v ∧ OwnI w' w.heap.size v [] ∧ Below w.heap.size w w' := by
  rcases Nat.eq_zero_or_pos n with h0 | h0
  · subst h0
    go_enter Try.func65, Try.ntmps65
    go_wp2_with fail
    go_ret
    exact ⟨_, rfl, OwnI.nil _ _, Below.refl _ _⟩
  · obtain ⟨cap, w', hrun, hnc, hcm, hown, hb⟩ := grow_run w n h0 hn
    have HR := Lib.hid hrun
    have HO := Lib.hid hown
    clear hrun hown
    go_enter Try.func65, Try.ntmps65
    go_wp2_with (at_builtin; refine Lib.wpList_append_run w rfl (.tmp 20) (.tmp 21) _ _ rfl (.slice none 0 0) (.int .i64 n) rfl (by first | rfl | simp [Act.eval]) _ w' HR.out ?_)
    go_ret
    exact ⟨_, rfl, HO.out, hb⟩
set_option maxRecDepth 100000 in
set_option maxHeartbeats 4000000 in
theorem slices_Concat_Int (g : Nat) (A B : Option Addr) (n c m d : Nat) (s l : List Int) (w : World) (hg : BoxR w g [.slice A n c, .slice B m d]) (hs : IntsR w A n s) (hl : IntsR w B m l) (hn : n ≤ 400000000) (hm : m ≤ 400000000) :
    Calls Try.prog 52 #[.slice (some ⟨g, 0, none⟩) 2 2] w fun e w' => ∃ v, e = .returned v ∧ OwnI w' w.heap.size v (s ++ l) ∧ Below w.heap.size w w' := by
  have HG := Lib.hid hg
  have HS := Lib.hid hs
  have HL := Lib.hid hl
  have hgl := hg.1
  have g_0 := (hg).2 0 _ rfl; have g_1 := (hg).2 1 _ rfl
  clear hs hl hg
  go_enter Try.func52, Try.ntmps52
  go_wp2_with fail
  go_loop [3, 11] (fun s3 ix => ∃ k : Nat, k ≤ 2 ∧ ix = .int .i64 k ∧ s3 = .int .i64 (if k = 0 then 0 else if k = 1 then (n : Int) else (n : Int) + (m : Int))) (fun _ ix => 2 - (intOf ix).toNat)
  case atStart => exact ⟨0, by omega, rfl, rfl⟩
  case round =>
    obtain ⟨k, hk, rfl, rfl⟩ := hrel
    have hk3 : k = 0 ∨ k = 1 ∨ k = 2 := by omega
    rcases hk3 with rfl | rfl | rfl
    · go_wp2_with fail
      (first | (go_round; (case rel => exact ⟨1, by omega, by go_num, by go_num⟩); (case measure => (simp [intOf] <;> omega))) | (go_roundw; (case rel => exact ⟨1, by omega, by go_num, by go_num⟩); (case measure => (simp [intOf] <;> omega))) | (refine ⟨?_, by simp [intOf] <;> omega⟩; (repeat apply Exists.intro); refine ⟨?rel, ?fr⟩; (case fr => ((repeat' apply And.intro) <;> rfl)); (case rel => exact ⟨1, by omega, by go_num, by go_num⟩)))
    · go_wp2_with fail
      (first | (go_round; (case rel => exact ⟨2, by omega, by go_num, by go_num⟩); (case measure => (simp [intOf] <;> omega))) | (go_roundw; (case rel => exact ⟨2, by omega, by go_num, by go_num⟩); (case measure => (simp [intOf] <;> omega))) | (refine ⟨?_, by simp [intOf] <;> omega⟩; (repeat apply Exists.intro); refine ⟨?rel, ?fr⟩; (case fr => ((repeat' apply And.intro) <;> rfl)); (case rel => exact ⟨2, by omega, by go_num, by go_num⟩)))
    · go_wp2_with (go_at_call 65; refine (show Calls _ _ #[_, .int .i64 ((n + m : Nat) : Int)] _ _ from (slices_Grow_Int (n + m) _ (by omega)).mono ?_); rintro e w1 ⟨v1, rfl, hown1, hb1⟩)
      have hgr := hb1.size
      have c0 := (hb1.cell (p := ⟨g, 0, none⟩) hgl).trans g_0
      have c1 := (hb1.cell (p := ⟨g, 1, none⟩) hgl).trans g_1
      have hg1 : g < w1.heap.size := Nat.lt_of_lt_of_le hgl hgr
      go_loopw [6, 27] (fun v ix wr => ∃ (k : Nat) (e : List Int), k ≤ 2 ∧ ix = .int .i64 k ∧ Hid (e = if k = 0 then [] else if k = 1 then s else s ++ l) ∧ OwnI wr w.heap.size v e ∧ Below w.heap.size w wr) (fun _ ix _ => 2 - (intOf ix).toNat)
      case atStart => exact ⟨0, [], by omega, rfl, rfl, hown1, hb1⟩
      case round =>
        clear hown1
        obtain ⟨k, e, hk, rfl, HE, hown, hbr⟩ := hrel
        (obtain ⟨wk, hwk⟩ : ∃ x, x = wr := ⟨_, rfl⟩); subst hwk
        have d0 := (hbr.cell (p := ⟨g, 0, none⟩) hgl).trans g_0
        have d1 := (hbr.cell (p := ⟨g, 1, none⟩) hgl).trans g_1
        have hgk : g < wk.heap.size := Nat.lt_of_lt_of_le hgl hbr.size
        have hzk := hbr.size
        have HO := Lib.hid hown
        clear hown
        have hk3 : k = 0 ∨ k = 1 ∨ k = 2 := by omega
        rcases hk3 with rfl | rfl | rfl
        · have e0 : e = [] := HE.out
          subst e0
          go_wp2_with (at_builtin; refine wpList_appAny rfl (.tmp 31) (.tmp 32) rfl rfl w.heap.size _ _ rfl HO.out A n c s (by first | rfl | simp [Act.eval]) (HS.out.up hbr) (by simp; omega) hzk ?_; intro v2 w2 hown2 hg2 hb2 hat2)
          (first | (go_round; (case rel => exact ⟨1, s, by omega, by go_num, rfl, by simpa using hown2, hbr.trans hb2⟩); (case measure => (simp [intOf] <;> omega))) | (go_roundw; (case rel => exact ⟨1, s, by omega, by go_num, rfl, by simpa using hown2, hbr.trans hb2⟩); (case measure => (simp [intOf] <;> omega))) | (refine ⟨?_, by simp [intOf] <;> omega⟩; (repeat apply Exists.intro); refine ⟨?rel, ?fr⟩; (case fr => ((repeat' apply And.intro) <;> rfl)); (case rel => exact ⟨1, s, by omega, by go_num, rfl, by simpa using hown2, hbr.trans hb2⟩)))
        · have e0 : e = s := HE.out
          subst e0
          go_wp2_with (at_builtin; refine wpList_appAny rfl (.tmp 31) (.tmp 32) rfl rfl w.heap.size _ _ rfl HO.out B m d l (by first | rfl | simp [Act.eval]) (HL.out.up hbr) (by rw [HS.out.1]; omega) hzk ?_; intro v2 w2 hown2 hg2 hb2 hat2)
          (first | (go_round; (case rel => exact ⟨2, _, by omega, by go_num, rfl, hown2, hbr.trans hb2⟩); (case measure => (simp [intOf] <;> omega))) | (go_roundw; (case rel => exact ⟨2, _, by omega, by go_num, rfl, hown2, hbr.trans hb2⟩); (case measure => (simp [intOf] <;> omega))) | (refine ⟨?_, by simp [intOf] <;> omega⟩; (repeat apply Exists.intro); refine ⟨?rel, ?fr⟩; (case fr => ((repeat' apply And.intro) <;> rfl)); (case rel => exact ⟨2, _, by omega, by go_num, rfl, hown2, hbr.trans hb2⟩)))
        · have e0 : e = s ++ l := HE.out
          go_wp2_with fail
          go_ret
          exact ⟨_, rfl, e0 ▸ HO.out, hbr⟩
end Go.Proofs.Ytbakkpabiknlmaa
