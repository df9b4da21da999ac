/- Joined: Ea Eb Ec Ed Eh Ei. -/
import Derived.Test.YtnngeaibdnnpoaaSkJ1
import Derived.Deep.RegionLaw
import Derived.Deep.RegionWith
import Derived.Deep.Cut
import Derived.Deep.CutRange
namespace Go.Proofs.Ytnngeaibdnnpoaa
set_option linter.unusedSimpArgs false
set_option linter.unusedVariables false

section
open Go.RowKit
def WithinI (l : List Int) (lo hi : Int) : Prop := ∀ j, j < l.length → lo ≤ nth l j ∧ nth l j ≤ hi
noncomputable def betS (l : List Int) (lo hi : Int) : Bool := dec (WithinI l lo hi)
set_option maxRecDepth 100000 in
set_option maxHeartbeats 1000000 in
theorem ref0_Between (A : Option Addr) (n c : Nat) (l : List Int) (lo hi : Int) (w : World) (hl : IntsR w A n l) :
    Calls Try.prog 70 #[.slice A n c, .int .i64 lo, .int .i64 hi] w fun e w' => e = .returned (.bool (betS l lo hi)) ∧ w = w' := by
  obtain ⟨h1, h2, h3⟩ := hl
  have H1 := Lib.hid h1; clear h1
  go_enter Try.func70, Try.ntmps70
  go_wp2
  go_loop [7] (fun i => ∃ k : Nat, k ≤ n ∧ i = .int .i64 k ∧ ∀ j, j < k → lo ≤ nth l j ∧ nth l j ≤ hi) (fun i => n - (intOf i).toNat)
  case atStart => exact ⟨0, Nat.zero_le _, rfl, fun j hj => absurd hj (by omega)⟩
  case round =>
    obtain ⟨k, hk, rfl, hr⟩ := hrel
    have HR := Lib.hid hr; clear hr
    by_cases hlt : k < n
    · obtain ⟨b, off, rfl, _, hc⟩ := h3 (by omega)
      have hck := hc k hlt
      clear hc h3
      have bad : ¬ (lo ≤ nth l k ∧ nth l k ≤ hi) → false = betS l lo hi := fun h => dec_false fun g => h (g k (by rw [H1.out]; exact hlt))
      have B := Lib.hid bad; clear bad
      go_wp2
      all_goals first
        | (go_round
           case rel =>
             refine ⟨k + 1, by omega, by go_num, fun j hj => ?_⟩
             by_cases hjk : j = k
             · subst hjk; exact ⟨by omega, by omega⟩
             · exact HR.out j (by omega)
           case measure => simp [intOf]; omega)
        | (go_ret; exact ⟨ret_bool (B.out (by omega)), rfl⟩)
    · go_wp2
      go_ret
      exact ⟨ret_bool (dec_true fun j hj => HR.out j (by rw [H1.out] at hj; omega)), rfl⟩
theorem ref0_Digests (A : Option Addr) (n c : Nat) (l : List Int) (w : World) (hl : IntsR w A n l) :
    Calls Try.prog 51 #[.slice A n c] w fun e w' => e = .returned (.bool (betS l 1 65536)) ∧ w = w' := by
  go_enter Try.func51, Try.ntmps51
  go_wp2_with (go_at_call 70; refine (ref0_Between _ _ _ l _ _ _ hl).mono ?_; rintro e w' ⟨rfl, rfl⟩)
  go_ret
  exact ⟨rfl, rfl⟩
theorem ext_nth {l m : List Int} (h : l.length = m.length) (hh : ∀ j, j < l.length → nth l j = nth m j) : l = m := by
  apply List.ext_getElem h
  intro i h1 h2
  have := hh i h1
  simpa [nth, h1, h2] using this
noncomputable def eqL (l m : List Int) : Bool := dec (l = m)
set_option maxRecDepth 100000 in
set_option maxHeartbeats 1000000 in
theorem ref0_EqNumbers (A : Option Addr) (n c : Nat) (l : List Int) (B : Option Addr) (m d : Nat) (k : List Int) (w : World) (hl : IntsR w A n l) (hk : IntsR w B m k) :
    Calls Try.prog 12 #[.slice A n c, .slice B m d] w fun e w' => e = .returned (.bool (eqL l k)) ∧ Below w.heap.size w w' := by
  have HL := Lib.hid hl
  have HK := Lib.hid hk
  have hn : n ≤ 9223372036854775807 := hl.2.1
  have N1 := Lib.hid hl.1
  have N2 := Lib.hid hk.1
  clear hl hk
  by_cases hnm : n = m
  · subst hnm
    go_enter Try.func12, Try.ntmps12
    go_wp2
    go_loopw [5] (fun i wr => ∃ j : Nat, j ≤ n ∧ i = .int .i64 j ∧ Hid (∀ q, q < j → nth l q = nth k q) ∧ Below w.heap.size w wr) (fun i _ => n - (intOf i).toNat)
    case atStart => exact ⟨0, Nat.zero_le _, rfl, fun q hq => absurd hq (by omega), by (repeat (first | (with_reducible exact Below.refl _ _) | (with_reducible assumption) | (with_reducible apply bel_alloc) | (with_reducible apply bel_drew) | (with_reducible apply bel_drewN) | (with_reducible refine bel_trans ?_ (by with_reducible assumption)) | (with_reducible refine bel_trans ?_ (HF.out _)) | (with_reducible refine bel_set ?_ (by simp) _) | (with_reducible refine bel_set ?_ (by simp; omega) _) | (with_reducible refine bel_set ?_ (by omega) _)))⟩
    case round =>
      obtain ⟨j, hj, rfl, heq, hbw⟩ := hrel
      by_cases hlt : j < n
      · obtain ⟨b1, o1, rfl, hb1, hc1⟩ := (HL.out.up hbw).2.2 (Nat.lt_of_le_of_lt (Nat.zero_le j) hlt)
        obtain ⟨b2, o2, rfl, hb2, hc2⟩ := (HK.out.up hbw).2.2 (Nat.lt_of_le_of_lt (Nat.zero_le j) hlt)
        have q1 := hc1 j hlt
        have q2 := hc2 j hlt
        clear hc1 hc2
        by_cases hq : nth l j = nth k j
        · have hne : (nth l j != nth k j) = false := by simp [hq]
          have HQ := Lib.hid hq; clear hq
          go_wp2_with fail
          refine wp_region_fam (by kernel_rfl) (by kernel_rfl) (fun ι F hne hF hcl => ?_)
          have hcF0 := fun n o => (bcell (hF n)).1 (b1) o (by first | (simp; done) | (simp; omega) | omega)
          have hcF1 := fun n o => (bcell (hF n)).1 (b2) o (by first | (simp; done) | (simp; omega) | omega)
          have HF := Lib.hid hF; clear hF
          have HC := Lib.hid hcl; clear hcl
          repeat (any_goals (first
           | go_big_quiet_step (first | (fail))
           | (refine wpQuiet_guard _ _ _ rfl rfl ?_; (fail_if_success (intro b' hb; have h2 := hb.symm; have : b' = true := h2.trans (by with_reducible rfl))); (fail_if_success (intro b' hb; have h2 := hb.symm; have : b' = false := h2.trans (by with_reducible rfl))); intro b' hb; simp only [hb]; cases b' <;> (try simp only [Bool.not_eq_true', Bool.not_eq_false', decide_eq_true_eq, decide_eq_false_iff_not, Int.not_lt, Int.not_le, Bool.and_eq_true, Bool.or_eq_true, Bool.or_eq_false_iff, beq_iff_eq, beq_eq_false_iff_ne, Int.natCast_pos] at hb))))
          all_goals (refine wpQuiet_nil ?_; intro nq; go_wp2_with (fail))
          (first | (go_round; (case rel => (refine ⟨j + 1, by omega, by go_num, fun q hq => ?_, by (repeat (first | (with_reducible exact Below.refl _ _) | (with_reducible assumption) | (with_reducible apply bel_alloc) | (with_reducible apply bel_drew) | (with_reducible apply bel_drewN) | (with_reducible refine bel_trans ?_ (by with_reducible assumption)) | (with_reducible refine bel_trans ?_ (HF.out _)) | (with_reducible refine bel_set ?_ (by simp) _) | (with_reducible refine bel_set ?_ (by simp; omega) _) | (with_reducible refine bel_set ?_ (by omega) _)))⟩; rcases Nat.lt_or_ge q j with h1 | h1; exact heq.out q h1; obtain rfl : q = j := (by omega); exact HQ.out)); (case measure => (simp [intOf] <;> omega))) | (go_roundw; (case rel => (refine ⟨j + 1, by omega, by go_num, fun q hq => ?_, by (repeat (first | (with_reducible exact Below.refl _ _) | (with_reducible assumption) | (with_reducible apply bel_alloc) | (with_reducible apply bel_drew) | (with_reducible apply bel_drewN) | (with_reducible refine bel_trans ?_ (by with_reducible assumption)) | (with_reducible refine bel_trans ?_ (HF.out _)) | (with_reducible refine bel_set ?_ (by simp) _) | (with_reducible refine bel_set ?_ (by simp; omega) _) | (with_reducible refine bel_set ?_ (by omega) _)))⟩; rcases Nat.lt_or_ge q j with h1 | h1; exact heq.out q h1; obtain rfl : q = j := (by omega); exact HQ.out)); (case measure => (simp [intOf] <;> omega))) | (refine ⟨?_, by simp [intOf] <;> omega⟩; (repeat apply Exists.intro); refine ⟨?rel, ?fr⟩; (case fr => ((repeat' apply And.intro) <;> rfl)); (case rel => (refine ⟨j + 1, by omega, by go_num, fun q hq => ?_, by (repeat (first | (with_reducible exact Below.refl _ _) | (with_reducible assumption) | (with_reducible apply bel_alloc) | (with_reducible apply bel_drew) | (with_reducible apply bel_drewN) | (with_reducible refine bel_trans ?_ (by with_reducible assumption)) | (with_reducible refine bel_trans ?_ (HF.out _)) | (with_reducible refine bel_set ?_ (by simp) _) | (with_reducible refine bel_set ?_ (by simp; omega) _) | (with_reducible refine bel_set ?_ (by omega) _)))⟩; rcases Nat.lt_or_ge q j with h1 | h1; exact heq.out q h1; obtain rfl : q = j := (by omega); exact HQ.out))))
        · have hne : (nth l j != nth k j) = true := by simp [hq]
          have HQ := Lib.hid hq; clear hq
          go_wp2_with fail
          refine wp_region_fam (by kernel_rfl) (by kernel_rfl) (fun ι F hne hF hcl => ?_)
          have hcF0 := fun n o => (bcell (hF n)).1 (b1) o (by first | (simp; done) | (simp; omega) | omega)
          have hcF1 := fun n o => (bcell (hF n)).1 (b2) o (by first | (simp; done) | (simp; omega) | omega)
          have HF := Lib.hid hF; clear hF
          have HC := Lib.hid hcl; clear hcl
          repeat (any_goals (first
           | go_big_quiet_step (first | (fail))
           | (refine wpQuiet_guard _ _ _ rfl rfl ?_; (fail_if_success (intro b' hb; have h2 := hb.symm; have : b' = true := h2.trans (by with_reducible rfl))); (fail_if_success (intro b' hb; have h2 := hb.symm; have : b' = false := h2.trans (by with_reducible rfl))); intro b' hb; simp only [hb]; cases b' <;> (try simp only [Bool.not_eq_true', Bool.not_eq_false', decide_eq_true_eq, decide_eq_false_iff_not, Int.not_lt, Int.not_le, Bool.and_eq_true, Bool.or_eq_true, Bool.or_eq_false_iff, beq_iff_eq, beq_eq_false_iff_ne, Int.natCast_pos] at hb))))
          all_goals (refine wpQuiet_nil ?_; intro nq; go_wp2_with (fail))
          go_ret
          exact ⟨ret_bool (dec_false fun e => HQ.out (by rw [e])), by (repeat (first | (with_reducible exact Below.refl _ _) | (with_reducible assumption) | (with_reducible apply bel_alloc) | (with_reducible apply bel_drew) | (with_reducible apply bel_drewN) | (with_reducible refine bel_trans ?_ (by with_reducible assumption)) | (with_reducible refine bel_trans ?_ (HF.out _)) | (with_reducible refine bel_set ?_ (by simp) _) | (with_reducible refine bel_set ?_ (by simp; omega) _) | (with_reducible refine bel_set ?_ (by omega) _)))⟩
      · go_wp2
        go_ret
        exact ⟨ret_bool (dec_true (ext_nth (N1.out.trans N2.out.symm) (fun q hq => heq.out q (by rw [N1.out] at hq; omega)))), by (repeat (first | (with_reducible exact Below.refl _ _) | (with_reducible assumption) | (with_reducible apply bel_alloc) | (with_reducible apply bel_drew) | (with_reducible apply bel_drewN) | (with_reducible refine bel_trans ?_ (by with_reducible assumption)) | (with_reducible refine bel_trans ?_ (HF.out _)) | (with_reducible refine bel_set ?_ (by simp) _) | (with_reducible refine bel_set ?_ (by simp; omega) _) | (with_reducible refine bel_set ?_ (by omega) _)))⟩
  · go_enter Try.func12, Try.ntmps12
    go_wp2
    go_ret
    exact ⟨ret_bool (dec_false fun e => hnm (by rw [← N1.out, ← N2.out, e])), by (repeat (first | (with_reducible exact Below.refl _ _) | (with_reducible assumption) | (with_reducible apply bel_alloc) | (with_reducible apply bel_drew) | (with_reducible apply bel_drewN) | (with_reducible refine bel_trans ?_ (by with_reducible assumption)) | (with_reducible refine bel_trans ?_ (HF.out _)) | (with_reducible refine bel_set ?_ (by simp) _) | (with_reducible refine bel_set ?_ (by simp; omega) _) | (with_reducible refine bel_set ?_ (by omega) _)))⟩
theorem eqL_self (l : List Int) : eqL l l = true := dec_iff.2 rfl
theorem ref0_EqNumbers_same (A : Option Addr) (n c : Nat) (l : List Int) (B : Option Addr) (m d : Nat) (w : World) (hl : IntsR w A n l) (hk : IntsR w B m l) :
    Calls Try.prog 12 #[.slice A n c, .slice B m d] w fun e w' => e = .returned (.bool true) ∧ Below w.heap.size w w' :=
  (ref0_EqNumbers A n c l B m d l w hl hk).mono fun e w' ⟨h1, h2⟩ => ⟨by rw [h1, eqL_self], h2⟩
set_option maxRecDepth 100000 in
set_option maxHeartbeats 1000000 in
theorem ref0_CopyNumbers (A : Option Addr) (n c : Nat) (l : List Int) (w : World) (hl : IntsR w A n l) (hn : n ≤ 1000000000) :
    Calls Try.prog 53 #[.slice A n c] w fun e w' => ∃ v, e = .returned v ∧ OwnI w' w.heap.size v l ∧ Below w.heap.size w w' := by
  have HL := Lib.hid hl
  have hN := hl.1
  have HN := Lib.hid hN
  clear hl hN
  go_enter Try.func53, Try.ntmps53
  go_wp2_with fail
  go_loopw [3, 4] (fun v i wr => ∃ j : Nat, j ≤ n ∧ i = .int .i64 j ∧ OwnI wr w.heap.size v (l.take j) ∧ Below w.heap.size w wr) (fun _ i _ => n - (intOf i).toNat)
  case atStart => exact ⟨0, Nat.zero_le _, rfl, OwnI.nil _ _, Below.refl _ _⟩
  case round =>
    obtain ⟨j, hj, rfl, hown, hbw⟩ := hrel
    by_cases hlt : j < n
    · obtain ⟨b, off, rfl, hb, hc⟩ := (HL.out.up hbw).2.2 (by omega)
      have hcj := hc j hlt
      clear hc
      have hlenj : (l.take j).length ≤ j := by simp; omega
      have hsz := hbw.size
      go_wp2_with (at_builtin; refine wpList_app1 rfl (.tmp 11) (.tmp 16) rfl (w.heap.size) u3 _ rfl (hown.alloc _) _ (nth l j) rfl (cell0_alloc _ _ _) (by omega) (le_alloc hsz) ?_; intro v1 w1 hown1 hg1 hbel1 hat1)
      (first | (go_round; (case rel => exact ⟨j + 1, by omega, by go_num, by rw [take_nth l j (by rw [HN.out]; exact hlt)]; exact hown1, Below.trans (bel_alloc hbw) hbel1⟩); (case measure => (simp [intOf] <;> omega))) | (go_roundw; (case rel => exact ⟨j + 1, by omega, by go_num, by rw [take_nth l j (by rw [HN.out]; exact hlt)]; exact hown1, Below.trans (bel_alloc hbw) hbel1⟩); (case measure => (simp [intOf] <;> omega))) | (refine ⟨?_, by simp [intOf] <;> omega⟩; (repeat apply Exists.intro); refine ⟨?rel, ?fr⟩; (case fr => ((repeat' apply And.intro) <;> rfl)); (case rel => exact ⟨j + 1, by omega, by go_num, by rw [take_nth l j (by rw [HN.out]; exact hlt)]; exact hown1, Below.trans (bel_alloc hbw) hbel1⟩)))
    · go_wp2_with fail
      go_ret
      have e : l.take j = l := List.take_of_length_le (by rw [HN.out]; omega)
      exact ⟨_, rfl, e ▸ hown, hbw⟩
theorem info_Int : (Try.prog.info? 3).map (fun i => (i.zero, i.size, i.bytes)) = some (some (.int .i64 0), 1, 8) := by kernel_rfl
theorem run_app_Int (w : World) (B : Nat) (v : Value) (n : Nat) (xs : List Value) (hown : w.ownsRow B 3 1 v n xs) (vb off m c : Nat) (e : List Value) (hm : e.length = m * 1) (hv : ∀ j u, e[j]? = some u → w.cell? ⟨vb, off + j, none⟩ = some u) (h1e : ∀ u ∈ e, u.oneCell' = true) (hn : n + m ≤ 1000000000) (hB : B ≤ w.heap.size) :
    ∃ v' w', (Builtin.append_ #[31, 31] 31 #[v, .slice (some ⟨vb, off, none⟩) m c]).run Try.prog w = .ok v' w' ∧ w'.ownsRow B 3 1 v' (n + m) (xs ++ e) ∧ w.grownBy w' v.ownBlock ∧ Below B w w' ∧ (v'.ownBlock = v.ownBlock ∨ v'.ownBlock = some w.heap.size) := by
  obtain ⟨i0, hi, hz, hz1, hz2⟩ := info_parts info_Int
  obtain ⟨v', w', hrun, h2, h3, _, h5⟩ := run_append_own_at (P := Try.prog) w B 31 31 3 i0 _ 1 8 Try.underlying31 hi hz hz1 hz2 rfl (by omega) v n xs hown ⟨vb, off, none⟩ m c e hm
    (by intro j u hu; rw [Addr.add_lit]; exact hv j u hu) h1e (by simp only [maxLen]; omega) (by omega) hB
  exact ⟨v', w', hrun, h2, h3, ⟨h3.os, h3.tape, h3.output, h3.size, fun k hk => h3.block k (by omega) (fun e => by have := (own_lt hown k e.symm).1; omega)⟩, h5⟩
set_option maxHeartbeats 1000000 in
set_option maxRecDepth 100000 in
theorem slices_Clone_Int (A : Option Addr) (n c : Nat) (xs : List Value) (w : World) (hr : RowV w A n 1 xs) (h1x : ∀ u ∈ xs, u.oneCell' = true) (hn : n ≤ 900000000) :
    Calls Try.prog 65 #[.slice A n c] w fun r w' => ∃ v', r = .returned v' ∧ w'.ownsRow w.heap.size 3 1 v' n xs ∧ Below w.heap.size w w' := by
  obtain ⟨g1, g2, g3⟩ := hr
  cases A with
  | none =>
    have h0 : n = 0 := by
      rcases Nat.eq_zero_or_pos n with h | h
      · exact h
      · obtain ⟨b, off, e, _⟩ := g3 h; cases e
    subst h0
    have hx : xs = [] := by simpa using g1
    subst hx
    clear g1 g2 g3
    have hnil := Lib.run_eql_slice_nil (P := Try.prog) w 31 3 none 0 c 0 0 Try.underlying31
    go_enter Try.func65, Try.ntmps65
    go_wp2_with fail
    go_ret
    exact ⟨_, rfl, own_nil _ _ _ _, Below.refl _ _⟩
  | some a =>
    have hown : (w.alloc (.cells #[] 3)).ownsRow w.heap.size 3 1 (.slice (some ⟨w.heap.size, 0, none⟩) 0 0) 0 [] :=
      ⟨rfl, .inr ⟨w.heap.size, 0, #[], rfl, Nat.le_refl _, heap_alloc_new w _, Nat.le_refl _, by decide, rfl, rfl⟩⟩
    rcases Nat.eq_zero_or_pos n with h0 | h0
    · subst h0
      have hx : xs = [] := by simpa using g1
      subst hx
      clear g1 g2 g3
      obtain ⟨b, off, sp⟩ := a
      have hrun : (Builtin.append_ #[31, 31] 31 #[.slice (some ⟨w.heap.size, 0, none⟩) 0 0, .slice (some ⟨b, off, sp⟩) 0 c]).run Try.prog (w.alloc (.cells #[] 3)) = .ok (.slice (some ⟨w.heap.size, 0, none⟩) 0 0) (w.alloc (.cells #[] 3)) := by
        obtain ⟨i0, hi, hz, hz1, hz2⟩ := info_parts info_Int
        simp [Builtin.append_, run_underlying Try.underlying31, sizeOf, typeInfo, hi, Builtin.lenOf, Builtin.firstCells, loadCells, loadCellsFrom, storeCells]
      have HR := Lib.hid hrun
      clear hrun
      have hnil := Lib.run_eql_slice_nil (P := Try.prog) w 31 3 (some ⟨b, off, sp⟩) 0 c 0 0 Try.underlying31
      go_enter Try.func65, Try.ntmps65
      go_wp2_with (at_builtin; refine Lib.wpList_append_run _ rfl _ _ _ _ rfl _ _ rfl rfl _ _ HR.out ?_)
      go_ret
      exact ⟨_, rfl, hown, (Below.refl _ _).alloc (Nat.le_refl _) _⟩
    · obtain ⟨b, off, e, hb, hc⟩ := g3 h0
      injection e with e
      subst e
      have hba : Below w.heap.size w (w.alloc (.cells #[] 3)) := (Below.refl _ _).alloc (Nat.le_refl _) _
      obtain ⟨v', w', hrun, h2, h3, h4, h5⟩ := run_app_Int (w.alloc (.cells #[] 3)) w.heap.size _ 0 [] hown b off n c xs g1 (fun j u hj => (hba.cell (p := ⟨b, off + j, none⟩) hb).trans (hc j u hj)) h1x (by omega) (by simp)
      rw [Nat.zero_add, List.nil_append] at h2
      have HR := Lib.hid hrun
      have H2 := Lib.hid h2
      have hbel : Below w.heap.size w w' := hba.trans h4
      clear hrun h2 h3 h4 h5 g1 g2 g3 hc hown
      have hnil := Lib.run_eql_slice_nil (P := Try.prog) w 31 3 (some ⟨b, off, none⟩) n c 0 0 Try.underlying31
      go_enter Try.func65, Try.ntmps65
      go_wp2_with (at_builtin; refine Lib.wpList_append_run _ rfl _ _ _ _ rfl _ _ rfl rfl _ _ HR.out ?_)
      go_ret
      exact ⟨_, rfl, H2.out, hbel⟩
def SlP.v (s : SlP) : Value := .slice s.A s.n s.c
theorem ints_flat (l : List Int) : flat (fun z : Int => [Value.int .i64 z]) l = l.map (Value.int .i64) := by
  induction l with
  | nil => rfl
  | cons x l ih => unfold flat at ih ⊢; rw [List.map_cons, List.flatten_cons, ih]; rfl
theorem IntsR.row {w : World} {A : Option Addr} {n : Nat} {l : List Int} (h : IntsR w A n l) : RowV w A n 1 (l.map (Value.int .i64)) := by
  obtain ⟨h1, h2, h3⟩ := h
  refine ⟨by simp [h1], h2, fun hn => ?_⟩
  obtain ⟨b, off, rfl, hb, hc⟩ := h3 hn
  refine ⟨b, off, rfl, hb, fun j u hj => ?_⟩
  have hjl : j < l.length := by
    have := (List.getElem?_eq_some_iff.1 hj).1
    simpa using this
  have e : u = .int .i64 (nth l j) := by
    simp [List.getElem?_map, hjl, nth] at hj ⊢
    exact hj.symm
  rw [e]
  exact hc j (by omega)
theorem ints_one (l : List Int) : ∀ u ∈ l.map (Value.int .i64), u.oneCell' = true := by
  intro u hu
  obtain ⟨z, _, rfl⟩ := List.mem_map.1 hu
  rfl
theorem clone_Ints (A : Option Addr) (n c : Nat) (l : List Int) (w : World) (hl : IntsR w A n l) (hn : n ≤ 900000000) :
    Calls Try.prog 65 #[.slice A n c] w fun e w' => ∃ s : SlP, e = .returned (.slice s.A s.n s.c) ∧ OwnI w' w.heap.size s.v l ∧ Below w.heap.size w w' :=
  (slices_Clone_Int A n c _ w hl.row (ints_one l) hn).mono fun e w' ⟨v, he, ho, hb⟩ => by
    obtain ⟨A', c', e', _⟩ := own_row ho (by omega)
    subst e'
    refine ⟨⟨A', n, c'⟩, he, ?_, hb⟩
    unfold OwnI
    rw [hl.1]
    exact ho
end
section
open Go.RowKit Go.ChangeShapes Go.WideShapes Go.ChangeAt
structure HeldD where
  di : Int
  b : BatchD
deriving Inhabited
def hth (l : List HeldD) (i : Nat) : HeldD := l.getD i default
section
variable {H : Type} {enc : TypeId × Value → H} {w : World} {base : Nat} {spare : Nat → Bool} {held : Bool}
theorem bytes_int : Try.prog.bytesOf 3 = 8 := by kernel_rfl
/-- A slice of elements that hold slices, opened. R: how an element is read. -/
theorem open_deepS {α : Type} [Inhabited α] {k kb : Nat} {G : α → Prop} {R : List Value → α → Prop} {t te : TypeId} (hk0 : 0 < k) (hkb : 0 < kb) (ht : Try.prog.underlying t = some (.slice te)) (hc : Try.prog.cellsOf te = k) (hb0 : Try.prog.bytesOf te = kb)
    (hopen : ∀ (fuel : Nat) (cs : List Value) (x : DataW H × List MemPlace), DataW.trod enc Try.prog w base spare held fuel te cs = some x → Wok te x.1 → cs.length = k → ∃ v, R cs v ∧ G v)
    {fuel : Nat} {cs : List Value} {x : DataW H × List MemPlace} (h : DataW.trod enc Try.prog w base spare held fuel t cs = some x) (hw : Wok t x.1) :
    ∃ (A : Option Addr) (n c : Nat) (l : List α), cs = [.slice A n c] ∧ l.length = n ∧ n ≤ 9223372036854775807 ∧ n * kb ≤ 140737488355328 ∧ (∀ v ∈ l, G v) ∧ (0 < n → ∃ b off, A = some ⟨b, off, none⟩ ∧ b < w.heap.size ∧ ∀ j, j < n → ∃ cs' : List Value, cs'.length = k ∧ R cs' (l.getD j default) ∧ ∀ r v, cs'[r]? = some v → w.cell? ⟨b, off + j * k + r, none⟩ = some v) := by
  rcases Deep.open_slice ht h with ⟨hcs, _⟩ | ⟨a, len, cap, m, n, D, Pl, hcs, _, hl, hm, hmm, hxx, hx⟩
  · exact ⟨none, 0, 0, [], hcs, rfl, by omega, by omega, (fun v hv => by cases hv), fun h => absurd h (by omega)⟩
  · have hlen : len ≤ m := by rw [hmm]; split <;> omega
    rw [hxx] at hw
    have hq : len * kb ≤ 140737488355328 := by
      have := hw.len ht
      rw [hb0] at this
      simp only [List.length_map, List.length_range, reachBytes] at this
      have h2 : len * kb ≤ (len + (m - len)) * kb := Nat.mul_le_mul_right _ (by omega)
      omega
    have hcell : ∀ i, i < len → ∃ v : α, G v ∧ ∃ cs' : List Value, cs'.length = k ∧ R cs' v ∧ ∀ j u, cs'[j]? = some u → w.cell? (a.add (i * k + j)) = some u := by
      intro i hi
      obtain ⟨cs', h1, h2⟩ := hx i (by omega)
      rw [hc] at h1
      obtain ⟨_, hlen', hat⟩ := World.cells?_some h1
      obtain ⟨v, hR, hG⟩ := hopen _ _ _ h2 (hw.elem ht (List.mem_map.2 ⟨i, List.mem_range.2 hi, rfl⟩)) hlen'
      refine ⟨v, hG, cs', hlen', hR, fun j u hj => ?_⟩
      have hjk : j < k := by
        have := (List.getElem?_eq_some_iff.1 hj).1
        omega
      have := hat j hjk
      rw [Deep.add_add] at this
      rw [this]; exact hj
    obtain ⟨f, hf⟩ := Deep.choose_lt (α := α) hcell
    have hg : ∀ i, i < len → ((List.range len).map f).getD i default = f i := fun i hi => by simp [hi]
    refine ⟨some a, len, cap, (List.range len).map f, hcs, by simp, by have : cap ≤ 9223372036854775807 := hm; omega, hq, fun v hv => ?_, fun hn => ?_⟩
    · rw [List.mem_map] at hv
      obtain ⟨i, hi, rfl⟩ := hv
      exact (hf i (List.mem_range.1 hi)).1
    · obtain ⟨b, off, spot⟩ := a
      obtain ⟨_, cs0, hl0, _, h0⟩ := hf 0 hn
      have hc0 := h0 0 _ (List.getElem?_eq_getElem (by omega))
      have hspot : spot = none := by simpa [Addr.add] using World.cell?_spot hc0
      subst hspot
      refine ⟨b, off, rfl, by simpa [Addr.add] using World.block_lt_of_cell? w _ hc0, fun j hj => ?_⟩
      obtain ⟨_, cs1, hl1, hr, h1⟩ := hf j hj
      rw [hg j hj]
      refine ⟨cs1, hl1, hr, fun r v hv => ?_⟩
      have := h1 r v hv
      by_cases hz : j * k + r = 0
      · have hj0 : j * k = 0 := by omega
        have hr0 : r = 0 := by omega
        rw [hj0, hr0] at this ⊢
        simpa [Addr.add] using this
      · have e : (⟨b, off, none⟩ : Addr).add (j * k + r) = ⟨b, off + j * k + r, none⟩ := by simp only [Addr.add, hz, if_false, Nat.add_assoc]
        rw [← e]; exact this
set_option maxRecDepth 100000 in
theorem open_IntsS {fuel : Nat} {cs : List Value} {x : DataW H × List MemPlace} (h : DataW.trod enc Try.prog w base spare held fuel 31 cs = some x) (hw : Wok 31 x.1) : ∃ A n c l, cs = [.slice A n c] ∧ IntsR w A n l ∧ n ≤ 17592186044416 ∧ n ≤ c := by
  obtain ⟨A, n, c, l, e, h1, h2, h3, h4, h5, h6⟩ := open_flatS (e := fun z : Int => [Value.int .i64 z]) (G := fun _ => True) (k := 1) (kb := 8) (fun _ => rfl) (by omega) Try.underlying31 cells_int bytes_int (fun _ _ _ h _ => by obtain ⟨z, e⟩ := open_Int h; exact ⟨z, e, trivial⟩) h hw
  refine ⟨A, n, c, l, e, ⟨h1, h2.2.1, fun hn => ?_⟩, by omega, h3⟩
  obtain ⟨b, off, e2, hb, hc⟩ := h2.2.2 hn
  refine ⟨b, off, e2, hb, fun j hj => hc j _ ?_⟩
  rw [ints_flat]
  simp [nth, h1, hj]
end
end
section
open Go.RowKit
theorem run_app_any (w : World) (B : Nat) (v : Value) (l : List Int) (hown : OwnI w B v l) (A : Option Addr) (m c : Nat) (e : List Int) (he : IntsR w A m e) (hlen : l.length + m ≤ 900000000) (hB : B ≤ w.heap.size) :
    ∃ v' w', (Builtin.append_ #[31, 31] 31 #[v, .slice A m c]).run Try.prog w = .ok v' w' ∧ OwnI w' B v' (l ++ e) ∧ w.grownBy w' v.ownBlock ∧ Below B w w' ∧ (v'.ownBlock = v.ownBlock ∨ v'.ownBlock = some w.heap.size) := by
  rcases Nat.eq_zero_or_pos m with h0 | h0
  · subst h0
    have e0 : e = [] := List.length_eq_zero_iff.1 he.1
    subst e0
    obtain ⟨i0, hi, hz, hz1, hz2⟩ := info_parts info_Int
    refine ⟨v, w, ?_, by simpa using hown, World.grownBy.refl _ _, Below.refl _ _, .inl rfl⟩
    have hsh := hown.2
    rcases hsh with ⟨rfl, _⟩ | ⟨g, cap, cur, rfl, _, _, hnc, _⟩
    · cases A <;> simp [Builtin.append_, run_underlying Try.underlying31, sizeOf, typeInfo, hi, Builtin.lenOf, Builtin.firstCells, loadCells, loadCellsFrom, storeCells]
    · cases A <;> simp [Builtin.append_, run_underlying Try.underlying31, sizeOf, typeInfo, hi, Builtin.lenOf, Builtin.firstCells, loadCells, loadCellsFrom, hnc, storeCells]
  · obtain ⟨b, off, rfl, hb, hc⟩ := he.2.2 h0
    obtain ⟨v', w', h1, h2, h3, h4, h5⟩ := run_app_Int w B v l.length (l.map (Value.int .i64)) hown b off m c (e.map (Value.int .i64)) (by simp [he.1])
      (fun j u hj => by
        have hjl : j < e.length := by have := (List.getElem?_eq_some_iff.1 hj).1; simpa using this
        have e2 : u = .int .i64 (nth e j) := by simp [List.getElem?_map, hjl, nth] at hj ⊢; exact hj.symm
        rw [e2]; exact hc j (by rw [he.1] at hjl; exact hjl)) (ints_one e) (by omega) hB
    refine ⟨v', w', h1, ?_, h3, h4, h5⟩
    unfold OwnI
    rw [List.map_append, List.length_append, he.1]
    exact h2
theorem wpList_appAny {w : World} {ops : Array Oper} {rest : List Oper} {o : Oper} {a : Act} {Q : Exit → Act → World → Prop} (hgd : o.guard = none) (s x : Operand)
    (ho : o.op = .call { callee := .builtin .append, args := #[s, x], argTypes := #[31, 31] }) (hty : o.type = 31)
    (B : Nat) (v : Value) (l : List Int) (hs : a.eval s = v) (hown : OwnI w B v l) (A : Option Addr) (m c : Nat) (e : List Int) (hx : a.eval x = .slice A m c) (he : IntsR w A m e)
    (hlen : l.length + m ≤ 900000000) (hB : B ≤ w.heap.size)
    (h : ∀ v' w', OwnI w' B v' (l ++ e) → w.grownBy w' v.ownBlock → Below B w w' → (v'.ownBlock = v.ownBlock ∨ v'.ownBlock = some w.heap.size) → wpList Try.prog ops Q rest (a.put o.dst v') w') : wpList Try.prog ops Q (o :: rest) a w := by
  obtain ⟨v', w', hrun, h2, h3, h4, h5⟩ := run_app_any w B v l hown A m c e he hlen hB
  exact Lib.wpList_append_run w hgd s x _ _ ho v _ hs hx v' w' (by rw [hty]; exact hrun) (h v' w' h2 h3 h4 h5)
end
section
open Go.RowKit
end
section
open Go.RowKit
theorem IntsR.take {w : World} {A : Option Addr} {n k : Nat} {l : List Int} (h : IntsR w A n l) (hk : k ≤ n) : IntsR w A k (l.take k) := by
  obtain ⟨h1, h2, h3⟩ := h
  refine ⟨by simp [h1]; omega, by omega, fun hn => ?_⟩
  obtain ⟨b, off, e, hb, hc⟩ := h3 (by omega)
  refine ⟨b, off, e, hb, fun j hj => ?_⟩
  rw [hc j (by omega)]
  simp [nth, List.getElem?_take, hj]
end
section
open Go.RowKit
end
end Go.Proofs.Ytnngeaibdnnpoaa
