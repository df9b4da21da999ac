/- Joined: Ea Eb Ec Ed Eh Ei. -/
import Derived.Test.YtgfakefcmbpboaaGreatSuJ1
import Derived.Deep.RegionLaw
import Derived.Deep.RegionWith
import Derived.Deep.Cut
import Derived.Deep.CutRange
namespace Go.Proofs.YtgfakefcmbpboaaGreat
set_option linter.all false
set_option maxRecDepth 100000

section
open Go.RowKit
def WithinI (l : List Int) (lo hi : Int) : Prop := ∀ j, j < l.length → lo ≤ nth l j ∧ nth l j ≤ hi
noncomputable def betS (l : List Int) (lo hi : Int) : Bool := dec (WithinI l lo hi)
set_option maxHeartbeats 1000000 in
theorem ref0_Between (A : Option Addr) (n c : Nat) (l : List Int) (lo hi : Int) (w : World) (hl : IntsR w A n l) :
    Calls Tryz.prog 38 #[.slice A n c, .int .i64 lo, .int .i64 hi] w fun e w' => e = .returned (.bool (betS l lo hi)) ∧ w = w' := by
  obtain ⟨h1, h2, h3⟩ := hl
  have H1 := ħ h1; clear h1
  go_enter Tryz.func38, Tryz.ntmps38
  go_wp2
  go_loop [7] (fun i => ∃ k : Nat, k ≤ n ∧ i = .int .i64 k ∧ ∀ j, j < k → lo ≤ nth l j ∧ nth l j ≤ hi) (fun i => n - (intOf i).toNat)
  case atStart => exact ⟨0, Nat.zero_le _, rfl, fun j hj => absurd hj (by omega)⟩
  case round =>
    obtain ⟨k, hk, rfl, hr⟩ := hrel
    have HR := ħ hr; clear hr
    by_cases hlt : k < n
    · obtain ⟨b, off, rfl, _, hc⟩ := h3 (by omega)
      have hck := hc k hlt
      clear hc h3
      have bad : ¬ (lo ≤ nth l k ∧ nth l k ≤ hi) → false = betS l lo hi := fun h => dec_false fun g => h (g k (by rw [H1.out]; exact hlt))
      have B := ħ bad; clear bad
      go_wp2
      all_goals first
        | (go_round
           case rel =>
             refine ⟨k + 1, by omega, by go_num, fun j hj => ?_⟩
             by_cases hjk : j = k
             · subst hjk; exact ⟨by omega, by omega⟩
             · exact HR.out j (by omega)
           case measure => simp [intOf]; omega)
        | (go_ret; exact ⟨ret_bool (B.out (by omega)), rfl⟩)
    · go_wp2
      go_ret
      exact ⟨ret_bool (dec_true fun j hj => HR.out j (by rw [H1.out] at hj; omega)), rfl⟩
theorem ref0_Digests (A : Option Addr) (n c : Nat) (l : List Int) (w : World) (hl : IntsR w A n l) :
    Calls Tryz.prog 34 #[.slice A n c] w fun e w' => e = .returned (.bool (betS l 1 65536)) ∧ w = w' := by
  go_enter Tryz.func34, Tryz.ntmps34
  go_wp2_with (go_at_call 38; refine (ref0_Between _ _ _ l _ _ _ hl).mono ?_; rintro e w' ⟨rfl, rfl⟩)
  go_ret
  exact ⟨rfl, rfl⟩
def inF (x : Int) : Int → List Int → Int
  | _, [] => -1
  | i, c :: l => if c = x then i else inF x (i + 1) l
def inS (l : List Int) (x : Int) : Int := inF x 0 l
theorem inF_step (x : Int) (l : List Int) (k : Nat) (h : k < l.length) : inF x k (l.drop k) = if nth l k = x then (k : Int) else inF x ((k + 1 : Nat) : Int) (l.drop (k + 1)) := by
  rw [drop_nth l k h, inF]; simp

set_option maxHeartbeats 1000000 in
theorem ref0_In (A : Option Addr) (n c : Nat) (l : List Int) (x : Int) (w : World) (hl : IntsR w A n l) :
    Calls Tryz.prog 70 #[.slice A n c, .int .i64 x] w fun e w' => e = .returned (.int .i64 (inS l x)) ∧ w = w' := by
  obtain ⟨h1, h2, h3⟩ := hl
  have H1 := ħ h1; clear h1
  have H3 := ħ h3; clear h3
  go_enter Tryz.func70, Tryz.ntmps70
  go_wp2
  go_loop [5] (fun i => ∃ k : Nat, k ≤ n ∧ i = .int .i64 k ∧ Hid (inS l x = inF x k (l.drop k))) (fun i => n - (intOf i).toNat)
  case atStart => exact ⟨0, Nat.zero_le _, rfl, rfl⟩
  case round =>
    obtain ⟨k, hk, rfl, hr⟩ := hrel
    by_cases hlt : k < n
    · obtain ⟨b, off, rfl, hb, hc⟩ := H3.out (by omega)
      have hck := hc k hlt
      clear hc
      have HS := ħ (inF_step x l k (by rw [H1.out]; exact hlt))
      go_wp2
      all_goals first
        | (go_round
           case rel => exact ⟨k + 1, by omega, by go_num, by have e := hr.out; rw [HS.out, if_neg (by simpa using ‹(nth l k == x) = false›)] at e; exact e⟩
           case measure => simp [intOf]; omega)
        | (go_ret; exact ⟨ret_int (by rw [hr.out, HS.out, if_pos (by simpa using ‹(nth l k == x) = true›)]), rfl⟩)
    · go_wp2
      go_ret
      exact ⟨ret_int (by rw [hr.out, List.drop_of_length_le (by rw [H1.out]; omega)]; rfl), rfl⟩
theorem ext_nth {l m : List Int} (h : l.length = m.length) (hh : ∀ j, j < l.length → nth l j = nth m j) : l = m := by
  apply List.ext_getElem h
  intro i h1 h2
  have := hh i h1
  simpa [nth, h1, h2] using this
noncomputable def eqL (l m : List Int) : Bool := dec (l = m)
set_option maxHeartbeats 1000000 in
theorem ref0_EqNumbers (A : Option Addr) (n c : Nat) (l : List Int) (B : Option Addr) (m d : Nat) (k : List Int) (w : World) (hl : IntsR w A n l) (hk : IntsR w B m k) :
    Calls Tryz.prog 65 #[.slice A n c, .slice B m d] w fun e w' => e = .returned (.bool (eqL l k)) ∧ Below w.heap.size w w' := by
  have HL := ħ hl
  have HK := ħ hk
  have hn : n ≤ 9223372036854775807 := hl.2.1
  have N1 := ħ hl.1
  have N2 := ħ hk.1
  clear hl hk
  by_cases hnm : n = m
  · subst hnm
    go_enter Tryz.func65, Tryz.ntmps65
    go_wp2
    go_loopw [5] (fun i wr => ∃ j : Nat, j ≤ n ∧ i = .int .i64 j ∧ Hid (∀ q, q < j → nth l q = nth k q) ∧ Below w.heap.size w wr) (fun i _ => n - (intOf i).toNat)
    case atStart => exact ⟨0, Nat.zero_le _, rfl, fun q hq => absurd hq (by omega), by (repeat (first | (with_reducible exact Below.refl _ _) | (with_reducible assumption) | (with_reducible apply bel_alloc) | (with_reducible apply bel_drew) | (with_reducible apply bel_drewN) | (with_reducible refine bel_trans ?_ (by with_reducible assumption)) | (with_reducible refine bel_trans ?_ (HF.out _)) | (with_reducible refine bel_set ?_ (by simp) _) | (with_reducible refine bel_set ?_ (by simp; omega) _) | (with_reducible refine bel_set ?_ (by omega) _)))⟩
    case round =>
      obtain ⟨j, hj, rfl, heq, hbw⟩ := hrel
      by_cases hlt : j < n
      · obtain ⟨b1, o1, rfl, hb1, hc1⟩ := (HL.out.up hbw).2.2 (Nat.lt_of_le_of_lt (Nat.zero_le j) hlt)
        obtain ⟨b2, o2, rfl, hb2, hc2⟩ := (HK.out.up hbw).2.2 (Nat.lt_of_le_of_lt (Nat.zero_le j) hlt)
        have q1 := hc1 j hlt
        have q2 := hc2 j hlt
        clear hc1 hc2
        by_cases hq : nth l j = nth k j
        · have hne : (nth l j != nth k j) = false := by simp [hq]
          have HQ := ħ hq; clear hq
          go_wp2_with fail
          refine wp_region_fam (by kernel_rfl) (by kernel_rfl) (fun ι F hne hF hcl => ?_)
          have hcF0 := fun n o => (bcell (hF n)).1 (b1) o (by first | (simp; done) | (simp; omega) | omega)
          have hcF1 := fun n o => (bcell (hF n)).1 (b2) o (by first | (simp; done) | (simp; omega) | omega)
          have HF := ħ hF; clear hF
          have HC := ħ hcl; clear hcl
          repeat (any_goals (first
           | go_big_quiet_step (first | (fail))
           | (refine wpQuiet_guard _ _ _ rfl rfl ?_; (fail_if_success (intro b' hb; have h2 := hb.symm; have : b' = true := h2.trans (by with_reducible rfl))); (fail_if_success (intro b' hb; have h2 := hb.symm; have : b' = false := h2.trans (by with_reducible rfl))); intro b' hb; simp only [hb]; cases b' <;> (try simp only [Bool.not_eq_true', Bool.not_eq_false', decide_eq_true_eq, decide_eq_false_iff_not, Int.not_lt, Int.not_le, Bool.and_eq_true, Bool.or_eq_true, Bool.or_eq_false_iff, beq_iff_eq, beq_eq_false_iff_ne, Int.natCast_pos] at hb))))
          all_goals (refine wpQuiet_nil ?_; intro nq; go_wp2_with (fail))
          (first | (go_round; (case rel => (refine ⟨j + 1, by omega, by go_num, fun q hq => ?_, by (repeat (first | (with_reducible exact Below.refl _ _) | (with_reducible assumption) | (with_reducible apply bel_alloc) | (with_reducible apply bel_drew) | (with_reducible apply bel_drewN) | (with_reducible refine bel_trans ?_ (by with_reducible assumption)) | (with_reducible refine bel_trans ?_ (HF.out _)) | (with_reducible refine bel_set ?_ (by simp) _) | (with_reducible refine bel_set ?_ (by simp; omega) _) | (with_reducible refine bel_set ?_ (by omega) _)))⟩; rcases Nat.lt_or_ge q j with h1 | h1; exact heq.out q h1; obtain rfl : q = j := (by omega); exact HQ.out)); (case measure => (simp [intOf] <;> omega))) | (go_roundw; (case rel => (refine ⟨j + 1, by omega, by go_num, fun q hq => ?_, by (repeat (first | (with_reducible exact Below.refl _ _) | (with_reducible assumption) | (with_reducible apply bel_alloc) | (with_reducible apply bel_drew) | (with_reducible apply bel_drewN) | (with_reducible refine bel_trans ?_ (by with_reducible assumption)) | (with_reducible refine bel_trans ?_ (HF.out _)) | (with_reducible refine bel_set ?_ (by simp) _) | (with_reducible refine bel_set ?_ (by simp; omega) _) | (with_reducible refine bel_set ?_ (by omega) _)))⟩; rcases Nat.lt_or_ge q j with h1 | h1; exact heq.out q h1; obtain rfl : q = j := (by omega); exact HQ.out)); (case measure => (simp [intOf] <;> omega))) | (refine ⟨?_, by simp [intOf] <;> omega⟩; (repeat apply Exists.intro); refine ⟨?rel, ?fr⟩; (case fr => ((repeat' apply And.intro) <;> rfl)); (case rel => (refine ⟨j + 1, by omega, by go_num, fun q hq => ?_, by (repeat (first | (with_reducible exact Below.refl _ _) | (with_reducible assumption) | (with_reducible apply bel_alloc) | (with_reducible apply bel_drew) | (with_reducible apply bel_drewN) | (with_reducible refine bel_trans ?_ (by with_reducible assumption)) | (with_reducible refine bel_trans ?_ (HF.out _)) | (with_reducible refine bel_set ?_ (by simp) _) | (with_reducible refine bel_set ?_ (by simp; omega) _) | (with_reducible refine bel_set ?_ (by omega) _)))⟩; rcases Nat.lt_or_ge q j with h1 | h1; exact heq.out q h1; obtain rfl : q = j := (by omega); exact HQ.out))))
        · have hne : (nth l j != nth k j) = true := by simp [hq]
          have HQ := ħ hq; clear hq
          go_wp2_with fail
          refine wp_region_fam (by kernel_rfl) (by kernel_rfl) (fun ι F hne hF hcl => ?_)
          have hcF0 := fun n o => (bcell (hF n)).1 (b1) o (by first | (simp; done) | (simp; omega) | omega)
          have hcF1 := fun n o => (bcell (hF n)).1 (b2) o (by first | (simp; done) | (simp; omega) | omega)
          have HF := ħ hF; clear hF
          have HC := ħ hcl; clear hcl
          repeat (any_goals (first
           | go_big_quiet_step (first | (fail))
           | (refine wpQuiet_guard _ _ _ rfl rfl ?_; (fail_if_success (intro b' hb; have h2 := hb.symm; have : b' = true := h2.trans (by with_reducible rfl))); (fail_if_success (intro b' hb; have h2 := hb.symm; have : b' = false := h2.trans (by with_reducible rfl))); intro b' hb; simp only [hb]; cases b' <;> (try simp only [Bool.not_eq_true', Bool.not_eq_false', decide_eq_true_eq, decide_eq_false_iff_not, Int.not_lt, Int.not_le, Bool.and_eq_true, Bool.or_eq_true, Bool.or_eq_false_iff, beq_iff_eq, beq_eq_false_iff_ne, Int.natCast_pos] at hb))))
          all_goals (refine wpQuiet_nil ?_; intro nq; go_wp2_with (fail))
          go_ret
          exact ⟨ret_bool (dec_false fun e => HQ.out (by rw [e])), by (repeat (first | (with_reducible exact Below.refl _ _) | (with_reducible assumption) | (with_reducible apply bel_alloc) | (with_reducible apply bel_drew) | (with_reducible apply bel_drewN) | (with_reducible refine bel_trans ?_ (by with_reducible assumption)) | (with_reducible refine bel_trans ?_ (HF.out _)) | (with_reducible refine bel_set ?_ (by simp) _) | (with_reducible refine bel_set ?_ (by simp; omega) _) | (with_reducible refine bel_set ?_ (by omega) _)))⟩
      · go_wp2
        go_ret
        exact ⟨ret_bool (dec_true (ext_nth (N1.out.trans N2.out.symm) (fun q hq => heq.out q (by rw [N1.out] at hq; omega)))), by (repeat (first | (with_reducible exact Below.refl _ _) | (with_reducible assumption) | (with_reducible apply bel_alloc) | (with_reducible apply bel_drew) | (with_reducible apply bel_drewN) | (with_reducible refine bel_trans ?_ (by with_reducible assumption)) | (with_reducible refine bel_trans ?_ (HF.out _)) | (with_reducible refine bel_set ?_ (by simp) _) | (with_reducible refine bel_set ?_ (by simp; omega) _) | (with_reducible refine bel_set ?_ (by omega) _)))⟩
  · go_enter Tryz.func65, Tryz.ntmps65
    go_wp2
    go_ret
    exact ⟨ret_bool (dec_false fun e => hnm (by rw [← N1.out, ← N2.out, e])), by (repeat (first | (with_reducible exact Below.refl _ _) | (with_reducible assumption) | (with_reducible apply bel_alloc) | (with_reducible apply bel_drew) | (with_reducible apply bel_drewN) | (with_reducible refine bel_trans ?_ (by with_reducible assumption)) | (with_reducible refine bel_trans ?_ (HF.out _)) | (with_reducible refine bel_set ?_ (by simp) _) | (with_reducible refine bel_set ?_ (by simp; omega) _) | (with_reducible refine bel_set ?_ (by omega) _)))⟩
theorem eqL_self (l : List Int) : eqL l l = true := dec_iff.2 rfl
theorem ref0_EqNumbers_same (A : Option Addr) (n c : Nat) (l : List Int) (B : Option Addr) (m d : Nat) (w : World) (hl : IntsR w A n l) (hk : IntsR w B m l) :
    Calls Tryz.prog 65 #[.slice A n c, .slice B m d] w fun e w' => e = .returned (.bool true) ∧ Below w.heap.size w w' :=
  (ref0_EqNumbers A n c l B m d l w hl hk).mono fun e w' ⟨h1, h2⟩ => ⟨by rw [h1, eqL_self], h2⟩
set_option maxHeartbeats 1000000 in
theorem ref0_CopyNumbers (A : Option Addr) (n c : Nat) (l : List Int) (w : World) (hl : IntsR w A n l) (hn : n ≤ 1000000000) :
    Calls Tryz.prog 29 #[.slice A n c] w fun e w' => ∃ v, e = .returned v ∧ OwnI w' w.heap.size v l ∧ Below w.heap.size w w' := by
  have HL := ħ hl
  have hN := hl.1
  have HN := ħ hN
  clear hl hN
  go_enter Tryz.func29, Tryz.ntmps29
  go_wp2_with fail
  go_loopw [3, 4] (fun v i wr => ∃ j : Nat, j ≤ n ∧ i = .int .i64 j ∧ OwnI wr w.heap.size v (l.take j) ∧ Below w.heap.size w wr) (fun _ i _ => n - (intOf i).toNat)
  case atStart => exact ⟨0, Nat.zero_le _, rfl, OwnI.nil _ _, Below.refl _ _⟩
  case round =>
    obtain ⟨j, hj, rfl, hown, hbw⟩ := hrel
    by_cases hlt : j < n
    · obtain ⟨b, off, rfl, hb, hc⟩ := (HL.out.up hbw).2.2 (by omega)
      have hcj := hc j hlt
      clear hc
      have hlenj : (l.take j).length ≤ j := by simp; omega
      have hsz := hbw.size
      go_wp2_with (at_builtin; refine wpList_app1 rfl (.tmp 11) (.tmp 16) rfl (w.heap.size) u3 _ rfl (hown.alloc _) _ (nth l j) rfl (cell0_alloc _ _ _) (by omega) (le_alloc hsz) ?_; intro v1 w1 hown1 hg1 hbel1 hat1)
      (first | (go_round; (case rel => exact ⟨j + 1, by omega, by go_num, by rw [take_nth l j (by rw [HN.out]; exact hlt)]; exact hown1, Below.trans (bel_alloc hbw) hbel1⟩); (case measure => (simp [intOf] <;> omega))) | (go_roundw; (case rel => exact ⟨j + 1, by omega, by go_num, by rw [take_nth l j (by rw [HN.out]; exact hlt)]; exact hown1, Below.trans (bel_alloc hbw) hbel1⟩); (case measure => (simp [intOf] <;> omega))) | (refine ⟨?_, by simp [intOf] <;> omega⟩; (repeat apply Exists.intro); refine ⟨?rel, ?fr⟩; (case fr => ((repeat' apply And.intro) <;> rfl)); (case rel => exact ⟨j + 1, by omega, by go_num, by rw [take_nth l j (by rw [HN.out]; exact hlt)]; exact hown1, Below.trans (bel_alloc hbw) hbel1⟩)))
    · go_wp2_with fail
      go_ret
      have e : l.take j = l := List.take_of_length_le (by rw [HN.out]; omega)
      exact ⟨_, rfl, e ▸ hown, hbw⟩
theorem IntsR.nil (w : World) (A : Option Addr) : IntsR w A 0 [] := ⟨rfl, by omega, fun h => absurd h (by omega)⟩
theorem info_Int : (Tryz.prog.info? 3).map (fun i => (i.zero, i.size, i.bytes)) = some (some (.int .i64 0), 1, 8) := by kernel_rfl
theorem run_app_Int (w : World) (B : Nat) (v : Value) (n : Nat) (xs : List Value) (hown : w.ownsRow B 3 1 v n xs) (vb off m c : Nat) (e : List Value) (hm : e.length = m * 1) (hv : ∀ j u, e[j]? = some u → w.cell? ⟨vb, off + j, none⟩ = some u) (h1e : ∀ u ∈ e, u.oneCell' = true) (hn : n + m ≤ 1000000000) (hB : B ≤ w.heap.size) :
    ∃ v' w', (Builtin.append_ #[25, 25] 25 #[v, .slice (some ⟨vb, off, none⟩) m c]).run Tryz.prog w = .ok v' w' ∧ w'.ownsRow B 3 1 v' (n + m) (xs ++ e) ∧ w.grownBy w' v.ownBlock ∧ Below B w w' ∧ (v'.ownBlock = v.ownBlock ∨ v'.ownBlock = some w.heap.size) := by
  obtain ⟨i0, hi, hz, hz1, hz2⟩ := info_parts info_Int
  obtain ⟨v', w', hrun, h2, h3, _, h5⟩ := run_append_own_at (P := Tryz.prog) w B 25 25 3 i0 _ 1 8 Tryz.underlying25 hi hz hz1 hz2 rfl (by omega) v n xs hown ⟨vb, off, none⟩ m c e hm
    (by intro j u hu; rw [Addr.add_lit]; exact hv j u hu) h1e (by simp only [maxLen]; omega) (by omega) hB
  exact ⟨v', w', hrun, h2, h3, ⟨h3.os, h3.tape, h3.output, h3.size, fun k hk => h3.block k (by omega) (fun e => by have := (own_lt hown k e.symm).1; omega)⟩, h5⟩
set_option maxHeartbeats 1000000 in
theorem slices_Clone_Int (A : Option Addr) (n c : Nat) (xs : List Value) (w : World) (hr : RowV w A n 1 xs) (h1x : ∀ u ∈ xs, u.oneCell' = true) (hn : n ≤ 900000000) :
    Calls Tryz.prog 125 #[.slice A n c] w fun r w' => ∃ v', r = .returned v' ∧ w'.ownsRow w.heap.size 3 1 v' n xs ∧ Below w.heap.size w w' := by
  obtain ⟨g1, g2, g3⟩ := hr
  cases A with
  | none =>
    have h0 : n = 0 := by
      rcases Nat.eq_zero_or_pos n with h | h
      · exact h
      · obtain ⟨b, off, e, _⟩ := g3 h; cases e
    subst h0
    have hx : xs = [] := by simpa using g1
    subst hx
    clear g1 g2 g3
    have hnil := Lib.run_eql_slice_nil (P := Tryz.prog) w 25 3 none 0 c 0 0 Tryz.underlying25
    go_enter Tryz.func125, Tryz.ntmps125
    go_wp2_with fail
    go_ret
    exact ⟨_, rfl, own_nil _ _ _ _, Below.refl _ _⟩
  | some a =>
    have hown : (w.alloc (.cells #[] 3)).ownsRow w.heap.size 3 1 (.slice (some ⟨w.heap.size, 0, none⟩) 0 0) 0 [] :=
      ⟨rfl, .inr ⟨w.heap.size, 0, #[], rfl, Nat.le_refl _, heap_alloc_new w _, Nat.le_refl _, by decide, rfl, rfl⟩⟩
    rcases Nat.eq_zero_or_pos n with h0 | h0
    · subst h0
      have hx : xs = [] := by simpa using g1
      subst hx
      clear g1 g2 g3
      obtain ⟨b, off, sp⟩ := a
      have hrun : (Builtin.append_ #[25, 25] 25 #[.slice (some ⟨w.heap.size, 0, none⟩) 0 0, .slice (some ⟨b, off, sp⟩) 0 c]).run Tryz.prog (w.alloc (.cells #[] 3)) = .ok (.slice (some ⟨w.heap.size, 0, none⟩) 0 0) (w.alloc (.cells #[] 3)) := by
        obtain ⟨i0, hi, hz, hz1, hz2⟩ := info_parts info_Int
        simp [Builtin.append_, run_underlying Tryz.underlying25, sizeOf, typeInfo, hi, Builtin.lenOf, Builtin.firstCells, loadCells, loadCellsFrom, storeCells]
      have HR := ħ hrun
      clear hrun
      have hnil := Lib.run_eql_slice_nil (P := Tryz.prog) w 25 3 (some ⟨b, off, sp⟩) 0 c 0 0 Tryz.underlying25
      go_enter Tryz.func125, Tryz.ntmps125
      go_wp2_with (at_builtin; refine Lib.wpList_append_run _ rfl _ _ _ _ rfl _ _ rfl rfl _ _ HR.out ?_)
      go_ret
      exact ⟨_, rfl, hown, (Below.refl _ _).alloc (Nat.le_refl _) _⟩
    · obtain ⟨b, off, e, hb, hc⟩ := g3 h0
      injection e with e
      subst e
      have hba : Below w.heap.size w (w.alloc (.cells #[] 3)) := (Below.refl _ _).alloc (Nat.le_refl _) _
      obtain ⟨v', w', hrun, h2, h3, h4, h5⟩ := run_app_Int (w.alloc (.cells #[] 3)) w.heap.size _ 0 [] hown b off n c xs g1 (fun j u hj => (hba.cell (p := ⟨b, off + j, none⟩) hb).trans (hc j u hj)) h1x (by omega) (by simp)
      rw [Nat.zero_add, List.nil_append] at h2
      have HR := ħ hrun
      have H2 := ħ h2
      have hbel : Below w.heap.size w w' := hba.trans h4
      clear hrun h2 h3 h4 h5 g1 g2 g3 hc hown
      have hnil := Lib.run_eql_slice_nil (P := Tryz.prog) w 25 3 (some ⟨b, off, none⟩) n c 0 0 Tryz.underlying25
      go_enter Tryz.func125, Tryz.ntmps125
      go_wp2_with (at_builtin; refine Lib.wpList_append_run _ rfl _ _ _ _ rfl _ _ rfl rfl _ _ HR.out ?_)
      go_ret
      exact ⟨_, rfl, H2.out, hbel⟩
def SlP.v (s : SlP) : Value := .slice s.A s.n s.c
theorem ints_flat (l : List Int) : flat (fun z : Int => [Value.int .i64 z]) l = l.map (Value.int .i64) := by
  induction l with
  | nil => rfl
  | cons x l ih => unfold flat at ih ⊢; rw [List.map_cons, List.flatten_cons, ih]; rfl
theorem ints_one (l : List Int) : ∀ u ∈ l.map (Value.int .i64), u.oneCell' = true := by
  intro u hu
  obtain ⟨z, _, rfl⟩ := List.mem_map.1 hu
  rfl
/-- What is in a list. -/
theorem inF_neg (x : Int) : ∀ (l : List Int) (k : Int), 0 ≤ k → (inF x k l < 0 ↔ x ∉ l)
  | [], k, h => by simp [inF]
  | c :: l, k, h => by
    unfold inF
    by_cases e : c = x
    · rw [if_pos e]; simp [e]; omega
    · rw [if_neg e, inF_neg x l (k + 1) (by omega)]; simp [Ne.symm e]
theorem inS_neg {x : Int} {l : List Int} : inS l x < 0 ↔ x ∉ l := inF_neg x l 0 (by omega)
def Seen (s : List Int) : Prop := WithinI s 1 65536 ∧ s.Nodup
end
section
open Go.RowKit Go.ChangeShapes Go.WideShapes Go.ChangeAt
structure HeldD where
  di : Int
  b : BatchD
deriving Inhabited
def hth (l : List HeldD) (i : Nat) : HeldD := l.getD i default
def HeldAt (w : World) (b off : Nat) (B : Option Addr) (m d : Nat) (h : HeldD) : Prop :=
  w.cell? ⟨b, off, none⟩ = some (.int .i64 h.di) ∧ w.cell? ⟨b, off + 1, none⟩ = some (.int .i64 h.b.au) ∧ w.cell? ⟨b, off + 2, none⟩ = some (.int .i64 h.b.n) ∧ w.cell? ⟨b, off + 3, none⟩ = some (.slice B m d)
def HeldsR (w : World) (A : Option Addr) (n : Nat) (l : List HeldD) : Prop :=
  l.length = n ∧ n ≤ 9223372036854775807 ∧ (0 < n → ∃ b off, A = some ⟨b, off, none⟩ ∧ b < w.heap.size ∧ ∀ j, j < n → ∃ (B : Option Addr) (m d : Nat), HeldAt w b (off + j * 4) B m d (hth l j) ∧ TxsR w B m (hth l j).b.tx)
theorem HeldsR.up {w w' : World} {A n l} (h : HeldsR w A n l) (hb : Below w.heap.size w w') : HeldsR w' A n l := by
  obtain ⟨h1, h2, h3⟩ := h
  refine ⟨h1, h2, fun hn => ?_⟩
  obtain ⟨b, off, e, hlt, hc⟩ := h3 hn
  refine ⟨b, off, e, Nat.lt_of_lt_of_le hlt hb.size, fun j hj => ?_⟩
  obtain ⟨B, m, d, ⟨g0, g1, g2, g3⟩, g4⟩ := hc j hj
  have g := (bcell hb).1
  exact ⟨B, m, d, ⟨(g _ _ hlt).trans g0, (g _ _ hlt).trans g1, (g _ _ hlt).trans g2, (g _ _ hlt).trans g3⟩, g4.up hb⟩
def SmH (h : HeldD) : Prop := SmB h.b
section
variable {H : Type} {enc : TypeId × Value → H} {w : World} {base : Nat} {spare : Nat → Bool} {held : Bool}
theorem cells_held : Tryz.prog.cellsOf 101 = 4 := by kernel_rfl
theorem cells_helds : Tryz.prog.cellsOf 24 = 1 := by kernel_rfl
theorem bytes_int : Tryz.prog.bytesOf 3 = 8 := by kernel_rfl
theorem bytes_held : Tryz.prog.bytesOf 101 = 48 := by kernel_rfl
/-- A slice of elements that hold slices, opened. R: how an element is read. -/
theorem open_deepS {α : Type} [Inhabited α] {k kb : Nat} {G : α → Prop} {R : List Value → α → Prop} {t te : TypeId} (hk0 : 0 < k) (hkb : 0 < kb) (ht : Tryz.prog.underlying t = some (.slice te)) (hc : Tryz.prog.cellsOf te = k) (hb0 : Tryz.prog.bytesOf te = kb)
    (hopen : ∀ (fuel : Nat) (cs : List Value) (x : DataW H × List MemPlace), DataW.trod enc Tryz.prog w base spare held fuel te cs = some x → Wok te x.1 → cs.length = k → ∃ v, R cs v ∧ G v)
    {fuel : Nat} {cs : List Value} {x : DataW H × List MemPlace} (h : DataW.trod enc Tryz.prog w base spare held fuel t cs = some x) (hw : Wok t x.1) :
    ∃ (A : Option Addr) (n c : Nat) (l : List α), cs = [.slice A n c] ∧ l.length = n ∧ n ≤ 9223372036854775807 ∧ n * kb ≤ 140737488355328 ∧ (∀ v ∈ l, G v) ∧ (0 < n → ∃ b off, A = some ⟨b, off, none⟩ ∧ b < w.heap.size ∧ ∀ j, j < n → ∃ cs' : List Value, cs'.length = k ∧ R cs' (l.getD j default) ∧ ∀ r v, cs'[r]? = some v → w.cell? ⟨b, off + j * k + r, none⟩ = some v) := by
  rcases Deep.open_slice ht h with ⟨hcs, _⟩ | ⟨a, len, cap, m, n, D, Pl, hcs, _, hl, hm, hmm, hxx, hx⟩
  · exact ⟨none, 0, 0, [], hcs, rfl, by omega, by omega, (fun v hv => by cases hv), fun h => absurd h (by omega)⟩
  · have hlen : len ≤ m := by rw [hmm]; split <;> omega
    rw [hxx] at hw
    have hq : len * kb ≤ 140737488355328 := by
      have := hw.len ht
      rw [hb0] at this
      simp only [List.length_map, List.length_range, reachBytes] at this
      have h2 : len * kb ≤ (len + (m - len)) * kb := Nat.mul_le_mul_right _ (by omega)
      omega
    have hcell : ∀ i, i < len → ∃ v : α, G v ∧ ∃ cs' : List Value, cs'.length = k ∧ R cs' v ∧ ∀ j u, cs'[j]? = some u → w.cell? (a.add (i * k + j)) = some u := by
      intro i hi
      obtain ⟨cs', h1, h2⟩ := hx i (by omega)
      rw [hc] at h1
      obtain ⟨_, hlen', hat⟩ := World.cells?_some h1
      obtain ⟨v, hR, hG⟩ := hopen _ _ _ h2 (hw.elem ht (List.mem_map.2 ⟨i, List.mem_range.2 hi, rfl⟩)) hlen'
      refine ⟨v, hG, cs', hlen', hR, fun j u hj => ?_⟩
      have hjk : j < k := by
        have := (List.getElem?_eq_some_iff.1 hj).1
        omega
      have := hat j hjk
      rw [Deep.add_add] at this
      rw [this]; exact hj
    obtain ⟨f, hf⟩ := Deep.choose_lt (α := α) hcell
    have hg : ∀ i, i < len → ((List.range len).map f).getD i default = f i := fun i hi => by simp [hi]
    refine ⟨some a, len, cap, (List.range len).map f, hcs, by simp, by have : cap ≤ 9223372036854775807 := hm; omega, hq, fun v hv => ?_, fun hn => ?_⟩
    · rw [List.mem_map] at hv
      obtain ⟨i, hi, rfl⟩ := hv
      exact (hf i (List.mem_range.1 hi)).1
    · obtain ⟨b, off, spot⟩ := a
      obtain ⟨_, cs0, hl0, _, h0⟩ := hf 0 hn
      have hc0 := h0 0 _ (List.getElem?_eq_getElem (by omega))
      have hspot : spot = none := by simpa [Addr.add] using World.cell?_spot hc0
      subst hspot
      refine ⟨b, off, rfl, by simpa [Addr.add] using World.block_lt_of_cell? w _ hc0, fun j hj => ?_⟩
      obtain ⟨_, cs1, hl1, hr, h1⟩ := hf j hj
      rw [hg j hj]
      refine ⟨cs1, hl1, hr, fun r v hv => ?_⟩
      have := h1 r v hv
      by_cases hz : j * k + r = 0
      · have hj0 : j * k = 0 := by omega
        have hr0 : r = 0 := by omega
        rw [hj0, hr0] at this ⊢
        simpa [Addr.add] using this
      · have e : (⟨b, off, none⟩ : Addr).add (j * k + r) = ⟨b, off + j * k + r, none⟩ := by simp only [Addr.add, hz, if_false, Nat.add_assoc]
        rw [← e]; exact this
theorem open_IntsS {fuel : Nat} {cs : List Value} {x : DataW H × List MemPlace} (h : DataW.trod enc Tryz.prog w base spare held fuel 25 cs = some x) (hw : Wok 25 x.1) : ∃ A n c l, cs = [.slice A n c] ∧ IntsR w A n l ∧ n ≤ 17592186044416 ∧ n ≤ c := by
  obtain ⟨A, n, c, l, e, h1, h2, h3, h4, h5, h6⟩ := open_flatS (e := fun z : Int => [Value.int .i64 z]) (G := fun _ => True) (k := 1) (kb := 8) (fun _ => rfl) (by omega) Tryz.underlying25 cells_int bytes_int (fun _ _ _ h _ => by obtain ⟨z, e⟩ := open_Int h; exact ⟨z, e, trivial⟩) h hw
  refine ⟨A, n, c, l, e, ⟨h1, h2.2.1, fun hn => ?_⟩, by omega, h3⟩
  obtain ⟨b, off, e2, hb, hc⟩ := h2.2.2 hn
  refine ⟨b, off, e2, hb, fun j hj => hc j _ ?_⟩
  rw [ints_flat]
  simp [nth, h1, hj]
theorem open_HeldsS {fuel : Nat} {cs : List Value} {x : DataW H × List MemPlace} (h : DataW.trod enc Tryz.prog w base spare held fuel 24 cs = some x) (hw : Wok 24 x.1) : ∃ A n c l, cs = [.slice A n c] ∧ HeldsR w A n l ∧ n ≤ 17592186044416 ∧ ∀ v ∈ l, SmH v := by
  obtain ⟨A, n, c, l, e, h1, h2, h3, h4, h5⟩ := open_deepS (α := HeldD) (k := 4) (kb := 48) (G := SmH) (R := fun cs v => ∃ (B : Option Addr) (m d : Nat), cs = [.int .i64 v.di, .int .i64 v.b.au, .int .i64 v.b.n, .slice B m d] ∧ TxsR w B m v.b.tx) (by omega) (by omega) Tryz.underlying24 cells_held bytes_held (fun fuel cs x h hw hl => by
    obtain ⟨v0, v1, v2, v3, rfl⟩ := list4 hl
    obtain ⟨xs, n, _, hx, hl', hlen, hf⟩ := DataW.trod_struct Tryz.underlying101 h
    rw [hx] at hw
    obtain ⟨y0, y1, rfl⟩ := list2 hlen
    have f0 : DataW.trod enc Tryz.prog w base spare held n 3 [v0] = some y0 := by simpa [cells_int] using hf 0 _ rfl
    have f1 : DataW.trod enc Tryz.prog w base spare held n 43 [v1, v2, v3] = some y1 := by simpa [cells_int, cells_batch] using hf 1 _ rfl
    obtain ⟨z0, e0⟩ := open_Int f0
    obtain ⟨b, A, m, c, e1, h1, h2⟩ := open_BatchS f1 (hw.field Tryz.underlying101 (i := 1) (f := 43) rfl rfl)
    injection e0 with e0
    simp only [List.cons.injEq, and_true] at e1
    obtain ⟨rfl, rfl, rfl⟩ := e1
    subst e0
    exact ⟨⟨z0, b⟩, ⟨A, m, c, rfl, h1⟩, h2⟩) h hw
  refine ⟨A, n, c, l, e, ⟨h1, h2, fun hn => ?_⟩, by omega, h4⟩
  obtain ⟨b, off, e2, hb, hc⟩ := h5 hn
  refine ⟨b, off, e2, hb, fun j hj => ?_⟩
  obtain ⟨cs', _, ⟨B, m, d, rfl, ht⟩, hat⟩ := hc j hj
  exact ⟨B, m, d, ⟨hat 0 _ rfl, hat 1 _ rfl, hat 2 _ rfl, hat 3 _ rfl⟩, ht⟩
end
end
section
open Go.RowKit
theorem comm_Digest (d : Int) (y : Bool) (w : World) (hy : digS d = y) : Calls Tryz.prog 110 #[.int .i64 d] w fun e w' => e = .returned (.bool y) ∧ w = w' :=
  (committee_Digest d w).mono fun e w' ⟨h1, h2⟩ => ⟨by rw [h1, hy], h2⟩
theorem take_succ_mem {s : List Int} {k : Nat} {x : Int} (h : k < s.length) (hx : nth s k = x) : (fun m => if m = x then true else decide (m ∈ s.take k)) = fun m => decide (m ∈ s.take (k + 1)) := by
  funext m
  rw [take_nth s k h, hx]
  by_cases e : m = x
  · simp [e]
  · simp [e]
theorem take_succ_nodup {s : List Int} {k : Nat} {x : Int} (h : k < s.length) (hx : nth s k = x) (hu : (s.take k).Nodup) (hn : x ∉ s.take k) : (s.take (k + 1)).Nodup := by
  rw [take_nth s k h, hx]
  refine List.nodup_append.2 ⟨hu, by simp, ?_⟩
  intro a ha b hb e
  simp at hb
  subst hb; subst e
  exact hn ha
theorem nodup_not {s : List Int} {k : Nat} {x : Int} (h : k < s.length) (hx : nth s k = x) (hm : x ∈ s.take k) : ¬ s.Nodup := fun hu => by
  have h1 : (s.take (k + 1)).Nodup := hu.sublist (List.take_sublist _ _)
  rw [take_nth s k h, hx] at h1
  exact (List.nodup_append.1 h1).2.2 x hm x (by simp) rfl
end
section
open Go.RowKit
theorem wgo_bd {α : Type} {f : α → Int} {M N : Int} (hMN : 1048576 + M ≤ N) : ∀ (l : List α) (v : Int), (∀ x ∈ l, f x ≤ M) → v ≤ N → wgo f l v ≤ N
  | [], v, _, h => h
  | x :: l, v, hf, h => by
    unfold wgo
    split
    · have := hf x (by simp)
      exact wgo_bd hMN l _ (fun y hy => hf y (by simp [hy])) (by omega)
    · exact h
theorem wgo_all {α : Type} {f : α → Int} (hf : ∀ x, 0 ≤ f x) : ∀ (l : List α) (v : Int), 0 ≤ v → wgo f l v < 1048576 → ∀ x ∈ l, f x ≤ wgo f l v
  | [], v, _, _ => fun x hx => by cases hx
  | y :: l, v, h0, h => by
    unfold wgo at h ⊢
    split
    · rename_i hv
      rw [if_pos hv] at h
      intro x hx
      have hy := hf y
      rcases List.mem_cons.1 hx with rfl | hx
      · have := wgo_le hf l (v + f x); omega
      · exact wgo_all hf l (v + f y) (by omega) h x hx
    · rename_i hv
      rw [if_neg hv] at h
      exact absurd h hv
def hwF (h : HeldD) : Int := xwS h.b.tx
def hwS (l : List HeldD) : Int := wgo hwF l (l.length : Int)
theorem xwS_ge (l : List TxD) : (l.length : Int) ≤ xwS l := wgo_le szX_ge _ _
theorem hwF_ge (h : HeldD) : 0 ≤ hwF h := by have := xwS_ge h.b.tx; unfold hwF; omega
theorem hwF_le {h : HeldD} (hs : SmH h) : hwF h ≤ 562949953421312 := by
  have h1 : h.b.tx.length ≤ 17592186044416 := hs.1
  exact wgo_bound _ _ (fun x hx => szX_le (hs.2 x hx)) (by omega)
theorem hwS_ge (l : List HeldD) : (l.length : Int) ≤ hwS l := wgo_le hwF_ge _ _
theorem hwS_le {l : List HeldD} (hs : ∀ x ∈ l, SmH x) (hl : l.length ≤ 17592186044416) : hwS l ≤ 1125899906842624 :=
  wgo_bd (M := 562949953421312) (by omega) _ _ (fun x hx => hwF_le (hs x hx)) (by omega)
theorem hwS_tx {l : List HeldD} (h : hwS l < 1048576) : ∀ x ∈ l, (x.b.tx.length : Int) ≤ hwS l := fun x hx => by
  have h1 : xwS x.b.tx ≤ hwS l := wgo_all hwF_ge l (l.length : Int) (by omega) h x hx
  have h2 := xwS_ge x.b.tx
  omega
set_option maxHeartbeats 2000000 in
theorem law0_HeldWeight (A : Option Addr) (n c : Nat) (l : List HeldD) (y : Int) (w : World) (hl : HeldsR w A n l) (hs : ∀ x ∈ l, SmH x) (hn : n ≤ 17592186044416) (hy : hwS l = y) :
    Calls Tryz.prog 24 #[.slice A n c] w fun e w' => e = .returned (.int .i64 y) ∧ Below w.heap.size w w' := by
  have HL := ħ hl
  have HN := ħ hl.1
  have HS := ħ hs
  have HY := ħ hy
  clear hl hs hy
  go_enter Tryz.func24, Tryz.ntmps24
  go_wp2_with fail
  go_loopw [3, 4] (fun sv si wr => ∃ (k : Nat) (v : Int), k ≤ n ∧ si = .int .i64 k ∧ sv = .int .i64 v ∧ 0 ≤ v ∧ v ≤ 1125899906842624 ∧ Hid (wgo hwF (l.drop k) v = y) ∧ Below w.heap.size w wr) (fun _ si _ => n - (intOf si).toNat)
  case atStart => exact ⟨0, n, Nat.zero_le _, rfl, rfl, by omega, by omega, ħ (by have := HY.out; unfold hwS at this; rw [HN.out] at this; exact this), Below.refl _ _⟩
  case round =>
    obtain ⟨k, v, hk, rfl, rfl, hv0, hv1, HW, hbw⟩ := hrel
    (obtain ⟨wk, hwk⟩ : ∃ x, x = wr := ⟨_, rfl⟩); subst hwk
    by_cases hlt : k < n
    · by_cases hvl : v < 1048576
      · obtain ⟨b, off, rfl, hb, hc⟩ := (HL.out.up hbw).2.2 (by omega)
        obtain ⟨B, m, d, ⟨c0, c1, c2, c3⟩, htx⟩ := hc k hlt
        have hsm : SmH (hth l k) := sm_at HS.out (k := k) (by rw [HN.out]; exact hlt)
        have hst := wgo_step (f := hwF) l (v := v) (k := k) (by rw [HN.out]; exact hlt) hvl
        rw [HW.out] at hst
        obtain ⟨p, hp⟩ : ∃ p, p = hth l k := ⟨_, rfl⟩
        have hp2 : l.getD k default = p := hp.symm
        rw [hp2] at hst
        rw [← hp] at c0 c1 c2 htx hsm
        obtain ⟨y4, hy4⟩ : ∃ y, xwS p.b.tx = y := ⟨_, rfl⟩
        have hst2 : y = wgo hwF (l.drop (k + 1)) (v + y4) := by rw [← hy4]; exact hst
        have hb41 : 0 ≤ y4 := by rw [← hy4]; exact hwF_ge p
        have hb42 : y4 ≤ 562949953421312 := by rw [← hy4]; exact hwF_le hsm
        have hm : m ≤ 17592186044416 := by rw [← htx.1]; exact hsm.1
        have HST := ħ hst2.symm
        have HTX := ħ htx
        have HSM := ħ hsm
        have HY4 := ħ hy4
        clear hc hst hp hp2 htx hsm hy4 hst2
        go_wp2_with (go_at_call 23; refine (law0_TxWeight B m d _ y4 _ HTX.out HSM.out.2 hm HY4.out).mono ?_; rintro e w5 ⟨rfl, hb5⟩)
        (first | (go_round; (case rel => exact ⟨k + 1, v + y4, by omega, by go_num, by first | rfl | go_num, by omega, by omega, HST, bel_trans hbw hb5⟩); (case measure => (simp [intOf] <;> omega))) | (go_roundw; (case rel => exact ⟨k + 1, v + y4, by omega, by go_num, by first | rfl | go_num, by omega, by omega, HST, bel_trans hbw hb5⟩); (case measure => (simp [intOf] <;> omega))) | (refine ⟨?_, by simp [intOf] <;> omega⟩; (repeat apply Exists.intro); refine ⟨?rel, ?fr⟩; (case fr => ((repeat' apply And.intro) <;> rfl)); (case rel => exact ⟨k + 1, v + y4, by omega, by go_num, by first | rfl | go_num, by omega, by omega, HST, bel_trans hbw hb5⟩)))
      · have hd : decide (v < 1048576) = false := by simpa using hvl
        have e := wgo_stop (f := hwF) (l.drop k) hvl
        rw [HW.out] at e
        subst e
        clear hvl
        go_wp2_with fail
        go_ret
        exact ⟨rfl, hbw⟩
    · have e : y = v := by
        have := HW.out
        rw [List.drop_of_length_le (by rw [HN.out]; omega)] at this
        exact this.symm
      subst e
      go_wp2_with fail
      go_ret
      exact ⟨rfl, hbw⟩
end
section
open Go.RowKit
theorem IntsR.take {w : World} {A : Option Addr} {n k : Nat} {l : List Int} (h : IntsR w A n l) (hk : k ≤ n) : IntsR w A k (l.take k) := by
  obtain ⟨h1, h2, h3⟩ := h
  refine ⟨by simp [h1]; omega, by omega, fun hn => ?_⟩
  obtain ⟨b, off, e, hb, hc⟩ := h3 (by omega)
  refine ⟨b, off, e, hb, fun j hj => ?_⟩
  rw [hc j (by omega)]
  simp [nth, List.getElem?_take, hj]
end
section
open Go.RowKit
def HeldOk (l : List HeldD) (k : Nat) : Prop := digS (hth l k).di = true ∧ bmT (hth l k).b = true ∧ (0 < k → (hth l (k - 1)).di < (hth l k).di)
def MayHs (l : List HeldD) : Prop := ∀ k, k < l.length → HeldOk l k
noncomputable def hdB (l : List HeldD) : Bool := dec (MayHs l)
theorem hdB_iff {l : List HeldD} : hdB l = true ↔ MayHs l := dec_iff
theorem refd_Digest (d : Int) (y : Bool) (w : World) (hy : digS d = y) : Calls Tryz.prog 36 #[.int .i64 d] w fun e w' => e = .returned (.bool y) ∧ w = w' :=
  (ref0_Digest d w).mono fun e w' ⟨h1, h2⟩ => ⟨by rw [h1, hy], h2⟩
set_option maxHeartbeats 4000000 in
theorem worker_MayHeld (A : Option Addr) (n c : Nat) (l : List HeldD) (y : Bool) (w : World) (hl : HeldsR w A n l) (hy : hdB l = y) : Calls Tryz.prog 77 #[.slice A n c] w fun e w' => e = .returned (.bool y) ∧ Below w.heap.size w w' := by
  have HY := ħ hy
  have HL := ħ hl
  have HN := ħ hl.1
  have hnn : n ≤ 9223372036854775807 := hl.2.1
  clear hy hl
  go_enter Tryz.func77, Tryz.ntmps77
  go_wp2_with fail
  go_loopw [7] (fun ix wr => ∃ k : Nat, k ≤ n ∧ ix = .int .i64 k ∧ Hid (∀ j, j < k → HeldOk l j) ∧ Below w.heap.size w wr) (fun ix _ => n - (intOf ix).toNat)
  case atStart => exact ⟨0, Nat.zero_le _, rfl, ħ (fun j hj => absurd hj (by omega)), Below.refl _ _⟩
  case round =>
    obtain ⟨k, hk, rfl, HG, hbw⟩ := hrel
    (obtain ⟨wk, hwk⟩ : ∃ x, x = wr := ⟨_, rfl⟩); subst hwk
    by_cases hlt : k < n
    · obtain ⟨b, off, rfl, hb, hc⟩ := (HL.out.up hbw).2.2 (by omega)
      obtain ⟨B, m, d, ⟨c0, c1, c2, c3⟩, htx⟩ := hc k hlt
      have hbad : ¬ HeldOk l k → hdB l = false := fun h => by
        cases hm : hdB l
        · rfl
        · exact absurd (hdB_iff.1 hm k (by rw [HN.out]; exact hlt)) h
      have HB := ħ hbad
      obtain ⟨p, hp⟩ : ∃ p, p = hth l k := ⟨_, rfl⟩
      rw [← hp] at c0 c1 c2 htx
      have HP := ħ hp
      obtain ⟨o, ho⟩ : ∃ o, o = (hth l (k - 1)).di := ⟨_, rfl⟩
      have hd : 0 < k → wk.cell? ⟨b, off + (k - 1) * 4, none⟩ = some (.int .i64 o) := fun h => by rw [ho]; obtain ⟨_, _, _, ⟨q, _⟩, _⟩ := hc (k - 1) (by omega); exact q
      have HO := ħ ho
      have HD := ħ hd
      clear hc hd ho hp hbad
      have hA : BoxR (wk.alloc (.cells #[.int .i64 p.di, .int .i64 p.b.au, .int .i64 p.b.n, .slice B m d] 101)) wk.heap.size [.int .i64 p.di, .int .i64 p.b.au, .int .i64 p.b.n, .slice B m d] := BoxR.new wk [.int .i64 p.di, .int .i64 p.b.au, .int .i64 p.b.n, .slice B m d] 101
      have hba : Below wk.heap.size wk (wk.alloc (.cells #[.int .i64 p.di, .int .i64 p.b.au, .int .i64 p.b.n, .slice B m d] 101)) := by (repeat (first | (with_reducible exact Below.refl _ _) | (with_reducible assumption) | (with_reducible apply bel_alloc) | (with_reducible apply bel_drew) | (with_reducible apply bel_drewN) | (with_reducible refine bel_trans ?_ (by with_reducible assumption)) | (with_reducible refine bel_trans ?_ (HF.out _)) | (with_reducible refine bel_set ?_ (by simp) _) | (with_reducible refine bel_set ?_ (by simp; omega) _) | (with_reducible refine bel_set ?_ (by omega) _)))
      have a_0 := (hA).2 0 _ rfl; have a_1 := (hA).2 1 _ rfl; have a_2 := (hA).2 2 _ rfl; have a_3 := (hA).2 3 _ rfl
      have HTX := ħ (htx.up hba)
      clear htx
      cases h1 : digS p.di
      · have H1 := ħ h1
        clear h1
        go_wp2_with fail
        refine wp_region_fam (by kernel_rfl) (by kernel_rfl) (fun ι F hne hF hcl => ?_)
        have hcF0 := fun n o => (bcell (hF n)).1 (wk.heap.size) o (by first | (simp; done) | (simp; omega) | omega)
        have hcF1 := fun n o => (bcell (hF n)).1 (b) o (by first | (simp; done) | (simp; omega) | omega)
        have HF := ħ hF; clear hF
        have HC := ħ hcl; clear hcl
        repeat (any_goals (first
         | go_big_quiet_step (first | (go_at_call 110; exact Calls.fam_same (comm_Digest p.di false _ H1.out)))
         | (refine wpQuiet_guard _ _ _ rfl rfl ?_; (fail_if_success (intro b' hb; have h2 := hb.symm; have : b' = true := h2.trans (by with_reducible rfl))); (fail_if_success (intro b' hb; have h2 := hb.symm; have : b' = false := h2.trans (by with_reducible rfl))); intro b' hb; simp only [hb]; cases b' <;> (try simp only [Bool.not_eq_true', Bool.not_eq_false', decide_eq_true_eq, decide_eq_false_iff_not, Int.not_lt, Int.not_le, Bool.and_eq_true, Bool.or_eq_true, Bool.or_eq_false_iff, beq_iff_eq, beq_eq_false_iff_ne, Int.natCast_pos] at hb))))
        all_goals (refine wpQuiet_nil ?_; intro nq)
        all_goals (try (exfalso; omega))
        have hFwf := HF.out nq
        clear HF HC hne
        generalize F nq = wf at *
        have hbf : Below w.heap.size w wf := bel_trans hbw (bel_trans hba hFwf)
        go_wp2_with fail
        go_ret
        exact ⟨ret_bool (by rw [← HY.out, HB.out (fun g => (by have := g.1; rw [← HP.out, H1.out] at this; cases this))]), hbf⟩
      have H1 := ħ h1
      clear h1
      cases h3 : bmT p.b
      case' false =>
        have H3 := ħ h3
        clear h3
        rcases Nat.eq_zero_or_pos k with hk0 | hk0
        · subst hk0
          rw [Nat.zero_mul, Nat.add_zero] at c0 c1 c2 c3
          go_wp2_with fail
          refine wp_region_fam (by kernel_rfl) (by kernel_rfl) (fun ι F hne hF hcl => ?_)
          have hcF0 := fun n o => (bcell (hF n)).1 (wk.heap.size) o (by first | (simp; done) | (simp; omega) | omega)
          have hcF1 := fun n o => (bcell (hF n)).1 (b) o (by first | (simp; done) | (simp; omega) | omega)
          have HF := ħ hF; clear hF
          have HC := ħ hcl; clear hcl
          repeat (any_goals (first
           | go_big_quiet_step (first | (go_at_call 110; exact Calls.fam_same (comm_Digest p.di true _ H1.out)) | (go_at_call 112; exact Calls.fam HC.out (batch_May p.b B m d false _ (HTX.out.up (HF.out _)) H3.out)))
           | (refine wpQuiet_guard _ _ _ rfl rfl ?_; (fail_if_success (intro b' hb; have h2 := hb.symm; have : b' = true := h2.trans (by with_reducible rfl))); (fail_if_success (intro b' hb; have h2 := hb.symm; have : b' = false := h2.trans (by with_reducible rfl))); intro b' hb; simp only [hb]; cases b' <;> (try simp only [Bool.not_eq_true', Bool.not_eq_false', decide_eq_true_eq, decide_eq_false_iff_not, Int.not_lt, Int.not_le, Bool.and_eq_true, Bool.or_eq_true, Bool.or_eq_false_iff, beq_iff_eq, beq_eq_false_iff_ne, Int.natCast_pos] at hb))))
          all_goals (refine wpQuiet_nil ?_; intro nq)
          all_goals (try (exfalso; omega))
          have hFwf := HF.out nq
          clear HF HC hne
          generalize F nq = wf at *
          have hbf : Below w.heap.size w wf := bel_trans hbw (bel_trans hba hFwf)
          go_wp2_with fail
          go_ret
          exact ⟨ret_bool (by rw [← HY.out, HB.out (fun g => (by have := g.2.1; rw [← HP.out, H3.out] at this; cases this))]), hbf⟩
        · have d0 := HD.out hk0
          have hk1 : (0 : Int) < (k : Int) := by omega
          by_cases h2 : o < p.di
          case' neg => have h2b : decide (p.di ≤ o) = true := by simp; omega
          case' pos => have h2b : decide (p.di ≤ o) = false := by simp; omega
          all_goals
            clear h2
            go_wp2_with fail
            refine wp_region_fam (by kernel_rfl) (by kernel_rfl) (fun ι F hne hF hcl => ?_)
            have hcF0 := fun n o => (bcell (hF n)).1 (wk.heap.size) o (by first | (simp; done) | (simp; omega) | omega)
            have hcF1 := fun n o => (bcell (hF n)).1 (b) o (by first | (simp; done) | (simp; omega) | omega)
            have HF := ħ hF; clear hF
            have HC := ħ hcl; clear hcl
            repeat (any_goals (first
             | go_big_quiet_step (first | (go_at_call 110; exact Calls.fam_same (comm_Digest p.di true _ H1.out)) | (go_at_call 112; exact Calls.fam HC.out (batch_May p.b B m d false _ (HTX.out.up (HF.out _)) H3.out)))
             | (refine wpQuiet_guard _ _ _ rfl rfl ?_; (fail_if_success (intro b' hb; have h2 := hb.symm; have : b' = true := h2.trans (by with_reducible rfl))); (fail_if_success (intro b' hb; have h2 := hb.symm; have : b' = false := h2.trans (by with_reducible rfl))); intro b' hb; simp only [hb]; cases b' <;> (try simp only [Bool.not_eq_true', Bool.not_eq_false', decide_eq_true_eq, decide_eq_false_iff_not, Int.not_lt, Int.not_le, Bool.and_eq_true, Bool.or_eq_true, Bool.or_eq_false_iff, beq_iff_eq, beq_eq_false_iff_ne, Int.natCast_pos] at hb))))
            all_goals (refine wpQuiet_nil ?_; intro nq)
            all_goals (try (exfalso; omega))
            have hFwf := HF.out nq
            clear HF HC hne
            generalize F nq = wf at *
            have hbf : Below w.heap.size w wf := bel_trans hbw (bel_trans hba hFwf)
            go_wp2_with fail
            go_ret
            exact ⟨ret_bool (by rw [← HY.out, HB.out (fun g => (by have := g.2.1; rw [← HP.out, H3.out] at this; cases this))]), hbf⟩
      case' true =>
        have H3 := ħ h3
        clear h3
        rcases Nat.eq_zero_or_pos k with hk0 | hk0
        · subst hk0
          rw [Nat.zero_mul, Nat.add_zero] at c0 c1 c2 c3
          go_wp2_with fail
          refine wp_region_fam (by kernel_rfl) (by kernel_rfl) (fun ι F hne hF hcl => ?_)
          have hcF0 := fun n o => (bcell (hF n)).1 (wk.heap.size) o (by first | (simp; done) | (simp; omega) | omega)
          have hcF1 := fun n o => (bcell (hF n)).1 (b) o (by first | (simp; done) | (simp; omega) | omega)
          have HF := ħ hF; clear hF
          have HC := ħ hcl; clear hcl
          repeat (any_goals (first
           | go_big_quiet_step (first | (go_at_call 110; exact Calls.fam_same (comm_Digest p.di true _ H1.out)) | (go_at_call 112; exact Calls.fam HC.out (batch_May p.b B m d true _ (HTX.out.up (HF.out _)) H3.out)))
           | (refine wpQuiet_guard _ _ _ rfl rfl ?_; (fail_if_success (intro b' hb; have h2 := hb.symm; have : b' = true := h2.trans (by with_reducible rfl))); (fail_if_success (intro b' hb; have h2 := hb.symm; have : b' = false := h2.trans (by with_reducible rfl))); intro b' hb; simp only [hb]; cases b' <;> (try simp only [Bool.not_eq_true', Bool.not_eq_false', decide_eq_true_eq, decide_eq_false_iff_not, Int.not_lt, Int.not_le, Bool.and_eq_true, Bool.or_eq_true, Bool.or_eq_false_iff, beq_iff_eq, beq_eq_false_iff_ne, Int.natCast_pos] at hb))))
          all_goals (refine wpQuiet_nil ?_; intro nq)
          all_goals (try (exfalso; omega))
          have hFwf := HF.out nq
          clear HF HC hne
          generalize F nq = wf at *
          have hbf : Below w.heap.size w wf := bel_trans hbw (bel_trans hba hFwf)
          go_wp2_with fail
          (first | (go_round; (case rel => exact ⟨1, by omega, rfl, ħ (fun j hj => by ((obtain rfl : j = 0 := by omega); exact ⟨by rw [← HP.out]; exact H1.out, by rw [← HP.out]; exact H3.out, fun h => absurd h (by omega)⟩)), hbf⟩); (case measure => (simp [intOf] <;> omega))) | (go_roundw; (case rel => exact ⟨1, by omega, rfl, ħ (fun j hj => by ((obtain rfl : j = 0 := by omega); exact ⟨by rw [← HP.out]; exact H1.out, by rw [← HP.out]; exact H3.out, fun h => absurd h (by omega)⟩)), hbf⟩); (case measure => (simp [intOf] <;> omega))) | (refine ⟨?_, by simp [intOf] <;> omega⟩; (repeat apply Exists.intro); refine ⟨?rel, ?fr⟩; (case fr => ((repeat' apply And.intro) <;> rfl)); (case rel => exact ⟨1, by omega, rfl, ħ (fun j hj => by ((obtain rfl : j = 0 := by omega); exact ⟨by rw [← HP.out]; exact H1.out, by rw [← HP.out]; exact H3.out, fun h => absurd h (by omega)⟩)), hbf⟩)))
        · have d0 := HD.out hk0
          have hk1 : (0 : Int) < (k : Int) := by omega
          by_cases h2 : o < p.di
          · have h2b : decide (p.di ≤ o) = false := by simp; omega
            have H2 := ħ h2
            clear h2
            go_wp2_with fail
            refine wp_region_fam (by kernel_rfl) (by kernel_rfl) (fun ι F hne hF hcl => ?_)
            have hcF0 := fun n o => (bcell (hF n)).1 (wk.heap.size) o (by first | (simp; done) | (simp; omega) | omega)
            have hcF1 := fun n o => (bcell (hF n)).1 (b) o (by first | (simp; done) | (simp; omega) | omega)
            have HF := ħ hF; clear hF
            have HC := ħ hcl; clear hcl
            repeat (any_goals (first
             | go_big_quiet_step (first | (go_at_call 110; exact Calls.fam_same (comm_Digest p.di true _ H1.out)) | (go_at_call 112; exact Calls.fam HC.out (batch_May p.b B m d true _ (HTX.out.up (HF.out _)) H3.out)))
             | (refine wpQuiet_guard _ _ _ rfl rfl ?_; (fail_if_success (intro b' hb; have h2 := hb.symm; have : b' = true := h2.trans (by with_reducible rfl))); (fail_if_success (intro b' hb; have h2 := hb.symm; have : b' = false := h2.trans (by with_reducible rfl))); intro b' hb; simp only [hb]; cases b' <;> (try simp only [Bool.not_eq_true', Bool.not_eq_false', decide_eq_true_eq, decide_eq_false_iff_not, Int.not_lt, Int.not_le, Bool.and_eq_true, Bool.or_eq_true, Bool.or_eq_false_iff, beq_iff_eq, beq_eq_false_iff_ne, Int.natCast_pos] at hb))))
            all_goals (refine wpQuiet_nil ?_; intro nq)
            all_goals (try (exfalso; omega))
            have hFwf := HF.out nq
            clear HF HC hne
            generalize F nq = wf at *
            have hbf : Below w.heap.size w wf := bel_trans hbw (bel_trans hba hFwf)
            go_wp2_with fail
            (first | (go_round; (case rel => exact ⟨k + 1, by omega, by go_num, ħ (fun j hj => by (rcases Nat.lt_or_ge j k with h | h; exact HG.out j h; (obtain rfl : j = k := by omega); exact ⟨by rw [← HP.out]; exact H1.out, by rw [← HP.out]; exact H3.out, fun _ => by rw [← HP.out, ← HO.out]; exact H2.out⟩)), hbf⟩); (case measure => (simp [intOf] <;> omega))) | (go_roundw; (case rel => exact ⟨k + 1, by omega, by go_num, ħ (fun j hj => by (rcases Nat.lt_or_ge j k with h | h; exact HG.out j h; (obtain rfl : j = k := by omega); exact ⟨by rw [← HP.out]; exact H1.out, by rw [← HP.out]; exact H3.out, fun _ => by rw [← HP.out, ← HO.out]; exact H2.out⟩)), hbf⟩); (case measure => (simp [intOf] <;> omega))) | (refine ⟨?_, by simp [intOf] <;> omega⟩; (repeat apply Exists.intro); refine ⟨?rel, ?fr⟩; (case fr => ((repeat' apply And.intro) <;> rfl)); (case rel => exact ⟨k + 1, by omega, by go_num, ħ (fun j hj => by (rcases Nat.lt_or_ge j k with h | h; exact HG.out j h; (obtain rfl : j = k := by omega); exact ⟨by rw [← HP.out]; exact H1.out, by rw [← HP.out]; exact H3.out, fun _ => by rw [← HP.out, ← HO.out]; exact H2.out⟩)), hbf⟩)))
          · have h2b : decide (p.di ≤ o) = true := by simp; omega
            have H2 := ħ h2
            clear h2
            go_wp2_with fail
            refine wp_region_fam (by kernel_rfl) (by kernel_rfl) (fun ι F hne hF hcl => ?_)
            have hcF0 := fun n o => (bcell (hF n)).1 (wk.heap.size) o (by first | (simp; done) | (simp; omega) | omega)
            have hcF1 := fun n o => (bcell (hF n)).1 (b) o (by first | (simp; done) | (simp; omega) | omega)
            have HF := ħ hF; clear hF
            have HC := ħ hcl; clear hcl
            repeat (any_goals (first
             | go_big_quiet_step (first | (go_at_call 110; exact Calls.fam_same (comm_Digest p.di true _ H1.out)) | (go_at_call 112; exact Calls.fam HC.out (batch_May p.b B m d true _ (HTX.out.up (HF.out _)) H3.out)))
             | (refine wpQuiet_guard _ _ _ rfl rfl ?_; (fail_if_success (intro b' hb; have h2 := hb.symm; have : b' = true := h2.trans (by with_reducible rfl))); (fail_if_success (intro b' hb; have h2 := hb.symm; have : b' = false := h2.trans (by with_reducible rfl))); intro b' hb; simp only [hb]; cases b' <;> (try simp only [Bool.not_eq_true', Bool.not_eq_false', decide_eq_true_eq, decide_eq_false_iff_not, Int.not_lt, Int.not_le, Bool.and_eq_true, Bool.or_eq_true, Bool.or_eq_false_iff, beq_iff_eq, beq_eq_false_iff_ne, Int.natCast_pos] at hb))))
            all_goals (refine wpQuiet_nil ?_; intro nq)
            all_goals (try (exfalso; omega))
            have hFwf := HF.out nq
            clear HF HC hne
            generalize F nq = wf at *
            have hbf : Below w.heap.size w wf := bel_trans hbw (bel_trans hba hFwf)
            go_wp2_with fail
            go_ret
            exact ⟨ret_bool (by rw [← HY.out, HB.out (fun g => (by have := g.2.2 hk0; rw [← HP.out, ← HO.out] at this; have h9 := H2.out; omega))]), hbf⟩
    · obtain rfl : k = n := by omega
      have hyes : y = true := by rw [← HY.out]; exact hdB_iff.2 (fun j hj => HG.out j (by rw [HN.out] at hj; exact hj))
      subst hyes
      go_wp2_with fail
      go_ret
      exact ⟨rfl, hbw⟩
set_option maxHeartbeats 4000000 in
theorem ref13_Held (A : Option Addr) (n c : Nat) (l : List HeldD) (y : Bool) (w : World) (hl : HeldsR w A n l) (hy : hdB l = y) : Calls Tryz.prog 33 #[.slice A n c] w fun e w' => e = .returned (.bool y) ∧ Below w.heap.size w w' := by
  have HY := ħ hy
  have HL := ħ hl
  have HN := ħ hl.1
  have hnn : n ≤ 9223372036854775807 := hl.2.1
  clear hy hl
  go_enter Tryz.func33, Tryz.ntmps33
  go_wp2_with fail
  go_loopw [3] (fun ix wr => ∃ k : Nat, k ≤ n ∧ ix = .int .i64 k ∧ Hid (∀ j, j < k → HeldOk l j) ∧ Below w.heap.size w wr) (fun ix _ => n - (intOf ix).toNat)
  case atStart => exact ⟨0, Nat.zero_le _, rfl, ħ (fun j hj => absurd hj (by omega)), Below.refl _ _⟩
  case round =>
    obtain ⟨k, hk, rfl, HG, hbw⟩ := hrel
    (obtain ⟨wk, hwk⟩ : ∃ x, x = wr := ⟨_, rfl⟩); subst hwk
    by_cases hlt : k < n
    · obtain ⟨b, off, rfl, hb, hc⟩ := (HL.out.up hbw).2.2 (by omega)
      obtain ⟨B, m, d, ⟨c0, c1, c2, c3⟩, htx⟩ := hc k hlt
      have hbad : ¬ HeldOk l k → hdB l = false := fun h => by
        cases hm : hdB l
        · rfl
        · exact absurd (hdB_iff.1 hm k (by rw [HN.out]; exact hlt)) h
      have HB := ħ hbad
      obtain ⟨p, hp⟩ : ∃ p, p = hth l k := ⟨_, rfl⟩
      rw [← hp] at c0 c1 c2 htx
      have HP := ħ hp
      obtain ⟨o, ho⟩ : ∃ o, o = (hth l (k - 1)).di := ⟨_, rfl⟩
      have hd : 0 < k → wk.cell? ⟨b, off + (k - 1) * 4, none⟩ = some (.int .i64 o) := fun h => by rw [ho]; obtain ⟨_, _, _, ⟨q, _⟩, _⟩ := hc (k - 1) (by omega); exact q
      have HO := ħ ho
      have HD := ħ hd
      clear hc hd ho hp hbad
      have HTX := ħ htx
      clear htx
      cases h1 : digS p.di
      · have H1 := ħ h1
        clear h1
        go_wp2_with fail
        refine wp_region_fam (by kernel_rfl) (by kernel_rfl) (fun ι F hne hF hcl => ?_)
        have hcF0 := fun n o => (bcell (hF n)).1 (b) o (by first | (simp; done) | (simp; omega) | omega)
        have HF := ħ hF; clear hF
        have HC := ħ hcl; clear hcl
        repeat (any_goals (first
         | go_big_quiet_step (first | (go_at_call 36; exact Calls.fam_same (refd_Digest p.di false _ H1.out)))
         | (refine wpQuiet_guard _ _ _ rfl rfl ?_; (fail_if_success (intro b' hb; have h2 := hb.symm; have : b' = true := h2.trans (by with_reducible rfl))); (fail_if_success (intro b' hb; have h2 := hb.symm; have : b' = false := h2.trans (by with_reducible rfl))); intro b' hb; simp only [hb]; cases b' <;> (try simp only [Bool.not_eq_true', Bool.not_eq_false', decide_eq_true_eq, decide_eq_false_iff_not, Int.not_lt, Int.not_le, Bool.and_eq_true, Bool.or_eq_true, Bool.or_eq_false_iff, beq_iff_eq, beq_eq_false_iff_ne, Int.natCast_pos] at hb))))
        all_goals (refine wpQuiet_nil ?_; intro nq)
        all_goals (try (exfalso; omega))
        have hFwf := HF.out nq
        clear HF HC hne
        generalize F nq = wf at *
        have hbf : Below w.heap.size w wf := bel_trans hbw hFwf
        go_wp2_with fail
        go_ret
        exact ⟨ret_bool (by rw [← HY.out, HB.out (fun g => (by have := g.1; rw [← HP.out, H1.out] at this; cases this))]), hbf⟩
      have H1 := ħ h1
      clear h1
      cases h3 : bmT p.b
      case' false =>
        have H3 := ħ h3
        clear h3
        rcases Nat.eq_zero_or_pos k with hk0 | hk0
        · subst hk0
          rw [Nat.zero_mul, Nat.add_zero] at c0 c1 c2 c3
          go_wp2_with fail
          refine wp_region_fam (by kernel_rfl) (by kernel_rfl) (fun ι F hne hF hcl => ?_)
          have hcF0 := fun n o => (bcell (hF n)).1 (b) o (by first | (simp; done) | (simp; omega) | omega)
          have HF := ħ hF; clear hF
          have HC := ħ hcl; clear hcl
          repeat (any_goals (first
           | go_big_quiet_step (first | (go_at_call 36; exact Calls.fam_same (refd_Digest p.di true _ H1.out)) | (go_at_call 69; exact Calls.fam HC.out (ref4_Batch p.b B m d false _ (HTX.out.up (HF.out _)) H3.out)))
           | (refine wpQuiet_guard _ _ _ rfl rfl ?_; (fail_if_success (intro b' hb; have h2 := hb.symm; have : b' = true := h2.trans (by with_reducible rfl))); (fail_if_success (intro b' hb; have h2 := hb.symm; have : b' = false := h2.trans (by with_reducible rfl))); intro b' hb; simp only [hb]; cases b' <;> (try simp only [Bool.not_eq_true', Bool.not_eq_false', decide_eq_true_eq, decide_eq_false_iff_not, Int.not_lt, Int.not_le, Bool.and_eq_true, Bool.or_eq_true, Bool.or_eq_false_iff, beq_iff_eq, beq_eq_false_iff_ne, Int.natCast_pos] at hb))))
          all_goals (refine wpQuiet_nil ?_; intro nq)
          all_goals (try (exfalso; omega))
          have hFwf := HF.out nq
          clear HF HC hne
          generalize F nq = wf at *
          have hbf : Below w.heap.size w wf := bel_trans hbw hFwf
          go_wp2_with fail
          go_ret
          exact ⟨ret_bool (by rw [← HY.out, HB.out (fun g => (by have := g.2.1; rw [← HP.out, H3.out] at this; cases this))]), hbf⟩
        · have d0 := HD.out hk0
          have hk1 : (0 : Int) < (k : Int) := by omega
          by_cases h2 : o < p.di
          case' neg => have h2b : decide (p.di ≤ o) = true := by simp; omega
          case' pos => have h2b : decide (p.di ≤ o) = false := by simp; omega
          all_goals
            clear h2
            go_wp2_with fail
            refine wp_region_fam (by kernel_rfl) (by kernel_rfl) (fun ι F hne hF hcl => ?_)
            have hcF0 := fun n o => (bcell (hF n)).1 (b) o (by first | (simp; done) | (simp; omega) | omega)
            have HF := ħ hF; clear hF
            have HC := ħ hcl; clear hcl
            repeat (any_goals (first
             | go_big_quiet_step (first | (go_at_call 36; exact Calls.fam_same (refd_Digest p.di true _ H1.out)) | (go_at_call 69; exact Calls.fam HC.out (ref4_Batch p.b B m d false _ (HTX.out.up (HF.out _)) H3.out)))
             | (refine wpQuiet_guard _ _ _ rfl rfl ?_; (fail_if_success (intro b' hb; have h2 := hb.symm; have : b' = true := h2.trans (by with_reducible rfl))); (fail_if_success (intro b' hb; have h2 := hb.symm; have : b' = false := h2.trans (by with_reducible rfl))); intro b' hb; simp only [hb]; cases b' <;> (try simp only [Bool.not_eq_true', Bool.not_eq_false', decide_eq_true_eq, decide_eq_false_iff_not, Int.not_lt, Int.not_le, Bool.and_eq_true, Bool.or_eq_true, Bool.or_eq_false_iff, beq_iff_eq, beq_eq_false_iff_ne, Int.natCast_pos] at hb))))
            all_goals (refine wpQuiet_nil ?_; intro nq)
            all_goals (try (exfalso; omega))
            have hFwf := HF.out nq
            clear HF HC hne
            generalize F nq = wf at *
            have hbf : Below w.heap.size w wf := bel_trans hbw hFwf
            go_wp2_with fail
            go_ret
            exact ⟨ret_bool (by rw [← HY.out, HB.out (fun g => (by have := g.2.1; rw [← HP.out, H3.out] at this; cases this))]), hbf⟩
      case' true =>
        have H3 := ħ h3
        clear h3
        rcases Nat.eq_zero_or_pos k with hk0 | hk0
        · subst hk0
          rw [Nat.zero_mul, Nat.add_zero] at c0 c1 c2 c3
          go_wp2_with fail
          refine wp_region_fam (by kernel_rfl) (by kernel_rfl) (fun ι F hne hF hcl => ?_)
          have hcF0 := fun n o => (bcell (hF n)).1 (b) o (by first | (simp; done) | (simp; omega) | omega)
          have HF := ħ hF; clear hF
          have HC := ħ hcl; clear hcl
          repeat (any_goals (first
           | go_big_quiet_step (first | (go_at_call 36; exact Calls.fam_same (refd_Digest p.di true _ H1.out)) | (go_at_call 69; exact Calls.fam HC.out (ref4_Batch p.b B m d true _ (HTX.out.up (HF.out _)) H3.out)))
           | (refine wpQuiet_guard _ _ _ rfl rfl ?_; (fail_if_success (intro b' hb; have h2 := hb.symm; have : b' = true := h2.trans (by with_reducible rfl))); (fail_if_success (intro b' hb; have h2 := hb.symm; have : b' = false := h2.trans (by with_reducible rfl))); intro b' hb; simp only [hb]; cases b' <;> (try simp only [Bool.not_eq_true', Bool.not_eq_false', decide_eq_true_eq, decide_eq_false_iff_not, Int.not_lt, Int.not_le, Bool.and_eq_true, Bool.or_eq_true, Bool.or_eq_false_iff, beq_iff_eq, beq_eq_false_iff_ne, Int.natCast_pos] at hb))))
          all_goals (refine wpQuiet_nil ?_; intro nq)
          all_goals (try (exfalso; omega))
          have hFwf := HF.out nq
          clear HF HC hne
          generalize F nq = wf at *
          have hbf : Below w.heap.size w wf := bel_trans hbw hFwf
          go_wp2_with fail
          (first | (go_round; (case rel => exact ⟨1, by omega, rfl, ħ (fun j hj => by ((obtain rfl : j = 0 := by omega); exact ⟨by rw [← HP.out]; exact H1.out, by rw [← HP.out]; exact H3.out, fun h => absurd h (by omega)⟩)), hbf⟩); (case measure => (simp [intOf] <;> omega))) | (go_roundw; (case rel => exact ⟨1, by omega, rfl, ħ (fun j hj => by ((obtain rfl : j = 0 := by omega); exact ⟨by rw [← HP.out]; exact H1.out, by rw [← HP.out]; exact H3.out, fun h => absurd h (by omega)⟩)), hbf⟩); (case measure => (simp [intOf] <;> omega))) | (refine ⟨?_, by simp [intOf] <;> omega⟩; (repeat apply Exists.intro); refine ⟨?rel, ?fr⟩; (case fr => ((repeat' apply And.intro) <;> rfl)); (case rel => exact ⟨1, by omega, rfl, ħ (fun j hj => by ((obtain rfl : j = 0 := by omega); exact ⟨by rw [← HP.out]; exact H1.out, by rw [← HP.out]; exact H3.out, fun h => absurd h (by omega)⟩)), hbf⟩)))
        · have d0 := HD.out hk0
          have hk1 : (0 : Int) < (k : Int) := by omega
          by_cases h2 : o < p.di
          · have h2b : decide (p.di ≤ o) = false := by simp; omega
            have H2 := ħ h2
            clear h2
            go_wp2_with fail
            refine wp_region_fam (by kernel_rfl) (by kernel_rfl) (fun ι F hne hF hcl => ?_)
            have hcF0 := fun n o => (bcell (hF n)).1 (b) o (by first | (simp; done) | (simp; omega) | omega)
            have HF := ħ hF; clear hF
            have HC := ħ hcl; clear hcl
            repeat (any_goals (first
             | go_big_quiet_step (first | (go_at_call 36; exact Calls.fam_same (refd_Digest p.di true _ H1.out)) | (go_at_call 69; exact Calls.fam HC.out (ref4_Batch p.b B m d true _ (HTX.out.up (HF.out _)) H3.out)))
             | (refine wpQuiet_guard _ _ _ rfl rfl ?_; (fail_if_success (intro b' hb; have h2 := hb.symm; have : b' = true := h2.trans (by with_reducible rfl))); (fail_if_success (intro b' hb; have h2 := hb.symm; have : b' = false := h2.trans (by with_reducible rfl))); intro b' hb; simp only [hb]; cases b' <;> (try simp only [Bool.not_eq_true', Bool.not_eq_false', decide_eq_true_eq, decide_eq_false_iff_not, Int.not_lt, Int.not_le, Bool.and_eq_true, Bool.or_eq_true, Bool.or_eq_false_iff, beq_iff_eq, beq_eq_false_iff_ne, Int.natCast_pos] at hb))))
            all_goals (refine wpQuiet_nil ?_; intro nq)
            all_goals (try (exfalso; omega))
            have hFwf := HF.out nq
            clear HF HC hne
            generalize F nq = wf at *
            have hbf : Below w.heap.size w wf := bel_trans hbw hFwf
            go_wp2_with fail
            (first | (go_round; (case rel => exact ⟨k + 1, by omega, by go_num, ħ (fun j hj => by (rcases Nat.lt_or_ge j k with h | h; exact HG.out j h; (obtain rfl : j = k := by omega); exact ⟨by rw [← HP.out]; exact H1.out, by rw [← HP.out]; exact H3.out, fun _ => by rw [← HP.out, ← HO.out]; exact H2.out⟩)), hbf⟩); (case measure => (simp [intOf] <;> omega))) | (go_roundw; (case rel => exact ⟨k + 1, by omega, by go_num, ħ (fun j hj => by (rcases Nat.lt_or_ge j k with h | h; exact HG.out j h; (obtain rfl : j = k := by omega); exact ⟨by rw [← HP.out]; exact H1.out, by rw [← HP.out]; exact H3.out, fun _ => by rw [← HP.out, ← HO.out]; exact H2.out⟩)), hbf⟩); (case measure => (simp [intOf] <;> omega))) | (refine ⟨?_, by simp [intOf] <;> omega⟩; (repeat apply Exists.intro); refine ⟨?rel, ?fr⟩; (case fr => ((repeat' apply And.intro) <;> rfl)); (case rel => exact ⟨k + 1, by omega, by go_num, ħ (fun j hj => by (rcases Nat.lt_or_ge j k with h | h; exact HG.out j h; (obtain rfl : j = k := by omega); exact ⟨by rw [← HP.out]; exact H1.out, by rw [← HP.out]; exact H3.out, fun _ => by rw [← HP.out, ← HO.out]; exact H2.out⟩)), hbf⟩)))
          · have h2b : decide (p.di ≤ o) = true := by simp; omega
            have H2 := ħ h2
            clear h2
            go_wp2_with fail
            refine wp_region_fam (by kernel_rfl) (by kernel_rfl) (fun ι F hne hF hcl => ?_)
            have hcF0 := fun n o => (bcell (hF n)).1 (b) o (by first | (simp; done) | (simp; omega) | omega)
            have HF := ħ hF; clear hF
            have HC := ħ hcl; clear hcl
            repeat (any_goals (first
             | go_big_quiet_step (first | (go_at_call 36; exact Calls.fam_same (refd_Digest p.di true _ H1.out)) | (go_at_call 69; exact Calls.fam HC.out (ref4_Batch p.b B m d true _ (HTX.out.up (HF.out _)) H3.out)))
             | (refine wpQuiet_guard _ _ _ rfl rfl ?_; (fail_if_success (intro b' hb; have h2 := hb.symm; have : b' = true := h2.trans (by with_reducible rfl))); (fail_if_success (intro b' hb; have h2 := hb.symm; have : b' = false := h2.trans (by with_reducible rfl))); intro b' hb; simp only [hb]; cases b' <;> (try simp only [Bool.not_eq_true', Bool.not_eq_false', decide_eq_true_eq, decide_eq_false_iff_not, Int.not_lt, Int.not_le, Bool.and_eq_true, Bool.or_eq_true, Bool.or_eq_false_iff, beq_iff_eq, beq_eq_false_iff_ne, Int.natCast_pos] at hb))))
            all_goals (refine wpQuiet_nil ?_; intro nq)
            all_goals (try (exfalso; omega))
            have hFwf := HF.out nq
            clear HF HC hne
            generalize F nq = wf at *
            have hbf : Below w.heap.size w wf := bel_trans hbw hFwf
            go_wp2_with fail
            go_ret
            exact ⟨ret_bool (by rw [← HY.out, HB.out (fun g => (by have := g.2.2 hk0; rw [← HP.out, ← HO.out] at this; have h9 := H2.out; omega))]), hbf⟩
    · obtain rfl : k = n := by omega
      have hyes : y = true := by rw [← HY.out]; exact hdB_iff.2 (fun j hj => HG.out j (by rw [HN.out] at hj; exact hj))
      subst hyes
      go_wp2_with fail
      go_ret
      exact ⟨rfl, hbw⟩
def kposH (l : List HeldD) (key : Int) : Nat := cnt (fun x => ltI x.di key) l
noncomputable def khasH (l : List HeldD) (key : Int) : Bool := dec (kposH l key < l.length ∧ (hth l (kposH l key)).di = key)
def SortedH (l : List HeldD) : Prop := ∀ i j, i < j → j < l.length → ltI (hth l i).di (hth l j).di = true
set_option maxHeartbeats 1000000 in
theorem clos_H (a : HeldD) (Bq : Option Addr) (mq dq : Nat) (key : Int) (w : World) : Calls Tryz.prog 140 #[.agg #[.int .i64 a.di, .int .i64 a.b.au, .int .i64 a.b.n, .slice Bq mq dq], .int .i64 key] w fun e w' => e = .returned (.int .i64 (cmp3 a.di key)) ∧ Below w.heap.size w w' := by
  go_enter Tryz.func140, Tryz.ntmps140
  go_wp2_with (go_at_call 141; refine (cmp_Compare_int _ _ _).mono ?_; rintro e w' ⟨rfl, rfl⟩)
  go_ret
  exact ⟨rfl, belA⟩
def CutH (l : List HeldD) (n : Nat) (key : Int) (lo hi : Nat) : Prop := (∀ t, t < lo → ltI (hth l t).di key = true) ∧ ∀ t, hi ≤ t → t < n → ltI (hth l t).di key = false
theorem CutH.pos {l : List HeldD} {n : Nat} {key : Int} {lo : Nat} (h : CutH l n key lo lo) (hn : l.length = n) (hlo : lo ≤ n) : kposH l key = lo :=
  cnt_eq _ l lo (by omega) (fun t ht => by rw [List.getD_eq_getElem?_getD] at *; have := h.1 t ht; exact this) (fun ht => h.2 lo (Nat.le_refl _) (by omega))
set_option maxHeartbeats 2000000 in
theorem bsf_H (A : Option Addr) (n c : Nat) (l : List HeldD) (key : Int) (lo' : Nat) (y : Bool) (w : World) (hl : HeldsR w A n l) (hP : SortedH l) (hn : n ≤ 1000000000) (hlo' : kposH l key = lo') (hy : khasH l key = y) :
    Calls Tryz.prog 139 #[.slice A n c, .int .i64 key, .func (.func 140) #[] #[]] w fun e w' => e = .returned (.tuple #[.int .i64 lo', .bool y]) ∧ Below w.heap.size w w' := by
  have HL := ħ hl
  have HN := ħ hl.1
  have HP := ħ hP
  have HLO := ħ hlo'
  have HY := ħ hy
  clear hl hP hlo' hy
  go_enter Tryz.func139, Tryz.ntmps139
  go_wp2_with fail
  go_loopw [9, 10] (fun s7 s8 wr => ∃ lo hi : Nat, s7 = .int .i64 lo ∧ s8 = .int .i64 hi ∧ lo ≤ hi ∧ hi ≤ n ∧ Hid (CutH l n key lo hi) ∧ Below w.heap.size w wr) (fun s7 s8 _ => (intOf s8).toNat - (intOf s7).toNat)
  case atStart => exact ⟨0, n, rfl, rfl, Nat.zero_le _, Nat.le_refl _, ⟨fun t ht => absurd ht (Nat.not_lt_zero _), fun t h1 h2 => by omega⟩, Below.refl _ _⟩
  case round =>
    obtain ⟨lo, hi, rfl, rfl, hlh, hin, I, hbw⟩ := hrel
    (obtain ⟨wx, hwx⟩ : ∃ x, x = wr := ⟨_, rfl⟩); subst hwx
    by_cases hlt : lo < hi
    · obtain ⟨b, off, rfl, hb, hc⟩ := (HL.out.up hbw).2.2 (by omega)
      obtain ⟨m, hm⟩ : ∃ m, m = (lo + hi) / 2 := ⟨_, rfl⟩
      have hmn : m < n := by omega
      obtain ⟨Bq, mq, dq, ⟨c0, c1, c2, c3⟩, -⟩ := hc m hmn
      have hd2 : ((lo : Int) + (hi : Int)) / 2 = (m : Int) := by rw [hm]; omega
      have hm2 : m < hi := by omega
      have hm1 : lo ≤ m := by omega
      have HM2 := ħ hm
      clear hc hm
      cases hbf : ltI (hth l m).di key
      · have hd : decide (cmp3 (hth l m).di key < 0) = false := by rw [decide_eq_false_iff_not, cmpI_lt, hbf]; simp
        have HB := ħ hbf
        clear hbf
        go_wp2_with (go_at_call 140; refine (clos_H (hth l m) Bq mq dq key _).mono ?_; rintro e w1 ⟨rfl, hb1⟩)
        (first | (go_round; (case rel => (refine ⟨lo, m, rfl, by go_num, by omega, by omega, ħ ⟨I.out.1, fun t h1 h2 => ?_⟩, bel_trans hbw hb1⟩; rcases Nat.lt_or_ge m t with h5 | h5; exact ltI_no (HP.out m t h5 (by rw [HN.out]; exact h2)) HB.out; (obtain rfl : t = m := by omega); exact HB.out)); (case measure => (simp [intOf] <;> omega))) | (go_roundw; (case rel => (refine ⟨lo, m, rfl, by go_num, by omega, by omega, ħ ⟨I.out.1, fun t h1 h2 => ?_⟩, bel_trans hbw hb1⟩; rcases Nat.lt_or_ge m t with h5 | h5; exact ltI_no (HP.out m t h5 (by rw [HN.out]; exact h2)) HB.out; (obtain rfl : t = m := by omega); exact HB.out)); (case measure => (simp [intOf] <;> omega))) | (refine ⟨?_, by simp [intOf] <;> omega⟩; (repeat apply Exists.intro); refine ⟨?rel, ?fr⟩; (case fr => ((repeat' apply And.intro) <;> rfl)); (case rel => (refine ⟨lo, m, rfl, by go_num, by omega, by omega, ħ ⟨I.out.1, fun t h1 h2 => ?_⟩, bel_trans hbw hb1⟩; rcases Nat.lt_or_ge m t with h5 | h5; exact ltI_no (HP.out m t h5 (by rw [HN.out]; exact h2)) HB.out; (obtain rfl : t = m := by omega); exact HB.out))))
      · have hd : decide (cmp3 (hth l m).di key < 0) = true := by rw [decide_eq_true_eq, cmpI_lt, hbf]
        have HB := ħ hbf
        clear hbf
        go_wp2_with (go_at_call 140; refine (clos_H (hth l m) Bq mq dq key _).mono ?_; rintro e w1 ⟨rfl, hb1⟩)
        (first | (go_round; (case rel => (refine ⟨m + 1, hi, by go_num, rfl, by omega, by omega, ħ ⟨fun t h1 => ?_, I.out.2⟩, bel_trans hbw hb1⟩; rcases Nat.lt_or_ge t m with h5 | h5; exact ltI_trans (HP.out t m h5 (by rw [HN.out]; exact hmn)) HB.out; (obtain rfl : t = m := by omega); exact HB.out)); (case measure => (simp [intOf] <;> omega))) | (go_roundw; (case rel => (refine ⟨m + 1, hi, by go_num, rfl, by omega, by omega, ħ ⟨fun t h1 => ?_, I.out.2⟩, bel_trans hbw hb1⟩; rcases Nat.lt_or_ge t m with h5 | h5; exact ltI_trans (HP.out t m h5 (by rw [HN.out]; exact hmn)) HB.out; (obtain rfl : t = m := by omega); exact HB.out)); (case measure => (simp [intOf] <;> omega))) | (refine ⟨?_, by simp [intOf] <;> omega⟩; (repeat apply Exists.intro); refine ⟨?rel, ?fr⟩; (case fr => ((repeat' apply And.intro) <;> rfl)); (case rel => (refine ⟨m + 1, hi, by go_num, rfl, by omega, by omega, ħ ⟨fun t h1 => ?_, I.out.2⟩, bel_trans hbw hb1⟩; rcases Nat.lt_or_ge t m with h5 | h5; exact ltI_trans (HP.out t m h5 (by rw [HN.out]; exact hmn)) HB.out; (obtain rfl : t = m := by omega); exact HB.out))))
    · obtain rfl : hi = lo := by omega
      have hpos := I.out.pos HN.out hin
      rw [HLO.out] at hpos
      subst hpos
      by_cases hln : lo' < n
      · obtain ⟨b, off, rfl, hb, hc⟩ := (HL.out.up hbw).2.2 (by omega)
        obtain ⟨Bq, mq, dq, ⟨c0, c1, c2, c3⟩, -⟩ := hc lo' hln
        clear hc
        have hyv : y = (cmp3 (hth l lo').di key == 0) := by
          rw [← HY.out, Bool.eq_iff_iff]; unfold khasH; rw [HLO.out, dec_iff, beq_iff_eq, cmpI_eq, HN.out]
          exact ⟨fun h => h.2, fun h => ⟨hln, h⟩⟩
        have HYV := ħ hyv
        clear hyv
        go_wp2_with (go_at_call 140; refine (clos_H (hth l lo') Bq mq dq key _).mono ?_; rintro e w1 ⟨rfl, hb1⟩)
        go_ret2
        exact ⟨by rw [HYV.out]; rfl, bel_trans hbw hb1⟩
      · have hh : y = false := by
          rw [← HY.out]
          cases h : khasH l key
          · rfl
          · have := (dec_iff.1 h).1; rw [HN.out, HLO.out] at this; exact absurd this hln
        subst hh
        go_wp2_with fail
        go_ret2
        exact ⟨rfl, hbw⟩
theorem MayHs.sorted {l : List HeldD} (h : MayHs l) : SortedH l := by
  have step : ∀ j, j + 1 < l.length → (hth l j).di < (hth l (j + 1)).di := fun j hj => by
    have := (h (j + 1) hj).2.2 (by omega)
    simpa using this
  have main : ∀ d i, i + d + 1 < l.length → (hth l i).di < (hth l (i + d + 1)).di := fun d => by
    induction d with
    | zero => intro i hi; exact step i hi
    | succ d ih => intro i hi; have := ih i (by omega); have := step (i + d + 1) (by omega); rw [show i + (d + 1) + 1 = i + d + 1 + 1 by omega]; omega
  intro i j hij hj
  have := main (j - i - 1) i (by omega)
  rw [show i + (j - i - 1) + 1 = j by omega] at this
  simpa [ltI] using this
theorem worker_At (A : Option Addr) (n c : Nat) (l : List HeldD) (key : Int) (lo : Nat) (y : Bool) (w : World) (hl : HeldsR w A n l) (hP : SortedH l) (hn : n ≤ 1000000000) (hlo : kposH l key = lo) (hy : khasH l key = y) :
    Calls Tryz.prog 118 #[.slice A n c, .int .i64 key] w fun e w' => e = .returned (.tuple #[.int .i64 lo, .bool y]) ∧ Below w.heap.size w w' := by
  have HL := ħ hl
  have HP := ħ hP
  clear hl hP
  go_enter Tryz.func118, Tryz.ntmps118
  go_wp2_with fail
  refine (bsf_H A n c l key lo y _ (HL.out.up (belA)) HP.out hn hlo hy).mono ?_
  rintro e w1 ⟨rfl, hb1⟩
  go_wp2_with fail
  go_ret2
  exact ⟨rfl, belA⟩
end
end Go.Proofs.YtgfakefcmbpboaaGreat
