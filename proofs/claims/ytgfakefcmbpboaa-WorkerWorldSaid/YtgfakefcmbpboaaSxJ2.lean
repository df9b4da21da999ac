/- Joined: Ea Eb Ec Ed Eh Ei. -/
import Derived.Test.YtgfakefcmbpboaaSxJ1
import Derived.Deep.RegionLaw
import Derived.Deep.RegionWith
import Derived.Deep.Cut
import Derived.Deep.CutRange
namespace Go.Proofs.Ytgfakefcmbpboaa
set_option linter.unusedSimpArgs false
set_option linter.unusedVariables false

section
open Go.RowKit
def WithinI (l : List Int) (lo hi : Int) : Prop := ∀ j, j < l.length → lo ≤ nth l j ∧ nth l j ≤ hi
noncomputable def betS (l : List Int) (lo hi : Int) : Bool := dec (WithinI l lo hi)
set_option maxRecDepth 100000 in
set_option maxHeartbeats 1000000 in
theorem ref0_Between (A : Option Addr) (n c : Nat) (l : List Int) (lo hi : Int) (w : World) (hl : IntsR w A n l) :
    Calls Try.prog 37 #[.slice A n c, .int .i64 lo, .int .i64 hi] w fun e w' => e = .returned (.bool (betS l lo hi)) ∧ w = w' := by
  obtain ⟨h1, h2, h3⟩ := hl
  have H1 := Lib.hid h1; clear h1
  go_enter Try.func37, Try.ntmps37
  go_wp2
  go_loop [7] (fun i => ∃ k : Nat, k ≤ n ∧ i = .int .i64 k ∧ ∀ j, j < k → lo ≤ nth l j ∧ nth l j ≤ hi) (fun i => n - (intOf i).toNat)
  case atStart => exact ⟨0, Nat.zero_le _, rfl, fun j hj => absurd hj (by omega)⟩
  case round =>
    obtain ⟨k, hk, rfl, hr⟩ := hrel
    have HR := Lib.hid hr; clear hr
    by_cases hlt : k < n
    · obtain ⟨b, off, rfl, _, hc⟩ := h3 (by omega)
      have hck := hc k hlt
      clear hc h3
      have bad : ¬ (lo ≤ nth l k ∧ nth l k ≤ hi) → false = betS l lo hi := fun h => dec_false fun g => h (g k (by rw [H1.out]; exact hlt))
      have B := Lib.hid bad; clear bad
      go_wp2
      all_goals first
        | (go_round
           case rel =>
             refine ⟨k + 1, by omega, by go_num, fun j hj => ?_⟩
             by_cases hjk : j = k
             · subst hjk; exact ⟨by omega, by omega⟩
             · exact HR.out j (by omega)
           case measure => simp [intOf]; omega)
        | (go_ret; exact ⟨ret_bool (B.out (by omega)), rfl⟩)
    · go_wp2
      go_ret
      exact ⟨ret_bool (dec_true fun j hj => HR.out j (by rw [H1.out] at hj; omega)), rfl⟩
theorem ref0_Digests (A : Option Addr) (n c : Nat) (l : List Int) (w : World) (hl : IntsR w A n l) :
    Calls Try.prog 33 #[.slice A n c] w fun e w' => e = .returned (.bool (betS l 1 65536)) ∧ w = w' := by
  go_enter Try.func33, Try.ntmps33
  go_wp2_with (go_at_call 37; refine (ref0_Between _ _ _ l _ _ _ hl).mono ?_; rintro e w' ⟨rfl, rfl⟩)
  go_ret
  exact ⟨rfl, rfl⟩
def inF (x : Int) : Int → List Int → Int
  | _, [] => -1
  | i, c :: l => if c = x then i else inF x (i + 1) l
def inS (l : List Int) (x : Int) : Int := inF x 0 l
theorem inF_step (x : Int) (l : List Int) (k : Nat) (h : k < l.length) : inF x k (l.drop k) = if nth l k = x then (k : Int) else inF x ((k + 1 : Nat) : Int) (l.drop (k + 1)) := by
  rw [drop_nth l k h, inF]; simp

set_option maxRecDepth 100000 in
set_option maxHeartbeats 1000000 in
theorem ref0_In (A : Option Addr) (n c : Nat) (l : List Int) (x : Int) (w : World) (hl : IntsR w A n l) :
    Calls Try.prog 12 #[.slice A n c, .int .i64 x] w fun e w' => e = .returned (.int .i64 (inS l x)) ∧ w = w' := by
  obtain ⟨h1, h2, h3⟩ := hl
  have H1 := Lib.hid h1; clear h1
  have H3 := Lib.hid h3; clear h3
  go_enter Try.func12, Try.ntmps12
  go_wp2
  go_loop [5] (fun i => ∃ k : Nat, k ≤ n ∧ i = .int .i64 k ∧ Hid (inS l x = inF x k (l.drop k))) (fun i => n - (intOf i).toNat)
  case atStart => exact ⟨0, Nat.zero_le _, rfl, rfl⟩
  case round =>
    obtain ⟨k, hk, rfl, hr⟩ := hrel
    by_cases hlt : k < n
    · obtain ⟨b, off, rfl, hb, hc⟩ := H3.out (by omega)
      have hck := hc k hlt
      clear hc
      have HS := Lib.hid (inF_step x l k (by rw [H1.out]; exact hlt))
      go_wp2
      all_goals first
        | (go_round
           case rel => exact ⟨k + 1, by omega, by go_num, by have e := hr.out; rw [HS.out, if_neg (by simpa using ‹(nth l k == x) = false›)] at e; exact e⟩
           case measure => simp [intOf]; omega)
        | (go_ret; exact ⟨ret_int (by rw [hr.out, HS.out, if_pos (by simpa using ‹(nth l k == x) = true›)]), rfl⟩)
    · go_wp2
      go_ret
      exact ⟨ret_int (by rw [hr.out, List.drop_of_length_le (by rw [H1.out]; omega)]; rfl), rfl⟩
theorem ext_nth {l m : List Int} (h : l.length = m.length) (hh : ∀ j, j < l.length → nth l j = nth m j) : l = m := by
  apply List.ext_getElem h
  intro i h1 h2
  have := hh i h1
  simpa [nth, h1, h2] using this
noncomputable def eqL (l m : List Int) : Bool := dec (l = m)
set_option maxRecDepth 100000 in
set_option maxHeartbeats 1000000 in
theorem ref0_EqNumbers (A : Option Addr) (n c : Nat) (l : List Int) (B : Option Addr) (m d : Nat) (k : List Int) (w : World) (hl : IntsR w A n l) (hk : IntsR w B m k) :
    Calls Try.prog 15 #[.slice A n c, .slice B m d] w fun e w' => e = .returned (.bool (eqL l k)) ∧ Below w.heap.size w w' := by
  have HL := Lib.hid hl
  have HK := Lib.hid hk
  have hn : n ≤ 9223372036854775807 := hl.2.1
  have N1 := Lib.hid hl.1
  have N2 := Lib.hid hk.1
  clear hl hk
  by_cases hnm : n = m
  · subst hnm
    go_enter Try.func15, Try.ntmps15
    go_wp2
    go_loopw [5] (fun i wr => ∃ j : Nat, j ≤ n ∧ i = .int .i64 j ∧ Hid (∀ q, q < j → nth l q = nth k q) ∧ Below w.heap.size w wr) (fun i _ => n - (intOf i).toNat)
    case atStart => exact ⟨0, Nat.zero_le _, rfl, fun q hq => absurd hq (by omega), by (repeat (first | (with_reducible exact Below.refl _ _) | (with_reducible assumption) | (with_reducible apply bel_alloc) | (with_reducible apply bel_drew) | (with_reducible apply bel_drewN) | (with_reducible refine bel_trans ?_ (by with_reducible assumption)) | (with_reducible refine bel_trans ?_ (HF.out _)) | (with_reducible refine bel_set ?_ (by simp) _) | (with_reducible refine bel_set ?_ (by simp; omega) _) | (with_reducible refine bel_set ?_ (by omega) _)))⟩
    case round =>
      obtain ⟨j, hj, rfl, heq, hbw⟩ := hrel
      by_cases hlt : j < n
      · obtain ⟨b1, o1, rfl, hb1, hc1⟩ := (HL.out.up hbw).2.2 (Nat.lt_of_le_of_lt (Nat.zero_le j) hlt)
        obtain ⟨b2, o2, rfl, hb2, hc2⟩ := (HK.out.up hbw).2.2 (Nat.lt_of_le_of_lt (Nat.zero_le j) hlt)
        have q1 := hc1 j hlt
        have q2 := hc2 j hlt
        clear hc1 hc2
        by_cases hq : nth l j = nth k j
        · have hne : (nth l j != nth k j) = false := by simp [hq]
          have HQ := Lib.hid hq; clear hq
          go_wp2_with fail
          refine wp_region_fam (by kernel_rfl) (by kernel_rfl) (fun ι F hne hF hcl => ?_)
          have hcF0 := fun n o => (bcell (hF n)).1 (b1) o (by first | (simp; done) | (simp; omega) | omega)
          have hcF1 := fun n o => (bcell (hF n)).1 (b2) o (by first | (simp; done) | (simp; omega) | omega)
          have HF := Lib.hid hF; clear hF
          have HC := Lib.hid hcl; clear hcl
          repeat (any_goals (first
           | go_big_quiet_step (first | (fail))
           | (refine wpQuiet_guard _ _ _ rfl rfl ?_; (fail_if_success (intro b' hb; have h2 := hb.symm; have : b' = true := h2.trans (by with_reducible rfl))); (fail_if_success (intro b' hb; have h2 := hb.symm; have : b' = false := h2.trans (by with_reducible rfl))); intro b' hb; simp only [hb]; cases b' <;> (try simp only [Bool.not_eq_true', Bool.not_eq_false', decide_eq_true_eq, decide_eq_false_iff_not, Int.not_lt, Int.not_le, Bool.and_eq_true, Bool.or_eq_true, Bool.or_eq_false_iff, beq_iff_eq, beq_eq_false_iff_ne, Int.natCast_pos] at hb))))
          all_goals (refine wpQuiet_nil ?_; intro nq; go_wp2_with (fail))
          (first | (go_round; (case rel => (refine ⟨j + 1, by omega, by go_num, fun q hq => ?_, by (repeat (first | (with_reducible exact Below.refl _ _) | (with_reducible assumption) | (with_reducible apply bel_alloc) | (with_reducible apply bel_drew) | (with_reducible apply bel_drewN) | (with_reducible refine bel_trans ?_ (by with_reducible assumption)) | (with_reducible refine bel_trans ?_ (HF.out _)) | (with_reducible refine bel_set ?_ (by simp) _) | (with_reducible refine bel_set ?_ (by simp; omega) _) | (with_reducible refine bel_set ?_ (by omega) _)))⟩; rcases Nat.lt_or_ge q j with h1 | h1; exact heq.out q h1; obtain rfl : q = j := (by omega); exact HQ.out)); (case measure => (simp [intOf] <;> omega))) | (go_roundw; (case rel => (refine ⟨j + 1, by omega, by go_num, fun q hq => ?_, by (repeat (first | (with_reducible exact Below.refl _ _) | (with_reducible assumption) | (with_reducible apply bel_alloc) | (with_reducible apply bel_drew) | (with_reducible apply bel_drewN) | (with_reducible refine bel_trans ?_ (by with_reducible assumption)) | (with_reducible refine bel_trans ?_ (HF.out _)) | (with_reducible refine bel_set ?_ (by simp) _) | (with_reducible refine bel_set ?_ (by simp; omega) _) | (with_reducible refine bel_set ?_ (by omega) _)))⟩; rcases Nat.lt_or_ge q j with h1 | h1; exact heq.out q h1; obtain rfl : q = j := (by omega); exact HQ.out)); (case measure => (simp [intOf] <;> omega))) | (refine ⟨?_, by simp [intOf] <;> omega⟩; (repeat apply Exists.intro); refine ⟨?rel, ?fr⟩; (case fr => ((repeat' apply And.intro) <;> rfl)); (case rel => (refine ⟨j + 1, by omega, by go_num, fun q hq => ?_, by (repeat (first | (with_reducible exact Below.refl _ _) | (with_reducible assumption) | (with_reducible apply bel_alloc) | (with_reducible apply bel_drew) | (with_reducible apply bel_drewN) | (with_reducible refine bel_trans ?_ (by with_reducible assumption)) | (with_reducible refine bel_trans ?_ (HF.out _)) | (with_reducible refine bel_set ?_ (by simp) _) | (with_reducible refine bel_set ?_ (by simp; omega) _) | (with_reducible refine bel_set ?_ (by omega) _)))⟩; rcases Nat.lt_or_ge q j with h1 | h1; exact heq.out q h1; obtain rfl : q = j := (by omega); exact HQ.out))))
        · have hne : (nth l j != nth k j) = true := by simp [hq]
          have HQ := Lib.hid hq; clear hq
          go_wp2_with fail
          refine wp_region_fam (by kernel_rfl) (by kernel_rfl) (fun ι F hne hF hcl => ?_)
          have hcF0 := fun n o => (bcell (hF n)).1 (b1) o (by first | (simp; done) | (simp; omega) | omega)
          have hcF1 := fun n o => (bcell (hF n)).1 (b2) o (by first | (simp; done) | (simp; omega) | omega)
          have HF := Lib.hid hF; clear hF
          have HC := Lib.hid hcl; clear hcl
          repeat (any_goals (first
           | go_big_quiet_step (first | (fail))
           | (refine wpQuiet_guard _ _ _ rfl rfl ?_; (fail_if_success (intro b' hb; have h2 := hb.symm; have : b' = true := h2.trans (by with_reducible rfl))); (fail_if_success (intro b' hb; have h2 := hb.symm; have : b' = false := h2.trans (by with_reducible rfl))); intro b' hb; simp only [hb]; cases b' <;> (try simp only [Bool.not_eq_true', Bool.not_eq_false', decide_eq_true_eq, decide_eq_false_iff_not, Int.not_lt, Int.not_le, Bool.and_eq_true, Bool.or_eq_true, Bool.or_eq_false_iff, beq_iff_eq, beq_eq_false_iff_ne, Int.natCast_pos] at hb))))
          all_goals (refine wpQuiet_nil ?_; intro nq; go_wp2_with (fail))
          go_ret
          exact ⟨ret_bool (dec_false fun e => HQ.out (by rw [e])), by (repeat (first | (with_reducible exact Below.refl _ _) | (with_reducible assumption) | (with_reducible apply bel_alloc) | (with_reducible apply bel_drew) | (with_reducible apply bel_drewN) | (with_reducible refine bel_trans ?_ (by with_reducible assumption)) | (with_reducible refine bel_trans ?_ (HF.out _)) | (with_reducible refine bel_set ?_ (by simp) _) | (with_reducible refine bel_set ?_ (by simp; omega) _) | (with_reducible refine bel_set ?_ (by omega) _)))⟩
      · go_wp2
        go_ret
        exact ⟨ret_bool (dec_true (ext_nth (N1.out.trans N2.out.symm) (fun q hq => heq.out q (by rw [N1.out] at hq; omega)))), by (repeat (first | (with_reducible exact Below.refl _ _) | (with_reducible assumption) | (with_reducible apply bel_alloc) | (with_reducible apply bel_drew) | (with_reducible apply bel_drewN) | (with_reducible refine bel_trans ?_ (by with_reducible assumption)) | (with_reducible refine bel_trans ?_ (HF.out _)) | (with_reducible refine bel_set ?_ (by simp) _) | (with_reducible refine bel_set ?_ (by simp; omega) _) | (with_reducible refine bel_set ?_ (by omega) _)))⟩
  · go_enter Try.func15, Try.ntmps15
    go_wp2
    go_ret
    exact ⟨ret_bool (dec_false fun e => hnm (by rw [← N1.out, ← N2.out, e])), by (repeat (first | (with_reducible exact Below.refl _ _) | (with_reducible assumption) | (with_reducible apply bel_alloc) | (with_reducible apply bel_drew) | (with_reducible apply bel_drewN) | (with_reducible refine bel_trans ?_ (by with_reducible assumption)) | (with_reducible refine bel_trans ?_ (HF.out _)) | (with_reducible refine bel_set ?_ (by simp) _) | (with_reducible refine bel_set ?_ (by simp; omega) _) | (with_reducible refine bel_set ?_ (by omega) _)))⟩
theorem eqL_self (l : List Int) : eqL l l = true := dec_iff.2 rfl
theorem ref0_EqNumbers_same (A : Option Addr) (n c : Nat) (l : List Int) (B : Option Addr) (m d : Nat) (w : World) (hl : IntsR w A n l) (hk : IntsR w B m l) :
    Calls Try.prog 15 #[.slice A n c, .slice B m d] w fun e w' => e = .returned (.bool true) ∧ Below w.heap.size w w' :=
  (ref0_EqNumbers A n c l B m d l w hl hk).mono fun e w' ⟨h1, h2⟩ => ⟨by rw [h1, eqL_self], h2⟩
theorem IntsR.nil (w : World) (A : Option Addr) : IntsR w A 0 [] := ⟨rfl, by omega, fun h => absurd h (by omega)⟩
theorem info_Int : (Try.prog.info? 3).map (fun i => (i.zero, i.size, i.bytes)) = some (some (.int .i64 0), 1, 8) := by kernel_rfl
theorem run_app_Int (w : World) (B : Nat) (v : Value) (n : Nat) (xs : List Value) (hown : w.ownsRow B 3 1 v n xs) (vb off m c : Nat) (e : List Value) (hm : e.length = m * 1) (hv : ∀ j u, e[j]? = some u → w.cell? ⟨vb, off + j, none⟩ = some u) (h1e : ∀ u ∈ e, u.oneCell' = true) (hn : n + m ≤ 1000000000) (hB : B ≤ w.heap.size) :
    ∃ v' w', (Builtin.append_ #[25, 25] 25 #[v, .slice (some ⟨vb, off, none⟩) m c]).run Try.prog w = .ok v' w' ∧ w'.ownsRow B 3 1 v' (n + m) (xs ++ e) ∧ w.grownBy w' v.ownBlock ∧ Below B w w' ∧ (v'.ownBlock = v.ownBlock ∨ v'.ownBlock = some w.heap.size) := by
  obtain ⟨i0, hi, hz, hz1, hz2⟩ := info_parts info_Int
  obtain ⟨v', w', hrun, h2, h3, _, h5⟩ := run_append_own_at (P := Try.prog) w B 25 25 3 i0 _ 1 8 Try.underlying25 hi hz hz1 hz2 rfl (by omega) v n xs hown ⟨vb, off, none⟩ m c e hm
    (by intro j u hu; rw [Addr.add_lit]; exact hv j u hu) h1e (by simp only [maxLen]; omega) (by omega) hB
  exact ⟨v', w', hrun, h2, h3, ⟨h3.os, h3.tape, h3.output, h3.size, fun k hk => h3.block k (by omega) (fun e => by have := (own_lt hown k e.symm).1; omega)⟩, h5⟩
set_option maxHeartbeats 1000000 in
set_option maxRecDepth 100000 in
theorem slices_Clone_Int (A : Option Addr) (n c : Nat) (xs : List Value) (w : World) (hr : RowV w A n 1 xs) (h1x : ∀ u ∈ xs, u.oneCell' = true) (hn : n ≤ 900000000) :
    Calls Try.prog 46 #[.slice A n c] w fun r w' => ∃ v', r = .returned v' ∧ w'.ownsRow w.heap.size 3 1 v' n xs ∧ Below w.heap.size w w' := by
  obtain ⟨g1, g2, g3⟩ := hr
  cases A with
  | none =>
    have h0 : n = 0 := by
      rcases Nat.eq_zero_or_pos n with h | h
      · exact h
      · obtain ⟨b, off, e, _⟩ := g3 h; cases e
    subst h0
    have hx : xs = [] := by simpa using g1
    subst hx
    clear g1 g2 g3
    have hnil := Lib.run_eql_slice_nil (P := Try.prog) w 25 3 none 0 c 0 0 Try.underlying25
    go_enter Try.func46, Try.ntmps46
    go_wp2_with fail
    go_ret
    exact ⟨_, rfl, own_nil _ _ _ _, Below.refl _ _⟩
  | some a =>
    have hown : (w.alloc (.cells #[] 3)).ownsRow w.heap.size 3 1 (.slice (some ⟨w.heap.size, 0, none⟩) 0 0) 0 [] :=
      ⟨rfl, .inr ⟨w.heap.size, 0, #[], rfl, Nat.le_refl _, heap_alloc_new w _, Nat.le_refl _, by decide, rfl, rfl⟩⟩
    rcases Nat.eq_zero_or_pos n with h0 | h0
    · subst h0
      have hx : xs = [] := by simpa using g1
      subst hx
      clear g1 g2 g3
      obtain ⟨b, off, sp⟩ := a
      have hrun : (Builtin.append_ #[25, 25] 25 #[.slice (some ⟨w.heap.size, 0, none⟩) 0 0, .slice (some ⟨b, off, sp⟩) 0 c]).run Try.prog (w.alloc (.cells #[] 3)) = .ok (.slice (some ⟨w.heap.size, 0, none⟩) 0 0) (w.alloc (.cells #[] 3)) := by
        obtain ⟨i0, hi, hz, hz1, hz2⟩ := info_parts info_Int
        simp [Builtin.append_, run_underlying Try.underlying25, sizeOf, typeInfo, hi, Builtin.lenOf, Builtin.firstCells, loadCells, loadCellsFrom, storeCells]
      have HR := Lib.hid hrun
      clear hrun
      have hnil := Lib.run_eql_slice_nil (P := Try.prog) w 25 3 (some ⟨b, off, sp⟩) 0 c 0 0 Try.underlying25
      go_enter Try.func46, Try.ntmps46
      go_wp2_with (at_builtin; refine Lib.wpList_append_run _ rfl _ _ _ _ rfl _ _ rfl rfl _ _ HR.out ?_)
      go_ret
      exact ⟨_, rfl, hown, (Below.refl _ _).alloc (Nat.le_refl _) _⟩
    · obtain ⟨b, off, e, hb, hc⟩ := g3 h0
      injection e with e
      subst e
      have hba : Below w.heap.size w (w.alloc (.cells #[] 3)) := (Below.refl _ _).alloc (Nat.le_refl _) _
      obtain ⟨v', w', hrun, h2, h3, h4, h5⟩ := run_app_Int (w.alloc (.cells #[] 3)) w.heap.size _ 0 [] hown b off n c xs g1 (fun j u hj => (hba.cell (p := ⟨b, off + j, none⟩) hb).trans (hc j u hj)) h1x (by omega) (by simp)
      rw [Nat.zero_add, List.nil_append] at h2
      have HR := Lib.hid hrun
      have H2 := Lib.hid h2
      have hbel : Below w.heap.size w w' := hba.trans h4
      clear hrun h2 h3 h4 h5 g1 g2 g3 hc hown
      have hnil := Lib.run_eql_slice_nil (P := Try.prog) w 25 3 (some ⟨b, off, none⟩) n c 0 0 Try.underlying25
      go_enter Try.func46, Try.ntmps46
      go_wp2_with (at_builtin; refine Lib.wpList_append_run _ rfl _ _ _ _ rfl _ _ rfl rfl _ _ HR.out ?_)
      go_ret
      exact ⟨_, rfl, H2.out, hbel⟩
def SlP.v (s : SlP) : Value := .slice s.A s.n s.c
theorem ints_one (l : List Int) : ∀ u ∈ l.map (Value.int .i64), u.oneCell' = true := by
  intro u hu
  obtain ⟨z, _, rfl⟩ := List.mem_map.1 hu
  rfl
/-- What is in a list. -/
theorem inF_neg (x : Int) : ∀ (l : List Int) (k : Int), 0 ≤ k → (inF x k l < 0 ↔ x ∉ l)
  | [], k, h => by simp [inF]
  | c :: l, k, h => by
    unfold inF
    by_cases e : c = x
    · rw [if_pos e]; simp [e]; omega
    · rw [if_neg e, inF_neg x l (k + 1) (by omega)]; simp [Ne.symm e]
theorem inS_neg {x : Int} {l : List Int} : inS l x < 0 ↔ x ∉ l := inF_neg x l 0 (by omega)
theorem nth_mem {l : List Int} {k : Nat} (h : k < l.length) : nth l k ∈ l := by
  unfold nth; simp [h]
theorem mem_nth {l : List Int} {x : Int} : x ∈ l ↔ ∃ j, j < l.length ∧ nth l j = x := by
  constructor
  · intro h
    obtain ⟨j, hj, e⟩ := List.getElem_of_mem h
    exact ⟨j, hj, by simp [nth, hj, e]⟩
  · rintro ⟨j, hj, rfl⟩; exact nth_mem hj
def Seen (s : List Int) : Prop := WithinI s 1 65536 ∧ s.Nodup
theorem within_app {s t : List Int} {lo hi : Int} : WithinI (s ++ t) lo hi ↔ WithinI s lo hi ∧ WithinI t lo hi := by
  have e : ∀ u : List Int, WithinI u lo hi ↔ ∀ x ∈ u, lo ≤ x ∧ x ≤ hi := fun u => by
    constructor
    · intro h x hx; obtain ⟨j, hj, rfl⟩ := mem_nth.1 hx; exact h j hj
    · intro h j hj; exact h _ (nth_mem hj)
  rw [e, e, e]
  constructor
  · intro h; exact ⟨fun x hx => h x (List.mem_append_left _ hx), fun x hx => h x (List.mem_append_right _ hx)⟩
  · rintro ⟨h1, h2⟩ x hx
    rcases List.mem_append.1 hx with h | h
    · exact h1 x h
    · exact h2 x h
end
section
open Go.RowKit Go.ChangeShapes Go.WideShapes Go.ChangeAt
structure HeldD where
  di : Int
  b : BatchD
deriving Inhabited
def hth (l : List HeldD) (i : Nat) : HeldD := l.getD i default
def HeldAt (w : World) (b off : Nat) (B : Option Addr) (m d : Nat) (h : HeldD) : Prop :=
  w.cell? ⟨b, off, none⟩ = some (.int .i64 h.di) ∧ w.cell? ⟨b, off + 1, none⟩ = some (.int .i64 h.b.au) ∧ w.cell? ⟨b, off + 2, none⟩ = some (.int .i64 h.b.n) ∧ w.cell? ⟨b, off + 3, none⟩ = some (.slice B m d)
def HeldsR (w : World) (A : Option Addr) (n : Nat) (l : List HeldD) : Prop :=
  l.length = n ∧ n ≤ 9223372036854775807 ∧ (0 < n → ∃ b off, A = some ⟨b, off, none⟩ ∧ b < w.heap.size ∧ ∀ j, j < n → ∃ (B : Option Addr) (m d : Nat), HeldAt w b (off + j * 4) B m d (hth l j) ∧ TxsR w B m (hth l j).b.tx)
theorem HeldsR.up {w w' : World} {A n l} (h : HeldsR w A n l) (hb : Below w.heap.size w w') : HeldsR w' A n l := by
  obtain ⟨h1, h2, h3⟩ := h
  refine ⟨h1, h2, fun hn => ?_⟩
  obtain ⟨b, off, e, hlt, hc⟩ := h3 hn
  refine ⟨b, off, e, Nat.lt_of_lt_of_le hlt hb.size, fun j hj => ?_⟩
  obtain ⟨B, m, d, ⟨g0, g1, g2, g3⟩, g4⟩ := hc j hj
  have g := (bcell hb).1
  exact ⟨B, m, d, ⟨(g _ _ hlt).trans g0, (g _ _ hlt).trans g1, (g _ _ hlt).trans g2, (g _ _ hlt).trans g3⟩, g4.up hb⟩
section
variable {H : Type} {enc : TypeId × Value → H} {w : World} {base : Nat} {spare : Nat → Bool} {held : Bool}
end
end
section
open Go.RowKit
theorem comm_Digest (d : Int) (y : Bool) (w : World) (hy : digS d = y) : Calls Try.prog 49 #[.int .i64 d] w fun e w' => e = .returned (.bool y) ∧ w = w' :=
  (committee_Digest d w).mono fun e w' ⟨h1, h2⟩ => ⟨by rw [h1, hy], h2⟩
theorem take_succ_mem {s : List Int} {k : Nat} {x : Int} (h : k < s.length) (hx : nth s k = x) : (fun m => if m = x then true else decide (m ∈ s.take k)) = fun m => decide (m ∈ s.take (k + 1)) := by
  funext m
  rw [take_nth s k h, hx]
  by_cases e : m = x
  · simp [e]
  · simp [e]
theorem take_succ_nodup {s : List Int} {k : Nat} {x : Int} (h : k < s.length) (hx : nth s k = x) (hu : (s.take k).Nodup) (hn : x ∉ s.take k) : (s.take (k + 1)).Nodup := by
  rw [take_nth s k h, hx]
  refine List.nodup_append.2 ⟨hu, by simp, ?_⟩
  intro a ha b hb e
  simp at hb
  subst hb; subst e
  exact hn ha
theorem nodup_not {s : List Int} {k : Nat} {x : Int} (h : k < s.length) (hx : nth s k = x) (hm : x ∈ s.take k) : ¬ s.Nodup := fun hu => by
  have h1 : (s.take (k + 1)).Nodup := hu.sublist (List.take_sublist _ _)
  rw [take_nth s k h, hx] at h1
  exact (List.nodup_append.1 h1).2.2 x hm x (by simp) rfl
end
section
open Go.RowKit
end
section
open Go.RowKit
theorem IntsR.take {w : World} {A : Option Addr} {n k : Nat} {l : List Int} (h : IntsR w A n l) (hk : k ≤ n) : IntsR w A k (l.take k) := by
  obtain ⟨h1, h2, h3⟩ := h
  refine ⟨by simp [h1]; omega, by omega, fun hn => ?_⟩
  obtain ⟨b, off, e, hb, hc⟩ := h3 (by omega)
  refine ⟨b, off, e, hb, fun j hj => ?_⟩
  rw [hc j (by omega)]
  simp [nth, List.getElem?_take, hj]
end
section
open Go.RowKit
def HeldOk (l : List HeldD) (k : Nat) : Prop := digS (hth l k).di = true ∧ bmT (hth l k).b = true ∧ (0 < k → (hth l (k - 1)).di < (hth l k).di)
def MayHs (l : List HeldD) : Prop := ∀ k, k < l.length → HeldOk l k
noncomputable def hdB (l : List HeldD) : Bool := dec (MayHs l)
theorem hdB_iff {l : List HeldD} : hdB l = true ↔ MayHs l := dec_iff
theorem refd_Digest (d : Int) (y : Bool) (w : World) (hy : digS d = y) : Calls Try.prog 35 #[.int .i64 d] w fun e w' => e = .returned (.bool y) ∧ w = w' :=
  (ref0_Digest d w).mono fun e w' ⟨h1, h2⟩ => ⟨by rw [h1, hy], h2⟩
set_option maxRecDepth 100000 in
set_option maxHeartbeats 4000000 in
theorem worker_MayHeld (A : Option Addr) (n c : Nat) (l : List HeldD) (y : Bool) (w : World) (hl : HeldsR w A n l) (hy : hdB l = y) : Calls Try.prog 43 #[.slice A n c] w fun e w' => e = .returned (.bool y) ∧ Below w.heap.size w w' := by
  have HY := Lib.hid hy
  have HL := Lib.hid hl
  have HN := Lib.hid hl.1
  have hnn : n ≤ 9223372036854775807 := hl.2.1
  clear hy hl
  go_enter Try.func43, Try.ntmps43
  go_wp2_with fail
  go_loopw [7] (fun ix wr => ∃ k : Nat, k ≤ n ∧ ix = .int .i64 k ∧ Hid (∀ j, j < k → HeldOk l j) ∧ Below w.heap.size w wr) (fun ix _ => n - (intOf ix).toNat)
  case atStart => exact ⟨0, Nat.zero_le _, rfl, Lib.hid (fun j hj => absurd hj (by omega)), Below.refl _ _⟩
  case round =>
    obtain ⟨k, hk, rfl, HG, hbw⟩ := hrel
    (obtain ⟨wk, hwk⟩ : ∃ x, x = wr := ⟨_, rfl⟩); subst hwk
    by_cases hlt : k < n
    · obtain ⟨b, off, rfl, hb, hc⟩ := (HL.out.up hbw).2.2 (by omega)
      obtain ⟨B, m, d, ⟨c0, c1, c2, c3⟩, htx⟩ := hc k hlt
      have hbad : ¬ HeldOk l k → hdB l = false := fun h => by
        cases hm : hdB l
        · rfl
        · exact absurd (hdB_iff.1 hm k (by rw [HN.out]; exact hlt)) h
      have HB := Lib.hid hbad
      obtain ⟨p, hp⟩ : ∃ p, p = hth l k := ⟨_, rfl⟩
      rw [← hp] at c0 c1 c2 htx
      have HP := Lib.hid hp
      obtain ⟨o, ho⟩ : ∃ o, o = (hth l (k - 1)).di := ⟨_, rfl⟩
      have hd : 0 < k → wk.cell? ⟨b, off + (k - 1) * 4, none⟩ = some (.int .i64 o) := fun h => by rw [ho]; obtain ⟨_, _, _, ⟨q, _⟩, _⟩ := hc (k - 1) (by omega); exact q
      have HO := Lib.hid ho
      have HD := Lib.hid hd
      clear hc hd ho hp hbad
      have hA : BoxR (wk.alloc (.cells #[.int .i64 p.di, .int .i64 p.b.au, .int .i64 p.b.n, .slice B m d] 70)) wk.heap.size [.int .i64 p.di, .int .i64 p.b.au, .int .i64 p.b.n, .slice B m d] := BoxR.new wk [.int .i64 p.di, .int .i64 p.b.au, .int .i64 p.b.n, .slice B m d] 70
      have hba : Below wk.heap.size wk (wk.alloc (.cells #[.int .i64 p.di, .int .i64 p.b.au, .int .i64 p.b.n, .slice B m d] 70)) := by (repeat (first | (with_reducible exact Below.refl _ _) | (with_reducible assumption) | (with_reducible apply bel_alloc) | (with_reducible apply bel_drew) | (with_reducible apply bel_drewN) | (with_reducible refine bel_trans ?_ (by with_reducible assumption)) | (with_reducible refine bel_trans ?_ (HF.out _)) | (with_reducible refine bel_set ?_ (by simp) _) | (with_reducible refine bel_set ?_ (by simp; omega) _) | (with_reducible refine bel_set ?_ (by omega) _)))
      have a_0 := (hA).2 0 _ rfl; have a_1 := (hA).2 1 _ rfl; have a_2 := (hA).2 2 _ rfl; have a_3 := (hA).2 3 _ rfl
      have HTX := Lib.hid (htx.up hba)
      clear htx
      cases h1 : digS p.di
      · have H1 := Lib.hid h1
        clear h1
        go_wp2_with fail
        refine wp_region_fam (by kernel_rfl) (by kernel_rfl) (fun ι F hne hF hcl => ?_)
        have hcF0 := fun n o => (bcell (hF n)).1 (wk.heap.size) o (by first | (simp; done) | (simp; omega) | omega)
        have hcF1 := fun n o => (bcell (hF n)).1 (b) o (by first | (simp; done) | (simp; omega) | omega)
        have HF := Lib.hid hF; clear hF
        have HC := Lib.hid hcl; clear hcl
        repeat (any_goals (first
         | go_big_quiet_step (first | (go_at_call 49; exact Calls.fam_same (comm_Digest p.di false _ H1.out)))
         | (refine wpQuiet_guard _ _ _ rfl rfl ?_; (fail_if_success (intro b' hb; have h2 := hb.symm; have : b' = true := h2.trans (by with_reducible rfl))); (fail_if_success (intro b' hb; have h2 := hb.symm; have : b' = false := h2.trans (by with_reducible rfl))); intro b' hb; simp only [hb]; cases b' <;> (try simp only [Bool.not_eq_true', Bool.not_eq_false', decide_eq_true_eq, decide_eq_false_iff_not, Int.not_lt, Int.not_le, Bool.and_eq_true, Bool.or_eq_true, Bool.or_eq_false_iff, beq_iff_eq, beq_eq_false_iff_ne, Int.natCast_pos] at hb))))
        all_goals (refine wpQuiet_nil ?_; intro nq)
        all_goals (try (exfalso; omega))
        have hFwf := HF.out nq
        clear HF HC hne
        generalize F nq = wf at *
        have hbf : Below w.heap.size w wf := bel_trans hbw (bel_trans hba hFwf)
        go_wp2_with fail
        go_ret
        exact ⟨ret_bool (by rw [← HY.out, HB.out (fun g => (by have := g.1; rw [← HP.out, H1.out] at this; cases this))]), hbf⟩
      have H1 := Lib.hid h1
      clear h1
      cases h3 : bmT p.b
      case' false =>
        have H3 := Lib.hid h3
        clear h3
        rcases Nat.eq_zero_or_pos k with hk0 | hk0
        · subst hk0
          rw [Nat.zero_mul, Nat.add_zero] at c0 c1 c2 c3
          go_wp2_with fail
          refine wp_region_fam (by kernel_rfl) (by kernel_rfl) (fun ι F hne hF hcl => ?_)
          have hcF0 := fun n o => (bcell (hF n)).1 (wk.heap.size) o (by first | (simp; done) | (simp; omega) | omega)
          have hcF1 := fun n o => (bcell (hF n)).1 (b) o (by first | (simp; done) | (simp; omega) | omega)
          have HF := Lib.hid hF; clear hF
          have HC := Lib.hid hcl; clear hcl
          repeat (any_goals (first
           | go_big_quiet_step (first | (go_at_call 49; exact Calls.fam_same (comm_Digest p.di true _ H1.out)) | (go_at_call 66; exact Calls.fam HC.out (batch_May p.b B m d false _ (HTX.out.up (HF.out _)) H3.out)))
           | (refine wpQuiet_guard _ _ _ rfl rfl ?_; (fail_if_success (intro b' hb; have h2 := hb.symm; have : b' = true := h2.trans (by with_reducible rfl))); (fail_if_success (intro b' hb; have h2 := hb.symm; have : b' = false := h2.trans (by with_reducible rfl))); intro b' hb; simp only [hb]; cases b' <;> (try simp only [Bool.not_eq_true', Bool.not_eq_false', decide_eq_true_eq, decide_eq_false_iff_not, Int.not_lt, Int.not_le, Bool.and_eq_true, Bool.or_eq_true, Bool.or_eq_false_iff, beq_iff_eq, beq_eq_false_iff_ne, Int.natCast_pos] at hb))))
          all_goals (refine wpQuiet_nil ?_; intro nq)
          all_goals (try (exfalso; omega))
          have hFwf := HF.out nq
          clear HF HC hne
          generalize F nq = wf at *
          have hbf : Below w.heap.size w wf := bel_trans hbw (bel_trans hba hFwf)
          go_wp2_with fail
          go_ret
          exact ⟨ret_bool (by rw [← HY.out, HB.out (fun g => (by have := g.2.1; rw [← HP.out, H3.out] at this; cases this))]), hbf⟩
        · have d0 := HD.out hk0
          have hk1 : (0 : Int) < (k : Int) := by omega
          by_cases h2 : o < p.di
          case' neg => have h2b : decide (p.di ≤ o) = true := by simp; omega
          case' pos => have h2b : decide (p.di ≤ o) = false := by simp; omega
          all_goals
            clear h2
            go_wp2_with fail
            refine wp_region_fam (by kernel_rfl) (by kernel_rfl) (fun ι F hne hF hcl => ?_)
            have hcF0 := fun n o => (bcell (hF n)).1 (wk.heap.size) o (by first | (simp; done) | (simp; omega) | omega)
            have hcF1 := fun n o => (bcell (hF n)).1 (b) o (by first | (simp; done) | (simp; omega) | omega)
            have HF := Lib.hid hF; clear hF
            have HC := Lib.hid hcl; clear hcl
            repeat (any_goals (first
             | go_big_quiet_step (first | (go_at_call 49; exact Calls.fam_same (comm_Digest p.di true _ H1.out)) | (go_at_call 66; exact Calls.fam HC.out (batch_May p.b B m d false _ (HTX.out.up (HF.out _)) H3.out)))
             | (refine wpQuiet_guard _ _ _ rfl rfl ?_; (fail_if_success (intro b' hb; have h2 := hb.symm; have : b' = true := h2.trans (by with_reducible rfl))); (fail_if_success (intro b' hb; have h2 := hb.symm; have : b' = false := h2.trans (by with_reducible rfl))); intro b' hb; simp only [hb]; cases b' <;> (try simp only [Bool.not_eq_true', Bool.not_eq_false', decide_eq_true_eq, decide_eq_false_iff_not, Int.not_lt, Int.not_le, Bool.and_eq_true, Bool.or_eq_true, Bool.or_eq_false_iff, beq_iff_eq, beq_eq_false_iff_ne, Int.natCast_pos] at hb))))
            all_goals (refine wpQuiet_nil ?_; intro nq)
            all_goals (try (exfalso; omega))
            have hFwf := HF.out nq
            clear HF HC hne
            generalize F nq = wf at *
            have hbf : Below w.heap.size w wf := bel_trans hbw (bel_trans hba hFwf)
            go_wp2_with fail
            go_ret
            exact ⟨ret_bool (by rw [← HY.out, HB.out (fun g => (by have := g.2.1; rw [← HP.out, H3.out] at this; cases this))]), hbf⟩
      case' true =>
        have H3 := Lib.hid h3
        clear h3
        rcases Nat.eq_zero_or_pos k with hk0 | hk0
        · subst hk0
          rw [Nat.zero_mul, Nat.add_zero] at c0 c1 c2 c3
          go_wp2_with fail
          refine wp_region_fam (by kernel_rfl) (by kernel_rfl) (fun ι F hne hF hcl => ?_)
          have hcF0 := fun n o => (bcell (hF n)).1 (wk.heap.size) o (by first | (simp; done) | (simp; omega) | omega)
          have hcF1 := fun n o => (bcell (hF n)).1 (b) o (by first | (simp; done) | (simp; omega) | omega)
          have HF := Lib.hid hF; clear hF
          have HC := Lib.hid hcl; clear hcl
          repeat (any_goals (first
           | go_big_quiet_step (first | (go_at_call 49; exact Calls.fam_same (comm_Digest p.di true _ H1.out)) | (go_at_call 66; exact Calls.fam HC.out (batch_May p.b B m d true _ (HTX.out.up (HF.out _)) H3.out)))
           | (refine wpQuiet_guard _ _ _ rfl rfl ?_; (fail_if_success (intro b' hb; have h2 := hb.symm; have : b' = true := h2.trans (by with_reducible rfl))); (fail_if_success (intro b' hb; have h2 := hb.symm; have : b' = false := h2.trans (by with_reducible rfl))); intro b' hb; simp only [hb]; cases b' <;> (try simp only [Bool.not_eq_true', Bool.not_eq_false', decide_eq_true_eq, decide_eq_false_iff_not, Int.not_lt, Int.not_le, Bool.and_eq_true, Bool.or_eq_true, Bool.or_eq_false_iff, beq_iff_eq, beq_eq_false_iff_ne, Int.natCast_pos] at hb))))
          all_goals (refine wpQuiet_nil ?_; intro nq)
          all_goals (try (exfalso; omega))
          have hFwf := HF.out nq
          clear HF HC hne
          generalize F nq = wf at *
          have hbf : Below w.heap.size w wf := bel_trans hbw (bel_trans hba hFwf)
          go_wp2_with fail
          (first | (go_round; (case rel => exact ⟨1, by omega, rfl, Lib.hid (fun j hj => by ((obtain rfl : j = 0 := by omega); exact ⟨by rw [← HP.out]; exact H1.out, by rw [← HP.out]; exact H3.out, fun h => absurd h (by omega)⟩)), hbf⟩); (case measure => (simp [intOf] <;> omega))) | (go_roundw; (case rel => exact ⟨1, by omega, rfl, Lib.hid (fun j hj => by ((obtain rfl : j = 0 := by omega); exact ⟨by rw [← HP.out]; exact H1.out, by rw [← HP.out]; exact H3.out, fun h => absurd h (by omega)⟩)), hbf⟩); (case measure => (simp [intOf] <;> omega))) | (refine ⟨?_, by simp [intOf] <;> omega⟩; (repeat apply Exists.intro); refine ⟨?rel, ?fr⟩; (case fr => ((repeat' apply And.intro) <;> rfl)); (case rel => exact ⟨1, by omega, rfl, Lib.hid (fun j hj => by ((obtain rfl : j = 0 := by omega); exact ⟨by rw [← HP.out]; exact H1.out, by rw [← HP.out]; exact H3.out, fun h => absurd h (by omega)⟩)), hbf⟩)))
        · have d0 := HD.out hk0
          have hk1 : (0 : Int) < (k : Int) := by omega
          by_cases h2 : o < p.di
          · have h2b : decide (p.di ≤ o) = false := by simp; omega
            have H2 := Lib.hid h2
            clear h2
            go_wp2_with fail
            refine wp_region_fam (by kernel_rfl) (by kernel_rfl) (fun ι F hne hF hcl => ?_)
            have hcF0 := fun n o => (bcell (hF n)).1 (wk.heap.size) o (by first | (simp; done) | (simp; omega) | omega)
            have hcF1 := fun n o => (bcell (hF n)).1 (b) o (by first | (simp; done) | (simp; omega) | omega)
            have HF := Lib.hid hF; clear hF
            have HC := Lib.hid hcl; clear hcl
            repeat (any_goals (first
             | go_big_quiet_step (first | (go_at_call 49; exact Calls.fam_same (comm_Digest p.di true _ H1.out)) | (go_at_call 66; exact Calls.fam HC.out (batch_May p.b B m d true _ (HTX.out.up (HF.out _)) H3.out)))
             | (refine wpQuiet_guard _ _ _ rfl rfl ?_; (fail_if_success (intro b' hb; have h2 := hb.symm; have : b' = true := h2.trans (by with_reducible rfl))); (fail_if_success (intro b' hb; have h2 := hb.symm; have : b' = false := h2.trans (by with_reducible rfl))); intro b' hb; simp only [hb]; cases b' <;> (try simp only [Bool.not_eq_true', Bool.not_eq_false', decide_eq_true_eq, decide_eq_false_iff_not, Int.not_lt, Int.not_le, Bool.and_eq_true, Bool.or_eq_true, Bool.or_eq_false_iff, beq_iff_eq, beq_eq_false_iff_ne, Int.natCast_pos] at hb))))
            all_goals (refine wpQuiet_nil ?_; intro nq)
            all_goals (try (exfalso; omega))
            have hFwf := HF.out nq
            clear HF HC hne
            generalize F nq = wf at *
            have hbf : Below w.heap.size w wf := bel_trans hbw (bel_trans hba hFwf)
            go_wp2_with fail
            (first | (go_round; (case rel => exact ⟨k + 1, by omega, by go_num, Lib.hid (fun j hj => by (rcases Nat.lt_or_ge j k with h | h; exact HG.out j h; (obtain rfl : j = k := by omega); exact ⟨by rw [← HP.out]; exact H1.out, by rw [← HP.out]; exact H3.out, fun _ => by rw [← HP.out, ← HO.out]; exact H2.out⟩)), hbf⟩); (case measure => (simp [intOf] <;> omega))) | (go_roundw; (case rel => exact ⟨k + 1, by omega, by go_num, Lib.hid (fun j hj => by (rcases Nat.lt_or_ge j k with h | h; exact HG.out j h; (obtain rfl : j = k := by omega); exact ⟨by rw [← HP.out]; exact H1.out, by rw [← HP.out]; exact H3.out, fun _ => by rw [← HP.out, ← HO.out]; exact H2.out⟩)), hbf⟩); (case measure => (simp [intOf] <;> omega))) | (refine ⟨?_, by simp [intOf] <;> omega⟩; (repeat apply Exists.intro); refine ⟨?rel, ?fr⟩; (case fr => ((repeat' apply And.intro) <;> rfl)); (case rel => exact ⟨k + 1, by omega, by go_num, Lib.hid (fun j hj => by (rcases Nat.lt_or_ge j k with h | h; exact HG.out j h; (obtain rfl : j = k := by omega); exact ⟨by rw [← HP.out]; exact H1.out, by rw [← HP.out]; exact H3.out, fun _ => by rw [← HP.out, ← HO.out]; exact H2.out⟩)), hbf⟩)))
          · have h2b : decide (p.di ≤ o) = true := by simp; omega
            have H2 := Lib.hid h2
            clear h2
            go_wp2_with fail
            refine wp_region_fam (by kernel_rfl) (by kernel_rfl) (fun ι F hne hF hcl => ?_)
            have hcF0 := fun n o => (bcell (hF n)).1 (wk.heap.size) o (by first | (simp; done) | (simp; omega) | omega)
            have hcF1 := fun n o => (bcell (hF n)).1 (b) o (by first | (simp; done) | (simp; omega) | omega)
            have HF := Lib.hid hF; clear hF
            have HC := Lib.hid hcl; clear hcl
            repeat (any_goals (first
             | go_big_quiet_step (first | (go_at_call 49; exact Calls.fam_same (comm_Digest p.di true _ H1.out)) | (go_at_call 66; exact Calls.fam HC.out (batch_May p.b B m d true _ (HTX.out.up (HF.out _)) H3.out)))
             | (refine wpQuiet_guard _ _ _ rfl rfl ?_; (fail_if_success (intro b' hb; have h2 := hb.symm; have : b' = true := h2.trans (by with_reducible rfl))); (fail_if_success (intro b' hb; have h2 := hb.symm; have : b' = false := h2.trans (by with_reducible rfl))); intro b' hb; simp only [hb]; cases b' <;> (try simp only [Bool.not_eq_true', Bool.not_eq_false', decide_eq_true_eq, decide_eq_false_iff_not, Int.not_lt, Int.not_le, Bool.and_eq_true, Bool.or_eq_true, Bool.or_eq_false_iff, beq_iff_eq, beq_eq_false_iff_ne, Int.natCast_pos] at hb))))
            all_goals (refine wpQuiet_nil ?_; intro nq)
            all_goals (try (exfalso; omega))
            have hFwf := HF.out nq
            clear HF HC hne
            generalize F nq = wf at *
            have hbf : Below w.heap.size w wf := bel_trans hbw (bel_trans hba hFwf)
            go_wp2_with fail
            go_ret
            exact ⟨ret_bool (by rw [← HY.out, HB.out (fun g => (by have := g.2.2 hk0; rw [← HP.out, ← HO.out] at this; have h9 := H2.out; omega))]), hbf⟩
    · obtain rfl : k = n := by omega
      have hyes : y = true := by rw [← HY.out]; exact hdB_iff.2 (fun j hj => HG.out j (by rw [HN.out] at hj; exact hj))
      subst hyes
      go_wp2_with fail
      go_ret
      exact ⟨rfl, hbw⟩
set_option maxRecDepth 100000 in
set_option maxHeartbeats 4000000 in
theorem ref13_Held (A : Option Addr) (n c : Nat) (l : List HeldD) (y : Bool) (w : World) (hl : HeldsR w A n l) (hy : hdB l = y) : Calls Try.prog 32 #[.slice A n c] w fun e w' => e = .returned (.bool y) ∧ Below w.heap.size w w' := by
  have HY := Lib.hid hy
  have HL := Lib.hid hl
  have HN := Lib.hid hl.1
  have hnn : n ≤ 9223372036854775807 := hl.2.1
  clear hy hl
  go_enter Try.func32, Try.ntmps32
  go_wp2_with fail
  go_loopw [3] (fun ix wr => ∃ k : Nat, k ≤ n ∧ ix = .int .i64 k ∧ Hid (∀ j, j < k → HeldOk l j) ∧ Below w.heap.size w wr) (fun ix _ => n - (intOf ix).toNat)
  case atStart => exact ⟨0, Nat.zero_le _, rfl, Lib.hid (fun j hj => absurd hj (by omega)), Below.refl _ _⟩
  case round =>
    obtain ⟨k, hk, rfl, HG, hbw⟩ := hrel
    (obtain ⟨wk, hwk⟩ : ∃ x, x = wr := ⟨_, rfl⟩); subst hwk
    by_cases hlt : k < n
    · obtain ⟨b, off, rfl, hb, hc⟩ := (HL.out.up hbw).2.2 (by omega)
      obtain ⟨B, m, d, ⟨c0, c1, c2, c3⟩, htx⟩ := hc k hlt
      have hbad : ¬ HeldOk l k → hdB l = false := fun h => by
        cases hm : hdB l
        · rfl
        · exact absurd (hdB_iff.1 hm k (by rw [HN.out]; exact hlt)) h
      have HB := Lib.hid hbad
      obtain ⟨p, hp⟩ : ∃ p, p = hth l k := ⟨_, rfl⟩
      rw [← hp] at c0 c1 c2 htx
      have HP := Lib.hid hp
      obtain ⟨o, ho⟩ : ∃ o, o = (hth l (k - 1)).di := ⟨_, rfl⟩
      have hd : 0 < k → wk.cell? ⟨b, off + (k - 1) * 4, none⟩ = some (.int .i64 o) := fun h => by rw [ho]; obtain ⟨_, _, _, ⟨q, _⟩, _⟩ := hc (k - 1) (by omega); exact q
      have HO := Lib.hid ho
      have HD := Lib.hid hd
      clear hc hd ho hp hbad
      have HTX := Lib.hid htx
      clear htx
      cases h1 : digS p.di
      · have H1 := Lib.hid h1
        clear h1
        go_wp2_with fail
        refine wp_region_fam (by kernel_rfl) (by kernel_rfl) (fun ι F hne hF hcl => ?_)
        have hcF0 := fun n o => (bcell (hF n)).1 (b) o (by first | (simp; done) | (simp; omega) | omega)
        have HF := Lib.hid hF; clear hF
        have HC := Lib.hid hcl; clear hcl
        repeat (any_goals (first
         | go_big_quiet_step (first | (go_at_call 35; exact Calls.fam_same (refd_Digest p.di false _ H1.out)))
         | (refine wpQuiet_guard _ _ _ rfl rfl ?_; (fail_if_success (intro b' hb; have h2 := hb.symm; have : b' = true := h2.trans (by with_reducible rfl))); (fail_if_success (intro b' hb; have h2 := hb.symm; have : b' = false := h2.trans (by with_reducible rfl))); intro b' hb; simp only [hb]; cases b' <;> (try simp only [Bool.not_eq_true', Bool.not_eq_false', decide_eq_true_eq, decide_eq_false_iff_not, Int.not_lt, Int.not_le, Bool.and_eq_true, Bool.or_eq_true, Bool.or_eq_false_iff, beq_iff_eq, beq_eq_false_iff_ne, Int.natCast_pos] at hb))))
        all_goals (refine wpQuiet_nil ?_; intro nq)
        all_goals (try (exfalso; omega))
        have hFwf := HF.out nq
        clear HF HC hne
        generalize F nq = wf at *
        have hbf : Below w.heap.size w wf := bel_trans hbw hFwf
        go_wp2_with fail
        go_ret
        exact ⟨ret_bool (by rw [← HY.out, HB.out (fun g => (by have := g.1; rw [← HP.out, H1.out] at this; cases this))]), hbf⟩
      have H1 := Lib.hid h1
      clear h1
      cases h3 : bmT p.b
      case' false =>
        have H3 := Lib.hid h3
        clear h3
        rcases Nat.eq_zero_or_pos k with hk0 | hk0
        · subst hk0
          rw [Nat.zero_mul, Nat.add_zero] at c0 c1 c2 c3
          go_wp2_with fail
          refine wp_region_fam (by kernel_rfl) (by kernel_rfl) (fun ι F hne hF hcl => ?_)
          have hcF0 := fun n o => (bcell (hF n)).1 (b) o (by first | (simp; done) | (simp; omega) | omega)
          have HF := Lib.hid hF; clear hF
          have HC := Lib.hid hcl; clear hcl
          repeat (any_goals (first
           | go_big_quiet_step (first | (go_at_call 35; exact Calls.fam_same (refd_Digest p.di true _ H1.out)) | (go_at_call 63; exact Calls.fam HC.out (ref4_Batch p.b B m d false _ (HTX.out.up (HF.out _)) H3.out)))
           | (refine wpQuiet_guard _ _ _ rfl rfl ?_; (fail_if_success (intro b' hb; have h2 := hb.symm; have : b' = true := h2.trans (by with_reducible rfl))); (fail_if_success (intro b' hb; have h2 := hb.symm; have : b' = false := h2.trans (by with_reducible rfl))); intro b' hb; simp only [hb]; cases b' <;> (try simp only [Bool.not_eq_true', Bool.not_eq_false', decide_eq_true_eq, decide_eq_false_iff_not, Int.not_lt, Int.not_le, Bool.and_eq_true, Bool.or_eq_true, Bool.or_eq_false_iff, beq_iff_eq, beq_eq_false_iff_ne, Int.natCast_pos] at hb))))
          all_goals (refine wpQuiet_nil ?_; intro nq)
          all_goals (try (exfalso; omega))
          have hFwf := HF.out nq
          clear HF HC hne
          generalize F nq = wf at *
          have hbf : Below w.heap.size w wf := bel_trans hbw hFwf
          go_wp2_with fail
          go_ret
          exact ⟨ret_bool (by rw [← HY.out, HB.out (fun g => (by have := g.2.1; rw [← HP.out, H3.out] at this; cases this))]), hbf⟩
        · have d0 := HD.out hk0
          have hk1 : (0 : Int) < (k : Int) := by omega
          by_cases h2 : o < p.di
          case' neg => have h2b : decide (p.di ≤ o) = true := by simp; omega
          case' pos => have h2b : decide (p.di ≤ o) = false := by simp; omega
          all_goals
            clear h2
            go_wp2_with fail
            refine wp_region_fam (by kernel_rfl) (by kernel_rfl) (fun ι F hne hF hcl => ?_)
            have hcF0 := fun n o => (bcell (hF n)).1 (b) o (by first | (simp; done) | (simp; omega) | omega)
            have HF := Lib.hid hF; clear hF
            have HC := Lib.hid hcl; clear hcl
            repeat (any_goals (first
             | go_big_quiet_step (first | (go_at_call 35; exact Calls.fam_same (refd_Digest p.di true _ H1.out)) | (go_at_call 63; exact Calls.fam HC.out (ref4_Batch p.b B m d false _ (HTX.out.up (HF.out _)) H3.out)))
             | (refine wpQuiet_guard _ _ _ rfl rfl ?_; (fail_if_success (intro b' hb; have h2 := hb.symm; have : b' = true := h2.trans (by with_reducible rfl))); (fail_if_success (intro b' hb; have h2 := hb.symm; have : b' = false := h2.trans (by with_reducible rfl))); intro b' hb; simp only [hb]; cases b' <;> (try simp only [Bool.not_eq_true', Bool.not_eq_false', decide_eq_true_eq, decide_eq_false_iff_not, Int.not_lt, Int.not_le, Bool.and_eq_true, Bool.or_eq_true, Bool.or_eq_false_iff, beq_iff_eq, beq_eq_false_iff_ne, Int.natCast_pos] at hb))))
            all_goals (refine wpQuiet_nil ?_; intro nq)
            all_goals (try (exfalso; omega))
            have hFwf := HF.out nq
            clear HF HC hne
            generalize F nq = wf at *
            have hbf : Below w.heap.size w wf := bel_trans hbw hFwf
            go_wp2_with fail
            go_ret
            exact ⟨ret_bool (by rw [← HY.out, HB.out (fun g => (by have := g.2.1; rw [← HP.out, H3.out] at this; cases this))]), hbf⟩
      case' true =>
        have H3 := Lib.hid h3
        clear h3
        rcases Nat.eq_zero_or_pos k with hk0 | hk0
        · subst hk0
          rw [Nat.zero_mul, Nat.add_zero] at c0 c1 c2 c3
          go_wp2_with fail
          refine wp_region_fam (by kernel_rfl) (by kernel_rfl) (fun ι F hne hF hcl => ?_)
          have hcF0 := fun n o => (bcell (hF n)).1 (b) o (by first | (simp; done) | (simp; omega) | omega)
          have HF := Lib.hid hF; clear hF
          have HC := Lib.hid hcl; clear hcl
          repeat (any_goals (first
           | go_big_quiet_step (first | (go_at_call 35; exact Calls.fam_same (refd_Digest p.di true _ H1.out)) | (go_at_call 63; exact Calls.fam HC.out (ref4_Batch p.b B m d true _ (HTX.out.up (HF.out _)) H3.out)))
           | (refine wpQuiet_guard _ _ _ rfl rfl ?_; (fail_if_success (intro b' hb; have h2 := hb.symm; have : b' = true := h2.trans (by with_reducible rfl))); (fail_if_success (intro b' hb; have h2 := hb.symm; have : b' = false := h2.trans (by with_reducible rfl))); intro b' hb; simp only [hb]; cases b' <;> (try simp only [Bool.not_eq_true', Bool.not_eq_false', decide_eq_true_eq, decide_eq_false_iff_not, Int.not_lt, Int.not_le, Bool.and_eq_true, Bool.or_eq_true, Bool.or_eq_false_iff, beq_iff_eq, beq_eq_false_iff_ne, Int.natCast_pos] at hb))))
          all_goals (refine wpQuiet_nil ?_; intro nq)
          all_goals (try (exfalso; omega))
          have hFwf := HF.out nq
          clear HF HC hne
          generalize F nq = wf at *
          have hbf : Below w.heap.size w wf := bel_trans hbw hFwf
          go_wp2_with fail
          (first | (go_round; (case rel => exact ⟨1, by omega, rfl, Lib.hid (fun j hj => by ((obtain rfl : j = 0 := by omega); exact ⟨by rw [← HP.out]; exact H1.out, by rw [← HP.out]; exact H3.out, fun h => absurd h (by omega)⟩)), hbf⟩); (case measure => (simp [intOf] <;> omega))) | (go_roundw; (case rel => exact ⟨1, by omega, rfl, Lib.hid (fun j hj => by ((obtain rfl : j = 0 := by omega); exact ⟨by rw [← HP.out]; exact H1.out, by rw [← HP.out]; exact H3.out, fun h => absurd h (by omega)⟩)), hbf⟩); (case measure => (simp [intOf] <;> omega))) | (refine ⟨?_, by simp [intOf] <;> omega⟩; (repeat apply Exists.intro); refine ⟨?rel, ?fr⟩; (case fr => ((repeat' apply And.intro) <;> rfl)); (case rel => exact ⟨1, by omega, rfl, Lib.hid (fun j hj => by ((obtain rfl : j = 0 := by omega); exact ⟨by rw [← HP.out]; exact H1.out, by rw [← HP.out]; exact H3.out, fun h => absurd h (by omega)⟩)), hbf⟩)))
        · have d0 := HD.out hk0
          have hk1 : (0 : Int) < (k : Int) := by omega
          by_cases h2 : o < p.di
          · have h2b : decide (p.di ≤ o) = false := by simp; omega
            have H2 := Lib.hid h2
            clear h2
            go_wp2_with fail
            refine wp_region_fam (by kernel_rfl) (by kernel_rfl) (fun ι F hne hF hcl => ?_)
            have hcF0 := fun n o => (bcell (hF n)).1 (b) o (by first | (simp; done) | (simp; omega) | omega)
            have HF := Lib.hid hF; clear hF
            have HC := Lib.hid hcl; clear hcl
            repeat (any_goals (first
             | go_big_quiet_step (first | (go_at_call 35; exact Calls.fam_same (refd_Digest p.di true _ H1.out)) | (go_at_call 63; exact Calls.fam HC.out (ref4_Batch p.b B m d true _ (HTX.out.up (HF.out _)) H3.out)))
             | (refine wpQuiet_guard _ _ _ rfl rfl ?_; (fail_if_success (intro b' hb; have h2 := hb.symm; have : b' = true := h2.trans (by with_reducible rfl))); (fail_if_success (intro b' hb; have h2 := hb.symm; have : b' = false := h2.trans (by with_reducible rfl))); intro b' hb; simp only [hb]; cases b' <;> (try simp only [Bool.not_eq_true', Bool.not_eq_false', decide_eq_true_eq, decide_eq_false_iff_not, Int.not_lt, Int.not_le, Bool.and_eq_true, Bool.or_eq_true, Bool.or_eq_false_iff, beq_iff_eq, beq_eq_false_iff_ne, Int.natCast_pos] at hb))))
            all_goals (refine wpQuiet_nil ?_; intro nq)
            all_goals (try (exfalso; omega))
            have hFwf := HF.out nq
            clear HF HC hne
            generalize F nq = wf at *
            have hbf : Below w.heap.size w wf := bel_trans hbw hFwf
            go_wp2_with fail
            (first | (go_round; (case rel => exact ⟨k + 1, by omega, by go_num, Lib.hid (fun j hj => by (rcases Nat.lt_or_ge j k with h | h; exact HG.out j h; (obtain rfl : j = k := by omega); exact ⟨by rw [← HP.out]; exact H1.out, by rw [← HP.out]; exact H3.out, fun _ => by rw [← HP.out, ← HO.out]; exact H2.out⟩)), hbf⟩); (case measure => (simp [intOf] <;> omega))) | (go_roundw; (case rel => exact ⟨k + 1, by omega, by go_num, Lib.hid (fun j hj => by (rcases Nat.lt_or_ge j k with h | h; exact HG.out j h; (obtain rfl : j = k := by omega); exact ⟨by rw [← HP.out]; exact H1.out, by rw [← HP.out]; exact H3.out, fun _ => by rw [← HP.out, ← HO.out]; exact H2.out⟩)), hbf⟩); (case measure => (simp [intOf] <;> omega))) | (refine ⟨?_, by simp [intOf] <;> omega⟩; (repeat apply Exists.intro); refine ⟨?rel, ?fr⟩; (case fr => ((repeat' apply And.intro) <;> rfl)); (case rel => exact ⟨k + 1, by omega, by go_num, Lib.hid (fun j hj => by (rcases Nat.lt_or_ge j k with h | h; exact HG.out j h; (obtain rfl : j = k := by omega); exact ⟨by rw [← HP.out]; exact H1.out, by rw [← HP.out]; exact H3.out, fun _ => by rw [← HP.out, ← HO.out]; exact H2.out⟩)), hbf⟩)))
          · have h2b : decide (p.di ≤ o) = true := by simp; omega
            have H2 := Lib.hid h2
            clear h2
            go_wp2_with fail
            refine wp_region_fam (by kernel_rfl) (by kernel_rfl) (fun ι F hne hF hcl => ?_)
            have hcF0 := fun n o => (bcell (hF n)).1 (b) o (by first | (simp; done) | (simp; omega) | omega)
            have HF := Lib.hid hF; clear hF
            have HC := Lib.hid hcl; clear hcl
            repeat (any_goals (first
             | go_big_quiet_step (first | (go_at_call 35; exact Calls.fam_same (refd_Digest p.di true _ H1.out)) | (go_at_call 63; exact Calls.fam HC.out (ref4_Batch p.b B m d true _ (HTX.out.up (HF.out _)) H3.out)))
             | (refine wpQuiet_guard _ _ _ rfl rfl ?_; (fail_if_success (intro b' hb; have h2 := hb.symm; have : b' = true := h2.trans (by with_reducible rfl))); (fail_if_success (intro b' hb; have h2 := hb.symm; have : b' = false := h2.trans (by with_reducible rfl))); intro b' hb; simp only [hb]; cases b' <;> (try simp only [Bool.not_eq_true', Bool.not_eq_false', decide_eq_true_eq, decide_eq_false_iff_not, Int.not_lt, Int.not_le, Bool.and_eq_true, Bool.or_eq_true, Bool.or_eq_false_iff, beq_iff_eq, beq_eq_false_iff_ne, Int.natCast_pos] at hb))))
            all_goals (refine wpQuiet_nil ?_; intro nq)
            all_goals (try (exfalso; omega))
            have hFwf := HF.out nq
            clear HF HC hne
            generalize F nq = wf at *
            have hbf : Below w.heap.size w wf := bel_trans hbw hFwf
            go_wp2_with fail
            go_ret
            exact ⟨ret_bool (by rw [← HY.out, HB.out (fun g => (by have := g.2.2 hk0; rw [← HP.out, ← HO.out] at this; have h9 := H2.out; omega))]), hbf⟩
    · obtain rfl : k = n := by omega
      have hyes : y = true := by rw [← HY.out]; exact hdB_iff.2 (fun j hj => HG.out j (by rw [HN.out] at hj; exact hj))
      subst hyes
      go_wp2_with fail
      go_ret
      exact ⟨rfl, hbw⟩
def kposH (l : List HeldD) (key : Int) : Nat := cnt (fun x => ltI x.di key) l
noncomputable def khasH (l : List HeldD) (key : Int) : Bool := dec (kposH l key < l.length ∧ (hth l (kposH l key)).di = key)
def SortedH (l : List HeldD) : Prop := ∀ i j, i < j → j < l.length → ltI (hth l i).di (hth l j).di = true
set_option maxRecDepth 100000 in
set_option maxHeartbeats 1000000 in
theorem clos_H (a : HeldD) (Bq : Option Addr) (mq dq : Nat) (key : Int) (w : World) : Calls Try.prog 68 #[.agg #[.int .i64 a.di, .int .i64 a.b.au, .int .i64 a.b.n, .slice Bq mq dq], .int .i64 key] w fun e w' => e = .returned (.int .i64 (cmp3 a.di key)) ∧ Below w.heap.size w w' := by
  go_enter Try.func68, Try.ntmps68
  go_wp2_with (go_at_call 69; refine (cmp_Compare_int _ _ _).mono ?_; rintro e w' ⟨rfl, rfl⟩)
  go_ret
  exact ⟨rfl, belA⟩
def CutH (l : List HeldD) (n : Nat) (key : Int) (lo hi : Nat) : Prop := (∀ t, t < lo → ltI (hth l t).di key = true) ∧ ∀ t, hi ≤ t → t < n → ltI (hth l t).di key = false
theorem CutH.pos {l : List HeldD} {n : Nat} {key : Int} {lo : Nat} (h : CutH l n key lo lo) (hn : l.length = n) (hlo : lo ≤ n) : kposH l key = lo :=
  cnt_eq _ l lo (by omega) (fun t ht => by rw [List.getD_eq_getElem?_getD] at *; have := h.1 t ht; exact this) (fun ht => h.2 lo (Nat.le_refl _) (by omega))
set_option maxRecDepth 100000 in
set_option maxHeartbeats 2000000 in
theorem bsf_H (A : Option Addr) (n c : Nat) (l : List HeldD) (key : Int) (lo' : Nat) (y : Bool) (w : World) (hl : HeldsR w A n l) (hP : SortedH l) (hn : n ≤ 1000000000) (hlo' : kposH l key = lo') (hy : khasH l key = y) :
    Calls Try.prog 67 #[.slice A n c, .int .i64 key, .func (.func 68) #[] #[]] w fun e w' => e = .returned (.tuple #[.int .i64 lo', .bool y]) ∧ Below w.heap.size w w' := by
  have HL := Lib.hid hl
  have HN := Lib.hid hl.1
  have HP := Lib.hid hP
  have HLO := Lib.hid hlo'
  have HY := Lib.hid hy
  clear hl hP hlo' hy
  go_enter Try.func67, Try.ntmps67
  go_wp2_with fail
  go_loopw [9, 10] (fun s7 s8 wr => ∃ lo hi : Nat, s7 = .int .i64 lo ∧ s8 = .int .i64 hi ∧ lo ≤ hi ∧ hi ≤ n ∧ Hid (CutH l n key lo hi) ∧ Below w.heap.size w wr) (fun s7 s8 _ => (intOf s8).toNat - (intOf s7).toNat)
  case atStart => exact ⟨0, n, rfl, rfl, Nat.zero_le _, Nat.le_refl _, ⟨fun t ht => absurd ht (Nat.not_lt_zero _), fun t h1 h2 => by omega⟩, Below.refl _ _⟩
  case round =>
    obtain ⟨lo, hi, rfl, rfl, hlh, hin, I, hbw⟩ := hrel
    (obtain ⟨wx, hwx⟩ : ∃ x, x = wr := ⟨_, rfl⟩); subst hwx
    by_cases hlt : lo < hi
    · obtain ⟨b, off, rfl, hb, hc⟩ := (HL.out.up hbw).2.2 (by omega)
      obtain ⟨m, hm⟩ : ∃ m, m = (lo + hi) / 2 := ⟨_, rfl⟩
      have hmn : m < n := by omega
      obtain ⟨Bq, mq, dq, ⟨c0, c1, c2, c3⟩, -⟩ := hc m hmn
      have hd2 : ((lo : Int) + (hi : Int)) / 2 = (m : Int) := by rw [hm]; omega
      have hm2 : m < hi := by omega
      have hm1 : lo ≤ m := by omega
      have HM2 := Lib.hid hm
      clear hc hm
      cases hbf : ltI (hth l m).di key
      · have hd : decide (cmp3 (hth l m).di key < 0) = false := by rw [decide_eq_false_iff_not, cmpI_lt, hbf]; simp
        have HB := Lib.hid hbf
        clear hbf
        go_wp2_with (go_at_call 68; refine (clos_H (hth l m) Bq mq dq key _).mono ?_; rintro e w1 ⟨rfl, hb1⟩)
        (first | (go_round; (case rel => (refine ⟨lo, m, rfl, by go_num, by omega, by omega, Lib.hid ⟨I.out.1, fun t h1 h2 => ?_⟩, bel_trans hbw hb1⟩; rcases Nat.lt_or_ge m t with h5 | h5; exact ltI_no (HP.out m t h5 (by rw [HN.out]; exact h2)) HB.out; (obtain rfl : t = m := by omega); exact HB.out)); (case measure => (simp [intOf] <;> omega))) | (go_roundw; (case rel => (refine ⟨lo, m, rfl, by go_num, by omega, by omega, Lib.hid ⟨I.out.1, fun t h1 h2 => ?_⟩, bel_trans hbw hb1⟩; rcases Nat.lt_or_ge m t with h5 | h5; exact ltI_no (HP.out m t h5 (by rw [HN.out]; exact h2)) HB.out; (obtain rfl : t = m := by omega); exact HB.out)); (case measure => (simp [intOf] <;> omega))) | (refine ⟨?_, by simp [intOf] <;> omega⟩; (repeat apply Exists.intro); refine ⟨?rel, ?fr⟩; (case fr => ((repeat' apply And.intro) <;> rfl)); (case rel => (refine ⟨lo, m, rfl, by go_num, by omega, by omega, Lib.hid ⟨I.out.1, fun t h1 h2 => ?_⟩, bel_trans hbw hb1⟩; rcases Nat.lt_or_ge m t with h5 | h5; exact ltI_no (HP.out m t h5 (by rw [HN.out]; exact h2)) HB.out; (obtain rfl : t = m := by omega); exact HB.out))))
      · have hd : decide (cmp3 (hth l m).di key < 0) = true := by rw [decide_eq_true_eq, cmpI_lt, hbf]
        have HB := Lib.hid hbf
        clear hbf
        go_wp2_with (go_at_call 68; refine (clos_H (hth l m) Bq mq dq key _).mono ?_; rintro e w1 ⟨rfl, hb1⟩)
        (first | (go_round; (case rel => (refine ⟨m + 1, hi, by go_num, rfl, by omega, by omega, Lib.hid ⟨fun t h1 => ?_, I.out.2⟩, bel_trans hbw hb1⟩; rcases Nat.lt_or_ge t m with h5 | h5; exact ltI_trans (HP.out t m h5 (by rw [HN.out]; exact hmn)) HB.out; (obtain rfl : t = m := by omega); exact HB.out)); (case measure => (simp [intOf] <;> omega))) | (go_roundw; (case rel => (refine ⟨m + 1, hi, by go_num, rfl, by omega, by omega, Lib.hid ⟨fun t h1 => ?_, I.out.2⟩, bel_trans hbw hb1⟩; rcases Nat.lt_or_ge t m with h5 | h5; exact ltI_trans (HP.out t m h5 (by rw [HN.out]; exact hmn)) HB.out; (obtain rfl : t = m := by omega); exact HB.out)); (case measure => (simp [intOf] <;> omega))) | (refine ⟨?_, by simp [intOf] <;> omega⟩; (repeat apply Exists.intro); refine ⟨?rel, ?fr⟩; (case fr => ((repeat' apply And.intro) <;> rfl)); (case rel => (refine ⟨m + 1, hi, by go_num, rfl, by omega, by omega, Lib.hid ⟨fun t h1 => ?_, I.out.2⟩, bel_trans hbw hb1⟩; rcases Nat.lt_or_ge t m with h5 | h5; exact ltI_trans (HP.out t m h5 (by rw [HN.out]; exact hmn)) HB.out; (obtain rfl : t = m := by omega); exact HB.out))))
    · obtain rfl : hi = lo := by omega
      have hpos := I.out.pos HN.out hin
      rw [HLO.out] at hpos
      subst hpos
      by_cases hln : lo' < n
      · obtain ⟨b, off, rfl, hb, hc⟩ := (HL.out.up hbw).2.2 (by omega)
        obtain ⟨Bq, mq, dq, ⟨c0, c1, c2, c3⟩, -⟩ := hc lo' hln
        clear hc
        have hyv : y = (cmp3 (hth l lo').di key == 0) := by
          rw [← HY.out, Bool.eq_iff_iff]; unfold khasH; rw [HLO.out, dec_iff, beq_iff_eq, cmpI_eq, HN.out]
          exact ⟨fun h => h.2, fun h => ⟨hln, h⟩⟩
        have HYV := Lib.hid hyv
        clear hyv
        go_wp2_with (go_at_call 68; refine (clos_H (hth l lo') Bq mq dq key _).mono ?_; rintro e w1 ⟨rfl, hb1⟩)
        go_ret2
        exact ⟨by rw [HYV.out]; rfl, bel_trans hbw hb1⟩
      · have hh : y = false := by
          rw [← HY.out]
          cases h : khasH l key
          · rfl
          · have := (dec_iff.1 h).1; rw [HN.out, HLO.out] at this; exact absurd this hln
        subst hh
        go_wp2_with fail
        go_ret2
        exact ⟨rfl, hbw⟩
theorem MayHs.sorted {l : List HeldD} (h : MayHs l) : SortedH l := by
  have step : ∀ j, j + 1 < l.length → (hth l j).di < (hth l (j + 1)).di := fun j hj => by
    have := (h (j + 1) hj).2.2 (by omega)
    simpa using this
  have main : ∀ d i, i + d + 1 < l.length → (hth l i).di < (hth l (i + d + 1)).di := fun d => by
    induction d with
    | zero => intro i hi; exact step i hi
    | succ d ih => intro i hi; have := ih i (by omega); have := step (i + d + 1) (by omega); rw [show i + (d + 1) + 1 = i + d + 1 + 1 by omega]; omega
  intro i j hij hj
  have := main (j - i - 1) i (by omega)
  rw [show i + (j - i - 1) + 1 = j by omega] at this
  simpa [ltI] using this
theorem worker_At (A : Option Addr) (n c : Nat) (l : List HeldD) (key : Int) (lo : Nat) (y : Bool) (w : World) (hl : HeldsR w A n l) (hP : SortedH l) (hn : n ≤ 1000000000) (hlo : kposH l key = lo) (hy : khasH l key = y) :
    Calls Try.prog 50 #[.slice A n c, .int .i64 key] w fun e w' => e = .returned (.tuple #[.int .i64 lo, .bool y]) ∧ Below w.heap.size w w' := by
  have HL := Lib.hid hl
  have HP := Lib.hid hP
  clear hl hP
  go_enter Try.func50, Try.ntmps50
  go_wp2_with fail
  refine (bsf_H A n c l key lo y _ (HL.out.up (belA)) HP.out hn hlo hy).mono ?_
  rintro e w1 ⟨rfl, hb1⟩
  go_wp2_with fail
  go_ret2
  exact ⟨rfl, belA⟩
theorem khasH_lt {l : List HeldD} {key : Int} {lo : Nat} (hlo : kposH l key = lo) (h : khasH l key = true) : lo < l.length ∧ (hth l lo).di = key := by
  subst hlo; exact dec_iff.1 h
end
end Go.Proofs.Ytgfakefcmbpboaa
