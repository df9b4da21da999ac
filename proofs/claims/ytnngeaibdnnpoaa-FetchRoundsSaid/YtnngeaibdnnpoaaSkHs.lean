/- Fetch: slices.SortFunc of rows: a permutation, in order. -/
import Derived.Shelf.SlSortCmp.WholeK
import Derived.Test.YtnngeaibdnnpoaaSkHc
import Derived.Test.YtnngeaibdnnpoaaSkHs0
namespace Go.Proofs.Ytnngeaibdnnpoaa
open Go.RowKit Go.Shelf Go.Lib
set_option linter.unusedSimpArgs false
set_option linter.unusedVariables false

def sortQ_ren : Go.Shelf.Ren := ⟨fun | 6 => 61 | 15 => 85 | 14 => 84 | 28 => 101 | 29 => 102 | 20 => 93 | 21 => 94 | 22 => 95 | 23 => 96 | 24 => 97 | 25 => 98 | 26 => 99 | 27 => 100 | 46 => 104 | 47 => 105 | 48 => 106 | 49 => 107 | 50 => 108 | 57 => 109 | n => n, fun | 22 => 22 | 24 => 55 | 25 => 79 | 3 => 3 | 39 => 69 | 0 => 0 | 53 => 129 | 55 => 131 | 4 => 4 | 46 => 123 | 45 => 122 | 50 => 77 | 5 => 5 | 9 => 9 | 66 => 132 | 70 => 136 | 76 => 138 | 77 => 139 | n => n, fun | n => n⟩
theorem sortQ_lay : Go.Proofs.SlLaysF0.n6 Try.prog sortQ_ren := {
  mixed := by kernel_rfl
  f6 := ⟨Try.f61.name, by decide, Try.func61.trans (congrArg some (by kernel_rfl))⟩
  f14 := ⟨Try.f84.name, by decide, Try.func84.trans (congrArg some (by kernel_rfl))⟩
  f15 := Try.func85.trans (congrArg some (by kernel_rfl))
  f20 := ⟨Try.f93.name, by decide, Try.func93.trans (congrArg some (by kernel_rfl))⟩
  f21 := ⟨Try.f94.name, by decide, Try.func94.trans (congrArg some (by kernel_rfl))⟩
  f22 := ⟨Try.f95.name, by decide, Try.func95.trans (congrArg some (by kernel_rfl))⟩
  f23 := ⟨Try.f96.name, by decide, Try.func96.trans (congrArg some (by kernel_rfl))⟩
  f24 := ⟨Try.f97.name, by decide, Try.func97.trans (congrArg some (by kernel_rfl))⟩
  f25 := ⟨Try.f98.name, by decide, Try.func98.trans (congrArg some (by kernel_rfl))⟩
  f26 := ⟨Try.f99.name, by decide, Try.func99.trans (congrArg some (by kernel_rfl))⟩
  f27 := ⟨Try.f100.name, by decide, Try.func100.trans (congrArg some (by kernel_rfl))⟩
  f28 := Try.func101.trans (congrArg some (by kernel_rfl))
  f29 := Try.func102.trans (congrArg some (by kernel_rfl))
  f46 := ⟨Try.f104.name, by decide, Try.func104.trans (congrArg some (by kernel_rfl))⟩
  f47 := Try.func105.trans (congrArg some (by kernel_rfl))
  f48 := Try.func106.trans (congrArg some (by kernel_rfl))
  f49 := ⟨Try.f107.name, by decide, Try.func107.trans (congrArg some (by kernel_rfl))⟩
  f50 := ⟨Try.f108.name, by decide, Try.func108.trans (congrArg some (by kernel_rfl))⟩
  f57 := ⟨Try.f109.name, by decide, Try.func109.trans (congrArg some (by kernel_rfl))⟩
  t0 := Try.underlying0
  a0 := Try.isAgg0
  z0 := Try.sizeOf0
  v0 := Try.zeroValue0
  t3 := Try.underlying3
  a3 := Try.isAgg3
  z3 := Try.sizeOf3
  v3 := Try.zeroValue3
  t4 := Try.underlying4
  a4 := Try.isAgg4
  z4 := Try.sizeOf4
  v4 := Try.zeroValue4
  t5 := Try.underlying5
  a5 := Try.isAgg5
  z5 := Try.sizeOf5
  v5 := Try.zeroValue5
  t9 := Try.underlying9
  a9 := Try.isAgg9
  z9 := Try.sizeOf9
  v9 := Try.zeroValue9
  t22 := Try.underlying22
  a22 := Try.isAgg22
  z22 := Try.sizeOf22
  v22 := Try.zeroValue22
  t25 := Try.underlying79
  a25 := Try.isAgg79
  z25 := Try.sizeOf79
  v25 := Try.zeroValue79
  t39 := Try.underlying69
  a39 := Try.isAgg69
  z39 := Try.sizeOf69
  v39 := Try.zeroValue69
  t45 := Try.underlying122
  a45 := Try.isAgg122
  z45 := Try.sizeOf122
  v45 := Try.zeroValue122
  t46 := Try.underlying123
  a46 := Try.isAgg123
  z46 := Try.sizeOf123
  v46 := Try.zeroValue123
  t50 := Try.underlying77
  a50 := Try.isAgg77
  z50 := Try.sizeOf77
  v50 := Try.zeroValue77
  t53 := Try.underlying129
  a53 := Try.isAgg129
  z53 := Try.sizeOf129
  v53 := Try.zeroValue129
  t55 := Try.underlying131
  a55 := Try.isAgg131
  z55 := Try.sizeOf131
  v55 := Try.zeroValue131
  t66 := Try.underlying132
  a66 := Try.isAgg132
  z66 := Try.sizeOf132
  v66 := Try.zeroValue132
  t70 := Try.underlying136
  a70 := Try.isAgg136
  z70 := Try.sizeOf136
  v70 := Try.zeroValue136
  t76 := Try.underlying138
  a76 := Try.isAgg138
  z76 := Try.sizeOf138
  v76 := Try.zeroValue138
  t77 := Try.underlying139
  a77 := Try.isAgg139
  z77 := Try.sizeOf139
  v77 := Try.zeroValue139 }
set_option maxRecDepth 100000 in
set_option maxHeartbeats 1000000 in
theorem fetch_lessG (a b : FRowD) (w : World) : Calls Try.prog 42 #[.agg (encQ a).toArray, .agg (encQ b).toArray] w fun e w' => e = .returned (.int .i64 (cmpP a.ki a.di b.ki b.di)) ∧ ∃ q os', w' = Sort.grow (w.drewN q) os' := by
  show Calls Try.prog 42 #[.agg #[.int .i64 a.ki, .int .i64 a.di, .int .i64 a.ag, .int .i64 a.tr], .agg #[.int .i64 b.ki, .int .i64 b.di, .int .i64 b.ag, .int .i64 b.tr]] w fun e w' => e = .returned (.int .i64 (cmpP a.ki a.di b.ki b.di)) ∧ ∃ q os', w' = Sort.grow (w.drewN q) os'
  go_enter Try.func42, Try.ntmps42
  go_upto_region 1 with fail
  refine wp_world (fun W hW => ?_)
  have HWW := Lib.hid hW
  have hbW : Below w.heap.size w W := by rw [hW]; (repeat (first | (with_reducible exact Below.refl _ _) | (with_reducible assumption) | (with_reducible apply bel_alloc) | (with_reducible apply bel_drew) | (with_reducible apply bel_drewN) | (with_reducible refine bel_trans ?_ (by with_reducible assumption)) | (with_reducible refine bel_trans ?_ (HF.out _)) | (with_reducible refine bel_set ?_ (by simp) _) | (with_reducible refine bel_set ?_ (by simp; omega) _) | (with_reducible refine bel_set ?_ (by omega) _)))
  have hsz : W.heap.size = w.heap.size + 1 + 1 := by rw [hW]; simp
  obtain ⟨S, hSd⟩ : ∃ S : World → Prop, S = fun Q => Q.cell? ⟨w.heap.size, 0, none⟩ = some (.int .i64 a.ki) ∧ Q.cell? ⟨w.heap.size + 1, 0, none⟩ = some (.int .i64 b.ki) ∧ Q.cell? ⟨w.heap.size, 1, none⟩ = some (.int .i64 a.di) ∧ Q.cell? ⟨w.heap.size + 1, 1, none⟩ = some (.int .i64 b.di) := ⟨_, rfl⟩
  have hS1 : ∀ Q, S Q → Q.cell? ⟨w.heap.size, 0, none⟩ = some (.int .i64 a.ki) := fun Q h => by rw [hSd] at h; exact h.1
  have hS2 : ∀ Q, S Q → Q.cell? ⟨w.heap.size + 1, 0, none⟩ = some (.int .i64 b.ki) := fun Q h => by rw [hSd] at h; exact h.2.1
  have hS3 : ∀ Q, S Q → Q.cell? ⟨w.heap.size, 1, none⟩ = some (.int .i64 a.di) := fun Q h => by rw [hSd] at h; exact h.2.2.1
  have hS4 : ∀ Q, S Q → Q.cell? ⟨w.heap.size + 1, 1, none⟩ = some (.int .i64 b.di) := fun Q h => by rw [hSd] at h; exact h.2.2.2
  have hSW : S W := by rw [hSd, hW]; exact ⟨by simp, by simp, by simp, by simp⟩
  have hS : ∀ Q, Below W.heap.size W Q → S Q := fun Q hQ => by
    have h1 := hSW
    rw [hSd] at h1 ⊢
    have g := (bcell hQ).1
    exact ⟨(g _ _ (by omega)).trans h1.1, (g _ _ (by omega)).trans h1.2.1, (g _ _ (by omega)).trans h1.2.2.1, (g _ _ (by omega)).trans h1.2.2.2⟩
  clear hSd hW hSW
  refine wp_region_held_drew (S := S) (by kernel_rfl) (hS _ (bel_drew (Below.refl _ _))) (fun hHeld => ?_)
  have hbd : Below W.heap.size W W.drew := bel_drew (Below.refl _ _)
  obtain ⟨Z, hZ⟩ : ∃ Z, Z = W.drew := ⟨_, rfl⟩
  rw [← hZ]
  rw [← hZ] at hbd hHeld
  have HZ := Lib.hid hZ
  clear hZ
  (refine wpAnyH_tk 0 (some 5) (v := ?_) rfl rfl ?_ ?_; rotate_left; (focus (intro wq hSw; clear hSw; go_simp; all_goals (with_reducible rfl))); simp only [Act.put, List.setIfInBounds_toArray, List.set_cons_zero, List.set_cons_succ])
  (refine wpAnyH_tk 1 (some 6) (v := ?_) rfl rfl ?_ ?_; rotate_left; (focus (intro wq hSw; have q1 := hS1 wq hSw; clear hSw; go_simp; all_goals (with_reducible rfl))); simp only [Act.put, List.setIfInBounds_toArray, List.set_cons_zero, List.set_cons_succ])
  (refine wpAnyH_tk 2 (some 7) (v := ?_) rfl rfl ?_ ?_; rotate_left; (focus (intro wq hSw; clear hSw; go_simp; all_goals (with_reducible rfl))); simp only [Act.put, List.setIfInBounds_toArray, List.set_cons_zero, List.set_cons_succ])
  (refine wpAnyH_tk 3 (some 8) (v := ?_) rfl rfl ?_ ?_; rotate_left; (focus (intro wq hSw; have q1 := hS2 wq hSw; clear hSw; go_simp; all_goals (with_reducible rfl))); simp only [Act.put, List.setIfInBounds_toArray, List.set_cons_zero, List.set_cons_succ])
  (refine wpAnyH_tk 5 (some 10) (v := ?_) rfl rfl ?_ ?_; rotate_left; (focus (intro wq hSw; clear hSw; go_simp; all_goals (with_reducible rfl))); simp only [Act.put, List.setIfInBounds_toArray, List.set_cons_zero, List.set_cons_succ])
  (refine wpAnyH_tk 6 (some 11) (v := ?_) rfl rfl ?_ ?_; rotate_left; (focus (intro wq hSw; have q1 := hS3 wq hSw; clear hSw; go_simp; all_goals (with_reducible rfl))); simp only [Act.put, List.setIfInBounds_toArray, List.set_cons_zero, List.set_cons_succ])
  (refine wpAnyH_tk 7 (some 12) (v := ?_) rfl rfl ?_ ?_; rotate_left; (focus (intro wq hSw; clear hSw; go_simp; all_goals (with_reducible rfl))); simp only [Act.put, List.setIfInBounds_toArray, List.set_cons_zero, List.set_cons_succ])
  (refine wpAnyH_tk 8 (some 13) (v := ?_) rfl rfl ?_ ?_; rotate_left; (focus (intro wq hSw; have q1 := hS4 wq hSw; clear hSw; go_simp; all_goals (with_reducible rfl))); simp only [Act.put, List.setIfInBounds_toArray, List.set_cons_zero, List.set_cons_succ])
  refine wpAnyH_ready (rs := [4]) (by kernel_rfl) (by simp) ?_
  refine AllReadyH.cons (o := _) rfl (fun K hK => ?_) AllReadyH.nil
  go_simp
  (go_at_call 75; refine (cmp_Compare_int _ _ _).mono ?_; rintro e w' ⟨rfl, rfl⟩)
  refine hK.out _ _ (hS _ hbd) (fun hHeld => ?_)
  clear hK K
  (try simp only [Act.put, List.setIfInBounds_toArray, List.set_cons_zero, List.set_cons_succ])
  refine wpAnyH_ready (rs := [9]) (by kernel_rfl) (by simp) ?_
  refine AllReadyH.cons (o := _) rfl (fun K hK => ?_) AllReadyH.nil
  go_simp
  (go_at_call 75; refine (cmp_Compare_int _ _ _).mono ?_; rintro e w' ⟨rfl, rfl⟩)
  refine hK.out _ _ (hS _ hbd) (fun hHeld => ?_)
  clear hK K
  (try simp only [Act.put, List.setIfInBounds_toArray, List.set_cons_zero, List.set_cons_succ])
  refine wpAnyH_ready (rs := [10]) (by kernel_rfl) (by simp) ?_
  refine AllReadyH.cons (o := _) rfl (fun K hK => ?_) AllReadyH.nil
  go_simp
  refine hK.out _ _ (hS _ (bel_alloc hbd)) (fun hHeld => ?_)
  clear hK K
  (try simp only [Act.put, List.setIfInBounds_toArray, List.set_cons_zero, List.set_cons_succ])
  refine wpAnyH_ready (rs := [11]) (by kernel_rfl) (by simp) ?_
  refine AllReadyH.cons (o := _) rfl (fun K hK => ?_) AllReadyH.nil
  go_simp
  (go_at_call 74; refine (cmp_Or _ (cmp3 a.ki b.ki) (cmp3 a.di b.di) _ (by exact (two_new _ _ _ _ _ (by simp)).1) (by exact (two_new _ _ _ _ _ (by simp)).2)).mono ?_; rintro e w' ⟨rfl, rfl⟩)
  refine hK.out _ _ (hS _ (bel_alloc hbd)) (fun hHeld => ?_)
  clear hK K
  (try simp only [Act.put, List.setIfInBounds_toArray, List.set_cons_zero, List.set_cons_succ])
  (refine wpAnyH_tk 12 (some 4) (v := ?_) rfl rfl ?_ ?_; rotate_left; (focus (intro wq hSw; clear hSw; go_simp; all_goals (with_reducible rfl))); simp only [Act.put, List.setIfInBounds_toArray, List.set_cons_zero, List.set_cons_succ])
  refine wpAnyH_done (by kernel_rfl) ?_ _
  go_wp2_with fail
  go_ret
  exact ⟨rfl, 1, _, by rw [HZ.out, HWW.out, Sort.alloc_eq_grow, Sort.alloc_eq_grow, Sort.alloc_eq_grow, Sort.drew_grow, Sort.drew_grow, Sort.grow_grow, Sort.grow_grow]; rfl⟩

def cfQ (a b : FRowD) : Int := cmpP a.ki a.di b.ki b.di
theorem ltQ (a b : FRowD) : ltOf cfQ a b = befQ a b := by
  unfold ltOf cfQ befQ
  rw [Bool.eq_iff_iff, decide_eq_true_eq, cmpP_lt]
theorem swoQ : Sort.SWO (ltOf cfQ) where
  irrefl x := by rw [ltQ]; unfold befQ befS; simp
  trans x y z h1 h2 := by rw [ltQ] at *; unfold befQ at *; rw [befS_iff] at *; omega
  ntrans x y z h1 h2 := by
    rw [ltQ] at *; unfold befQ befS at *; simp only [decide_eq_false_iff_not] at *; omega
theorem flatK_list (l : List FRowD) : (Go.Sort.flatK encQ 4 l.toArray).toList = flat encQ l := by
  apply List.ext_getElem?
  intro j
  by_cases hj : j < l.length * 4
  · have h2 := flat_at encQ_len l (j / 4) (j % 4) (by omega) (by omega)
    rw [show j / 4 * 4 + j % 4 = j by omega] at h2
    have h4 : l.toArray[j / 4]! = l.getD (j / 4) default := by simp
    rw [Array.getElem?_toList, h2, flatK_get encQ 4 encQ_len _ _ (by rw [List.size_toArray]; exact hj) (by omega), h4]
  · rw [List.getElem?_eq_none (by simp; omega), List.getElem?_eq_none (by rw [flat_len encQ_len]; omega)]
set_option maxHeartbeats 1000000 in
theorem bits_Len0 (w : World) : Calls Try.prog 85 #[.int .u64 0] w fun e w' => (∃ v, e = .returned v) ∧ w = w' := by
  go_enter Try.func85, Try.ntmps85
  go_wp2
  go_ret
  exact ⟨⟨_, rfl⟩, rfl⟩
set_option maxHeartbeats 1000000 in
theorem ins_none (w : World) : Calls Try.prog 93 #[.slice none 0 0, .int .i64 0, .int .i64 0, .func (.func 42) #[] #[]] w fun e w' => e = .returned (.tuple #[]) ∧ Below w.heap.size w w' := by
  go_enter Try.func93, Try.ntmps93
  go_wp2_with fail
  go_loopw [8] (fun s wr => s = .int .i64 1 ∧ Below w.heap.size w wr) (fun _ _ => 0)
  case atStart => exact ⟨rfl, by (repeat (first | (with_reducible exact Below.refl _ _) | (with_reducible assumption) | (with_reducible apply bel_alloc) | (with_reducible apply bel_drew) | (with_reducible apply bel_drewN) | (with_reducible refine bel_trans ?_ (by with_reducible assumption)) | (with_reducible refine bel_trans ?_ (HF.out _)) | (with_reducible refine bel_set ?_ (by simp) _) | (with_reducible refine bel_set ?_ (by simp; omega) _) | (with_reducible refine bel_set ?_ (by omega) _)))⟩
  case round =>
    obtain ⟨rfl, hbw⟩ := hrel
    (obtain ⟨wm, hwm⟩ : ∃ x, x = wr := ⟨_, rfl⟩); subst hwm
    go_wp2_with fail
    go_end0
    exact ⟨rfl, hbw⟩
set_option maxHeartbeats 1000000 in
theorem pdq_none (x : Value) (w : World) : Calls Try.prog 84 #[.slice none 0 0, .int .i64 0, .int .i64 0, x, .func (.func 42) #[] #[]] w fun e w' => e = .returned (.tuple #[]) ∧ Below w.heap.size w w' := by
  go_enter Try.func84, Try.ntmps84
  go_wp2_with fail
  go_loopw [1, 2] (fun s s2 wr => s = .int .i64 0 ∧ s2 = .int .i64 0 ∧ Below w.heap.size w wr) (fun _ _ _ => 0)
  case atStart => exact ⟨rfl, rfl, by (repeat (first | (with_reducible exact Below.refl _ _) | (with_reducible assumption) | (with_reducible apply bel_alloc) | (with_reducible apply bel_drew) | (with_reducible apply bel_drewN) | (with_reducible refine bel_trans ?_ (by with_reducible assumption)) | (with_reducible refine bel_trans ?_ (HF.out _)) | (with_reducible refine bel_set ?_ (by simp) _) | (with_reducible refine bel_set ?_ (by simp; omega) _) | (with_reducible refine bel_set ?_ (by omega) _)))⟩
  case round =>
    obtain ⟨rfl, rfl, hbw⟩ := hrel
    (obtain ⟨wk, hwk⟩ : ∃ x, x = wr := ⟨_, rfl⟩); subst hwk
    go_wp2_with (go_at_call 93; refine (ins_none _).mono ?_; rintro e w1 ⟨rfl, hb1⟩)
    refine bodyPost_ret (v := .tuple #[]) (results_none rfl _ _ _) rfl ?_
    exact ⟨rfl, bel_trans hbw hb1⟩
set_option maxHeartbeats 1000000 in
theorem sort_Q (w : World) (B : Nat) (v : Value) (l : List FRowD) (hown : OwnQ w B v l) (hlen : l.length ≤ 1000) (hB : B ≤ w.heap.size) :
    Calls Try.prog 61 #[v, .func (.func 42) #[] #[]] w fun e w' => e = .returned (.tuple #[]) ∧ ∃ l' : List FRowD, l'.Perm l ∧ (∀ i j, i < j → j < l'.length → befQ (qth l' j) (qth l' i) = false) ∧ OwnQ w' B v l' ∧ Below B w w' ∧ w.grownBy w' v.ownBlock := by
  have hown' := hown
  rcases hown.2 with ⟨rfl, h0⟩ | ⟨g, cap, cur, rfl, hBg, hg, hnc, hcm, hsz, htk⟩
  · have hl0 : l = [] := List.eq_nil_of_length_eq_zero h0
    subst hl0
    clear hown hown' h0
    go_enter Try.func61, Try.ntmps61
    go_wp2_with (first | (go_at_call 85; refine (bits_Len0 _).mono ?_; rintro e w1 ⟨⟨v0, rfl⟩, rfl⟩) | (go_at_call 84; refine (pdq_none _ _).mono ?_; rintro e w1 ⟨rfl, hb1⟩))
    go_end0
    exact ⟨rfl, [], List.Perm.refl _, fun i j _ h => absurd h (by simp), OwnQ.nil _ _, hb1.mono hB, ⟨hb1.os, hb1.tape, hb1.output, hb1.size, fun k hk _ => hb1.block k hk⟩⟩
  · have hgl : g < w.heap.size := (Array.getElem?_eq_some_iff.1 hg).1
    have hcell : ∀ j, j < l.length * 4 → cur[j]? = (Go.Sort.flatK encQ 4 l.toArray)[j]? := fun j hj => by
      have h1 : (cur.toList.take (l.length * 4))[j]? = (flat encQ l)[j]? := by rw [htk]
      rw [List.getElem?_take_of_lt hj, Array.getElem?_toList] at h1
      rw [h1, ← flatK_list, Array.getElem?_toList]
    have hH : Go.Sort.HoldsK encQ 4 w g 0 l.toArray := holdsK_of encQ 4 w g _ (fun j hj => ⟨by rw [show w.cell? ⟨g, j, none⟩ = cur[j]? by simp [World.cell?, hg]]; exact hcell j (by simpa using hj), by simp [World.frozen?, hg]⟩)
    have hcon := AnyQ.slices_SortFunc sortQ_lay 4 Try.isAgg55 Try.sizeOf55 encQ encQ_len encQ_one cfQ swoQ 42 #[] g 0 cap l.toArray w (enters_of Try.func42 (by kernel_rfl) rfl) (fun _ _ _ _ x y => fetch_lessG x y _) hH hgl (by simp; omega)
    change Calls Try.prog 61 #[.slice (some ⟨g, 0, none⟩) l.length cap, .func (.func 42) #[] #[]] w _ at hcon
    refine hcon.mono ?_
    rintro e w' ⟨rfl, d', n, os, hp, hs, rfl⟩
    have hds : d'.size = l.length := by simpa using hp.1
    have hperm : d'.toList.Perm l := by
      have h1 := hp.2.2
      simp only [List.size_toArray] at h1
      rw [← hds] at h1
      have h2 : d'.toList.take l.length = d'.toList := List.take_of_length_le (by simp [hds])
      have h3 : (d'.toList.take l.length).Perm l := by simpa [Array.extract_size, hds] using h1
      rwa [h2] at h3
    obtain ⟨⟨c', hheap, hcs, hcg⟩, hother, hsize, e1, e2, e3⟩ := sortK_heap encQ 4 w g n d' os cur 55 hg (by rw [hds, hsz]; exact Nat.mul_le_mul_right 4 hnc)
    refine ⟨rfl, d'.toList, hperm, fun i j hij hj => ?_, ?_, ⟨e1, e2, e3, hsize, fun k hk => hother k (by omega) (by omega)⟩, ⟨e1, e2, e3, hsize, fun k hk hne => hother k hk (fun e => hne (by rw [e]; rfl))⟩⟩
    · have h1 := hs i j (Nat.zero_le _) hij (by simp at hj ⊢; omega)
      rw [ltQ] at h1
      have e9 : ∀ t, t < d'.size → qth d'.toList t = d'[t]! := fun t ht => by simp [qth, ht]
      rw [e9 _ (by simpa using hj), e9 _ (by simp at hj; omega)]; exact h1
    · have hll : d'.toList.length = l.length := by simp [hds]
      unfold OwnQ
      refine ⟨by rw [flat_len encQ_len], .inr ⟨g, cap, c', by rw [hll], hBg, hheap, by rw [hll]; exact hnc, hcm, by rw [hcs, hsz], ?_⟩⟩
      rw [← flatK_list d'.toList]
      apply List.ext_getElem?
      intro j
      by_cases hj : j < l.length * 4
      · rw [List.getElem?_take_of_lt (by rw [hll]; exact hj), Array.getElem?_toList, Array.getElem?_toList, Array.toArray_toList]
        exact hcg j (by rw [hds]; exact hj)
      · rw [List.getElem?_eq_none (by simp [hll]; omega), List.getElem?_eq_none (by simp [hds]; omega)]
end Go.Proofs.Ytnngeaibdnnpoaa
