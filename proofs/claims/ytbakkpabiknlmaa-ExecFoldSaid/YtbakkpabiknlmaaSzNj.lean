/- Tables: Do, where it does nothing. -/
import Derived.Test.YtbakkpabiknlmaaSzNj0
namespace Go.Proofs.Ytbakkpabiknlmaa
open Go.RowKit
set_option linter.unusedSimpArgs false
set_option linter.unusedVariables false
variable {tb : TypeId} {rs : List Value}

def DOJ (w : World) (a' : Act) (w' : World) : Prop := ∃ t : Array Value, a' = { tmps := t, defers := [] } ∧ 4 < t.size ∧ Below w.heap.size w w'
set_option maxRecDepth 100000 in
set_option maxHeartbeats 8000000 in
theorem table_Do_no (bt : Nat) (Ap : Option Addr) (n cp : Nat) (l : List PairD) (Aa : Option Addr) (m ca : Nat) (q : List AcctD) (x : TxD) (w : World) (hT : Blk w bt tb (.slice Ap n cp :: .slice Aa m ca :: rs)) (hl : PairsR w Ap n l) (hq : AcctsR w Aa m q) (hM : MayT l q) (hno : ¬ OkT l q x) :
    Calls Try.prog 62 #[.pointer (some ⟨bt, 0, none⟩), .agg #[.int .i64 x.se, .int .i64 x.sq, .string x.k, .string x.v]] w fun e w' => e = .returned (.bool false) ∧ Below w.heap.size w w' := by
  have HT := Lib.hid hT
  have HPr := Lib.hid hl
  have HAr := Lib.hid hq
  have HN := Lib.hid hl.1
  have HMl := Lib.hid hq.1
  have HSP := Lib.hid hM.1.sorted
  have HSA := Lib.hid hM.2.sorted
  have hn : n ≤ 4096 := by rw [← hl.1]; exact hM.1.1
  have hm : m ≤ 4096 := by rw [← hq.1]; exact hM.2.1
  have HM := Lib.hid hM
  have HNO := Lib.hid hno
  have hbt := hT.lt
  obtain ⟨k, hk⟩ : ∃ k, kposP l x.k = k := ⟨_, rfl⟩
  obtain ⟨i, hi⟩ : ∃ i, kposA q x.se = i := ⟨_, rfl⟩
  have HK := Lib.hid hk
  have HI := Lib.hid hi
  clear hT hl hq hM hno hk hi
  have nil0 : x.v.size = 0 → (x.v.toList != []) = false := fun h => by rw [toList_nil.2 h]; rfl
  have nil1 : ¬ x.v.size = 0 → (x.v.toList != []) = true := fun h => by rw [bne_iff_ne]; exact fun g => h (toList_nil.1 g)
  cases hh : khasA q x.se
  · have HHas := Lib.hid hh
    have HLast : Hid (lastA q x.se = 0) := Lib.hid (by unfold lastA; rw [if_neg (by rw [hh]; simp)])
    clear hh
    cases hty : txS x
    · obtain ⟨yt, hyt⟩ : ∃ yt, khasP l x.k = yt := ⟨_, rfl⟩
      have HTh := Lib.hid hyt
      clear nil0 nil1 hyt
      go_enter Try.func62, Try.ntmps62
      go_wp2_with fail
      have hT1 : Blk (w.alloc (.cells #[.int .i64 x.se, .int .i64 x.sq, .string x.k, .string x.v] 81)) bt tb (.slice Ap n cp :: .slice Aa m ca :: rs) := HT.out.up (by (repeat (first | (with_reducible exact Below.refl _ _) | (with_reducible assumption) | (with_reducible apply bel_alloc) | (with_reducible apply bel_drew) | (with_reducible apply bel_drewN) | (with_reducible refine bel_trans ?_ (by with_reducible assumption)) | (with_reducible refine bel_trans ?_ (HF.out _)) | (with_reducible refine bel_set ?_ (by simp) _) | (with_reducible refine bel_set ?_ (by simp; omega) _) | (with_reducible refine bel_set ?_ (by omega) _))))
      have hX1 : Blk (w.alloc (.cells #[.int .i64 x.se, .int .i64 x.sq, .string x.k, .string x.v] 81)) w.heap.size 81 [.int .i64 x.se, .int .i64 x.sq, .string x.k, .string x.v] := Blk.new w 81 [.int .i64 x.se, .int .i64 x.sq, .string x.k, .string x.v]
      have hbX : Below w.heap.size w (w.alloc (.cells #[.int .i64 x.se, .int .i64 x.sq, .string x.k, .string x.v] 81)) := by (repeat (first | (with_reducible exact Below.refl _ _) | (with_reducible assumption) | (with_reducible apply bel_alloc) | (with_reducible apply bel_drew) | (with_reducible apply bel_drewN) | (with_reducible refine bel_trans ?_ (by with_reducible assumption)) | (with_reducible refine bel_trans ?_ (HF.out _)) | (with_reducible refine bel_set ?_ (by simp) _) | (with_reducible refine bel_set ?_ (by simp; omega) _) | (with_reducible refine bel_set ?_ (by omega) _)))
      generalize (w.alloc (.cells #[.int .i64 x.se, .int .i64 x.sq, .string x.k, .string x.v] 81)) = X at *
      have HT1 := Lib.hid hT1
      have HX1 := Lib.hid hX1
      have hbtX := hT1.lt
      have hxbX := hX1.lt
      have t_0 := (hT1.box).2 0 _ rfl; have t_1 := (hT1.box).2 1 _ rfl
      have x_0 := (hX1.box).2 0 _ rfl; have x_1 := (hX1.box).2 1 _ rfl; have x_2 := (hX1.box).2 2 _ rfl; have x_3 := (hX1.box).2 3 _ rfl
      clear hT1 hX1
      have HARX := Lib.hid (HAr.out.up hbX)
      refine wp_scope_fwd 0 (DOJ w) rfl ?_ (by rintro a' w' ⟨t, rfl, ht, hb⟩; go_wp2_with fail; simp only [Exit.noGoto]; go_ret; exact ⟨by simp [Array.getD_eq_getD_getElem?, ht], hb⟩)
      go_wp2_with fail
      refine wp_region_fam (by kernel_rfl) (by kernel_rfl) (fun ι F hne hF hcl => ?_)
      have hcF0 := fun n o => (bcell (hF n)).1 (bt) o (by first | (simp; done) | (simp; omega) | omega)
      have hcF1 := fun n o => (bcell (hF n)).1 (w.heap.size) o (by first | (simp; done) | (simp; omega) | omega)
      have HF := Lib.hid hF; clear hF
      have HC := Lib.hid hcl; clear hcl
      repeat (any_goals (first
       | go_big_quiet_step (first | (go_at_call 70; exact Calls.fam HC.out (bsf_A Aa m ca q x.se i _ _ (HARX.out.up (HF.out _)) HSA.out (by omega) HI.out HHas.out)))
       | (refine wpQuiet_guard _ _ _ rfl rfl ?_; (fail_if_success (intro b' hb; have h2 := hb.symm; have : b' = true := h2.trans (by with_reducible rfl))); (fail_if_success (intro b' hb; have h2 := hb.symm; have : b' = false := h2.trans (by with_reducible rfl))); intro b' hb; simp only [hb]; cases b' <;> (try simp only [Bool.not_eq_true', Bool.not_eq_false', decide_eq_true_eq, decide_eq_false_iff_not, Int.not_lt, Int.not_le, Bool.and_eq_true, Bool.or_eq_true, Bool.or_eq_false_iff, beq_iff_eq, beq_eq_false_iff_ne, Int.natCast_pos] at hb))))
      all_goals (refine wpQuiet_nil ?_; intro nq)
      have hFwf := HF.out nq
      clear HF HC hne
      generalize F nq = wf at *
      clear hcF0 hcF1
      have hbXf : Below w.heap.size w wf := bel_trans hbX hFwf
      have HT2 := Lib.hid (HT1.out.up hFwf)
      have HX2 := Lib.hid (HX1.out.up hFwf)
      have hbtXf := HT2.out.lt
      have hxbXf := HX2.out.lt
      clear t_0 t_1 x_0 x_1 x_2 x_3
      have t_0 := (HT2.out.box).2 0 _ rfl; have t_1 := (HT2.out.box).2 1 _ rfl
      have x_0 := (HX2.out.box).2 0 _ rfl; have x_1 := (HX2.out.box).2 1 _ rfl; have x_2 := (HX2.out.box).2 2 _ rfl; have x_3 := (HX2.out.box).2 3 _ rfl
      have HPRX := Lib.hid (HPr.out.up hbXf)
      go_wp2_with fail
      refine wp_region_fam (by kernel_rfl) (by kernel_rfl) (fun ι F hne hF hcl => ?_)
      have hcF0 := fun n o => (bcell (hF n)).1 (bt) o (by first | (simp; done) | (simp; omega) | omega)
      have hcF1 := fun n o => (bcell (hF n)).1 (w.heap.size) o (by first | (simp; done) | (simp; omega) | omega)
      have HF := Lib.hid hF; clear hF
      have HC := Lib.hid hcl; clear hcl
      repeat (any_goals (first
       | go_big_quiet_step (first | (go_at_call 72; exact Calls.fam HC.out (table_pair Ap n cp l _ x.k k _ _ (HPRX.out.up (HF.out _)) HSP.out (by omega) HK.out HTh.out rfl)))
       | (refine wpQuiet_guard _ _ _ rfl rfl ?_; (fail_if_success (intro b' hb; have h2 := hb.symm; have : b' = true := h2.trans (by with_reducible rfl))); (fail_if_success (intro b' hb; have h2 := hb.symm; have : b' = false := h2.trans (by with_reducible rfl))); intro b' hb; simp only [hb]; cases b' <;> (try simp only [Bool.not_eq_true', Bool.not_eq_false', decide_eq_true_eq, decide_eq_false_iff_not, Int.not_lt, Int.not_le, Bool.and_eq_true, Bool.or_eq_true, Bool.or_eq_false_iff, beq_iff_eq, beq_eq_false_iff_ne, Int.natCast_pos] at hb))))
      all_goals (refine wpQuiet_nil ?_; intro nq)
      have hFwg := HF.out nq
      clear HF HC hne
      generalize F nq = wg at *
      clear hcF0 hcF1
      have hbXg : Below w.heap.size w wg := bel_trans hbXf hFwg
      have HT3 := Lib.hid (HT2.out.up hFwg)
      have HX3 := Lib.hid (HX2.out.up hFwg)
      have hbtXg := HT3.out.lt
      have hxbXg := HX3.out.lt
      clear t_0 t_1 x_0 x_1 x_2 x_3
      have t_0 := (HT3.out.box).2 0 _ rfl; have t_1 := (HT3.out.box).2 1 _ rfl
      have x_0 := (HX3.out.box).2 0 _ rfl; have x_1 := (HX3.out.box).2 1 _ rfl; have x_2 := (HX3.out.box).2 2 _ rfl; have x_3 := (HX3.out.box).2 3 _ rfl
      go_wp2_with fail
      refine (batch_MayTx x _ _ hty).mono ?_
      rintro e w2 ⟨rfl, hb2⟩
      have hbXh : Below w.heap.size w w2 := bel_trans hbXg hb2
      have HT4 := Lib.hid (HT3.out.up hb2)
      have HX4 := Lib.hid (HX3.out.up hb2)
      have hbtXh := HT4.out.lt
      have hxbXh := HX4.out.lt
      clear t_0 t_1 x_0 x_1 x_2 x_3
      have t_0 := (HT4.out.box).2 0 _ rfl; have t_1 := (HT4.out.box).2 1 _ rfl
      have x_0 := (HX4.out.box).2 0 _ rfl; have x_1 := (HX4.out.box).2 1 _ rfl; have x_2 := (HX4.out.box).2 2 _ rfl; have x_3 := (HX4.out.box).2 3 _ rfl
      go_wp2_with fail
      apply wp_goto
      exact ⟨rfl, _, rfl, (by show 4 < 147; omega), hbXh⟩
    by_cases hsq : x.sq = 1
    case' neg =>
      have hs1 : (x.sq == 1) = false := by simpa using hsq
      have hs2 : (x.sq != 1) = true := by simpa using hsq
      obtain ⟨yt, hyt⟩ : ∃ yt, khasP l x.k = yt := ⟨_, rfl⟩
      have HTh := Lib.hid hyt
      clear hsq nil0 nil1 hyt
      go_enter Try.func62, Try.ntmps62
      go_wp2_with fail
      have hT1 : Blk (w.alloc (.cells #[.int .i64 x.se, .int .i64 x.sq, .string x.k, .string x.v] 81)) bt tb (.slice Ap n cp :: .slice Aa m ca :: rs) := HT.out.up (by (repeat (first | (with_reducible exact Below.refl _ _) | (with_reducible assumption) | (with_reducible apply bel_alloc) | (with_reducible apply bel_drew) | (with_reducible apply bel_drewN) | (with_reducible refine bel_trans ?_ (by with_reducible assumption)) | (with_reducible refine bel_trans ?_ (HF.out _)) | (with_reducible refine bel_set ?_ (by simp) _) | (with_reducible refine bel_set ?_ (by simp; omega) _) | (with_reducible refine bel_set ?_ (by omega) _))))
      have hX1 : Blk (w.alloc (.cells #[.int .i64 x.se, .int .i64 x.sq, .string x.k, .string x.v] 81)) w.heap.size 81 [.int .i64 x.se, .int .i64 x.sq, .string x.k, .string x.v] := Blk.new w 81 [.int .i64 x.se, .int .i64 x.sq, .string x.k, .string x.v]
      have hbX : Below w.heap.size w (w.alloc (.cells #[.int .i64 x.se, .int .i64 x.sq, .string x.k, .string x.v] 81)) := by (repeat (first | (with_reducible exact Below.refl _ _) | (with_reducible assumption) | (with_reducible apply bel_alloc) | (with_reducible apply bel_drew) | (with_reducible apply bel_drewN) | (with_reducible refine bel_trans ?_ (by with_reducible assumption)) | (with_reducible refine bel_trans ?_ (HF.out _)) | (with_reducible refine bel_set ?_ (by simp) _) | (with_reducible refine bel_set ?_ (by simp; omega) _) | (with_reducible refine bel_set ?_ (by omega) _)))
      generalize (w.alloc (.cells #[.int .i64 x.se, .int .i64 x.sq, .string x.k, .string x.v] 81)) = X at *
      have HT1 := Lib.hid hT1
      have HX1 := Lib.hid hX1
      have hbtX := hT1.lt
      have hxbX := hX1.lt
      have t_0 := (hT1.box).2 0 _ rfl; have t_1 := (hT1.box).2 1 _ rfl
      have x_0 := (hX1.box).2 0 _ rfl; have x_1 := (hX1.box).2 1 _ rfl; have x_2 := (hX1.box).2 2 _ rfl; have x_3 := (hX1.box).2 3 _ rfl
      clear hT1 hX1
      have HARX := Lib.hid (HAr.out.up hbX)
      refine wp_scope_fwd 0 (DOJ w) rfl ?_ (by rintro a' w' ⟨t, rfl, ht, hb⟩; go_wp2_with fail; simp only [Exit.noGoto]; go_ret; exact ⟨by simp [Array.getD_eq_getD_getElem?, ht], hb⟩)
      go_wp2_with fail
      refine wp_region_fam (by kernel_rfl) (by kernel_rfl) (fun ι F hne hF hcl => ?_)
      have hcF0 := fun n o => (bcell (hF n)).1 (bt) o (by first | (simp; done) | (simp; omega) | omega)
      have hcF1 := fun n o => (bcell (hF n)).1 (w.heap.size) o (by first | (simp; done) | (simp; omega) | omega)
      have HF := Lib.hid hF; clear hF
      have HC := Lib.hid hcl; clear hcl
      repeat (any_goals (first
       | go_big_quiet_step (first | (go_at_call 70; exact Calls.fam HC.out (bsf_A Aa m ca q x.se i _ _ (HARX.out.up (HF.out _)) HSA.out (by omega) HI.out HHas.out)))
       | (refine wpQuiet_guard _ _ _ rfl rfl ?_; (fail_if_success (intro b' hb; have h2 := hb.symm; have : b' = true := h2.trans (by with_reducible rfl))); (fail_if_success (intro b' hb; have h2 := hb.symm; have : b' = false := h2.trans (by with_reducible rfl))); intro b' hb; simp only [hb]; cases b' <;> (try simp only [Bool.not_eq_true', Bool.not_eq_false', decide_eq_true_eq, decide_eq_false_iff_not, Int.not_lt, Int.not_le, Bool.and_eq_true, Bool.or_eq_true, Bool.or_eq_false_iff, beq_iff_eq, beq_eq_false_iff_ne, Int.natCast_pos] at hb))))
      all_goals (refine wpQuiet_nil ?_; intro nq)
      have hFwf := HF.out nq
      clear HF HC hne
      generalize F nq = wf at *
      clear hcF0 hcF1
      have hbXf : Below w.heap.size w wf := bel_trans hbX hFwf
      have HT2 := Lib.hid (HT1.out.up hFwf)
      have HX2 := Lib.hid (HX1.out.up hFwf)
      have hbtXf := HT2.out.lt
      have hxbXf := HX2.out.lt
      clear t_0 t_1 x_0 x_1 x_2 x_3
      have t_0 := (HT2.out.box).2 0 _ rfl; have t_1 := (HT2.out.box).2 1 _ rfl
      have x_0 := (HX2.out.box).2 0 _ rfl; have x_1 := (HX2.out.box).2 1 _ rfl; have x_2 := (HX2.out.box).2 2 _ rfl; have x_3 := (HX2.out.box).2 3 _ rfl
      have HPRX := Lib.hid (HPr.out.up hbXf)
      go_wp2_with fail
      refine wp_region_fam (by kernel_rfl) (by kernel_rfl) (fun ι F hne hF hcl => ?_)
      have hcF0 := fun n o => (bcell (hF n)).1 (bt) o (by first | (simp; done) | (simp; omega) | omega)
      have hcF1 := fun n o => (bcell (hF n)).1 (w.heap.size) o (by first | (simp; done) | (simp; omega) | omega)
      have HF := Lib.hid hF; clear hF
      have HC := Lib.hid hcl; clear hcl
      repeat (any_goals (first
       | go_big_quiet_step (first | (go_at_call 72; exact Calls.fam HC.out (table_pair Ap n cp l _ x.k k _ _ (HPRX.out.up (HF.out _)) HSP.out (by omega) HK.out HTh.out rfl)))
       | (refine wpQuiet_guard _ _ _ rfl rfl ?_; (fail_if_success (intro b' hb; have h2 := hb.symm; have : b' = true := h2.trans (by with_reducible rfl))); (fail_if_success (intro b' hb; have h2 := hb.symm; have : b' = false := h2.trans (by with_reducible rfl))); intro b' hb; simp only [hb]; cases b' <;> (try simp only [Bool.not_eq_true', Bool.not_eq_false', decide_eq_true_eq, decide_eq_false_iff_not, Int.not_lt, Int.not_le, Bool.and_eq_true, Bool.or_eq_true, Bool.or_eq_false_iff, beq_iff_eq, beq_eq_false_iff_ne, Int.natCast_pos] at hb))))
      all_goals (refine wpQuiet_nil ?_; intro nq)
      have hFwg := HF.out nq
      clear HF HC hne
      generalize F nq = wg at *
      clear hcF0 hcF1
      have hbXg : Below w.heap.size w wg := bel_trans hbXf hFwg
      have HT3 := Lib.hid (HT2.out.up hFwg)
      have HX3 := Lib.hid (HX2.out.up hFwg)
      have hbtXg := HT3.out.lt
      have hxbXg := HX3.out.lt
      clear t_0 t_1 x_0 x_1 x_2 x_3
      have t_0 := (HT3.out.box).2 0 _ rfl; have t_1 := (HT3.out.box).2 1 _ rfl
      have x_0 := (HX3.out.box).2 0 _ rfl; have x_1 := (HX3.out.box).2 1 _ rfl; have x_2 := (HX3.out.box).2 2 _ rfl; have x_3 := (HX3.out.box).2 3 _ rfl
      go_wp2_with fail
      refine (batch_MayTx x _ _ hty).mono ?_
      rintro e w2 ⟨rfl, hb2⟩
      have hbXh : Below w.heap.size w w2 := bel_trans hbXg hb2
      have HT4 := Lib.hid (HT3.out.up hb2)
      have HX4 := Lib.hid (HX3.out.up hb2)
      have hbtXh := HT4.out.lt
      have hxbXh := HX4.out.lt
      clear t_0 t_1 x_0 x_1 x_2 x_3
      have t_0 := (HT4.out.box).2 0 _ rfl; have t_1 := (HT4.out.box).2 1 _ rfl
      have x_0 := (HX4.out.box).2 0 _ rfl; have x_1 := (HX4.out.box).2 1 _ rfl; have x_2 := (HX4.out.box).2 2 _ rfl; have x_3 := (HX4.out.box).2 3 _ rfl
      go_wp2_with fail
      apply wp_goto
      exact ⟨rfl, _, rfl, (by show 4 < 147; omega), hbXh⟩
    have hs1 : (x.sq == 1) = true := by simpa using hsq
    have hs2 : (x.sq != 1) = false := by simpa using hsq
    have HSQ : Hid (x.sq = lastA q x.se + 1) := Lib.hid (by rw [HLast.out]; rw [hsq]; rfl)
    clear hsq
    by_cases hmf : 4096 ≤ m
    case' pos =>
      have hmd : decide ((4096 : Int) ≤ (m : Int)) = true := by simp; omega
      obtain ⟨yt, hyt⟩ : ∃ yt, khasP l x.k = yt := ⟨_, rfl⟩
      have HTh := Lib.hid hyt
      clear nil0 nil1 hyt
      go_enter Try.func62, Try.ntmps62
      go_wp2_with fail
      have hT1 : Blk (w.alloc (.cells #[.int .i64 x.se, .int .i64 x.sq, .string x.k, .string x.v] 81)) bt tb (.slice Ap n cp :: .slice Aa m ca :: rs) := HT.out.up (by (repeat (first | (with_reducible exact Below.refl _ _) | (with_reducible assumption) | (with_reducible apply bel_alloc) | (with_reducible apply bel_drew) | (with_reducible apply bel_drewN) | (with_reducible refine bel_trans ?_ (by with_reducible assumption)) | (with_reducible refine bel_trans ?_ (HF.out _)) | (with_reducible refine bel_set ?_ (by simp) _) | (with_reducible refine bel_set ?_ (by simp; omega) _) | (with_reducible refine bel_set ?_ (by omega) _))))
      have hX1 : Blk (w.alloc (.cells #[.int .i64 x.se, .int .i64 x.sq, .string x.k, .string x.v] 81)) w.heap.size 81 [.int .i64 x.se, .int .i64 x.sq, .string x.k, .string x.v] := Blk.new w 81 [.int .i64 x.se, .int .i64 x.sq, .string x.k, .string x.v]
      have hbX : Below w.heap.size w (w.alloc (.cells #[.int .i64 x.se, .int .i64 x.sq, .string x.k, .string x.v] 81)) := by (repeat (first | (with_reducible exact Below.refl _ _) | (with_reducible assumption) | (with_reducible apply bel_alloc) | (with_reducible apply bel_drew) | (with_reducible apply bel_drewN) | (with_reducible refine bel_trans ?_ (by with_reducible assumption)) | (with_reducible refine bel_trans ?_ (HF.out _)) | (with_reducible refine bel_set ?_ (by simp) _) | (with_reducible refine bel_set ?_ (by simp; omega) _) | (with_reducible refine bel_set ?_ (by omega) _)))
      generalize (w.alloc (.cells #[.int .i64 x.se, .int .i64 x.sq, .string x.k, .string x.v] 81)) = X at *
      have HT1 := Lib.hid hT1
      have HX1 := Lib.hid hX1
      have hbtX := hT1.lt
      have hxbX := hX1.lt
      have t_0 := (hT1.box).2 0 _ rfl; have t_1 := (hT1.box).2 1 _ rfl
      have x_0 := (hX1.box).2 0 _ rfl; have x_1 := (hX1.box).2 1 _ rfl; have x_2 := (hX1.box).2 2 _ rfl; have x_3 := (hX1.box).2 3 _ rfl
      clear hT1 hX1
      have HARX := Lib.hid (HAr.out.up hbX)
      refine wp_scope_fwd 0 (DOJ w) rfl ?_ (by rintro a' w' ⟨t, rfl, ht, hb⟩; go_wp2_with fail; simp only [Exit.noGoto]; go_ret; exact ⟨by simp [Array.getD_eq_getD_getElem?, ht], hb⟩)
      go_wp2_with fail
      refine wp_region_fam (by kernel_rfl) (by kernel_rfl) (fun ι F hne hF hcl => ?_)
      have hcF0 := fun n o => (bcell (hF n)).1 (bt) o (by first | (simp; done) | (simp; omega) | omega)
      have hcF1 := fun n o => (bcell (hF n)).1 (w.heap.size) o (by first | (simp; done) | (simp; omega) | omega)
      have HF := Lib.hid hF; clear hF
      have HC := Lib.hid hcl; clear hcl
      repeat (any_goals (first
       | go_big_quiet_step (first | (go_at_call 70; exact Calls.fam HC.out (bsf_A Aa m ca q x.se i _ _ (HARX.out.up (HF.out _)) HSA.out (by omega) HI.out HHas.out)))
       | (refine wpQuiet_guard _ _ _ rfl rfl ?_; (fail_if_success (intro b' hb; have h2 := hb.symm; have : b' = true := h2.trans (by with_reducible rfl))); (fail_if_success (intro b' hb; have h2 := hb.symm; have : b' = false := h2.trans (by with_reducible rfl))); intro b' hb; simp only [hb]; cases b' <;> (try simp only [Bool.not_eq_true', Bool.not_eq_false', decide_eq_true_eq, decide_eq_false_iff_not, Int.not_lt, Int.not_le, Bool.and_eq_true, Bool.or_eq_true, Bool.or_eq_false_iff, beq_iff_eq, beq_eq_false_iff_ne, Int.natCast_pos] at hb))))
      all_goals (refine wpQuiet_nil ?_; intro nq)
      have hFwf := HF.out nq
      clear HF HC hne
      generalize F nq = wf at *
      clear hcF0 hcF1
      have hbXf : Below w.heap.size w wf := bel_trans hbX hFwf
      have HT2 := Lib.hid (HT1.out.up hFwf)
      have HX2 := Lib.hid (HX1.out.up hFwf)
      have hbtXf := HT2.out.lt
      have hxbXf := HX2.out.lt
      clear t_0 t_1 x_0 x_1 x_2 x_3
      have t_0 := (HT2.out.box).2 0 _ rfl; have t_1 := (HT2.out.box).2 1 _ rfl
      have x_0 := (HX2.out.box).2 0 _ rfl; have x_1 := (HX2.out.box).2 1 _ rfl; have x_2 := (HX2.out.box).2 2 _ rfl; have x_3 := (HX2.out.box).2 3 _ rfl
      have HPRX := Lib.hid (HPr.out.up hbXf)
      go_wp2_with fail
      refine wp_region_fam (by kernel_rfl) (by kernel_rfl) (fun ι F hne hF hcl => ?_)
      have hcF0 := fun n o => (bcell (hF n)).1 (bt) o (by first | (simp; done) | (simp; omega) | omega)
      have hcF1 := fun n o => (bcell (hF n)).1 (w.heap.size) o (by first | (simp; done) | (simp; omega) | omega)
      have HF := Lib.hid hF; clear hF
      have HC := Lib.hid hcl; clear hcl
      repeat (any_goals (first
       | go_big_quiet_step (first | (go_at_call 72; exact Calls.fam HC.out (table_pair Ap n cp l _ x.k k _ _ (HPRX.out.up (HF.out _)) HSP.out (by omega) HK.out HTh.out rfl)))
       | (refine wpQuiet_guard _ _ _ rfl rfl ?_; (fail_if_success (intro b' hb; have h2 := hb.symm; have : b' = true := h2.trans (by with_reducible rfl))); (fail_if_success (intro b' hb; have h2 := hb.symm; have : b' = false := h2.trans (by with_reducible rfl))); intro b' hb; simp only [hb]; cases b' <;> (try simp only [Bool.not_eq_true', Bool.not_eq_false', decide_eq_true_eq, decide_eq_false_iff_not, Int.not_lt, Int.not_le, Bool.and_eq_true, Bool.or_eq_true, Bool.or_eq_false_iff, beq_iff_eq, beq_eq_false_iff_ne, Int.natCast_pos] at hb))))
      all_goals (refine wpQuiet_nil ?_; intro nq)
      have hFwg := HF.out nq
      clear HF HC hne
      generalize F nq = wg at *
      clear hcF0 hcF1
      have hbXg : Below w.heap.size w wg := bel_trans hbXf hFwg
      have HT3 := Lib.hid (HT2.out.up hFwg)
      have HX3 := Lib.hid (HX2.out.up hFwg)
      have hbtXg := HT3.out.lt
      have hxbXg := HX3.out.lt
      clear t_0 t_1 x_0 x_1 x_2 x_3
      have t_0 := (HT3.out.box).2 0 _ rfl; have t_1 := (HT3.out.box).2 1 _ rfl
      have x_0 := (HX3.out.box).2 0 _ rfl; have x_1 := (HX3.out.box).2 1 _ rfl; have x_2 := (HX3.out.box).2 2 _ rfl; have x_3 := (HX3.out.box).2 3 _ rfl
      go_wp2_with fail
      refine (batch_MayTx x _ _ hty).mono ?_
      rintro e w2 ⟨rfl, hb2⟩
      have hbXh : Below w.heap.size w w2 := bel_trans hbXg hb2
      have HT4 := Lib.hid (HT3.out.up hb2)
      have HX4 := Lib.hid (HX3.out.up hb2)
      have hbtXh := HT4.out.lt
      have hxbXh := HX4.out.lt
      clear t_0 t_1 x_0 x_1 x_2 x_3
      have t_0 := (HT4.out.box).2 0 _ rfl; have t_1 := (HT4.out.box).2 1 _ rfl
      have x_0 := (HX4.out.box).2 0 _ rfl; have x_1 := (HX4.out.box).2 1 _ rfl; have x_2 := (HX4.out.box).2 2 _ rfl; have x_3 := (HX4.out.box).2 3 _ rfl
      go_wp2_with fail
      apply wp_goto
      exact ⟨rfl, _, rfl, (by show 4 < 147; omega), hbXh⟩
    have hmd : decide ((4096 : Int) ≤ (m : Int)) = false := by simp; omega
    by_cases hv : khasP l x.k = false ∧ ¬ x.v.size = 0 ∧ 4096 ≤ n
    case' neg =>
      exfalso
      refine HNO.out ⟨hty, HSQ.out, ?_, ?_⟩
      · intro h; have := HMl.out; omega
      · intro h; rw [HN.out] at h; exact hv h
    obtain ⟨hyt, hv1, hnf⟩ := hv
    have HTh := Lib.hid hyt
    have hv2 := nil1 hv1
    have hv3 : (x.v.toList == []) = false := by rw [beq_eq_false_iff_ne]; exact fun g => hv1 (toList_nil.1 g)
    have hv4 : ¬ x.v.toList = [] := fun g => hv1 (toList_nil.1 g)
    have hnd : decide ((4096 : Int) ≤ (n : Int)) = true := by simp; omega
    clear nil0 nil1 hyt hv1
    go_enter Try.func62, Try.ntmps62
    go_wp2_with fail
    have hT1 : Blk (w.alloc (.cells #[.int .i64 x.se, .int .i64 x.sq, .string x.k, .string x.v] 81)) bt tb (.slice Ap n cp :: .slice Aa m ca :: rs) := HT.out.up (by (repeat (first | (with_reducible exact Below.refl _ _) | (with_reducible assumption) | (with_reducible apply bel_alloc) | (with_reducible apply bel_drew) | (with_reducible apply bel_drewN) | (with_reducible refine bel_trans ?_ (by with_reducible assumption)) | (with_reducible refine bel_trans ?_ (HF.out _)) | (with_reducible refine bel_set ?_ (by simp) _) | (with_reducible refine bel_set ?_ (by simp; omega) _) | (with_reducible refine bel_set ?_ (by omega) _))))
    have hX1 : Blk (w.alloc (.cells #[.int .i64 x.se, .int .i64 x.sq, .string x.k, .string x.v] 81)) w.heap.size 81 [.int .i64 x.se, .int .i64 x.sq, .string x.k, .string x.v] := Blk.new w 81 [.int .i64 x.se, .int .i64 x.sq, .string x.k, .string x.v]
    have hbX : Below w.heap.size w (w.alloc (.cells #[.int .i64 x.se, .int .i64 x.sq, .string x.k, .string x.v] 81)) := by (repeat (first | (with_reducible exact Below.refl _ _) | (with_reducible assumption) | (with_reducible apply bel_alloc) | (with_reducible apply bel_drew) | (with_reducible apply bel_drewN) | (with_reducible refine bel_trans ?_ (by with_reducible assumption)) | (with_reducible refine bel_trans ?_ (HF.out _)) | (with_reducible refine bel_set ?_ (by simp) _) | (with_reducible refine bel_set ?_ (by simp; omega) _) | (with_reducible refine bel_set ?_ (by omega) _)))
    generalize (w.alloc (.cells #[.int .i64 x.se, .int .i64 x.sq, .string x.k, .string x.v] 81)) = X at *
    have HT1 := Lib.hid hT1
    have HX1 := Lib.hid hX1
    have hbtX := hT1.lt
    have hxbX := hX1.lt
    have t_0 := (hT1.box).2 0 _ rfl; have t_1 := (hT1.box).2 1 _ rfl
    have x_0 := (hX1.box).2 0 _ rfl; have x_1 := (hX1.box).2 1 _ rfl; have x_2 := (hX1.box).2 2 _ rfl; have x_3 := (hX1.box).2 3 _ rfl
    clear hT1 hX1
    have HARX := Lib.hid (HAr.out.up hbX)
    refine wp_scope_fwd 0 (DOJ w) rfl ?_ (by rintro a' w' ⟨t, rfl, ht, hb⟩; go_wp2_with fail; simp only [Exit.noGoto]; go_ret; exact ⟨by simp [Array.getD_eq_getD_getElem?, ht], hb⟩)
    go_wp2_with fail
    refine wp_region_fam (by kernel_rfl) (by kernel_rfl) (fun ι F hne hF hcl => ?_)
    have hcF0 := fun n o => (bcell (hF n)).1 (bt) o (by first | (simp; done) | (simp; omega) | omega)
    have hcF1 := fun n o => (bcell (hF n)).1 (w.heap.size) o (by first | (simp; done) | (simp; omega) | omega)
    have HF := Lib.hid hF; clear hF
    have HC := Lib.hid hcl; clear hcl
    repeat (any_goals (first
     | go_big_quiet_step (first | (go_at_call 70; exact Calls.fam HC.out (bsf_A Aa m ca q x.se i _ _ (HARX.out.up (HF.out _)) HSA.out (by omega) HI.out HHas.out)))
     | (refine wpQuiet_guard _ _ _ rfl rfl ?_; (fail_if_success (intro b' hb; have h2 := hb.symm; have : b' = true := h2.trans (by with_reducible rfl))); (fail_if_success (intro b' hb; have h2 := hb.symm; have : b' = false := h2.trans (by with_reducible rfl))); intro b' hb; simp only [hb]; cases b' <;> (try simp only [Bool.not_eq_true', Bool.not_eq_false', decide_eq_true_eq, decide_eq_false_iff_not, Int.not_lt, Int.not_le, Bool.and_eq_true, Bool.or_eq_true, Bool.or_eq_false_iff, beq_iff_eq, beq_eq_false_iff_ne, Int.natCast_pos] at hb))))
    all_goals (refine wpQuiet_nil ?_; intro nq)
    have hFwf := HF.out nq
    clear HF HC hne
    generalize F nq = wf at *
    clear hcF0 hcF1
    have hbXf : Below w.heap.size w wf := bel_trans hbX hFwf
    have HT2 := Lib.hid (HT1.out.up hFwf)
    have HX2 := Lib.hid (HX1.out.up hFwf)
    have hbtXf := HT2.out.lt
    have hxbXf := HX2.out.lt
    clear t_0 t_1 x_0 x_1 x_2 x_3
    have t_0 := (HT2.out.box).2 0 _ rfl; have t_1 := (HT2.out.box).2 1 _ rfl
    have x_0 := (HX2.out.box).2 0 _ rfl; have x_1 := (HX2.out.box).2 1 _ rfl; have x_2 := (HX2.out.box).2 2 _ rfl; have x_3 := (HX2.out.box).2 3 _ rfl
    have HPRX := Lib.hid (HPr.out.up hbXf)
    go_wp2_with fail
    refine wp_region_fam (by kernel_rfl) (by kernel_rfl) (fun ι F hne hF hcl => ?_)
    have hcF0 := fun n o => (bcell (hF n)).1 (bt) o (by first | (simp; done) | (simp; omega) | omega)
    have hcF1 := fun n o => (bcell (hF n)).1 (w.heap.size) o (by first | (simp; done) | (simp; omega) | omega)
    have HF := Lib.hid hF; clear hF
    have HC := Lib.hid hcl; clear hcl
    repeat (any_goals (first
     | go_big_quiet_step (first | (go_at_call 72; exact Calls.fam HC.out (table_pair Ap n cp l _ x.k k _ _ (HPRX.out.up (HF.out _)) HSP.out (by omega) HK.out HTh.out rfl)))
     | (refine wpQuiet_guard _ _ _ rfl rfl ?_; (fail_if_success (intro b' hb; have h2 := hb.symm; have : b' = true := h2.trans (by with_reducible rfl))); (fail_if_success (intro b' hb; have h2 := hb.symm; have : b' = false := h2.trans (by with_reducible rfl))); intro b' hb; simp only [hb]; cases b' <;> (try simp only [Bool.not_eq_true', Bool.not_eq_false', decide_eq_true_eq, decide_eq_false_iff_not, Int.not_lt, Int.not_le, Bool.and_eq_true, Bool.or_eq_true, Bool.or_eq_false_iff, beq_iff_eq, beq_eq_false_iff_ne, Int.natCast_pos] at hb))))
    all_goals (refine wpQuiet_nil ?_; intro nq)
    have hFwg := HF.out nq
    clear HF HC hne
    generalize F nq = wg at *
    clear hcF0 hcF1
    have hbXg : Below w.heap.size w wg := bel_trans hbXf hFwg
    have HT3 := Lib.hid (HT2.out.up hFwg)
    have HX3 := Lib.hid (HX2.out.up hFwg)
    have hbtXg := HT3.out.lt
    have hxbXg := HX3.out.lt
    clear t_0 t_1 x_0 x_1 x_2 x_3
    have t_0 := (HT3.out.box).2 0 _ rfl; have t_1 := (HT3.out.box).2 1 _ rfl
    have x_0 := (HX3.out.box).2 0 _ rfl; have x_1 := (HX3.out.box).2 1 _ rfl; have x_2 := (HX3.out.box).2 2 _ rfl; have x_3 := (HX3.out.box).2 3 _ rfl
    go_wp2_with fail
    refine (batch_MayTx x _ _ hty).mono ?_
    rintro e w2 ⟨rfl, hb2⟩
    have hbXh : Below w.heap.size w w2 := bel_trans hbXg hb2
    have HT4 := Lib.hid (HT3.out.up hb2)
    have HX4 := Lib.hid (HX3.out.up hb2)
    have hbtXh := HT4.out.lt
    have hxbXh := HX4.out.lt
    clear t_0 t_1 x_0 x_1 x_2 x_3
    have t_0 := (HT4.out.box).2 0 _ rfl; have t_1 := (HT4.out.box).2 1 _ rfl
    have x_0 := (HX4.out.box).2 0 _ rfl; have x_1 := (HX4.out.box).2 1 _ rfl; have x_2 := (HX4.out.box).2 2 _ rfl; have x_3 := (HX4.out.box).2 3 _ rfl
    go_wp2_with fail
    apply wp_goto
    exact ⟨rfl, _, rfl, (by show 4 < 147; omega), hbXh⟩
  · obtain ⟨him, hse⟩ := khasA_lt HI.out hh
    rw [HMl.out] at him
    have HHas := Lib.hid hh
    obtain ⟨la, hla⟩ : ∃ la, la = (ath q i).sq := ⟨_, rfl⟩
    have hlab : 1 ≤ la ∧ la ≤ 1099511627776 := by
      have h1 := (HM.out.2.2 i (by rw [HMl.out]; exact him)).1
      rw [hla]
      unfold acctS at h1
      rw [Bool.and_eq_true] at h1
      exact idS_iff.1 h1.2
    have HLast : Hid (lastA q x.se = la) := Lib.hid (by unfold lastA; rw [if_pos hh, HI.out, hla])
    have HLA := Lib.hid hla
    clear hh hse hla
    cases hty : txS x
    · obtain ⟨yt, hyt⟩ : ∃ yt, khasP l x.k = yt := ⟨_, rfl⟩
      have HTh := Lib.hid hyt
      clear nil0 nil1 hyt
      go_enter Try.func62, Try.ntmps62
      go_wp2_with fail
      have hT1 : Blk (w.alloc (.cells #[.int .i64 x.se, .int .i64 x.sq, .string x.k, .string x.v] 81)) bt tb (.slice Ap n cp :: .slice Aa m ca :: rs) := HT.out.up (by (repeat (first | (with_reducible exact Below.refl _ _) | (with_reducible assumption) | (with_reducible apply bel_alloc) | (with_reducible apply bel_drew) | (with_reducible apply bel_drewN) | (with_reducible refine bel_trans ?_ (by with_reducible assumption)) | (with_reducible refine bel_trans ?_ (HF.out _)) | (with_reducible refine bel_set ?_ (by simp) _) | (with_reducible refine bel_set ?_ (by simp; omega) _) | (with_reducible refine bel_set ?_ (by omega) _))))
      have hX1 : Blk (w.alloc (.cells #[.int .i64 x.se, .int .i64 x.sq, .string x.k, .string x.v] 81)) w.heap.size 81 [.int .i64 x.se, .int .i64 x.sq, .string x.k, .string x.v] := Blk.new w 81 [.int .i64 x.se, .int .i64 x.sq, .string x.k, .string x.v]
      have hbX : Below w.heap.size w (w.alloc (.cells #[.int .i64 x.se, .int .i64 x.sq, .string x.k, .string x.v] 81)) := by (repeat (first | (with_reducible exact Below.refl _ _) | (with_reducible assumption) | (with_reducible apply bel_alloc) | (with_reducible apply bel_drew) | (with_reducible apply bel_drewN) | (with_reducible refine bel_trans ?_ (by with_reducible assumption)) | (with_reducible refine bel_trans ?_ (HF.out _)) | (with_reducible refine bel_set ?_ (by simp) _) | (with_reducible refine bel_set ?_ (by simp; omega) _) | (with_reducible refine bel_set ?_ (by omega) _)))
      generalize (w.alloc (.cells #[.int .i64 x.se, .int .i64 x.sq, .string x.k, .string x.v] 81)) = X at *
      have HT1 := Lib.hid hT1
      have HX1 := Lib.hid hX1
      have hbtX := hT1.lt
      have hxbX := hX1.lt
      have t_0 := (hT1.box).2 0 _ rfl; have t_1 := (hT1.box).2 1 _ rfl
      have x_0 := (hX1.box).2 0 _ rfl; have x_1 := (hX1.box).2 1 _ rfl; have x_2 := (hX1.box).2 2 _ rfl; have x_3 := (hX1.box).2 3 _ rfl
      clear hT1 hX1
      have HARX := Lib.hid (HAr.out.up hbX)
      refine wp_scope_fwd 0 (DOJ w) rfl ?_ (by rintro a' w' ⟨t, rfl, ht, hb⟩; go_wp2_with fail; simp only [Exit.noGoto]; go_ret; exact ⟨by simp [Array.getD_eq_getD_getElem?, ht], hb⟩)
      go_wp2_with fail
      refine wp_region_fam (by kernel_rfl) (by kernel_rfl) (fun ι F hne hF hcl => ?_)
      have hcF0 := fun n o => (bcell (hF n)).1 (bt) o (by first | (simp; done) | (simp; omega) | omega)
      have hcF1 := fun n o => (bcell (hF n)).1 (w.heap.size) o (by first | (simp; done) | (simp; omega) | omega)
      have HF := Lib.hid hF; clear hF
      have HC := Lib.hid hcl; clear hcl
      repeat (any_goals (first
       | go_big_quiet_step (first | (go_at_call 70; exact Calls.fam HC.out (bsf_A Aa m ca q x.se i _ _ (HARX.out.up (HF.out _)) HSA.out (by omega) HI.out HHas.out)))
       | (refine wpQuiet_guard _ _ _ rfl rfl ?_; (fail_if_success (intro b' hb; have h2 := hb.symm; have : b' = true := h2.trans (by with_reducible rfl))); (fail_if_success (intro b' hb; have h2 := hb.symm; have : b' = false := h2.trans (by with_reducible rfl))); intro b' hb; simp only [hb]; cases b' <;> (try simp only [Bool.not_eq_true', Bool.not_eq_false', decide_eq_true_eq, decide_eq_false_iff_not, Int.not_lt, Int.not_le, Bool.and_eq_true, Bool.or_eq_true, Bool.or_eq_false_iff, beq_iff_eq, beq_eq_false_iff_ne, Int.natCast_pos] at hb))))
      all_goals (refine wpQuiet_nil ?_; intro nq)
      have hFwf := HF.out nq
      clear HF HC hne
      generalize F nq = wf at *
      clear hcF0 hcF1
      have hbXf : Below w.heap.size w wf := bel_trans hbX hFwf
      have HT2 := Lib.hid (HT1.out.up hFwf)
      have HX2 := Lib.hid (HX1.out.up hFwf)
      have hbtXf := HT2.out.lt
      have hxbXf := HX2.out.lt
      clear t_0 t_1 x_0 x_1 x_2 x_3
      have t_0 := (HT2.out.box).2 0 _ rfl; have t_1 := (HT2.out.box).2 1 _ rfl
      have x_0 := (HX2.out.box).2 0 _ rfl; have x_1 := (HX2.out.box).2 1 _ rfl; have x_2 := (HX2.out.box).2 2 _ rfl; have x_3 := (HX2.out.box).2 3 _ rfl
      have HPRX := Lib.hid (HPr.out.up hbXf)
      go_wp2_with fail
      refine wp_region_fam (by kernel_rfl) (by kernel_rfl) (fun ι F hne hF hcl => ?_)
      have hcF0 := fun n o => (bcell (hF n)).1 (bt) o (by first | (simp; done) | (simp; omega) | omega)
      have hcF1 := fun n o => (bcell (hF n)).1 (w.heap.size) o (by first | (simp; done) | (simp; omega) | omega)
      have HF := Lib.hid hF; clear hF
      have HC := Lib.hid hcl; clear hcl
      repeat (any_goals (first
       | go_big_quiet_step (first | (go_at_call 72; exact Calls.fam HC.out (table_pair Ap n cp l _ x.k k _ _ (HPRX.out.up (HF.out _)) HSP.out (by omega) HK.out HTh.out rfl)))
       | (refine wpQuiet_guard _ _ _ rfl rfl ?_; (fail_if_success (intro b' hb; have h2 := hb.symm; have : b' = true := h2.trans (by with_reducible rfl))); (fail_if_success (intro b' hb; have h2 := hb.symm; have : b' = false := h2.trans (by with_reducible rfl))); intro b' hb; simp only [hb]; cases b' <;> (try simp only [Bool.not_eq_true', Bool.not_eq_false', decide_eq_true_eq, decide_eq_false_iff_not, Int.not_lt, Int.not_le, Bool.and_eq_true, Bool.or_eq_true, Bool.or_eq_false_iff, beq_iff_eq, beq_eq_false_iff_ne, Int.natCast_pos] at hb))))
      all_goals (refine wpQuiet_nil ?_; intro nq)
      have hFwg := HF.out nq
      clear HF HC hne
      generalize F nq = wg at *
      clear hcF0 hcF1
      have hbXg : Below w.heap.size w wg := bel_trans hbXf hFwg
      have HT3 := Lib.hid (HT2.out.up hFwg)
      have HX3 := Lib.hid (HX2.out.up hFwg)
      have hbtXg := HT3.out.lt
      have hxbXg := HX3.out.lt
      clear t_0 t_1 x_0 x_1 x_2 x_3
      have t_0 := (HT3.out.box).2 0 _ rfl; have t_1 := (HT3.out.box).2 1 _ rfl
      have x_0 := (HX3.out.box).2 0 _ rfl; have x_1 := (HX3.out.box).2 1 _ rfl; have x_2 := (HX3.out.box).2 2 _ rfl; have x_3 := (HX3.out.box).2 3 _ rfl
      obtain ⟨ba, offa, rfl, hba, hca⟩ := (HAr.out.up hbXg).at (by omega)
      obtain ⟨ca0, ca1⟩ := hca i him
      clear hca
      rw [← HLA.out] at ca1
      go_wp2_with fail
      refine (batch_MayTx x _ _ hty).mono ?_
      rintro e w2 ⟨rfl, hb2⟩
      have hbXh : Below w.heap.size w w2 := bel_trans hbXg hb2
      have HT4 := Lib.hid (HT3.out.up hb2)
      have HX4 := Lib.hid (HX3.out.up hb2)
      have hbtXh := HT4.out.lt
      have hxbXh := HX4.out.lt
      clear t_0 t_1 x_0 x_1 x_2 x_3
      have t_0 := (HT4.out.box).2 0 _ rfl; have t_1 := (HT4.out.box).2 1 _ rfl
      have x_0 := (HX4.out.box).2 0 _ rfl; have x_1 := (HX4.out.box).2 1 _ rfl; have x_2 := (HX4.out.box).2 2 _ rfl; have x_3 := (HX4.out.box).2 3 _ rfl
      go_wp2_with fail
      apply wp_goto
      exact ⟨rfl, _, rfl, (by show 4 < 147; omega), hbXh⟩
    by_cases hsq : x.sq = la + 1
    case' neg =>
      have hs1 : (x.sq == la + 1) = false := by simpa using hsq
      have hs2 : (x.sq != la + 1) = true := by simpa using hsq
      obtain ⟨yt, hyt⟩ : ∃ yt, khasP l x.k = yt := ⟨_, rfl⟩
      have HTh := Lib.hid hyt
      clear hsq nil0 nil1 hyt
      go_enter Try.func62, Try.ntmps62
      go_wp2_with fail
      have hT1 : Blk (w.alloc (.cells #[.int .i64 x.se, .int .i64 x.sq, .string x.k, .string x.v] 81)) bt tb (.slice Ap n cp :: .slice Aa m ca :: rs) := HT.out.up (by (repeat (first | (with_reducible exact Below.refl _ _) | (with_reducible assumption) | (with_reducible apply bel_alloc) | (with_reducible apply bel_drew) | (with_reducible apply bel_drewN) | (with_reducible refine bel_trans ?_ (by with_reducible assumption)) | (with_reducible refine bel_trans ?_ (HF.out _)) | (with_reducible refine bel_set ?_ (by simp) _) | (with_reducible refine bel_set ?_ (by simp; omega) _) | (with_reducible refine bel_set ?_ (by omega) _))))
      have hX1 : Blk (w.alloc (.cells #[.int .i64 x.se, .int .i64 x.sq, .string x.k, .string x.v] 81)) w.heap.size 81 [.int .i64 x.se, .int .i64 x.sq, .string x.k, .string x.v] := Blk.new w 81 [.int .i64 x.se, .int .i64 x.sq, .string x.k, .string x.v]
      have hbX : Below w.heap.size w (w.alloc (.cells #[.int .i64 x.se, .int .i64 x.sq, .string x.k, .string x.v] 81)) := by (repeat (first | (with_reducible exact Below.refl _ _) | (with_reducible assumption) | (with_reducible apply bel_alloc) | (with_reducible apply bel_drew) | (with_reducible apply bel_drewN) | (with_reducible refine bel_trans ?_ (by with_reducible assumption)) | (with_reducible refine bel_trans ?_ (HF.out _)) | (with_reducible refine bel_set ?_ (by simp) _) | (with_reducible refine bel_set ?_ (by simp; omega) _) | (with_reducible refine bel_set ?_ (by omega) _)))
      generalize (w.alloc (.cells #[.int .i64 x.se, .int .i64 x.sq, .string x.k, .string x.v] 81)) = X at *
      have HT1 := Lib.hid hT1
      have HX1 := Lib.hid hX1
      have hbtX := hT1.lt
      have hxbX := hX1.lt
      have t_0 := (hT1.box).2 0 _ rfl; have t_1 := (hT1.box).2 1 _ rfl
      have x_0 := (hX1.box).2 0 _ rfl; have x_1 := (hX1.box).2 1 _ rfl; have x_2 := (hX1.box).2 2 _ rfl; have x_3 := (hX1.box).2 3 _ rfl
      clear hT1 hX1
      have HARX := Lib.hid (HAr.out.up hbX)
      refine wp_scope_fwd 0 (DOJ w) rfl ?_ (by rintro a' w' ⟨t, rfl, ht, hb⟩; go_wp2_with fail; simp only [Exit.noGoto]; go_ret; exact ⟨by simp [Array.getD_eq_getD_getElem?, ht], hb⟩)
      go_wp2_with fail
      refine wp_region_fam (by kernel_rfl) (by kernel_rfl) (fun ι F hne hF hcl => ?_)
      have hcF0 := fun n o => (bcell (hF n)).1 (bt) o (by first | (simp; done) | (simp; omega) | omega)
      have hcF1 := fun n o => (bcell (hF n)).1 (w.heap.size) o (by first | (simp; done) | (simp; omega) | omega)
      have HF := Lib.hid hF; clear hF
      have HC := Lib.hid hcl; clear hcl
      repeat (any_goals (first
       | go_big_quiet_step (first | (go_at_call 70; exact Calls.fam HC.out (bsf_A Aa m ca q x.se i _ _ (HARX.out.up (HF.out _)) HSA.out (by omega) HI.out HHas.out)))
       | (refine wpQuiet_guard _ _ _ rfl rfl ?_; (fail_if_success (intro b' hb; have h2 := hb.symm; have : b' = true := h2.trans (by with_reducible rfl))); (fail_if_success (intro b' hb; have h2 := hb.symm; have : b' = false := h2.trans (by with_reducible rfl))); intro b' hb; simp only [hb]; cases b' <;> (try simp only [Bool.not_eq_true', Bool.not_eq_false', decide_eq_true_eq, decide_eq_false_iff_not, Int.not_lt, Int.not_le, Bool.and_eq_true, Bool.or_eq_true, Bool.or_eq_false_iff, beq_iff_eq, beq_eq_false_iff_ne, Int.natCast_pos] at hb))))
      all_goals (refine wpQuiet_nil ?_; intro nq)
      have hFwf := HF.out nq
      clear HF HC hne
      generalize F nq = wf at *
      clear hcF0 hcF1
      have hbXf : Below w.heap.size w wf := bel_trans hbX hFwf
      have HT2 := Lib.hid (HT1.out.up hFwf)
      have HX2 := Lib.hid (HX1.out.up hFwf)
      have hbtXf := HT2.out.lt
      have hxbXf := HX2.out.lt
      clear t_0 t_1 x_0 x_1 x_2 x_3
      have t_0 := (HT2.out.box).2 0 _ rfl; have t_1 := (HT2.out.box).2 1 _ rfl
      have x_0 := (HX2.out.box).2 0 _ rfl; have x_1 := (HX2.out.box).2 1 _ rfl; have x_2 := (HX2.out.box).2 2 _ rfl; have x_3 := (HX2.out.box).2 3 _ rfl
      have HPRX := Lib.hid (HPr.out.up hbXf)
      go_wp2_with fail
      refine wp_region_fam (by kernel_rfl) (by kernel_rfl) (fun ι F hne hF hcl => ?_)
      have hcF0 := fun n o => (bcell (hF n)).1 (bt) o (by first | (simp; done) | (simp; omega) | omega)
      have hcF1 := fun n o => (bcell (hF n)).1 (w.heap.size) o (by first | (simp; done) | (simp; omega) | omega)
      have HF := Lib.hid hF; clear hF
      have HC := Lib.hid hcl; clear hcl
      repeat (any_goals (first
       | go_big_quiet_step (first | (go_at_call 72; exact Calls.fam HC.out (table_pair Ap n cp l _ x.k k _ _ (HPRX.out.up (HF.out _)) HSP.out (by omega) HK.out HTh.out rfl)))
       | (refine wpQuiet_guard _ _ _ rfl rfl ?_; (fail_if_success (intro b' hb; have h2 := hb.symm; have : b' = true := h2.trans (by with_reducible rfl))); (fail_if_success (intro b' hb; have h2 := hb.symm; have : b' = false := h2.trans (by with_reducible rfl))); intro b' hb; simp only [hb]; cases b' <;> (try simp only [Bool.not_eq_true', Bool.not_eq_false', decide_eq_true_eq, decide_eq_false_iff_not, Int.not_lt, Int.not_le, Bool.and_eq_true, Bool.or_eq_true, Bool.or_eq_false_iff, beq_iff_eq, beq_eq_false_iff_ne, Int.natCast_pos] at hb))))
      all_goals (refine wpQuiet_nil ?_; intro nq)
      have hFwg := HF.out nq
      clear HF HC hne
      generalize F nq = wg at *
      clear hcF0 hcF1
      have hbXg : Below w.heap.size w wg := bel_trans hbXf hFwg
      have HT3 := Lib.hid (HT2.out.up hFwg)
      have HX3 := Lib.hid (HX2.out.up hFwg)
      have hbtXg := HT3.out.lt
      have hxbXg := HX3.out.lt
      clear t_0 t_1 x_0 x_1 x_2 x_3
      have t_0 := (HT3.out.box).2 0 _ rfl; have t_1 := (HT3.out.box).2 1 _ rfl
      have x_0 := (HX3.out.box).2 0 _ rfl; have x_1 := (HX3.out.box).2 1 _ rfl; have x_2 := (HX3.out.box).2 2 _ rfl; have x_3 := (HX3.out.box).2 3 _ rfl
      obtain ⟨ba, offa, rfl, hba, hca⟩ := (HAr.out.up hbXg).at (by omega)
      obtain ⟨ca0, ca1⟩ := hca i him
      clear hca
      rw [← HLA.out] at ca1
      go_wp2_with fail
      refine (batch_MayTx x _ _ hty).mono ?_
      rintro e w2 ⟨rfl, hb2⟩
      have hbXh : Below w.heap.size w w2 := bel_trans hbXg hb2
      have HT4 := Lib.hid (HT3.out.up hb2)
      have HX4 := Lib.hid (HX3.out.up hb2)
      have hbtXh := HT4.out.lt
      have hxbXh := HX4.out.lt
      clear t_0 t_1 x_0 x_1 x_2 x_3
      have t_0 := (HT4.out.box).2 0 _ rfl; have t_1 := (HT4.out.box).2 1 _ rfl
      have x_0 := (HX4.out.box).2 0 _ rfl; have x_1 := (HX4.out.box).2 1 _ rfl; have x_2 := (HX4.out.box).2 2 _ rfl; have x_3 := (HX4.out.box).2 3 _ rfl
      go_wp2_with fail
      apply wp_goto
      exact ⟨rfl, _, rfl, (by show 4 < 147; omega), hbXh⟩
    have hs1 : (x.sq == la + 1) = true := by simpa using hsq
    have hs2 : (x.sq != la + 1) = false := by simpa using hsq
    have HSQ : Hid (x.sq = lastA q x.se + 1) := Lib.hid (by rw [HLast.out]; exact hsq)
    clear hsq
    by_cases hv : khasP l x.k = false ∧ ¬ x.v.size = 0 ∧ 4096 ≤ n
    case' neg =>
      exfalso
      refine HNO.out ⟨hty, HSQ.out, ?_, ?_⟩
      · intro h; have := HHas.out; rw [h.1] at this; cases this
      · intro h; rw [HN.out] at h; exact hv h
    obtain ⟨hyt, hv1, hnf⟩ := hv
    have HTh := Lib.hid hyt
    have hv2 := nil1 hv1
    have hv3 : (x.v.toList == []) = false := by rw [beq_eq_false_iff_ne]; exact fun g => hv1 (toList_nil.1 g)
    have hv4 : ¬ x.v.toList = [] := fun g => hv1 (toList_nil.1 g)
    have hnd : decide ((4096 : Int) ≤ (n : Int)) = true := by simp; omega
    clear nil0 nil1 hyt hv1
    go_enter Try.func62, Try.ntmps62
    go_wp2_with fail
    have hT1 : Blk (w.alloc (.cells #[.int .i64 x.se, .int .i64 x.sq, .string x.k, .string x.v] 81)) bt tb (.slice Ap n cp :: .slice Aa m ca :: rs) := HT.out.up (by (repeat (first | (with_reducible exact Below.refl _ _) | (with_reducible assumption) | (with_reducible apply bel_alloc) | (with_reducible apply bel_drew) | (with_reducible apply bel_drewN) | (with_reducible refine bel_trans ?_ (by with_reducible assumption)) | (with_reducible refine bel_trans ?_ (HF.out _)) | (with_reducible refine bel_set ?_ (by simp) _) | (with_reducible refine bel_set ?_ (by simp; omega) _) | (with_reducible refine bel_set ?_ (by omega) _))))
    have hX1 : Blk (w.alloc (.cells #[.int .i64 x.se, .int .i64 x.sq, .string x.k, .string x.v] 81)) w.heap.size 81 [.int .i64 x.se, .int .i64 x.sq, .string x.k, .string x.v] := Blk.new w 81 [.int .i64 x.se, .int .i64 x.sq, .string x.k, .string x.v]
    have hbX : Below w.heap.size w (w.alloc (.cells #[.int .i64 x.se, .int .i64 x.sq, .string x.k, .string x.v] 81)) := by (repeat (first | (with_reducible exact Below.refl _ _) | (with_reducible assumption) | (with_reducible apply bel_alloc) | (with_reducible apply bel_drew) | (with_reducible apply bel_drewN) | (with_reducible refine bel_trans ?_ (by with_reducible assumption)) | (with_reducible refine bel_trans ?_ (HF.out _)) | (with_reducible refine bel_set ?_ (by simp) _) | (with_reducible refine bel_set ?_ (by simp; omega) _) | (with_reducible refine bel_set ?_ (by omega) _)))
    generalize (w.alloc (.cells #[.int .i64 x.se, .int .i64 x.sq, .string x.k, .string x.v] 81)) = X at *
    have HT1 := Lib.hid hT1
    have HX1 := Lib.hid hX1
    have hbtX := hT1.lt
    have hxbX := hX1.lt
    have t_0 := (hT1.box).2 0 _ rfl; have t_1 := (hT1.box).2 1 _ rfl
    have x_0 := (hX1.box).2 0 _ rfl; have x_1 := (hX1.box).2 1 _ rfl; have x_2 := (hX1.box).2 2 _ rfl; have x_3 := (hX1.box).2 3 _ rfl
    clear hT1 hX1
    have HARX := Lib.hid (HAr.out.up hbX)
    refine wp_scope_fwd 0 (DOJ w) rfl ?_ (by rintro a' w' ⟨t, rfl, ht, hb⟩; go_wp2_with fail; simp only [Exit.noGoto]; go_ret; exact ⟨by simp [Array.getD_eq_getD_getElem?, ht], hb⟩)
    go_wp2_with fail
    refine wp_region_fam (by kernel_rfl) (by kernel_rfl) (fun ι F hne hF hcl => ?_)
    have hcF0 := fun n o => (bcell (hF n)).1 (bt) o (by first | (simp; done) | (simp; omega) | omega)
    have hcF1 := fun n o => (bcell (hF n)).1 (w.heap.size) o (by first | (simp; done) | (simp; omega) | omega)
    have HF := Lib.hid hF; clear hF
    have HC := Lib.hid hcl; clear hcl
    repeat (any_goals (first
     | go_big_quiet_step (first | (go_at_call 70; exact Calls.fam HC.out (bsf_A Aa m ca q x.se i _ _ (HARX.out.up (HF.out _)) HSA.out (by omega) HI.out HHas.out)))
     | (refine wpQuiet_guard _ _ _ rfl rfl ?_; (fail_if_success (intro b' hb; have h2 := hb.symm; have : b' = true := h2.trans (by with_reducible rfl))); (fail_if_success (intro b' hb; have h2 := hb.symm; have : b' = false := h2.trans (by with_reducible rfl))); intro b' hb; simp only [hb]; cases b' <;> (try simp only [Bool.not_eq_true', Bool.not_eq_false', decide_eq_true_eq, decide_eq_false_iff_not, Int.not_lt, Int.not_le, Bool.and_eq_true, Bool.or_eq_true, Bool.or_eq_false_iff, beq_iff_eq, beq_eq_false_iff_ne, Int.natCast_pos] at hb))))
    all_goals (refine wpQuiet_nil ?_; intro nq)
    have hFwf := HF.out nq
    clear HF HC hne
    generalize F nq = wf at *
    clear hcF0 hcF1
    have hbXf : Below w.heap.size w wf := bel_trans hbX hFwf
    have HT2 := Lib.hid (HT1.out.up hFwf)
    have HX2 := Lib.hid (HX1.out.up hFwf)
    have hbtXf := HT2.out.lt
    have hxbXf := HX2.out.lt
    clear t_0 t_1 x_0 x_1 x_2 x_3
    have t_0 := (HT2.out.box).2 0 _ rfl; have t_1 := (HT2.out.box).2 1 _ rfl
    have x_0 := (HX2.out.box).2 0 _ rfl; have x_1 := (HX2.out.box).2 1 _ rfl; have x_2 := (HX2.out.box).2 2 _ rfl; have x_3 := (HX2.out.box).2 3 _ rfl
    have HPRX := Lib.hid (HPr.out.up hbXf)
    go_wp2_with fail
    refine wp_region_fam (by kernel_rfl) (by kernel_rfl) (fun ι F hne hF hcl => ?_)
    have hcF0 := fun n o => (bcell (hF n)).1 (bt) o (by first | (simp; done) | (simp; omega) | omega)
    have hcF1 := fun n o => (bcell (hF n)).1 (w.heap.size) o (by first | (simp; done) | (simp; omega) | omega)
    have HF := Lib.hid hF; clear hF
    have HC := Lib.hid hcl; clear hcl
    repeat (any_goals (first
     | go_big_quiet_step (first | (go_at_call 72; exact Calls.fam HC.out (table_pair Ap n cp l _ x.k k _ _ (HPRX.out.up (HF.out _)) HSP.out (by omega) HK.out HTh.out rfl)))
     | (refine wpQuiet_guard _ _ _ rfl rfl ?_; (fail_if_success (intro b' hb; have h2 := hb.symm; have : b' = true := h2.trans (by with_reducible rfl))); (fail_if_success (intro b' hb; have h2 := hb.symm; have : b' = false := h2.trans (by with_reducible rfl))); intro b' hb; simp only [hb]; cases b' <;> (try simp only [Bool.not_eq_true', Bool.not_eq_false', decide_eq_true_eq, decide_eq_false_iff_not, Int.not_lt, Int.not_le, Bool.and_eq_true, Bool.or_eq_true, Bool.or_eq_false_iff, beq_iff_eq, beq_eq_false_iff_ne, Int.natCast_pos] at hb))))
    all_goals (refine wpQuiet_nil ?_; intro nq)
    have hFwg := HF.out nq
    clear HF HC hne
    generalize F nq = wg at *
    clear hcF0 hcF1
    have hbXg : Below w.heap.size w wg := bel_trans hbXf hFwg
    have HT3 := Lib.hid (HT2.out.up hFwg)
    have HX3 := Lib.hid (HX2.out.up hFwg)
    have hbtXg := HT3.out.lt
    have hxbXg := HX3.out.lt
    clear t_0 t_1 x_0 x_1 x_2 x_3
    have t_0 := (HT3.out.box).2 0 _ rfl; have t_1 := (HT3.out.box).2 1 _ rfl
    have x_0 := (HX3.out.box).2 0 _ rfl; have x_1 := (HX3.out.box).2 1 _ rfl; have x_2 := (HX3.out.box).2 2 _ rfl; have x_3 := (HX3.out.box).2 3 _ rfl
    obtain ⟨ba, offa, rfl, hba, hca⟩ := (HAr.out.up hbXg).at (by omega)
    obtain ⟨ca0, ca1⟩ := hca i him
    clear hca
    rw [← HLA.out] at ca1
    go_wp2_with fail
    refine (batch_MayTx x _ _ hty).mono ?_
    rintro e w2 ⟨rfl, hb2⟩
    have hbXh : Below w.heap.size w w2 := bel_trans hbXg hb2
    have HT4 := Lib.hid (HT3.out.up hb2)
    have HX4 := Lib.hid (HX3.out.up hb2)
    have hbtXh := HT4.out.lt
    have hxbXh := HX4.out.lt
    clear t_0 t_1 x_0 x_1 x_2 x_3
    have t_0 := (HT4.out.box).2 0 _ rfl; have t_1 := (HT4.out.box).2 1 _ rfl
    have x_0 := (HX4.out.box).2 0 _ rfl; have x_1 := (HX4.out.box).2 1 _ rfl; have x_2 := (HX4.out.box).2 2 _ rfl; have x_3 := (HX4.out.box).2 3 _ rfl
    go_wp2_with fail
    apply wp_goto
    exact ⟨rfl, _, rfl, (by show 4 < 147; omega), hbXh⟩
end Go.Proofs.Ytbakkpabiknlmaa
