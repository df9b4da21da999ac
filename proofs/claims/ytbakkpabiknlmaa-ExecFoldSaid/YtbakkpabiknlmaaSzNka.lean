/- Tables: Do, where it takes effect. -/
import Derived.Test.YtbakkpabiknlmaaSzNk0
namespace Go.Proofs.Ytbakkpabiknlmaa
open Go.RowKit
set_option linter.unusedSimpArgs false
set_option linter.unusedVariables false
variable {tb : TypeId} {rs : List Value}

set_option maxRecDepth 100000 in
set_option maxHeartbeats 8000000 in
theorem table_Do_yesFFE (C bt : Nat) (Ap : Option Addr) (n cp : Nat) (l : List PairD) (Aa : Option Addr) (m ca : Nat) (q : List AcctD) (x : TxD) (w : World) (hT : TabX tb rs w C bt (.slice Ap n cp) (.slice Aa m ca) l q) (hl : PairsR w Ap n l) (hq : AcctsR w Aa m q) (hM : MayT l q) (hO : OkT l q x) (hh : khasA q x.se = false) (ht : khasP l x.k = false) (hv : x.v.size = 0) :
    Calls Try.prog 62 #[.pointer (some ⟨bt, 0, none⟩), .agg #[.int .i64 x.se, .int .i64 x.sq, .string x.k, .string x.v]] w fun e w' => e = .returned (.bool true) ∧ ∃ vp va, TabX tb rs w' C bt vp va (setP l x) (setA q x) ∧ DoK w w' bt (.slice Ap n cp) (.slice Aa m ca) vp va := by
  have HT := Lib.hid hT.blk
  have TR := Lib.hid hT
  have HPr := Lib.hid hl
  have HAr := Lib.hid hq
  have HN := Lib.hid hl.1
  have HMl := Lib.hid hq.1
  have HSP := Lib.hid hM.1.sorted
  have HSA := Lib.hid hM.2.sorted
  have hn : n ≤ 4096 := by rw [← hl.1]; exact hM.1.1
  have hm : m ≤ 4096 := by rw [← hq.1]; exact hM.2.1
  have HM := Lib.hid hM
  have HO := Lib.hid hO
  have hbt := hT.blk.lt
  have hC : C ≤ w.heap.size := Nat.le_trans hT.cb (Nat.le_of_lt hbt)
  obtain ⟨k, hk⟩ : ∃ k, kposP l x.k = k := ⟨_, rfl⟩
  obtain ⟨i, hi⟩ : ∃ i, kposA q x.se = i := ⟨_, rfl⟩
  have HK := Lib.hid hk
  have HI := Lib.hid hi
  have hty : txS x = true := hO.1
  have hkn : k ≤ n := by rw [← hk, ← hl.1]; exact cnt_le _ _
  have him0 : i ≤ m := by rw [← hi, ← hq.1]; exact cnt_le _ _
  clear hT hl hq hM hO hk hi
  have nil0 : x.v.size = 0 → (x.v.toList != []) = false ∧ (x.v.toList == []) = true := fun h => by rw [toList_nil.2 h]; exact ⟨rfl, rfl⟩
  have nil1 : ¬ x.v.size = 0 → (x.v.toList != []) = true ∧ (x.v.toList == []) = false := fun h => by rw [bne_iff_ne, beq_eq_false_iff_ne]; exact ⟨fun g => h (toList_nil.1 g), fun g => h (toList_nil.1 g)⟩
  have HHas := Lib.hid hh
  have hsq : x.sq = 1 := by
    have := HO.out.2.1
    unfold lastA at this
    rw [if_neg (by rw [hh]; simp)] at this
    simpa using this
  have hs1 : (x.sq == 1) = true := by simpa using hsq
  have hs2 : (x.sq != 1) = false := by simpa using hsq
  have hmf : m < 4096 := by
    rcases Nat.lt_or_ge m 4096 with h | h
    · exact h
    · exact absurd ⟨hh, by rw [HMl.out]; exact h⟩ HO.out.2.2.1
  have hmd : decide ((4096 : Int) ≤ (m : Int)) = false := by simp; omega
  have HSQ := Lib.hid hsq
  clear hh hsq
  have HTh := Lib.hid ht
  clear ht
  obtain ⟨hv1, hv2⟩ := nil0 hv
  have HV := Lib.hid hv
  clear nil0 nil1 hv
  go_enter Try.func62, Try.ntmps62
  go_wp2_with fail
  have hT1 : Blk (w.alloc (.cells #[.int .i64 x.se, .int .i64 x.sq, .string x.k, .string x.v] 81)) bt tb (.slice Ap n cp :: .slice Aa m ca :: rs) := HT.out.up (by (repeat (first | (with_reducible exact Below.refl _ _) | (with_reducible assumption) | (with_reducible apply bel_alloc) | (with_reducible apply bel_drew) | (with_reducible apply bel_drewN) | (with_reducible refine bel_trans ?_ (by with_reducible assumption)) | (with_reducible refine bel_trans ?_ (HF.out _)) | (with_reducible refine bel_set ?_ (by simp) _) | (with_reducible refine bel_set ?_ (by simp; omega) _) | (with_reducible refine bel_set ?_ (by omega) _))))
  have hX1 : Blk (w.alloc (.cells #[.int .i64 x.se, .int .i64 x.sq, .string x.k, .string x.v] 81)) w.heap.size 81 [.int .i64 x.se, .int .i64 x.sq, .string x.k, .string x.v] := Blk.new w 81 [.int .i64 x.se, .int .i64 x.sq, .string x.k, .string x.v]
  have hbX : Below w.heap.size w (w.alloc (.cells #[.int .i64 x.se, .int .i64 x.sq, .string x.k, .string x.v] 81)) := by (repeat (first | (with_reducible exact Below.refl _ _) | (with_reducible assumption) | (with_reducible apply bel_alloc) | (with_reducible apply bel_drew) | (with_reducible apply bel_drewN) | (with_reducible refine bel_trans ?_ (by with_reducible assumption)) | (with_reducible refine bel_trans ?_ (HF.out _)) | (with_reducible refine bel_set ?_ (by simp) _) | (with_reducible refine bel_set ?_ (by simp; omega) _) | (with_reducible refine bel_set ?_ (by omega) _)))
  generalize (w.alloc (.cells #[.int .i64 x.se, .int .i64 x.sq, .string x.k, .string x.v] 81)) = X at *
  have HT1 := Lib.hid hT1
  have HX1 := Lib.hid hX1
  have hbtX := hT1.lt
  have hxbX := hX1.lt
  have t_0 := (hT1.box).2 0 _ rfl; have t_1 := (hT1.box).2 1 _ rfl
  have x_0 := (hX1.box).2 0 _ rfl; have x_1 := (hX1.box).2 1 _ rfl; have x_2 := (hX1.box).2 2 _ rfl; have x_3 := (hX1.box).2 3 _ rfl
  clear hT1 hX1
  have HARX := Lib.hid (HAr.out.up hbX)
  refine wp_scope_fwd 0 DOF rfl ?_ (by intro a' w' h; exact h.elim)
  go_wp2_with fail
  refine wp_region_fam (by kernel_rfl) (by kernel_rfl) (fun ι F hne hF hcl => ?_)
  have hcF0 := fun n o => (bcell (hF n)).1 (bt) o (by first | (simp; done) | (simp; omega) | omega)
  have hcF1 := fun n o => (bcell (hF n)).1 (w.heap.size) o (by first | (simp; done) | (simp; omega) | omega)
  have HF := Lib.hid hF; clear hF
  have HC := Lib.hid hcl; clear hcl
  repeat (any_goals (first
   | go_big_quiet_step (first | (go_at_call 70; exact Calls.fam HC.out (bsf_A Aa m ca q x.se i _ _ (HARX.out.up (HF.out _)) HSA.out (by omega) HI.out HHas.out)))
   | (refine wpQuiet_guard _ _ _ rfl rfl ?_; (fail_if_success (intro b' hb; have h2 := hb.symm; have : b' = true := h2.trans (by with_reducible rfl))); (fail_if_success (intro b' hb; have h2 := hb.symm; have : b' = false := h2.trans (by with_reducible rfl))); intro b' hb; simp only [hb]; cases b' <;> (try simp only [Bool.not_eq_true', Bool.not_eq_false', decide_eq_true_eq, decide_eq_false_iff_not, Int.not_lt, Int.not_le, Bool.and_eq_true, Bool.or_eq_true, Bool.or_eq_false_iff, beq_iff_eq, beq_eq_false_iff_ne, Int.natCast_pos] at hb))))
  all_goals (refine wpQuiet_nil ?_; intro nq)
  have hFwf := HF.out nq
  clear HF HC hne
  generalize F nq = wf at *
  clear hcF0 hcF1
  have hbXf : Below w.heap.size w wf := bel_trans hbX hFwf
  have HT2 := Lib.hid (HT1.out.up hFwf)
  have HX2 := Lib.hid (HX1.out.up hFwf)
  have hbtXf := HT2.out.lt
  have hxbXf := HX2.out.lt
  clear t_0 t_1 x_0 x_1 x_2 x_3
  have t_0 := (HT2.out.box).2 0 _ rfl; have t_1 := (HT2.out.box).2 1 _ rfl
  have x_0 := (HX2.out.box).2 0 _ rfl; have x_1 := (HX2.out.box).2 1 _ rfl; have x_2 := (HX2.out.box).2 2 _ rfl; have x_3 := (HX2.out.box).2 3 _ rfl
  have HPRX := Lib.hid (HPr.out.up hbXf)
  go_wp2_with fail
  refine wp_region_fam (by kernel_rfl) (by kernel_rfl) (fun ι F hne hF hcl => ?_)
  have hcF0 := fun n o => (bcell (hF n)).1 (bt) o (by first | (simp; done) | (simp; omega) | omega)
  have hcF1 := fun n o => (bcell (hF n)).1 (w.heap.size) o (by first | (simp; done) | (simp; omega) | omega)
  have HF := Lib.hid hF; clear hF
  have HC := Lib.hid hcl; clear hcl
  repeat (any_goals (first
   | go_big_quiet_step (first | (go_at_call 72; exact Calls.fam HC.out (table_pair Ap n cp l _ x.k k _ _ (HPRX.out.up (HF.out _)) HSP.out (by omega) HK.out HTh.out rfl)))
   | (refine wpQuiet_guard _ _ _ rfl rfl ?_; (fail_if_success (intro b' hb; have h2 := hb.symm; have : b' = true := h2.trans (by with_reducible rfl))); (fail_if_success (intro b' hb; have h2 := hb.symm; have : b' = false := h2.trans (by with_reducible rfl))); intro b' hb; simp only [hb]; cases b' <;> (try simp only [Bool.not_eq_true', Bool.not_eq_false', decide_eq_true_eq, decide_eq_false_iff_not, Int.not_lt, Int.not_le, Bool.and_eq_true, Bool.or_eq_true, Bool.or_eq_false_iff, beq_iff_eq, beq_eq_false_iff_ne, Int.natCast_pos] at hb))))
  all_goals (refine wpQuiet_nil ?_; intro nq)
  have hFwg := HF.out nq
  clear HF HC hne
  generalize F nq = wg at *
  clear hcF0 hcF1
  have hbXg : Below w.heap.size w wg := bel_trans hbXf hFwg
  have HT3 := Lib.hid (HT2.out.up hFwg)
  have HX3 := Lib.hid (HX2.out.up hFwg)
  have hbtXg := HT3.out.lt
  have hxbXg := HX3.out.lt
  clear t_0 t_1 x_0 x_1 x_2 x_3
  have t_0 := (HT3.out.box).2 0 _ rfl; have t_1 := (HT3.out.box).2 1 _ rfl
  have x_0 := (HX3.out.box).2 0 _ rfl; have x_1 := (HX3.out.box).2 1 _ rfl; have x_2 := (HX3.out.box).2 2 _ rfl; have x_3 := (HX3.out.box).2 3 _ rfl
  go_wp2_with fail
  refine (batch_MayTx x _ _ hty).mono ?_
  rintro e w2 ⟨rfl, hb2⟩
  have hbXh : Below w.heap.size w w2 := bel_trans hbXg hb2
  have HT4 := Lib.hid (HT3.out.up hb2)
  have HX4 := Lib.hid (HX3.out.up hb2)
  have hbtXh := HT4.out.lt
  have hxbXh := HX4.out.lt
  clear t_0 t_1 x_0 x_1 x_2 x_3
  have t_0 := (HT4.out.box).2 0 _ rfl; have t_1 := (HT4.out.box).2 1 _ rfl
  have x_0 := (HX4.out.box).2 0 _ rfl; have x_1 := (HX4.out.box).2 1 _ rfl; have x_2 := (HX4.out.box).2 2 _ rfl; have x_3 := (HX4.out.box).2 3 _ rfl
  go_upto_if 76 with fail
  have hT5 := Lib.hid (TR.out.up hbXh)
  go_cut [] from 10 (fun wx => ∃ va q', DoR tb rs w wx C bt (.slice Ap n cp) l (.slice Aa m ca) q x i va q')
  case first =>
    go_wp2_with fail
    have hfb := HT4.out.frozen
    have hT6 : TabX tb rs ((w2.alloc (.cells #[.int .i64 x.se, .int .i64 0] 87)).drew) C bt (.slice Ap n cp) (.slice Aa m ca) l q := hT5.out.up (by (repeat (first | (with_reducible exact Below.refl _ _) | (with_reducible assumption) | (with_reducible apply bel_alloc) | (with_reducible apply bel_drew) | (with_reducible apply bel_drewN) | (with_reducible refine bel_trans ?_ (by with_reducible assumption)) | (with_reducible refine bel_trans ?_ (HF.out _)) | (with_reducible refine bel_set ?_ (by simp) _) | (with_reducible refine bel_set ?_ (by simp; omega) _) | (with_reducible refine bel_set ?_ (by omega) _))))
    have hX6 : Blk ((w2.alloc (.cells #[.int .i64 x.se, .int .i64 0] 87)).drew) w.heap.size 81 [.int .i64 x.se, .int .i64 x.sq, .string x.k, .string x.v] := HX4.out.up (by (repeat (first | (with_reducible exact Below.refl _ _) | (with_reducible assumption) | (with_reducible apply bel_alloc) | (with_reducible apply bel_drew) | (with_reducible apply bel_drewN) | (with_reducible refine bel_trans ?_ (by with_reducible assumption)) | (with_reducible refine bel_trans ?_ (HF.out _)) | (with_reducible refine bel_set ?_ (by simp) _) | (with_reducible refine bel_set ?_ (by simp; omega) _) | (with_reducible refine bel_set ?_ (by omega) _))))
    have hb6 : Below w.heap.size w ((w2.alloc (.cells #[.int .i64 x.se, .int .i64 0] 87)).drew) := by (repeat (first | (with_reducible exact Below.refl _ _) | (with_reducible assumption) | (with_reducible apply bel_alloc) | (with_reducible apply bel_drew) | (with_reducible apply bel_drewN) | (with_reducible refine bel_trans ?_ (by with_reducible assumption)) | (with_reducible refine bel_trans ?_ (HF.out _)) | (with_reducible refine bel_set ?_ (by simp) _) | (with_reducible refine bel_set ?_ (by simp; omega) _) | (with_reducible refine bel_set ?_ (by omega) _)))
    have hv6 : Blk ((w2.alloc (.cells #[.int .i64 x.se, .int .i64 0] 87)).drew) w2.heap.size 87 (encA ⟨x.se, 0⟩) := Blk.new w2 87 (encA ⟨x.se, 0⟩)
    have hC6 : C ≤ ((w2.alloc (.cells #[.int .i64 x.se, .int .i64 0] 87)).drew).heap.size := Nat.le_trans hC hb6.size
    have ho6 : ((w2.alloc (.cells #[.int .i64 x.se, .int .i64 0] 87)).drew).ownsRow C 87 2 (.slice Aa m ca) m (flat encA q) := by have q1 := hT6.a; unfold OwnA at q1; rw [HMl.out] at q1; exact q1
    have hne6 : (Value.slice Aa m ca).ownBlock ≠ some w2.heap.size := fun h => by have hq := (own_lt hT5.out.a _ h).2; omega
    have HT6 := Lib.hid hT6
    have HX6 := Lib.hid hX6
    have HB6 := Lib.hid hb6
    have HV6 := Lib.hid hv6
    have HO6 := Lib.hid ho6
    have HE6 := Lib.hid hne6
    clear hT6 hX6 hb6 hv6 ho6 hne6
    go_region_with (go_at_call 73; refine (slices_Insert_Acct _ C _ m i (flat encA q) (encA ⟨x.se, 0⟩) _ HO6.out him0 (by omega) HV6.out HE6.out (flat_oneCell encA_one q) (encA_one ⟨x.se, 0⟩) rfl hC6).mono ?_; rintro e w4 ⟨v4, rfl, hown4, hb4, hg4, hat4⟩; obtain ⟨A4, c4, rfl, _, _, _, _⟩ := own_row hown4 (by omega); have hB4 := HT6.out.blk.grown2 hg4 HT6.out.na; have f4 := hB4.frozen; have b41 := hB4.box.2 1 _ rfl)
    all_goals
      go_wp2_with fail
      go_meet
      have ho : OwnA w4 C (.slice A4 (m + 1) c4) (q.take i ++ [⟨x.se, 0⟩] ++ q.drop i) := by unfold OwnA; rw [ins_len _ _ _ (by rw [HMl.out]; exact him0), HMl.out, ← flat_insA]; exact hown4
      have hat : (Value.slice A4 (m + 1) c4).ownBlock = (Value.slice Aa m ca).ownBlock ∨ ∃ g, (Value.slice A4 (m + 1) c4).ownBlock = some g ∧ ((w2.alloc (.cells #[.int .i64 x.se, .int .i64 0] 87)).drew).heap.size ≤ g := hat4.imp id (fun e => ⟨_, e, Nat.le_refl _⟩)
      have hnx : (Value.slice Aa m ca).ownBlock ≠ some w.heap.size := fun e => (by have := (own_lt TR.out.a _ e).2; omega)
      exact ⟨_, q.take i ++ [⟨x.se, 0⟩] ++ q.drop i, { t := HT6.out.newA ho hg4 hat, bx := (HX6.out.grown2 hg4 hnx).far (p := ⟨bt, 1, none⟩) (by dsimp only; omega) _, lt := by rw [ins_len _ _ _ (by rw [HMl.out]; exact him0), HMl.out]; omega, le := by rw [ins_len _ _ _ (by rw [HMl.out]; exact him0), HMl.out]; omega, set := by rw [set_ins _ _ _ _ (by rw [HMl.out]; exact him0), ath_ins _ _ _ (by rw [HMl.out]; exact him0)]; unfold setA; rw [if_neg (by rw [HHas.out]; simp), HI.out], nv := (by rcases hat with e | ⟨g, e, hl⟩; (rw [e]; exact hnx); (rw [e]; intro e2; injection e2 with e2; have := HB6.out.size; have := HX6.out.lt; omega)), k := (DoK.of_below HB6.out).trans (DoK.newA hg4 hat) }⟩
  case rest =>
  obtain ⟨va, q', hd⟩ := hcut
  rcases own_shape hd.t.a with ⟨_, h0⟩ | ⟨g, cc, rfl, hgC, hcc⟩
  · exfalso; have := hd.lt; omega
  obtain ⟨m', hm'⟩ : ∃ m', q'.length = m' := ⟨_, rfl⟩
  rw [hm'] at hd hcc
  have him' : i < m' := by rw [← hm']; exact hd.lt
  have hm7 : m' ≤ 4097 := by rw [← hm']; exact hd.le
  have ha : wc.ownsRow C 87 2 (.slice (some ⟨g, 0, none⟩) m' cc) m' (flat encA q') := by have q1 := hd.t.a; unfold OwnA at q1; rw [hm'] at q1; exact q1
  obtain ⟨g1, f1⟩ := own_get ha
  have c1 : wc.cell? ⟨g, i * 2 + 1, none⟩ = some (.int .i64 (ath q' i).sq) := g1 _ _ (by rw [flat_at encA_len q' i 1 (by omega) (by omega)]; rfl)
  have hgl := (own_lt ha g rfl).2
  have hbxw := hd.bx.lt
  have t_0 := (hd.t.blk.box).2 0 _ rfl; have t_1 := (hd.t.blk.box).2 1 _ rfl
  have x_0 := (hd.bx.box).2 0 _ rfl; have x_1 := (hd.bx.box).2 1 _ rfl; have x_2 := (hd.bx.box).2 2 _ rfl; have x_3 := (hd.bx.box).2 3 _ rfl
  have HD := Lib.hid hd
  have HM' := Lib.hid hm'
  clear hd g1 ha hm'
  go_upto_region 10 with fail
  go_cut [] from 10 (fun wx => ∃ va, TabX tb rs wx C bt (.slice Ap n cp) va l (setA q x) ∧ Blk wx w.heap.size 81 [.int .i64 x.se, .int .i64 x.sq, .string x.k, .string x.v] ∧ va.ownBlock ≠ some w.heap.size ∧ DoK w wx bt (.slice Ap n cp) (.slice Aa m ca) (.slice Ap n cp) va)
  case first =>
    have hng : w.heap.size ≠ g := fun e => HD.out.nv (by rw [e]; rfl)
    have hT7 := (HD.out.t.up (w' := wc.drew) (by (repeat (first | (with_reducible exact Below.refl _ _) | (with_reducible assumption) | (with_reducible apply bel_alloc) | (with_reducible apply bel_drew) | (with_reducible apply bel_drewN) | (with_reducible refine bel_trans ?_ (by with_reducible assumption)) | (with_reducible refine bel_trans ?_ (HF.out _)) | (with_reducible refine bel_set ?_ (by simp) _) | (with_reducible refine bel_set ?_ (by simp; omega) _) | (with_reducible refine bel_set ?_ (by omega) _))))).putA (v := x.sq) HM'.out him'
    rw [HD.out.set] at hT7
    have hX7 := (HD.out.bx.up (w' := wc.drew) (by (repeat (first | (with_reducible exact Below.refl _ _) | (with_reducible assumption) | (with_reducible apply bel_alloc) | (with_reducible apply bel_drew) | (with_reducible apply bel_drewN) | (with_reducible refine bel_trans ?_ (by with_reducible assumption)) | (with_reducible refine bel_trans ?_ (HF.out _)) | (with_reducible refine bel_set ?_ (by simp) _) | (with_reducible refine bel_set ?_ (by simp; omega) _) | (with_reducible refine bel_set ?_ (by omega) _))))).far (p := ⟨g, i * 2 + 1, none⟩) hng (.int .i64 x.sq)
    have hK7 := (HD.out.k.up (w2 := wc.drew) (by (repeat (first | (with_reducible exact Below.refl _ _) | (with_reducible assumption) | (with_reducible apply bel_alloc) | (with_reducible apply bel_drew) | (with_reducible apply bel_drewN) | (with_reducible refine bel_trans ?_ (by with_reducible assumption)) | (with_reducible refine bel_trans ?_ (HF.out _)) | (with_reducible refine bel_set ?_ (by simp) _) | (with_reducible refine bel_set ?_ (by simp; omega) _) | (with_reducible refine bel_set ?_ (by omega) _))))).trans (DoK.putA (o := i * 2 + 1) (u := .int .i64 x.sq) rfl)
    have HT7 := Lib.hid hT7
    have HX7 := Lib.hid hX7
    have HK7 := Lib.hid hK7
    clear hT7 hX7 hK7
    go_wp2_with fail
    go_region
    all_goals
      go_wp2_with fail
      go_meet
      exact ⟨_, HT7.out, HX7.out, HD.out.nv, HK7.out⟩
  case rest =>
  obtain ⟨va, hT8, hX8, hnv, hk8⟩ := hcut
  clear f1 c1 hgl hbxw t_0 t_1 x_0 x_1 x_2 x_3
  have hxl := hX8.lt
  have hbl := hT8.blk.lt
  have x_0 := (hX8.box).2 0 _ rfl; have x_1 := (hX8.box).2 1 _ rfl; have x_2 := (hX8.box).2 2 _ rfl; have x_3 := (hX8.box).2 3 _ rfl
  have t_0 := (hT8.blk.box).2 0 _ rfl; have t_1 := (hT8.blk.box).2 1 _ rfl
  have hp8 : wc.ownsRow C 85 2 (.slice Ap n cp) n (flat encP l) := by have q1 := hT8.p; unfold OwnP at q1; rw [HN.out] at q1; exact q1
  have e : setP l x = l := by unfold setP; rw [if_pos HV.out, if_neg (by rw [HTh.out]; simp)]
  go_wp2_with fail
  simp only [Exit.jump]
  go_ret
  rw [e]
  exact ⟨rfl, _, va, hT8, hk8⟩
set_option maxRecDepth 100000 in
set_option maxHeartbeats 8000000 in
theorem table_Do_yesFFN (C bt : Nat) (Ap : Option Addr) (n cp : Nat) (l : List PairD) (Aa : Option Addr) (m ca : Nat) (q : List AcctD) (x : TxD) (w : World) (hT : TabX tb rs w C bt (.slice Ap n cp) (.slice Aa m ca) l q) (hl : PairsR w Ap n l) (hq : AcctsR w Aa m q) (hM : MayT l q) (hO : OkT l q x) (hh : khasA q x.se = false) (ht : khasP l x.k = false) (hv : ¬ x.v.size = 0) :
    Calls Try.prog 62 #[.pointer (some ⟨bt, 0, none⟩), .agg #[.int .i64 x.se, .int .i64 x.sq, .string x.k, .string x.v]] w fun e w' => e = .returned (.bool true) ∧ ∃ vp va, TabX tb rs w' C bt vp va (setP l x) (setA q x) ∧ DoK w w' bt (.slice Ap n cp) (.slice Aa m ca) vp va := by
  have HT := Lib.hid hT.blk
  have TR := Lib.hid hT
  have HPr := Lib.hid hl
  have HAr := Lib.hid hq
  have HN := Lib.hid hl.1
  have HMl := Lib.hid hq.1
  have HSP := Lib.hid hM.1.sorted
  have HSA := Lib.hid hM.2.sorted
  have hn : n ≤ 4096 := by rw [← hl.1]; exact hM.1.1
  have hm : m ≤ 4096 := by rw [← hq.1]; exact hM.2.1
  have HM := Lib.hid hM
  have HO := Lib.hid hO
  have hbt := hT.blk.lt
  have hC : C ≤ w.heap.size := Nat.le_trans hT.cb (Nat.le_of_lt hbt)
  obtain ⟨k, hk⟩ : ∃ k, kposP l x.k = k := ⟨_, rfl⟩
  obtain ⟨i, hi⟩ : ∃ i, kposA q x.se = i := ⟨_, rfl⟩
  have HK := Lib.hid hk
  have HI := Lib.hid hi
  have hty : txS x = true := hO.1
  have hkn : k ≤ n := by rw [← hk, ← hl.1]; exact cnt_le _ _
  have him0 : i ≤ m := by rw [← hi, ← hq.1]; exact cnt_le _ _
  clear hT hl hq hM hO hk hi
  have nil0 : x.v.size = 0 → (x.v.toList != []) = false ∧ (x.v.toList == []) = true := fun h => by rw [toList_nil.2 h]; exact ⟨rfl, rfl⟩
  have nil1 : ¬ x.v.size = 0 → (x.v.toList != []) = true ∧ (x.v.toList == []) = false := fun h => by rw [bne_iff_ne, beq_eq_false_iff_ne]; exact ⟨fun g => h (toList_nil.1 g), fun g => h (toList_nil.1 g)⟩
  have HHas := Lib.hid hh
  have hsq : x.sq = 1 := by
    have := HO.out.2.1
    unfold lastA at this
    rw [if_neg (by rw [hh]; simp)] at this
    simpa using this
  have hs1 : (x.sq == 1) = true := by simpa using hsq
  have hs2 : (x.sq != 1) = false := by simpa using hsq
  have hmf : m < 4096 := by
    rcases Nat.lt_or_ge m 4096 with h | h
    · exact h
    · exact absurd ⟨hh, by rw [HMl.out]; exact h⟩ HO.out.2.2.1
  have hmd : decide ((4096 : Int) ≤ (m : Int)) = false := by simp; omega
  have HSQ := Lib.hid hsq
  clear hh hsq
  have HTh := Lib.hid ht
  clear ht
  obtain ⟨hv1, hv2⟩ := nil1 hv
  have hnf : n < 4096 := by
    rcases Nat.lt_or_ge n 4096 with h | h
    · exact h
    · exact absurd ⟨HTh.out, hv, by rw [HN.out]; exact h⟩ HO.out.2.2.2
  have hnd : decide ((4096 : Int) ≤ (n : Int)) = false := by simp; omega
  have HV := Lib.hid hv
  clear nil0 nil1 hv
  go_enter Try.func62, Try.ntmps62
  go_wp2_with fail
  have hT1 : Blk (w.alloc (.cells #[.int .i64 x.se, .int .i64 x.sq, .string x.k, .string x.v] 81)) bt tb (.slice Ap n cp :: .slice Aa m ca :: rs) := HT.out.up (by (repeat (first | (with_reducible exact Below.refl _ _) | (with_reducible assumption) | (with_reducible apply bel_alloc) | (with_reducible apply bel_drew) | (with_reducible apply bel_drewN) | (with_reducible refine bel_trans ?_ (by with_reducible assumption)) | (with_reducible refine bel_trans ?_ (HF.out _)) | (with_reducible refine bel_set ?_ (by simp) _) | (with_reducible refine bel_set ?_ (by simp; omega) _) | (with_reducible refine bel_set ?_ (by omega) _))))
  have hX1 : Blk (w.alloc (.cells #[.int .i64 x.se, .int .i64 x.sq, .string x.k, .string x.v] 81)) w.heap.size 81 [.int .i64 x.se, .int .i64 x.sq, .string x.k, .string x.v] := Blk.new w 81 [.int .i64 x.se, .int .i64 x.sq, .string x.k, .string x.v]
  have hbX : Below w.heap.size w (w.alloc (.cells #[.int .i64 x.se, .int .i64 x.sq, .string x.k, .string x.v] 81)) := by (repeat (first | (with_reducible exact Below.refl _ _) | (with_reducible assumption) | (with_reducible apply bel_alloc) | (with_reducible apply bel_drew) | (with_reducible apply bel_drewN) | (with_reducible refine bel_trans ?_ (by with_reducible assumption)) | (with_reducible refine bel_trans ?_ (HF.out _)) | (with_reducible refine bel_set ?_ (by simp) _) | (with_reducible refine bel_set ?_ (by simp; omega) _) | (with_reducible refine bel_set ?_ (by omega) _)))
  generalize (w.alloc (.cells #[.int .i64 x.se, .int .i64 x.sq, .string x.k, .string x.v] 81)) = X at *
  have HT1 := Lib.hid hT1
  have HX1 := Lib.hid hX1
  have hbtX := hT1.lt
  have hxbX := hX1.lt
  have t_0 := (hT1.box).2 0 _ rfl; have t_1 := (hT1.box).2 1 _ rfl
  have x_0 := (hX1.box).2 0 _ rfl; have x_1 := (hX1.box).2 1 _ rfl; have x_2 := (hX1.box).2 2 _ rfl; have x_3 := (hX1.box).2 3 _ rfl
  clear hT1 hX1
  have HARX := Lib.hid (HAr.out.up hbX)
  refine wp_scope_fwd 0 DOF rfl ?_ (by intro a' w' h; exact h.elim)
  go_wp2_with fail
  refine wp_region_fam (by kernel_rfl) (by kernel_rfl) (fun ι F hne hF hcl => ?_)
  have hcF0 := fun n o => (bcell (hF n)).1 (bt) o (by first | (simp; done) | (simp; omega) | omega)
  have hcF1 := fun n o => (bcell (hF n)).1 (w.heap.size) o (by first | (simp; done) | (simp; omega) | omega)
  have HF := Lib.hid hF; clear hF
  have HC := Lib.hid hcl; clear hcl
  repeat (any_goals (first
   | go_big_quiet_step (first | (go_at_call 70; exact Calls.fam HC.out (bsf_A Aa m ca q x.se i _ _ (HARX.out.up (HF.out _)) HSA.out (by omega) HI.out HHas.out)))
   | (refine wpQuiet_guard _ _ _ rfl rfl ?_; (fail_if_success (intro b' hb; have h2 := hb.symm; have : b' = true := h2.trans (by with_reducible rfl))); (fail_if_success (intro b' hb; have h2 := hb.symm; have : b' = false := h2.trans (by with_reducible rfl))); intro b' hb; simp only [hb]; cases b' <;> (try simp only [Bool.not_eq_true', Bool.not_eq_false', decide_eq_true_eq, decide_eq_false_iff_not, Int.not_lt, Int.not_le, Bool.and_eq_true, Bool.or_eq_true, Bool.or_eq_false_iff, beq_iff_eq, beq_eq_false_iff_ne, Int.natCast_pos] at hb))))
  all_goals (refine wpQuiet_nil ?_; intro nq)
  have hFwf := HF.out nq
  clear HF HC hne
  generalize F nq = wf at *
  clear hcF0 hcF1
  have hbXf : Below w.heap.size w wf := bel_trans hbX hFwf
  have HT2 := Lib.hid (HT1.out.up hFwf)
  have HX2 := Lib.hid (HX1.out.up hFwf)
  have hbtXf := HT2.out.lt
  have hxbXf := HX2.out.lt
  clear t_0 t_1 x_0 x_1 x_2 x_3
  have t_0 := (HT2.out.box).2 0 _ rfl; have t_1 := (HT2.out.box).2 1 _ rfl
  have x_0 := (HX2.out.box).2 0 _ rfl; have x_1 := (HX2.out.box).2 1 _ rfl; have x_2 := (HX2.out.box).2 2 _ rfl; have x_3 := (HX2.out.box).2 3 _ rfl
  have HPRX := Lib.hid (HPr.out.up hbXf)
  go_wp2_with fail
  refine wp_region_fam (by kernel_rfl) (by kernel_rfl) (fun ι F hne hF hcl => ?_)
  have hcF0 := fun n o => (bcell (hF n)).1 (bt) o (by first | (simp; done) | (simp; omega) | omega)
  have hcF1 := fun n o => (bcell (hF n)).1 (w.heap.size) o (by first | (simp; done) | (simp; omega) | omega)
  have HF := Lib.hid hF; clear hF
  have HC := Lib.hid hcl; clear hcl
  repeat (any_goals (first
   | go_big_quiet_step (first | (go_at_call 72; exact Calls.fam HC.out (table_pair Ap n cp l _ x.k k _ _ (HPRX.out.up (HF.out _)) HSP.out (by omega) HK.out HTh.out rfl)))
   | (refine wpQuiet_guard _ _ _ rfl rfl ?_; (fail_if_success (intro b' hb; have h2 := hb.symm; have : b' = true := h2.trans (by with_reducible rfl))); (fail_if_success (intro b' hb; have h2 := hb.symm; have : b' = false := h2.trans (by with_reducible rfl))); intro b' hb; simp only [hb]; cases b' <;> (try simp only [Bool.not_eq_true', Bool.not_eq_false', decide_eq_true_eq, decide_eq_false_iff_not, Int.not_lt, Int.not_le, Bool.and_eq_true, Bool.or_eq_true, Bool.or_eq_false_iff, beq_iff_eq, beq_eq_false_iff_ne, Int.natCast_pos] at hb))))
  all_goals (refine wpQuiet_nil ?_; intro nq)
  have hFwg := HF.out nq
  clear HF HC hne
  generalize F nq = wg at *
  clear hcF0 hcF1
  have hbXg : Below w.heap.size w wg := bel_trans hbXf hFwg
  have HT3 := Lib.hid (HT2.out.up hFwg)
  have HX3 := Lib.hid (HX2.out.up hFwg)
  have hbtXg := HT3.out.lt
  have hxbXg := HX3.out.lt
  clear t_0 t_1 x_0 x_1 x_2 x_3
  have t_0 := (HT3.out.box).2 0 _ rfl; have t_1 := (HT3.out.box).2 1 _ rfl
  have x_0 := (HX3.out.box).2 0 _ rfl; have x_1 := (HX3.out.box).2 1 _ rfl; have x_2 := (HX3.out.box).2 2 _ rfl; have x_3 := (HX3.out.box).2 3 _ rfl
  go_wp2_with fail
  refine (batch_MayTx x _ _ hty).mono ?_
  rintro e w2 ⟨rfl, hb2⟩
  have hbXh : Below w.heap.size w w2 := bel_trans hbXg hb2
  have HT4 := Lib.hid (HT3.out.up hb2)
  have HX4 := Lib.hid (HX3.out.up hb2)
  have hbtXh := HT4.out.lt
  have hxbXh := HX4.out.lt
  clear t_0 t_1 x_0 x_1 x_2 x_3
  have t_0 := (HT4.out.box).2 0 _ rfl; have t_1 := (HT4.out.box).2 1 _ rfl
  have x_0 := (HX4.out.box).2 0 _ rfl; have x_1 := (HX4.out.box).2 1 _ rfl; have x_2 := (HX4.out.box).2 2 _ rfl; have x_3 := (HX4.out.box).2 3 _ rfl
  go_upto_if 76 with fail
  have hT5 := Lib.hid (TR.out.up hbXh)
  go_cut [] from 10 (fun wx => ∃ va q', DoR tb rs w wx C bt (.slice Ap n cp) l (.slice Aa m ca) q x i va q')
  case first =>
    go_wp2_with fail
    have hfb := HT4.out.frozen
    have hT6 : TabX tb rs ((w2.alloc (.cells #[.int .i64 x.se, .int .i64 0] 87)).drew) C bt (.slice Ap n cp) (.slice Aa m ca) l q := hT5.out.up (by (repeat (first | (with_reducible exact Below.refl _ _) | (with_reducible assumption) | (with_reducible apply bel_alloc) | (with_reducible apply bel_drew) | (with_reducible apply bel_drewN) | (with_reducible refine bel_trans ?_ (by with_reducible assumption)) | (with_reducible refine bel_trans ?_ (HF.out _)) | (with_reducible refine bel_set ?_ (by simp) _) | (with_reducible refine bel_set ?_ (by simp; omega) _) | (with_reducible refine bel_set ?_ (by omega) _))))
    have hX6 : Blk ((w2.alloc (.cells #[.int .i64 x.se, .int .i64 0] 87)).drew) w.heap.size 81 [.int .i64 x.se, .int .i64 x.sq, .string x.k, .string x.v] := HX4.out.up (by (repeat (first | (with_reducible exact Below.refl _ _) | (with_reducible assumption) | (with_reducible apply bel_alloc) | (with_reducible apply bel_drew) | (with_reducible apply bel_drewN) | (with_reducible refine bel_trans ?_ (by with_reducible assumption)) | (with_reducible refine bel_trans ?_ (HF.out _)) | (with_reducible refine bel_set ?_ (by simp) _) | (with_reducible refine bel_set ?_ (by simp; omega) _) | (with_reducible refine bel_set ?_ (by omega) _))))
    have hb6 : Below w.heap.size w ((w2.alloc (.cells #[.int .i64 x.se, .int .i64 0] 87)).drew) := by (repeat (first | (with_reducible exact Below.refl _ _) | (with_reducible assumption) | (with_reducible apply bel_alloc) | (with_reducible apply bel_drew) | (with_reducible apply bel_drewN) | (with_reducible refine bel_trans ?_ (by with_reducible assumption)) | (with_reducible refine bel_trans ?_ (HF.out _)) | (with_reducible refine bel_set ?_ (by simp) _) | (with_reducible refine bel_set ?_ (by simp; omega) _) | (with_reducible refine bel_set ?_ (by omega) _)))
    have hv6 : Blk ((w2.alloc (.cells #[.int .i64 x.se, .int .i64 0] 87)).drew) w2.heap.size 87 (encA ⟨x.se, 0⟩) := Blk.new w2 87 (encA ⟨x.se, 0⟩)
    have hC6 : C ≤ ((w2.alloc (.cells #[.int .i64 x.se, .int .i64 0] 87)).drew).heap.size := Nat.le_trans hC hb6.size
    have ho6 : ((w2.alloc (.cells #[.int .i64 x.se, .int .i64 0] 87)).drew).ownsRow C 87 2 (.slice Aa m ca) m (flat encA q) := by have q1 := hT6.a; unfold OwnA at q1; rw [HMl.out] at q1; exact q1
    have hne6 : (Value.slice Aa m ca).ownBlock ≠ some w2.heap.size := fun h => by have hq := (own_lt hT5.out.a _ h).2; omega
    have HT6 := Lib.hid hT6
    have HX6 := Lib.hid hX6
    have HB6 := Lib.hid hb6
    have HV6 := Lib.hid hv6
    have HO6 := Lib.hid ho6
    have HE6 := Lib.hid hne6
    clear hT6 hX6 hb6 hv6 ho6 hne6
    go_region_with (go_at_call 73; refine (slices_Insert_Acct _ C _ m i (flat encA q) (encA ⟨x.se, 0⟩) _ HO6.out him0 (by omega) HV6.out HE6.out (flat_oneCell encA_one q) (encA_one ⟨x.se, 0⟩) rfl hC6).mono ?_; rintro e w4 ⟨v4, rfl, hown4, hb4, hg4, hat4⟩; obtain ⟨A4, c4, rfl, _, _, _, _⟩ := own_row hown4 (by omega); have hB4 := HT6.out.blk.grown2 hg4 HT6.out.na; have f4 := hB4.frozen; have b41 := hB4.box.2 1 _ rfl)
    all_goals
      go_wp2_with fail
      go_meet
      have ho : OwnA w4 C (.slice A4 (m + 1) c4) (q.take i ++ [⟨x.se, 0⟩] ++ q.drop i) := by unfold OwnA; rw [ins_len _ _ _ (by rw [HMl.out]; exact him0), HMl.out, ← flat_insA]; exact hown4
      have hat : (Value.slice A4 (m + 1) c4).ownBlock = (Value.slice Aa m ca).ownBlock ∨ ∃ g, (Value.slice A4 (m + 1) c4).ownBlock = some g ∧ ((w2.alloc (.cells #[.int .i64 x.se, .int .i64 0] 87)).drew).heap.size ≤ g := hat4.imp id (fun e => ⟨_, e, Nat.le_refl _⟩)
      have hnx : (Value.slice Aa m ca).ownBlock ≠ some w.heap.size := fun e => (by have := (own_lt TR.out.a _ e).2; omega)
      exact ⟨_, q.take i ++ [⟨x.se, 0⟩] ++ q.drop i, { t := HT6.out.newA ho hg4 hat, bx := (HX6.out.grown2 hg4 hnx).far (p := ⟨bt, 1, none⟩) (by dsimp only; omega) _, lt := by rw [ins_len _ _ _ (by rw [HMl.out]; exact him0), HMl.out]; omega, le := by rw [ins_len _ _ _ (by rw [HMl.out]; exact him0), HMl.out]; omega, set := by rw [set_ins _ _ _ _ (by rw [HMl.out]; exact him0), ath_ins _ _ _ (by rw [HMl.out]; exact him0)]; unfold setA; rw [if_neg (by rw [HHas.out]; simp), HI.out], nv := (by rcases hat with e | ⟨g, e, hl⟩; (rw [e]; exact hnx); (rw [e]; intro e2; injection e2 with e2; have := HB6.out.size; have := HX6.out.lt; omega)), k := (DoK.of_below HB6.out).trans (DoK.newA hg4 hat) }⟩
  case rest =>
  obtain ⟨va, q', hd⟩ := hcut
  rcases own_shape hd.t.a with ⟨_, h0⟩ | ⟨g, cc, rfl, hgC, hcc⟩
  · exfalso; have := hd.lt; omega
  obtain ⟨m', hm'⟩ : ∃ m', q'.length = m' := ⟨_, rfl⟩
  rw [hm'] at hd hcc
  have him' : i < m' := by rw [← hm']; exact hd.lt
  have hm7 : m' ≤ 4097 := by rw [← hm']; exact hd.le
  have ha : wc.ownsRow C 87 2 (.slice (some ⟨g, 0, none⟩) m' cc) m' (flat encA q') := by have q1 := hd.t.a; unfold OwnA at q1; rw [hm'] at q1; exact q1
  obtain ⟨g1, f1⟩ := own_get ha
  have c1 : wc.cell? ⟨g, i * 2 + 1, none⟩ = some (.int .i64 (ath q' i).sq) := g1 _ _ (by rw [flat_at encA_len q' i 1 (by omega) (by omega)]; rfl)
  have hgl := (own_lt ha g rfl).2
  have hbxw := hd.bx.lt
  have t_0 := (hd.t.blk.box).2 0 _ rfl; have t_1 := (hd.t.blk.box).2 1 _ rfl
  have x_0 := (hd.bx.box).2 0 _ rfl; have x_1 := (hd.bx.box).2 1 _ rfl; have x_2 := (hd.bx.box).2 2 _ rfl; have x_3 := (hd.bx.box).2 3 _ rfl
  have HD := Lib.hid hd
  have HM' := Lib.hid hm'
  clear hd g1 ha hm'
  go_upto_region 10 with fail
  go_cut [] from 10 (fun wx => ∃ va, TabX tb rs wx C bt (.slice Ap n cp) va l (setA q x) ∧ Blk wx w.heap.size 81 [.int .i64 x.se, .int .i64 x.sq, .string x.k, .string x.v] ∧ va.ownBlock ≠ some w.heap.size ∧ DoK w wx bt (.slice Ap n cp) (.slice Aa m ca) (.slice Ap n cp) va)
  case first =>
    have hng : w.heap.size ≠ g := fun e => HD.out.nv (by rw [e]; rfl)
    have hT7 := (HD.out.t.up (w' := wc.drew) (by (repeat (first | (with_reducible exact Below.refl _ _) | (with_reducible assumption) | (with_reducible apply bel_alloc) | (with_reducible apply bel_drew) | (with_reducible apply bel_drewN) | (with_reducible refine bel_trans ?_ (by with_reducible assumption)) | (with_reducible refine bel_trans ?_ (HF.out _)) | (with_reducible refine bel_set ?_ (by simp) _) | (with_reducible refine bel_set ?_ (by simp; omega) _) | (with_reducible refine bel_set ?_ (by omega) _))))).putA (v := x.sq) HM'.out him'
    rw [HD.out.set] at hT7
    have hX7 := (HD.out.bx.up (w' := wc.drew) (by (repeat (first | (with_reducible exact Below.refl _ _) | (with_reducible assumption) | (with_reducible apply bel_alloc) | (with_reducible apply bel_drew) | (with_reducible apply bel_drewN) | (with_reducible refine bel_trans ?_ (by with_reducible assumption)) | (with_reducible refine bel_trans ?_ (HF.out _)) | (with_reducible refine bel_set ?_ (by simp) _) | (with_reducible refine bel_set ?_ (by simp; omega) _) | (with_reducible refine bel_set ?_ (by omega) _))))).far (p := ⟨g, i * 2 + 1, none⟩) hng (.int .i64 x.sq)
    have hK7 := (HD.out.k.up (w2 := wc.drew) (by (repeat (first | (with_reducible exact Below.refl _ _) | (with_reducible assumption) | (with_reducible apply bel_alloc) | (with_reducible apply bel_drew) | (with_reducible apply bel_drewN) | (with_reducible refine bel_trans ?_ (by with_reducible assumption)) | (with_reducible refine bel_trans ?_ (HF.out _)) | (with_reducible refine bel_set ?_ (by simp) _) | (with_reducible refine bel_set ?_ (by simp; omega) _) | (with_reducible refine bel_set ?_ (by omega) _))))).trans (DoK.putA (o := i * 2 + 1) (u := .int .i64 x.sq) rfl)
    have HT7 := Lib.hid hT7
    have HX7 := Lib.hid hX7
    have HK7 := Lib.hid hK7
    clear hT7 hX7 hK7
    go_wp2_with fail
    go_region
    all_goals
      go_wp2_with fail
      go_meet
      exact ⟨_, HT7.out, HX7.out, HD.out.nv, HK7.out⟩
  case rest =>
  obtain ⟨va, hT8, hX8, hnv, hk8⟩ := hcut
  clear f1 c1 hgl hbxw t_0 t_1 x_0 x_1 x_2 x_3
  have hxl := hX8.lt
  have hbl := hT8.blk.lt
  have x_0 := (hX8.box).2 0 _ rfl; have x_1 := (hX8.box).2 1 _ rfl; have x_2 := (hX8.box).2 2 _ rfl; have x_3 := (hX8.box).2 3 _ rfl
  have t_0 := (hT8.blk.box).2 0 _ rfl; have t_1 := (hT8.blk.box).2 1 _ rfl
  have hp8 : wc.ownsRow C 85 2 (.slice Ap n cp) n (flat encP l) := by have q1 := hT8.p; unfold OwnP at q1; rw [HN.out] at q1; exact q1
  have e : setP l x = l.take k ++ [⟨x.k, x.v⟩] ++ l.drop k := by unfold setP; rw [if_neg HV.out, if_neg (by rw [HTh.out]; simp), HK.out]
  have HE := Lib.hid e
  have hT9 : TabX tb rs ((wc.alloc (.cells #[.string x.k, .string x.v] 85)).drew) C bt (.slice Ap n cp) va l (setA q x) := hT8.up (by (repeat (first | (with_reducible exact Below.refl _ _) | (with_reducible assumption) | (with_reducible apply bel_alloc) | (with_reducible apply bel_drew) | (with_reducible apply bel_drewN) | (with_reducible refine bel_trans ?_ (by with_reducible assumption)) | (with_reducible refine bel_trans ?_ (HF.out _)) | (with_reducible refine bel_set ?_ (by simp) _) | (with_reducible refine bel_set ?_ (by simp; omega) _) | (with_reducible refine bel_set ?_ (by omega) _))))
  have hK9 := hk8.up (w2 := (wc.alloc (.cells #[.string x.k, .string x.v] 85)).drew) (by (repeat (first | (with_reducible exact Below.refl _ _) | (with_reducible assumption) | (with_reducible apply bel_alloc) | (with_reducible apply bel_drew) | (with_reducible apply bel_drewN) | (with_reducible refine bel_trans ?_ (by with_reducible assumption)) | (with_reducible refine bel_trans ?_ (HF.out _)) | (with_reducible refine bel_set ?_ (by simp) _) | (with_reducible refine bel_set ?_ (by simp; omega) _) | (with_reducible refine bel_set ?_ (by omega) _))))
  have hv9 : Blk ((wc.alloc (.cells #[.string x.k, .string x.v] 85)).drew) wc.heap.size 85 (encP ⟨x.k, x.v⟩) := Blk.new wc 85 (encP ⟨x.k, x.v⟩)
  have hC9 : C ≤ ((wc.alloc (.cells #[.string x.k, .string x.v] 85)).drew).heap.size := Nat.le_trans hC hK9.size
  have ho9 : ((wc.alloc (.cells #[.string x.k, .string x.v] 85)).drew).ownsRow C 85 2 (.slice Ap n cp) n (flat encP l) := own_up hp8 (by (repeat (first | (with_reducible exact Below.refl _ _) | (with_reducible assumption) | (with_reducible apply bel_alloc) | (with_reducible apply bel_drew) | (with_reducible apply bel_drewN) | (with_reducible refine bel_trans ?_ (by with_reducible assumption)) | (with_reducible refine bel_trans ?_ (HF.out _)) | (with_reducible refine bel_set ?_ (by simp) _) | (with_reducible refine bel_set ?_ (by simp; omega) _) | (with_reducible refine bel_set ?_ (by omega) _))))
  have hne9 : (Value.slice Ap n cp).ownBlock ≠ some wc.heap.size := fun h => by have hq := (own_lt hp8 _ h).2; omega
  have hff := hT8.blk.frozen
  have HT9 := Lib.hid hT9
  have HK9 := Lib.hid hK9
  have HV9 := Lib.hid hv9
  have HO9 := Lib.hid ho9
  have HE9 := Lib.hid hne9
  clear hT9 hK9 hv9 ho9 hne9 hp8 hT8 hk8 e
  go_wp2_with fail
  go_region_with (go_at_call 75; refine (slices_Insert_Pair _ C _ n k (flat encP l) (encP ⟨x.k, x.v⟩) _ HO9.out hkn (by omega) HV9.out HE9.out (flat_oneCell encP_one l) (encP_one ⟨x.k, x.v⟩) rfl hC9).mono ?_; rintro e w4 ⟨v4, rfl, hown4, hb4, hg4, hat4⟩; obtain ⟨A4, c4, rfl, _, _, _, _⟩ := own_row hown4 (by omega); have hB4 := HT9.out.blk.grown2 hg4 HT9.out.np; have f4 := hB4.frozen; have b40 := hB4.box.2 0 _ rfl)
  all_goals
    go_wp2_with fail
    simp only [Exit.jump]
    go_ret
    rw [HE.out]
    have ho : OwnP w4 C (.slice A4 (n + 1) c4) (l.take k ++ [⟨x.k, x.v⟩] ++ l.drop k) := by unfold OwnP; rw [ins_len _ _ _ (by rw [HN.out]; exact hkn), HN.out, ← flat_insP]; exact hown4
    have hat : (Value.slice A4 (n + 1) c4).ownBlock = (Value.slice Ap n cp).ownBlock ∨ ∃ g, (Value.slice A4 (n + 1) c4).ownBlock = some g ∧ ((wc.alloc (.cells #[.string x.k, .string x.v] 85)).drew).heap.size ≤ g := hat4.imp id (fun e => ⟨_, e, Nat.le_refl _⟩)
    exact ⟨rfl, _, va, HT9.out.newP ho hg4 hat, HK9.out.trans (DoK.newP hg4 hat)⟩
set_option maxRecDepth 100000 in
set_option maxHeartbeats 8000000 in
theorem table_Do_yesFTE (C bt : Nat) (Ap : Option Addr) (n cp : Nat) (l : List PairD) (Aa : Option Addr) (m ca : Nat) (q : List AcctD) (x : TxD) (w : World) (hT : TabX tb rs w C bt (.slice Ap n cp) (.slice Aa m ca) l q) (hl : PairsR w Ap n l) (hq : AcctsR w Aa m q) (hM : MayT l q) (hO : OkT l q x) (hh : khasA q x.se = false) (ht : khasP l x.k = true) (hv : x.v.size = 0) :
    Calls Try.prog 62 #[.pointer (some ⟨bt, 0, none⟩), .agg #[.int .i64 x.se, .int .i64 x.sq, .string x.k, .string x.v]] w fun e w' => e = .returned (.bool true) ∧ ∃ vp va, TabX tb rs w' C bt vp va (setP l x) (setA q x) ∧ DoK w w' bt (.slice Ap n cp) (.slice Aa m ca) vp va := by
  have HT := Lib.hid hT.blk
  have TR := Lib.hid hT
  have HPr := Lib.hid hl
  have HAr := Lib.hid hq
  have HN := Lib.hid hl.1
  have HMl := Lib.hid hq.1
  have HSP := Lib.hid hM.1.sorted
  have HSA := Lib.hid hM.2.sorted
  have hn : n ≤ 4096 := by rw [← hl.1]; exact hM.1.1
  have hm : m ≤ 4096 := by rw [← hq.1]; exact hM.2.1
  have HM := Lib.hid hM
  have HO := Lib.hid hO
  have hbt := hT.blk.lt
  have hC : C ≤ w.heap.size := Nat.le_trans hT.cb (Nat.le_of_lt hbt)
  obtain ⟨k, hk⟩ : ∃ k, kposP l x.k = k := ⟨_, rfl⟩
  obtain ⟨i, hi⟩ : ∃ i, kposA q x.se = i := ⟨_, rfl⟩
  have HK := Lib.hid hk
  have HI := Lib.hid hi
  have hty : txS x = true := hO.1
  have hkn : k ≤ n := by rw [← hk, ← hl.1]; exact cnt_le _ _
  have him0 : i ≤ m := by rw [← hi, ← hq.1]; exact cnt_le _ _
  clear hT hl hq hM hO hk hi
  have nil0 : x.v.size = 0 → (x.v.toList != []) = false ∧ (x.v.toList == []) = true := fun h => by rw [toList_nil.2 h]; exact ⟨rfl, rfl⟩
  have nil1 : ¬ x.v.size = 0 → (x.v.toList != []) = true ∧ (x.v.toList == []) = false := fun h => by rw [bne_iff_ne, beq_eq_false_iff_ne]; exact ⟨fun g => h (toList_nil.1 g), fun g => h (toList_nil.1 g)⟩
  have HHas := Lib.hid hh
  have hsq : x.sq = 1 := by
    have := HO.out.2.1
    unfold lastA at this
    rw [if_neg (by rw [hh]; simp)] at this
    simpa using this
  have hs1 : (x.sq == 1) = true := by simpa using hsq
  have hs2 : (x.sq != 1) = false := by simpa using hsq
  have hmf : m < 4096 := by
    rcases Nat.lt_or_ge m 4096 with h | h
    · exact h
    · exact absurd ⟨hh, by rw [HMl.out]; exact h⟩ HO.out.2.2.1
  have hmd : decide ((4096 : Int) ≤ (m : Int)) = false := by simp; omega
  have HSQ := Lib.hid hsq
  clear hh hsq
  have HTh := Lib.hid ht
  clear ht
  obtain ⟨hv1, hv2⟩ := nil0 hv
  have HV := Lib.hid hv
  clear nil0 nil1 hv
  go_enter Try.func62, Try.ntmps62
  go_wp2_with fail
  have hT1 : Blk (w.alloc (.cells #[.int .i64 x.se, .int .i64 x.sq, .string x.k, .string x.v] 81)) bt tb (.slice Ap n cp :: .slice Aa m ca :: rs) := HT.out.up (by (repeat (first | (with_reducible exact Below.refl _ _) | (with_reducible assumption) | (with_reducible apply bel_alloc) | (with_reducible apply bel_drew) | (with_reducible apply bel_drewN) | (with_reducible refine bel_trans ?_ (by with_reducible assumption)) | (with_reducible refine bel_trans ?_ (HF.out _)) | (with_reducible refine bel_set ?_ (by simp) _) | (with_reducible refine bel_set ?_ (by simp; omega) _) | (with_reducible refine bel_set ?_ (by omega) _))))
  have hX1 : Blk (w.alloc (.cells #[.int .i64 x.se, .int .i64 x.sq, .string x.k, .string x.v] 81)) w.heap.size 81 [.int .i64 x.se, .int .i64 x.sq, .string x.k, .string x.v] := Blk.new w 81 [.int .i64 x.se, .int .i64 x.sq, .string x.k, .string x.v]
  have hbX : Below w.heap.size w (w.alloc (.cells #[.int .i64 x.se, .int .i64 x.sq, .string x.k, .string x.v] 81)) := by (repeat (first | (with_reducible exact Below.refl _ _) | (with_reducible assumption) | (with_reducible apply bel_alloc) | (with_reducible apply bel_drew) | (with_reducible apply bel_drewN) | (with_reducible refine bel_trans ?_ (by with_reducible assumption)) | (with_reducible refine bel_trans ?_ (HF.out _)) | (with_reducible refine bel_set ?_ (by simp) _) | (with_reducible refine bel_set ?_ (by simp; omega) _) | (with_reducible refine bel_set ?_ (by omega) _)))
  generalize (w.alloc (.cells #[.int .i64 x.se, .int .i64 x.sq, .string x.k, .string x.v] 81)) = X at *
  have HT1 := Lib.hid hT1
  have HX1 := Lib.hid hX1
  have hbtX := hT1.lt
  have hxbX := hX1.lt
  have t_0 := (hT1.box).2 0 _ rfl; have t_1 := (hT1.box).2 1 _ rfl
  have x_0 := (hX1.box).2 0 _ rfl; have x_1 := (hX1.box).2 1 _ rfl; have x_2 := (hX1.box).2 2 _ rfl; have x_3 := (hX1.box).2 3 _ rfl
  clear hT1 hX1
  have HARX := Lib.hid (HAr.out.up hbX)
  refine wp_scope_fwd 0 DOF rfl ?_ (by intro a' w' h; exact h.elim)
  go_wp2_with fail
  refine wp_region_fam (by kernel_rfl) (by kernel_rfl) (fun ι F hne hF hcl => ?_)
  have hcF0 := fun n o => (bcell (hF n)).1 (bt) o (by first | (simp; done) | (simp; omega) | omega)
  have hcF1 := fun n o => (bcell (hF n)).1 (w.heap.size) o (by first | (simp; done) | (simp; omega) | omega)
  have HF := Lib.hid hF; clear hF
  have HC := Lib.hid hcl; clear hcl
  repeat (any_goals (first
   | go_big_quiet_step (first | (go_at_call 70; exact Calls.fam HC.out (bsf_A Aa m ca q x.se i _ _ (HARX.out.up (HF.out _)) HSA.out (by omega) HI.out HHas.out)))
   | (refine wpQuiet_guard _ _ _ rfl rfl ?_; (fail_if_success (intro b' hb; have h2 := hb.symm; have : b' = true := h2.trans (by with_reducible rfl))); (fail_if_success (intro b' hb; have h2 := hb.symm; have : b' = false := h2.trans (by with_reducible rfl))); intro b' hb; simp only [hb]; cases b' <;> (try simp only [Bool.not_eq_true', Bool.not_eq_false', decide_eq_true_eq, decide_eq_false_iff_not, Int.not_lt, Int.not_le, Bool.and_eq_true, Bool.or_eq_true, Bool.or_eq_false_iff, beq_iff_eq, beq_eq_false_iff_ne, Int.natCast_pos] at hb))))
  all_goals (refine wpQuiet_nil ?_; intro nq)
  have hFwf := HF.out nq
  clear HF HC hne
  generalize F nq = wf at *
  clear hcF0 hcF1
  have hbXf : Below w.heap.size w wf := bel_trans hbX hFwf
  have HT2 := Lib.hid (HT1.out.up hFwf)
  have HX2 := Lib.hid (HX1.out.up hFwf)
  have hbtXf := HT2.out.lt
  have hxbXf := HX2.out.lt
  clear t_0 t_1 x_0 x_1 x_2 x_3
  have t_0 := (HT2.out.box).2 0 _ rfl; have t_1 := (HT2.out.box).2 1 _ rfl
  have x_0 := (HX2.out.box).2 0 _ rfl; have x_1 := (HX2.out.box).2 1 _ rfl; have x_2 := (HX2.out.box).2 2 _ rfl; have x_3 := (HX2.out.box).2 3 _ rfl
  have HPRX := Lib.hid (HPr.out.up hbXf)
  go_wp2_with fail
  refine wp_region_fam (by kernel_rfl) (by kernel_rfl) (fun ι F hne hF hcl => ?_)
  have hcF0 := fun n o => (bcell (hF n)).1 (bt) o (by first | (simp; done) | (simp; omega) | omega)
  have hcF1 := fun n o => (bcell (hF n)).1 (w.heap.size) o (by first | (simp; done) | (simp; omega) | omega)
  have HF := Lib.hid hF; clear hF
  have HC := Lib.hid hcl; clear hcl
  repeat (any_goals (first
   | go_big_quiet_step (first | (go_at_call 72; exact Calls.fam HC.out (table_pair Ap n cp l _ x.k k _ _ (HPRX.out.up (HF.out _)) HSP.out (by omega) HK.out HTh.out rfl)))
   | (refine wpQuiet_guard _ _ _ rfl rfl ?_; (fail_if_success (intro b' hb; have h2 := hb.symm; have : b' = true := h2.trans (by with_reducible rfl))); (fail_if_success (intro b' hb; have h2 := hb.symm; have : b' = false := h2.trans (by with_reducible rfl))); intro b' hb; simp only [hb]; cases b' <;> (try simp only [Bool.not_eq_true', Bool.not_eq_false', decide_eq_true_eq, decide_eq_false_iff_not, Int.not_lt, Int.not_le, Bool.and_eq_true, Bool.or_eq_true, Bool.or_eq_false_iff, beq_iff_eq, beq_eq_false_iff_ne, Int.natCast_pos] at hb))))
  all_goals (refine wpQuiet_nil ?_; intro nq)
  have hFwg := HF.out nq
  clear HF HC hne
  generalize F nq = wg at *
  clear hcF0 hcF1
  have hbXg : Below w.heap.size w wg := bel_trans hbXf hFwg
  have HT3 := Lib.hid (HT2.out.up hFwg)
  have HX3 := Lib.hid (HX2.out.up hFwg)
  have hbtXg := HT3.out.lt
  have hxbXg := HX3.out.lt
  clear t_0 t_1 x_0 x_1 x_2 x_3
  have t_0 := (HT3.out.box).2 0 _ rfl; have t_1 := (HT3.out.box).2 1 _ rfl
  have x_0 := (HX3.out.box).2 0 _ rfl; have x_1 := (HX3.out.box).2 1 _ rfl; have x_2 := (HX3.out.box).2 2 _ rfl; have x_3 := (HX3.out.box).2 3 _ rfl
  go_wp2_with fail
  refine (batch_MayTx x _ _ hty).mono ?_
  rintro e w2 ⟨rfl, hb2⟩
  have hbXh : Below w.heap.size w w2 := bel_trans hbXg hb2
  have HT4 := Lib.hid (HT3.out.up hb2)
  have HX4 := Lib.hid (HX3.out.up hb2)
  have hbtXh := HT4.out.lt
  have hxbXh := HX4.out.lt
  clear t_0 t_1 x_0 x_1 x_2 x_3
  have t_0 := (HT4.out.box).2 0 _ rfl; have t_1 := (HT4.out.box).2 1 _ rfl
  have x_0 := (HX4.out.box).2 0 _ rfl; have x_1 := (HX4.out.box).2 1 _ rfl; have x_2 := (HX4.out.box).2 2 _ rfl; have x_3 := (HX4.out.box).2 3 _ rfl
  go_upto_if 76 with fail
  have hT5 := Lib.hid (TR.out.up hbXh)
  go_cut [] from 10 (fun wx => ∃ va q', DoR tb rs w wx C bt (.slice Ap n cp) l (.slice Aa m ca) q x i va q')
  case first =>
    go_wp2_with fail
    have hfb := HT4.out.frozen
    have hT6 : TabX tb rs ((w2.alloc (.cells #[.int .i64 x.se, .int .i64 0] 87)).drew) C bt (.slice Ap n cp) (.slice Aa m ca) l q := hT5.out.up (by (repeat (first | (with_reducible exact Below.refl _ _) | (with_reducible assumption) | (with_reducible apply bel_alloc) | (with_reducible apply bel_drew) | (with_reducible apply bel_drewN) | (with_reducible refine bel_trans ?_ (by with_reducible assumption)) | (with_reducible refine bel_trans ?_ (HF.out _)) | (with_reducible refine bel_set ?_ (by simp) _) | (with_reducible refine bel_set ?_ (by simp; omega) _) | (with_reducible refine bel_set ?_ (by omega) _))))
    have hX6 : Blk ((w2.alloc (.cells #[.int .i64 x.se, .int .i64 0] 87)).drew) w.heap.size 81 [.int .i64 x.se, .int .i64 x.sq, .string x.k, .string x.v] := HX4.out.up (by (repeat (first | (with_reducible exact Below.refl _ _) | (with_reducible assumption) | (with_reducible apply bel_alloc) | (with_reducible apply bel_drew) | (with_reducible apply bel_drewN) | (with_reducible refine bel_trans ?_ (by with_reducible assumption)) | (with_reducible refine bel_trans ?_ (HF.out _)) | (with_reducible refine bel_set ?_ (by simp) _) | (with_reducible refine bel_set ?_ (by simp; omega) _) | (with_reducible refine bel_set ?_ (by omega) _))))
    have hb6 : Below w.heap.size w ((w2.alloc (.cells #[.int .i64 x.se, .int .i64 0] 87)).drew) := by (repeat (first | (with_reducible exact Below.refl _ _) | (with_reducible assumption) | (with_reducible apply bel_alloc) | (with_reducible apply bel_drew) | (with_reducible apply bel_drewN) | (with_reducible refine bel_trans ?_ (by with_reducible assumption)) | (with_reducible refine bel_trans ?_ (HF.out _)) | (with_reducible refine bel_set ?_ (by simp) _) | (with_reducible refine bel_set ?_ (by simp; omega) _) | (with_reducible refine bel_set ?_ (by omega) _)))
    have hv6 : Blk ((w2.alloc (.cells #[.int .i64 x.se, .int .i64 0] 87)).drew) w2.heap.size 87 (encA ⟨x.se, 0⟩) := Blk.new w2 87 (encA ⟨x.se, 0⟩)
    have hC6 : C ≤ ((w2.alloc (.cells #[.int .i64 x.se, .int .i64 0] 87)).drew).heap.size := Nat.le_trans hC hb6.size
    have ho6 : ((w2.alloc (.cells #[.int .i64 x.se, .int .i64 0] 87)).drew).ownsRow C 87 2 (.slice Aa m ca) m (flat encA q) := by have q1 := hT6.a; unfold OwnA at q1; rw [HMl.out] at q1; exact q1
    have hne6 : (Value.slice Aa m ca).ownBlock ≠ some w2.heap.size := fun h => by have hq := (own_lt hT5.out.a _ h).2; omega
    have HT6 := Lib.hid hT6
    have HX6 := Lib.hid hX6
    have HB6 := Lib.hid hb6
    have HV6 := Lib.hid hv6
    have HO6 := Lib.hid ho6
    have HE6 := Lib.hid hne6
    clear hT6 hX6 hb6 hv6 ho6 hne6
    go_region_with (go_at_call 73; refine (slices_Insert_Acct _ C _ m i (flat encA q) (encA ⟨x.se, 0⟩) _ HO6.out him0 (by omega) HV6.out HE6.out (flat_oneCell encA_one q) (encA_one ⟨x.se, 0⟩) rfl hC6).mono ?_; rintro e w4 ⟨v4, rfl, hown4, hb4, hg4, hat4⟩; obtain ⟨A4, c4, rfl, _, _, _, _⟩ := own_row hown4 (by omega); have hB4 := HT6.out.blk.grown2 hg4 HT6.out.na; have f4 := hB4.frozen; have b41 := hB4.box.2 1 _ rfl)
    all_goals
      go_wp2_with fail
      go_meet
      have ho : OwnA w4 C (.slice A4 (m + 1) c4) (q.take i ++ [⟨x.se, 0⟩] ++ q.drop i) := by unfold OwnA; rw [ins_len _ _ _ (by rw [HMl.out]; exact him0), HMl.out, ← flat_insA]; exact hown4
      have hat : (Value.slice A4 (m + 1) c4).ownBlock = (Value.slice Aa m ca).ownBlock ∨ ∃ g, (Value.slice A4 (m + 1) c4).ownBlock = some g ∧ ((w2.alloc (.cells #[.int .i64 x.se, .int .i64 0] 87)).drew).heap.size ≤ g := hat4.imp id (fun e => ⟨_, e, Nat.le_refl _⟩)
      have hnx : (Value.slice Aa m ca).ownBlock ≠ some w.heap.size := fun e => (by have := (own_lt TR.out.a _ e).2; omega)
      exact ⟨_, q.take i ++ [⟨x.se, 0⟩] ++ q.drop i, { t := HT6.out.newA ho hg4 hat, bx := (HX6.out.grown2 hg4 hnx).far (p := ⟨bt, 1, none⟩) (by dsimp only; omega) _, lt := by rw [ins_len _ _ _ (by rw [HMl.out]; exact him0), HMl.out]; omega, le := by rw [ins_len _ _ _ (by rw [HMl.out]; exact him0), HMl.out]; omega, set := by rw [set_ins _ _ _ _ (by rw [HMl.out]; exact him0), ath_ins _ _ _ (by rw [HMl.out]; exact him0)]; unfold setA; rw [if_neg (by rw [HHas.out]; simp), HI.out], nv := (by rcases hat with e | ⟨g, e, hl⟩; (rw [e]; exact hnx); (rw [e]; intro e2; injection e2 with e2; have := HB6.out.size; have := HX6.out.lt; omega)), k := (DoK.of_below HB6.out).trans (DoK.newA hg4 hat) }⟩
  case rest =>
  obtain ⟨va, q', hd⟩ := hcut
  rcases own_shape hd.t.a with ⟨_, h0⟩ | ⟨g, cc, rfl, hgC, hcc⟩
  · exfalso; have := hd.lt; omega
  obtain ⟨m', hm'⟩ : ∃ m', q'.length = m' := ⟨_, rfl⟩
  rw [hm'] at hd hcc
  have him' : i < m' := by rw [← hm']; exact hd.lt
  have hm7 : m' ≤ 4097 := by rw [← hm']; exact hd.le
  have ha : wc.ownsRow C 87 2 (.slice (some ⟨g, 0, none⟩) m' cc) m' (flat encA q') := by have q1 := hd.t.a; unfold OwnA at q1; rw [hm'] at q1; exact q1
  obtain ⟨g1, f1⟩ := own_get ha
  have c1 : wc.cell? ⟨g, i * 2 + 1, none⟩ = some (.int .i64 (ath q' i).sq) := g1 _ _ (by rw [flat_at encA_len q' i 1 (by omega) (by omega)]; rfl)
  have hgl := (own_lt ha g rfl).2
  have hbxw := hd.bx.lt
  have t_0 := (hd.t.blk.box).2 0 _ rfl; have t_1 := (hd.t.blk.box).2 1 _ rfl
  have x_0 := (hd.bx.box).2 0 _ rfl; have x_1 := (hd.bx.box).2 1 _ rfl; have x_2 := (hd.bx.box).2 2 _ rfl; have x_3 := (hd.bx.box).2 3 _ rfl
  have HD := Lib.hid hd
  have HM' := Lib.hid hm'
  clear hd g1 ha hm'
  go_upto_region 10 with fail
  go_cut [] from 10 (fun wx => ∃ va, TabX tb rs wx C bt (.slice Ap n cp) va l (setA q x) ∧ Blk wx w.heap.size 81 [.int .i64 x.se, .int .i64 x.sq, .string x.k, .string x.v] ∧ va.ownBlock ≠ some w.heap.size ∧ DoK w wx bt (.slice Ap n cp) (.slice Aa m ca) (.slice Ap n cp) va)
  case first =>
    have hng : w.heap.size ≠ g := fun e => HD.out.nv (by rw [e]; rfl)
    have hT7 := (HD.out.t.up (w' := wc.drew) (by (repeat (first | (with_reducible exact Below.refl _ _) | (with_reducible assumption) | (with_reducible apply bel_alloc) | (with_reducible apply bel_drew) | (with_reducible apply bel_drewN) | (with_reducible refine bel_trans ?_ (by with_reducible assumption)) | (with_reducible refine bel_trans ?_ (HF.out _)) | (with_reducible refine bel_set ?_ (by simp) _) | (with_reducible refine bel_set ?_ (by simp; omega) _) | (with_reducible refine bel_set ?_ (by omega) _))))).putA (v := x.sq) HM'.out him'
    rw [HD.out.set] at hT7
    have hX7 := (HD.out.bx.up (w' := wc.drew) (by (repeat (first | (with_reducible exact Below.refl _ _) | (with_reducible assumption) | (with_reducible apply bel_alloc) | (with_reducible apply bel_drew) | (with_reducible apply bel_drewN) | (with_reducible refine bel_trans ?_ (by with_reducible assumption)) | (with_reducible refine bel_trans ?_ (HF.out _)) | (with_reducible refine bel_set ?_ (by simp) _) | (with_reducible refine bel_set ?_ (by simp; omega) _) | (with_reducible refine bel_set ?_ (by omega) _))))).far (p := ⟨g, i * 2 + 1, none⟩) hng (.int .i64 x.sq)
    have hK7 := (HD.out.k.up (w2 := wc.drew) (by (repeat (first | (with_reducible exact Below.refl _ _) | (with_reducible assumption) | (with_reducible apply bel_alloc) | (with_reducible apply bel_drew) | (with_reducible apply bel_drewN) | (with_reducible refine bel_trans ?_ (by with_reducible assumption)) | (with_reducible refine bel_trans ?_ (HF.out _)) | (with_reducible refine bel_set ?_ (by simp) _) | (with_reducible refine bel_set ?_ (by simp; omega) _) | (with_reducible refine bel_set ?_ (by omega) _))))).trans (DoK.putA (o := i * 2 + 1) (u := .int .i64 x.sq) rfl)
    have HT7 := Lib.hid hT7
    have HX7 := Lib.hid hX7
    have HK7 := Lib.hid hK7
    clear hT7 hX7 hK7
    go_wp2_with fail
    go_region
    all_goals
      go_wp2_with fail
      go_meet
      exact ⟨_, HT7.out, HX7.out, HD.out.nv, HK7.out⟩
  case rest =>
  obtain ⟨va, hT8, hX8, hnv, hk8⟩ := hcut
  clear f1 c1 hgl hbxw t_0 t_1 x_0 x_1 x_2 x_3
  have hxl := hX8.lt
  have hbl := hT8.blk.lt
  have x_0 := (hX8.box).2 0 _ rfl; have x_1 := (hX8.box).2 1 _ rfl; have x_2 := (hX8.box).2 2 _ rfl; have x_3 := (hX8.box).2 3 _ rfl
  have t_0 := (hT8.blk.box).2 0 _ rfl; have t_1 := (hT8.blk.box).2 1 _ rfl
  have hp8 : wc.ownsRow C 85 2 (.slice Ap n cp) n (flat encP l) := by have q1 := hT8.p; unfold OwnP at q1; rw [HN.out] at q1; exact q1
  obtain ⟨hkl, hkk⟩ := khasP_lt HK.out HTh.out
  rw [HN.out] at hkl
  have e : setP l x = l.take k ++ l.drop (k + 1) := by unfold setP; rw [if_pos HV.out, if_pos HTh.out, HK.out]
  have HE := Lib.hid e
  have HP8 := Lib.hid hp8
  have HT8 := Lib.hid hT8
  have HK8 := Lib.hid hk8
  clear hp8 hT8 hk8 e
  go_wp2_with fail
  refine (slices_Delete_P (.slice Ap n cp) l C n k _ HP8.out HN.out hkl (by omega)).mono ?_
  rintro e w9 ⟨v9, rfl, hown9, hg9, he9⟩
  obtain ⟨A9, c9, rfl, _, _, _, _⟩ := own_row hown9 (by omega)
  have hB9 := HT8.out.blk.grown2 hg9 HT8.out.np
  have f9 := hB9.frozen
  have b90 := hB9.box.2 0 _ rfl
  go_wp2_with fail
  simp only [Exit.jump]
  go_ret
  rw [HE.out]
  have ho9 : OwnP w9 C (.slice A9 (n - 1) c9) (l.take k ++ l.drop (k + 1)) := by
    unfold OwnP
    rw [show (l.take k ++ l.drop (k + 1)).length = n - 1 by have := HN.out; simp; omega]
    exact hown9
  exact ⟨rfl, _, va, HT8.out.newP ho9 hg9 (.inl he9), HK8.out.trans (DoK.newP hg9 (.inl he9))⟩
set_option maxRecDepth 100000 in
set_option maxHeartbeats 8000000 in
theorem table_Do_yesFTN (C bt : Nat) (Ap : Option Addr) (n cp : Nat) (l : List PairD) (Aa : Option Addr) (m ca : Nat) (q : List AcctD) (x : TxD) (w : World) (hT : TabX tb rs w C bt (.slice Ap n cp) (.slice Aa m ca) l q) (hl : PairsR w Ap n l) (hq : AcctsR w Aa m q) (hM : MayT l q) (hO : OkT l q x) (hh : khasA q x.se = false) (ht : khasP l x.k = true) (hv : ¬ x.v.size = 0) :
    Calls Try.prog 62 #[.pointer (some ⟨bt, 0, none⟩), .agg #[.int .i64 x.se, .int .i64 x.sq, .string x.k, .string x.v]] w fun e w' => e = .returned (.bool true) ∧ ∃ vp va, TabX tb rs w' C bt vp va (setP l x) (setA q x) ∧ DoK w w' bt (.slice Ap n cp) (.slice Aa m ca) vp va := by
  have HT := Lib.hid hT.blk
  have TR := Lib.hid hT
  have HPr := Lib.hid hl
  have HAr := Lib.hid hq
  have HN := Lib.hid hl.1
  have HMl := Lib.hid hq.1
  have HSP := Lib.hid hM.1.sorted
  have HSA := Lib.hid hM.2.sorted
  have hn : n ≤ 4096 := by rw [← hl.1]; exact hM.1.1
  have hm : m ≤ 4096 := by rw [← hq.1]; exact hM.2.1
  have HM := Lib.hid hM
  have HO := Lib.hid hO
  have hbt := hT.blk.lt
  have hC : C ≤ w.heap.size := Nat.le_trans hT.cb (Nat.le_of_lt hbt)
  obtain ⟨k, hk⟩ : ∃ k, kposP l x.k = k := ⟨_, rfl⟩
  obtain ⟨i, hi⟩ : ∃ i, kposA q x.se = i := ⟨_, rfl⟩
  have HK := Lib.hid hk
  have HI := Lib.hid hi
  have hty : txS x = true := hO.1
  have hkn : k ≤ n := by rw [← hk, ← hl.1]; exact cnt_le _ _
  have him0 : i ≤ m := by rw [← hi, ← hq.1]; exact cnt_le _ _
  clear hT hl hq hM hO hk hi
  have nil0 : x.v.size = 0 → (x.v.toList != []) = false ∧ (x.v.toList == []) = true := fun h => by rw [toList_nil.2 h]; exact ⟨rfl, rfl⟩
  have nil1 : ¬ x.v.size = 0 → (x.v.toList != []) = true ∧ (x.v.toList == []) = false := fun h => by rw [bne_iff_ne, beq_eq_false_iff_ne]; exact ⟨fun g => h (toList_nil.1 g), fun g => h (toList_nil.1 g)⟩
  have HHas := Lib.hid hh
  have hsq : x.sq = 1 := by
    have := HO.out.2.1
    unfold lastA at this
    rw [if_neg (by rw [hh]; simp)] at this
    simpa using this
  have hs1 : (x.sq == 1) = true := by simpa using hsq
  have hs2 : (x.sq != 1) = false := by simpa using hsq
  have hmf : m < 4096 := by
    rcases Nat.lt_or_ge m 4096 with h | h
    · exact h
    · exact absurd ⟨hh, by rw [HMl.out]; exact h⟩ HO.out.2.2.1
  have hmd : decide ((4096 : Int) ≤ (m : Int)) = false := by simp; omega
  have HSQ := Lib.hid hsq
  clear hh hsq
  have HTh := Lib.hid ht
  clear ht
  obtain ⟨hv1, hv2⟩ := nil1 hv
  have HV := Lib.hid hv
  clear nil0 nil1 hv
  go_enter Try.func62, Try.ntmps62
  go_wp2_with fail
  have hT1 : Blk (w.alloc (.cells #[.int .i64 x.se, .int .i64 x.sq, .string x.k, .string x.v] 81)) bt tb (.slice Ap n cp :: .slice Aa m ca :: rs) := HT.out.up (by (repeat (first | (with_reducible exact Below.refl _ _) | (with_reducible assumption) | (with_reducible apply bel_alloc) | (with_reducible apply bel_drew) | (with_reducible apply bel_drewN) | (with_reducible refine bel_trans ?_ (by with_reducible assumption)) | (with_reducible refine bel_trans ?_ (HF.out _)) | (with_reducible refine bel_set ?_ (by simp) _) | (with_reducible refine bel_set ?_ (by simp; omega) _) | (with_reducible refine bel_set ?_ (by omega) _))))
  have hX1 : Blk (w.alloc (.cells #[.int .i64 x.se, .int .i64 x.sq, .string x.k, .string x.v] 81)) w.heap.size 81 [.int .i64 x.se, .int .i64 x.sq, .string x.k, .string x.v] := Blk.new w 81 [.int .i64 x.se, .int .i64 x.sq, .string x.k, .string x.v]
  have hbX : Below w.heap.size w (w.alloc (.cells #[.int .i64 x.se, .int .i64 x.sq, .string x.k, .string x.v] 81)) := by (repeat (first | (with_reducible exact Below.refl _ _) | (with_reducible assumption) | (with_reducible apply bel_alloc) | (with_reducible apply bel_drew) | (with_reducible apply bel_drewN) | (with_reducible refine bel_trans ?_ (by with_reducible assumption)) | (with_reducible refine bel_trans ?_ (HF.out _)) | (with_reducible refine bel_set ?_ (by simp) _) | (with_reducible refine bel_set ?_ (by simp; omega) _) | (with_reducible refine bel_set ?_ (by omega) _)))
  generalize (w.alloc (.cells #[.int .i64 x.se, .int .i64 x.sq, .string x.k, .string x.v] 81)) = X at *
  have HT1 := Lib.hid hT1
  have HX1 := Lib.hid hX1
  have hbtX := hT1.lt
  have hxbX := hX1.lt
  have t_0 := (hT1.box).2 0 _ rfl; have t_1 := (hT1.box).2 1 _ rfl
  have x_0 := (hX1.box).2 0 _ rfl; have x_1 := (hX1.box).2 1 _ rfl; have x_2 := (hX1.box).2 2 _ rfl; have x_3 := (hX1.box).2 3 _ rfl
  clear hT1 hX1
  have HARX := Lib.hid (HAr.out.up hbX)
  refine wp_scope_fwd 0 DOF rfl ?_ (by intro a' w' h; exact h.elim)
  go_wp2_with fail
  refine wp_region_fam (by kernel_rfl) (by kernel_rfl) (fun ι F hne hF hcl => ?_)
  have hcF0 := fun n o => (bcell (hF n)).1 (bt) o (by first | (simp; done) | (simp; omega) | omega)
  have hcF1 := fun n o => (bcell (hF n)).1 (w.heap.size) o (by first | (simp; done) | (simp; omega) | omega)
  have HF := Lib.hid hF; clear hF
  have HC := Lib.hid hcl; clear hcl
  repeat (any_goals (first
   | go_big_quiet_step (first | (go_at_call 70; exact Calls.fam HC.out (bsf_A Aa m ca q x.se i _ _ (HARX.out.up (HF.out _)) HSA.out (by omega) HI.out HHas.out)))
   | (refine wpQuiet_guard _ _ _ rfl rfl ?_; (fail_if_success (intro b' hb; have h2 := hb.symm; have : b' = true := h2.trans (by with_reducible rfl))); (fail_if_success (intro b' hb; have h2 := hb.symm; have : b' = false := h2.trans (by with_reducible rfl))); intro b' hb; simp only [hb]; cases b' <;> (try simp only [Bool.not_eq_true', Bool.not_eq_false', decide_eq_true_eq, decide_eq_false_iff_not, Int.not_lt, Int.not_le, Bool.and_eq_true, Bool.or_eq_true, Bool.or_eq_false_iff, beq_iff_eq, beq_eq_false_iff_ne, Int.natCast_pos] at hb))))
  all_goals (refine wpQuiet_nil ?_; intro nq)
  have hFwf := HF.out nq
  clear HF HC hne
  generalize F nq = wf at *
  clear hcF0 hcF1
  have hbXf : Below w.heap.size w wf := bel_trans hbX hFwf
  have HT2 := Lib.hid (HT1.out.up hFwf)
  have HX2 := Lib.hid (HX1.out.up hFwf)
  have hbtXf := HT2.out.lt
  have hxbXf := HX2.out.lt
  clear t_0 t_1 x_0 x_1 x_2 x_3
  have t_0 := (HT2.out.box).2 0 _ rfl; have t_1 := (HT2.out.box).2 1 _ rfl
  have x_0 := (HX2.out.box).2 0 _ rfl; have x_1 := (HX2.out.box).2 1 _ rfl; have x_2 := (HX2.out.box).2 2 _ rfl; have x_3 := (HX2.out.box).2 3 _ rfl
  have HPRX := Lib.hid (HPr.out.up hbXf)
  go_wp2_with fail
  refine wp_region_fam (by kernel_rfl) (by kernel_rfl) (fun ι F hne hF hcl => ?_)
  have hcF0 := fun n o => (bcell (hF n)).1 (bt) o (by first | (simp; done) | (simp; omega) | omega)
  have hcF1 := fun n o => (bcell (hF n)).1 (w.heap.size) o (by first | (simp; done) | (simp; omega) | omega)
  have HF := Lib.hid hF; clear hF
  have HC := Lib.hid hcl; clear hcl
  repeat (any_goals (first
   | go_big_quiet_step (first | (go_at_call 72; exact Calls.fam HC.out (table_pair Ap n cp l _ x.k k _ _ (HPRX.out.up (HF.out _)) HSP.out (by omega) HK.out HTh.out rfl)))
   | (refine wpQuiet_guard _ _ _ rfl rfl ?_; (fail_if_success (intro b' hb; have h2 := hb.symm; have : b' = true := h2.trans (by with_reducible rfl))); (fail_if_success (intro b' hb; have h2 := hb.symm; have : b' = false := h2.trans (by with_reducible rfl))); intro b' hb; simp only [hb]; cases b' <;> (try simp only [Bool.not_eq_true', Bool.not_eq_false', decide_eq_true_eq, decide_eq_false_iff_not, Int.not_lt, Int.not_le, Bool.and_eq_true, Bool.or_eq_true, Bool.or_eq_false_iff, beq_iff_eq, beq_eq_false_iff_ne, Int.natCast_pos] at hb))))
  all_goals (refine wpQuiet_nil ?_; intro nq)
  have hFwg := HF.out nq
  clear HF HC hne
  generalize F nq = wg at *
  clear hcF0 hcF1
  have hbXg : Below w.heap.size w wg := bel_trans hbXf hFwg
  have HT3 := Lib.hid (HT2.out.up hFwg)
  have HX3 := Lib.hid (HX2.out.up hFwg)
  have hbtXg := HT3.out.lt
  have hxbXg := HX3.out.lt
  clear t_0 t_1 x_0 x_1 x_2 x_3
  have t_0 := (HT3.out.box).2 0 _ rfl; have t_1 := (HT3.out.box).2 1 _ rfl
  have x_0 := (HX3.out.box).2 0 _ rfl; have x_1 := (HX3.out.box).2 1 _ rfl; have x_2 := (HX3.out.box).2 2 _ rfl; have x_3 := (HX3.out.box).2 3 _ rfl
  go_wp2_with fail
  refine (batch_MayTx x _ _ hty).mono ?_
  rintro e w2 ⟨rfl, hb2⟩
  have hbXh : Below w.heap.size w w2 := bel_trans hbXg hb2
  have HT4 := Lib.hid (HT3.out.up hb2)
  have HX4 := Lib.hid (HX3.out.up hb2)
  have hbtXh := HT4.out.lt
  have hxbXh := HX4.out.lt
  clear t_0 t_1 x_0 x_1 x_2 x_3
  have t_0 := (HT4.out.box).2 0 _ rfl; have t_1 := (HT4.out.box).2 1 _ rfl
  have x_0 := (HX4.out.box).2 0 _ rfl; have x_1 := (HX4.out.box).2 1 _ rfl; have x_2 := (HX4.out.box).2 2 _ rfl; have x_3 := (HX4.out.box).2 3 _ rfl
  go_upto_if 76 with fail
  have hT5 := Lib.hid (TR.out.up hbXh)
  go_cut [] from 10 (fun wx => ∃ va q', DoR tb rs w wx C bt (.slice Ap n cp) l (.slice Aa m ca) q x i va q')
  case first =>
    go_wp2_with fail
    have hfb := HT4.out.frozen
    have hT6 : TabX tb rs ((w2.alloc (.cells #[.int .i64 x.se, .int .i64 0] 87)).drew) C bt (.slice Ap n cp) (.slice Aa m ca) l q := hT5.out.up (by (repeat (first | (with_reducible exact Below.refl _ _) | (with_reducible assumption) | (with_reducible apply bel_alloc) | (with_reducible apply bel_drew) | (with_reducible apply bel_drewN) | (with_reducible refine bel_trans ?_ (by with_reducible assumption)) | (with_reducible refine bel_trans ?_ (HF.out _)) | (with_reducible refine bel_set ?_ (by simp) _) | (with_reducible refine bel_set ?_ (by simp; omega) _) | (with_reducible refine bel_set ?_ (by omega) _))))
    have hX6 : Blk ((w2.alloc (.cells #[.int .i64 x.se, .int .i64 0] 87)).drew) w.heap.size 81 [.int .i64 x.se, .int .i64 x.sq, .string x.k, .string x.v] := HX4.out.up (by (repeat (first | (with_reducible exact Below.refl _ _) | (with_reducible assumption) | (with_reducible apply bel_alloc) | (with_reducible apply bel_drew) | (with_reducible apply bel_drewN) | (with_reducible refine bel_trans ?_ (by with_reducible assumption)) | (with_reducible refine bel_trans ?_ (HF.out _)) | (with_reducible refine bel_set ?_ (by simp) _) | (with_reducible refine bel_set ?_ (by simp; omega) _) | (with_reducible refine bel_set ?_ (by omega) _))))
    have hb6 : Below w.heap.size w ((w2.alloc (.cells #[.int .i64 x.se, .int .i64 0] 87)).drew) := by (repeat (first | (with_reducible exact Below.refl _ _) | (with_reducible assumption) | (with_reducible apply bel_alloc) | (with_reducible apply bel_drew) | (with_reducible apply bel_drewN) | (with_reducible refine bel_trans ?_ (by with_reducible assumption)) | (with_reducible refine bel_trans ?_ (HF.out _)) | (with_reducible refine bel_set ?_ (by simp) _) | (with_reducible refine bel_set ?_ (by simp; omega) _) | (with_reducible refine bel_set ?_ (by omega) _)))
    have hv6 : Blk ((w2.alloc (.cells #[.int .i64 x.se, .int .i64 0] 87)).drew) w2.heap.size 87 (encA ⟨x.se, 0⟩) := Blk.new w2 87 (encA ⟨x.se, 0⟩)
    have hC6 : C ≤ ((w2.alloc (.cells #[.int .i64 x.se, .int .i64 0] 87)).drew).heap.size := Nat.le_trans hC hb6.size
    have ho6 : ((w2.alloc (.cells #[.int .i64 x.se, .int .i64 0] 87)).drew).ownsRow C 87 2 (.slice Aa m ca) m (flat encA q) := by have q1 := hT6.a; unfold OwnA at q1; rw [HMl.out] at q1; exact q1
    have hne6 : (Value.slice Aa m ca).ownBlock ≠ some w2.heap.size := fun h => by have hq := (own_lt hT5.out.a _ h).2; omega
    have HT6 := Lib.hid hT6
    have HX6 := Lib.hid hX6
    have HB6 := Lib.hid hb6
    have HV6 := Lib.hid hv6
    have HO6 := Lib.hid ho6
    have HE6 := Lib.hid hne6
    clear hT6 hX6 hb6 hv6 ho6 hne6
    go_region_with (go_at_call 73; refine (slices_Insert_Acct _ C _ m i (flat encA q) (encA ⟨x.se, 0⟩) _ HO6.out him0 (by omega) HV6.out HE6.out (flat_oneCell encA_one q) (encA_one ⟨x.se, 0⟩) rfl hC6).mono ?_; rintro e w4 ⟨v4, rfl, hown4, hb4, hg4, hat4⟩; obtain ⟨A4, c4, rfl, _, _, _, _⟩ := own_row hown4 (by omega); have hB4 := HT6.out.blk.grown2 hg4 HT6.out.na; have f4 := hB4.frozen; have b41 := hB4.box.2 1 _ rfl)
    all_goals
      go_wp2_with fail
      go_meet
      have ho : OwnA w4 C (.slice A4 (m + 1) c4) (q.take i ++ [⟨x.se, 0⟩] ++ q.drop i) := by unfold OwnA; rw [ins_len _ _ _ (by rw [HMl.out]; exact him0), HMl.out, ← flat_insA]; exact hown4
      have hat : (Value.slice A4 (m + 1) c4).ownBlock = (Value.slice Aa m ca).ownBlock ∨ ∃ g, (Value.slice A4 (m + 1) c4).ownBlock = some g ∧ ((w2.alloc (.cells #[.int .i64 x.se, .int .i64 0] 87)).drew).heap.size ≤ g := hat4.imp id (fun e => ⟨_, e, Nat.le_refl _⟩)
      have hnx : (Value.slice Aa m ca).ownBlock ≠ some w.heap.size := fun e => (by have := (own_lt TR.out.a _ e).2; omega)
      exact ⟨_, q.take i ++ [⟨x.se, 0⟩] ++ q.drop i, { t := HT6.out.newA ho hg4 hat, bx := (HX6.out.grown2 hg4 hnx).far (p := ⟨bt, 1, none⟩) (by dsimp only; omega) _, lt := by rw [ins_len _ _ _ (by rw [HMl.out]; exact him0), HMl.out]; omega, le := by rw [ins_len _ _ _ (by rw [HMl.out]; exact him0), HMl.out]; omega, set := by rw [set_ins _ _ _ _ (by rw [HMl.out]; exact him0), ath_ins _ _ _ (by rw [HMl.out]; exact him0)]; unfold setA; rw [if_neg (by rw [HHas.out]; simp), HI.out], nv := (by rcases hat with e | ⟨g, e, hl⟩; (rw [e]; exact hnx); (rw [e]; intro e2; injection e2 with e2; have := HB6.out.size; have := HX6.out.lt; omega)), k := (DoK.of_below HB6.out).trans (DoK.newA hg4 hat) }⟩
  case rest =>
  obtain ⟨va, q', hd⟩ := hcut
  rcases own_shape hd.t.a with ⟨_, h0⟩ | ⟨g, cc, rfl, hgC, hcc⟩
  · exfalso; have := hd.lt; omega
  obtain ⟨m', hm'⟩ : ∃ m', q'.length = m' := ⟨_, rfl⟩
  rw [hm'] at hd hcc
  have him' : i < m' := by rw [← hm']; exact hd.lt
  have hm7 : m' ≤ 4097 := by rw [← hm']; exact hd.le
  have ha : wc.ownsRow C 87 2 (.slice (some ⟨g, 0, none⟩) m' cc) m' (flat encA q') := by have q1 := hd.t.a; unfold OwnA at q1; rw [hm'] at q1; exact q1
  obtain ⟨g1, f1⟩ := own_get ha
  have c1 : wc.cell? ⟨g, i * 2 + 1, none⟩ = some (.int .i64 (ath q' i).sq) := g1 _ _ (by rw [flat_at encA_len q' i 1 (by omega) (by omega)]; rfl)
  have hgl := (own_lt ha g rfl).2
  have hbxw := hd.bx.lt
  have t_0 := (hd.t.blk.box).2 0 _ rfl; have t_1 := (hd.t.blk.box).2 1 _ rfl
  have x_0 := (hd.bx.box).2 0 _ rfl; have x_1 := (hd.bx.box).2 1 _ rfl; have x_2 := (hd.bx.box).2 2 _ rfl; have x_3 := (hd.bx.box).2 3 _ rfl
  have HD := Lib.hid hd
  have HM' := Lib.hid hm'
  clear hd g1 ha hm'
  go_upto_region 10 with fail
  go_cut [] from 10 (fun wx => ∃ va, TabX tb rs wx C bt (.slice Ap n cp) va l (setA q x) ∧ Blk wx w.heap.size 81 [.int .i64 x.se, .int .i64 x.sq, .string x.k, .string x.v] ∧ va.ownBlock ≠ some w.heap.size ∧ DoK w wx bt (.slice Ap n cp) (.slice Aa m ca) (.slice Ap n cp) va)
  case first =>
    have hng : w.heap.size ≠ g := fun e => HD.out.nv (by rw [e]; rfl)
    have hT7 := (HD.out.t.up (w' := wc.drew) (by (repeat (first | (with_reducible exact Below.refl _ _) | (with_reducible assumption) | (with_reducible apply bel_alloc) | (with_reducible apply bel_drew) | (with_reducible apply bel_drewN) | (with_reducible refine bel_trans ?_ (by with_reducible assumption)) | (with_reducible refine bel_trans ?_ (HF.out _)) | (with_reducible refine bel_set ?_ (by simp) _) | (with_reducible refine bel_set ?_ (by simp; omega) _) | (with_reducible refine bel_set ?_ (by omega) _))))).putA (v := x.sq) HM'.out him'
    rw [HD.out.set] at hT7
    have hX7 := (HD.out.bx.up (w' := wc.drew) (by (repeat (first | (with_reducible exact Below.refl _ _) | (with_reducible assumption) | (with_reducible apply bel_alloc) | (with_reducible apply bel_drew) | (with_reducible apply bel_drewN) | (with_reducible refine bel_trans ?_ (by with_reducible assumption)) | (with_reducible refine bel_trans ?_ (HF.out _)) | (with_reducible refine bel_set ?_ (by simp) _) | (with_reducible refine bel_set ?_ (by simp; omega) _) | (with_reducible refine bel_set ?_ (by omega) _))))).far (p := ⟨g, i * 2 + 1, none⟩) hng (.int .i64 x.sq)
    have hK7 := (HD.out.k.up (w2 := wc.drew) (by (repeat (first | (with_reducible exact Below.refl _ _) | (with_reducible assumption) | (with_reducible apply bel_alloc) | (with_reducible apply bel_drew) | (with_reducible apply bel_drewN) | (with_reducible refine bel_trans ?_ (by with_reducible assumption)) | (with_reducible refine bel_trans ?_ (HF.out _)) | (with_reducible refine bel_set ?_ (by simp) _) | (with_reducible refine bel_set ?_ (by simp; omega) _) | (with_reducible refine bel_set ?_ (by omega) _))))).trans (DoK.putA (o := i * 2 + 1) (u := .int .i64 x.sq) rfl)
    have HT7 := Lib.hid hT7
    have HX7 := Lib.hid hX7
    have HK7 := Lib.hid hK7
    clear hT7 hX7 hK7
    go_wp2_with fail
    go_region
    all_goals
      go_wp2_with fail
      go_meet
      exact ⟨_, HT7.out, HX7.out, HD.out.nv, HK7.out⟩
  case rest =>
  obtain ⟨va, hT8, hX8, hnv, hk8⟩ := hcut
  clear f1 c1 hgl hbxw t_0 t_1 x_0 x_1 x_2 x_3
  have hxl := hX8.lt
  have hbl := hT8.blk.lt
  have x_0 := (hX8.box).2 0 _ rfl; have x_1 := (hX8.box).2 1 _ rfl; have x_2 := (hX8.box).2 2 _ rfl; have x_3 := (hX8.box).2 3 _ rfl
  have t_0 := (hT8.blk.box).2 0 _ rfl; have t_1 := (hT8.blk.box).2 1 _ rfl
  have hp8 : wc.ownsRow C 85 2 (.slice Ap n cp) n (flat encP l) := by have q1 := hT8.p; unfold OwnP at q1; rw [HN.out] at q1; exact q1
  obtain ⟨hkl, hkk⟩ := khasP_lt HK.out HTh.out
  rw [HN.out] at hkl
  have e : setP l x = l.set k ⟨(pth l k).k, x.v⟩ := by unfold setP; rw [if_neg HV.out, if_pos HTh.out, HK.out, hkk]
  have HE := Lib.hid e
  rcases own_shape hp8 with ⟨_, h0⟩ | ⟨g8, c8, e8, hgC8, hcc8⟩
  · omega
  injection e8 with e81 e82 e83
  subst e81; subst e83
  obtain ⟨g1, f1⟩ := own_get hp8
  have c1 : wc.cell? ⟨g8, k * 2 + 1, none⟩ = some (.string (pth l k).v) := g1 _ _ (by rw [flat_at encP_len l k 1 (by rw [HN.out]; exact hkl) (by omega)]; rfl)
  have hgl := (own_lt hp8 g8 rfl).2
  have hT9 := (hT8.up (w' := wc.drew) (by (repeat (first | (with_reducible exact Below.refl _ _) | (with_reducible assumption) | (with_reducible apply bel_alloc) | (with_reducible apply bel_drew) | (with_reducible apply bel_drewN) | (with_reducible refine bel_trans ?_ (by with_reducible assumption)) | (with_reducible refine bel_trans ?_ (HF.out _)) | (with_reducible refine bel_set ?_ (by simp) _) | (with_reducible refine bel_set ?_ (by simp; omega) _) | (with_reducible refine bel_set ?_ (by omega) _))))).putP (v := x.v) HN.out hkl
  have hK9 := (hk8.up (w2 := wc.drew) (by (repeat (first | (with_reducible exact Below.refl _ _) | (with_reducible assumption) | (with_reducible apply bel_alloc) | (with_reducible apply bel_drew) | (with_reducible apply bel_drewN) | (with_reducible refine bel_trans ?_ (by with_reducible assumption)) | (with_reducible refine bel_trans ?_ (HF.out _)) | (with_reducible refine bel_set ?_ (by simp) _) | (with_reducible refine bel_set ?_ (by simp; omega) _) | (with_reducible refine bel_set ?_ (by omega) _))))).trans (DoK.putP (o := k * 2 + 1) (u := .string x.v) rfl)
  have HT9 := Lib.hid hT9
  have HK9 := Lib.hid hK9
  clear hp8 hT8 hk8 e g1 hT9 hK9
  go_wp2_with fail
  go_region
  all_goals
    go_wp2_with fail
    simp only [Exit.jump]
    go_ret
    rw [HE.out]
    exact ⟨rfl, _, va, HT9.out, HK9.out⟩
end Go.Proofs.Ytbakkpabiknlmaa
