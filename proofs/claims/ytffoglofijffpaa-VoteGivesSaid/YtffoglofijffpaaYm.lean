/- Votes: one more, at the reference. -/
import Derived.Test.YtffoglofijffpaaYj
import Derived.Deep.RegionLaw
namespace Go.Proofs.Ytffoglofijffpaa
open Go.RowKit
set_option linter.unusedSimpArgs false
set_option linter.unusedVariables false

theorem step_appV {ops : Array Oper} {o : Oper} {a : Act} {w : World} {K : Act → World → Prop} {Q : Exit → Act → World → Prop} {E : Prop}
    (hg : o.guard = none) (s x : Operand) (ho : o.op = .call { callee := .builtin .append, args := #[s, x], argTypes := #[51, 51] }) (hty : o.type = 51)
    (B : Nat) (v : Value) (l : List VoteD) (hs : a.eval s = v) (hown : OwnV w B v l) (vb off m c : Nat) (e : List VoteD) (hx : a.eval x = .slice (some ⟨vb, off, none⟩) m c) (hm : e.length = m) (hv : ∀ j u, (flat encV e)[j]? = some u → w.cell? ⟨vb, off + j, none⟩ = some u)
    (hlen : l.length + m ≤ 900000000) (hB : B ≤ w.heap.size)
    (h : ∀ v' w', OwnV w' B v' (l ++ e) → Below B w w' → K (a.put o.dst v') w') :
    if Region.wanted o (yielded ops a.tmps) = true then Oper.wp Try.prog o a w K Q else E := by
  have hw : Region.wanted o (yielded ops a.tmps) = true := by simp [Region.wanted, hg]
  rw [if_pos hw]
  obtain ⟨v', w', hrun, h2, h3, h4, h5⟩ := run_app_Vote w B v l.length (flat encV l) hown vb off m c (flat encV e) (by rw [flat_len encV_len, hm]) hv (flat_oneCell encV_one e) (by omega) hB
  have hown' : OwnV w' B v' (l ++ e) := by unfold OwnV; rw [List.length_append, hm, flat_app]; exact h2
  exact Lib.wp_append_run w s x _ _ ho v _ hs hx v' w' (by rw [hty]; exact hrun) (h v' w' hown' h4)
/-- append of nothing. -/
theorem wpList_app0V {w : World} {ops : Array Oper} {rest : List Oper} {o : Oper} {a : Act} {Q : Exit → Act → World → Prop} (hgd : o.guard = none) (s x : Operand)
    (ho : o.op = .call { callee := .builtin .append, args := #[s, x], argTypes := #[51, 51] })
    (g n cap : Nat) (hs : a.eval s = .slice (some ⟨g, 0, none⟩) n cap) (hnc : n ≤ cap) (xa : Option Addr) (c : Nat) (hx : a.eval x = .slice xa 0 c)
    (h : wpList Try.prog ops Q rest (a.put o.dst (.slice (some ⟨g, 0, none⟩) n cap)) w) : wpList Try.prog ops Q (o :: rest) a w := by
  obtain ⟨i0, hi, hz, hz1, hz2⟩ := info_parts info_Vote
  have hrun : (Builtin.append_ #[51, 51] o.type #[.slice (some ⟨g, 0, none⟩) n cap, .slice xa 0 c]).run Try.prog w = .ok (.slice (some ⟨g, 0, none⟩) n cap) w := by
    cases xa <;> simp [Builtin.append_, run_underlying Try.underlying51, sizeOf, typeInfo, hi, Builtin.lenOf, Builtin.firstCells, loadCells, loadCellsFrom, hnc, storeCells]
  exact Lib.wpList_append_run w hgd s x _ _ ho _ _ hs hx _ _ hrun h
theorem drop_cells {w : World} {b off n : Nat} {l : List VoteD} {i : Nat} (h : VotesR w (some ⟨b, off, none⟩) n l) (hi : i < n) : ∀ j u, (flat encV (l.drop i))[j]? = some u → w.cell? ⟨b, off + i * 3 + j, none⟩ = some u := fun j u hj => by
  obtain ⟨b', off', e, hb, hc⟩ := h.2.2.2 (by omega)
  injection e with e; injection e with e1 e2 e3
  subst e1; subst e2
  rw [flat_drop encV_len, List.getElem?_drop] at hj
  rw [Nat.add_assoc]
  exact hc _ u hj
theorem VotesR.take {w : World} {A : Option Addr} {n i : Nat} {l : List VoteD} (h : VotesR w A n l) (hi : i ≤ n) : VotesR w A i (l.take i) := by
  refine ⟨by rw [List.length_take, h.1]; omega, by rw [flat_len encV_len, List.length_take, h.1]; rw [Nat.min_eq_left hi], by have := h.2.2.1; omega, fun h0 => ?_⟩
  obtain ⟨b, off, e, hb, hc⟩ := h.2.2.2 (by omega)
  refine ⟨b, off, e, hb, fun j u hj => hc j u ?_⟩
  rw [flat_take encV_len, List.getElem?_take] at hj
  split at hj
  · exact hj
  · cases hj
set_option maxRecDepth 100000 in
set_option maxHeartbeats 2000000 in
theorem ref19_Give_no (A : Option Addr) (n c : Nat) (l : List VoteD) (v : VoteD) (y : Int) (w : World) (hl : VotesR w A n l) (hM : MayV l) (hy : giE l v = y) (h0 : ¬ y = 0) :
    Calls Try.prog 37 #[.slice A n c, .agg #[.int .i64 v.ro, .int .i64 v.au, .int .i64 v.di]] w fun e w' => e = .returned (.tuple #[.slice A n c, .int .i64 y]) ∧ Below w.heap.size w w' := by
  have HL := Lib.hid hl
  have HN := Lib.hid hl.1
  have hnn : n ≤ 65536 := by have := hM.1; rw [HN.out] at this; exact this
  have hmay := mayV_iff.2 hM
  have HMM := Lib.hid hM
  clear hl hM
  cases hv : voteS v
  · have e1 : y = 1 := by rw [← hy]; simp [giE, hv]
    subst e1
    have HV := Lib.hid hv
    clear hv hy hmay h0
    go_enter Try.func37, Try.ntmps37
    go_wp2_with fail
    refine (ref19_vote v false _ HV.out).mono ?_
    rintro e w1 ⟨rfl, hb1⟩
    go_wp2_with fail
    go_ret2
    exact ⟨rfl, by (repeat (first | (with_reducible exact Below.refl _ _) | (with_reducible assumption) | (with_reducible apply bel_alloc) | (with_reducible apply bel_drew) | (with_reducible apply bel_drewN) | (with_reducible refine bel_trans ?_ (by with_reducible assumption)) | (with_reducible refine bel_trans ?_ (HF.out _)) | (with_reducible refine bel_set ?_ (by simp) _) | (with_reducible refine bel_set ?_ (by simp; omega) _) | (with_reducible refine bel_set ?_ (by omega) _)))⟩
  · have HV := Lib.hid hv
    have s1 := voteS_iff.1 hv
    by_cases h1 : hasV l v.ro v.au = 0
    · have hn8 : n = 65536 ∧ y = 8 := by
        by_cases hq : n < 65536
        · exfalso; apply h0; rw [← hy]; simp [giE, hmay, hv, h1, HN.out, hq]
        · exact ⟨by omega, by rw [← hy]; simp [giE, hmay, hv, h1, HN.out, hq]⟩
      obtain ⟨rfl, rfl⟩ := hn8
      have H1 := Lib.hid h1
      have hd : ((0 : Int) == v.di) = false := by simp; omega
      clear hv hy hmay h0 h1 hnn s1
      go_enter Try.func37, Try.ntmps37
      go_wp2_with fail
      refine (ref19_vote v true _ HV.out).mono ?_
      rintro e w1 ⟨rfl, hb1⟩
      have hB1 : BoxR w1 w.heap.size [.int .i64 v.ro, .int .i64 v.au, .int .i64 v.di] := (BoxR.new w [.int .i64 v.ro, .int .i64 v.au, .int .i64 v.di] 67).up hb1
      have hbw1 : Below w.heap.size w w1 := by (repeat (first | (with_reducible exact Below.refl _ _) | (with_reducible assumption) | (with_reducible apply bel_alloc) | (with_reducible apply bel_drew) | (with_reducible apply bel_drewN) | (with_reducible refine bel_trans ?_ (by with_reducible assumption)) | (with_reducible refine bel_trans ?_ (HF.out _)) | (with_reducible refine bel_set ?_ (by simp) _) | (with_reducible refine bel_set ?_ (by simp; omega) _) | (with_reducible refine bel_set ?_ (by omega) _)))
      have b_0 := (hB1).2 0 _ rfl; have b_1 := (hB1).2 1 _ rfl; have b_2 := (hB1).2 2 _ rfl
      go_wp2_with fail
      refine (ref19_Has A 65536 c l v.ro v.au 0 _ (HL.out.up hbw1) H1.out).mono ?_
      rintro e w2 ⟨rfl, rfl⟩
      go_wp2_with fail
      go_ret2
      exact ⟨rfl, hbw1⟩
    · obtain ⟨z, hz⟩ : ∃ z, hasV l v.ro v.au = z := ⟨_, rfl⟩
      have hzp : 0 < z := by
        rcases hasF_cases v.ro v.au l with ⟨g1, _⟩ | ⟨j, g1, g2, _, _⟩
        · exact absurd g1 h1
        · have := voteS_iff.1 (HMM.out.2 j g1).1
          have e : hasV l v.ro v.au = (vth l j).di := g2
          omega
      rw [hz] at h1
      have HZ := Lib.hid hz
      have hgt : decide (0 < z) = true := by simpa using hzp
      by_cases h2 : z = v.di
      · have e1 : y = 4 := by rw [← hy]; simp [giE, hmay, hv, hz, h1, ← h2]
        subst e1
        have hzb : (z == v.di) = true := by simpa using h2
        clear hv hy hmay h0 h1 h2 s1 hz
        go_enter Try.func37, Try.ntmps37
        go_wp2_with fail
        refine (ref19_vote v true _ HV.out).mono ?_
        rintro e w1 ⟨rfl, hb1⟩
        have hB1 : BoxR w1 w.heap.size [.int .i64 v.ro, .int .i64 v.au, .int .i64 v.di] := (BoxR.new w [.int .i64 v.ro, .int .i64 v.au, .int .i64 v.di] 67).up hb1
        have hbw1 : Below w.heap.size w w1 := by (repeat (first | (with_reducible exact Below.refl _ _) | (with_reducible assumption) | (with_reducible apply bel_alloc) | (with_reducible apply bel_drew) | (with_reducible apply bel_drewN) | (with_reducible refine bel_trans ?_ (by with_reducible assumption)) | (with_reducible refine bel_trans ?_ (HF.out _)) | (with_reducible refine bel_set ?_ (by simp) _) | (with_reducible refine bel_set ?_ (by simp; omega) _) | (with_reducible refine bel_set ?_ (by omega) _)))
        have b_0 := (hB1).2 0 _ rfl; have b_1 := (hB1).2 1 _ rfl; have b_2 := (hB1).2 2 _ rfl
        go_wp2_with fail
        refine (ref19_Has A n c l v.ro v.au z _ (HL.out.up hbw1) HZ.out).mono ?_
        rintro e w2 ⟨rfl, rfl⟩
        go_wp2_with fail
        go_ret2
        exact ⟨rfl, hbw1⟩
      · have e1 : y = 5 := by rw [← hy]; simp [giE, hmay, hv, hz, h1, h2]
        subst e1
        have hzb : (z == v.di) = false := by simpa using h2
        clear hv hy hmay h0 h1 h2 s1 hz
        go_enter Try.func37, Try.ntmps37
        go_wp2_with fail
        refine (ref19_vote v true _ HV.out).mono ?_
        rintro e w1 ⟨rfl, hb1⟩
        have hB1 : BoxR w1 w.heap.size [.int .i64 v.ro, .int .i64 v.au, .int .i64 v.di] := (BoxR.new w [.int .i64 v.ro, .int .i64 v.au, .int .i64 v.di] 67).up hb1
        have hbw1 : Below w.heap.size w w1 := by (repeat (first | (with_reducible exact Below.refl _ _) | (with_reducible assumption) | (with_reducible apply bel_alloc) | (with_reducible apply bel_drew) | (with_reducible apply bel_drewN) | (with_reducible refine bel_trans ?_ (by with_reducible assumption)) | (with_reducible refine bel_trans ?_ (HF.out _)) | (with_reducible refine bel_set ?_ (by simp) _) | (with_reducible refine bel_set ?_ (by simp; omega) _) | (with_reducible refine bel_set ?_ (by omega) _)))
        have b_0 := (hB1).2 0 _ rfl; have b_1 := (hB1).2 1 _ rfl; have b_2 := (hB1).2 2 _ rfl
        go_wp2_with fail
        refine (ref19_Has A n c l v.ro v.au z _ (HL.out.up hbw1) HZ.out).mono ?_
        rintro e w2 ⟨rfl, rfl⟩
        go_wp2_with fail
        go_ret2
        exact ⟨rfl, hbw1⟩
set_option maxRecDepth 100000 in
set_option maxHeartbeats 4000000 in
theorem ref19_Give_ok (A : Option Addr) (n c : Nat) (l : List VoteD) (v : VoteD) (w : World) (hl : VotesR w A n l) (hM : MayV l) (hy : giE l v = 0) (hcap : n ≤ c) (hcb : c ≤ 9223372036854775807) :
    Calls Try.prog 37 #[.slice A n c, .agg #[.int .i64 v.ro, .int .i64 v.au, .int .i64 v.di]] w fun e w' => ∃ u, e = .returned (.tuple #[u, .int .i64 0]) ∧ OwnV w' w.heap.size u (insV l v) ∧ Below w.heap.size w w' := by
  have HL := Lib.hid hl
  have HN := Lib.hid hl.1
  obtain ⟨_, hv, h1, hnn⟩ := giE_zero hy
  rw [HN.out] at hnn
  have s1 := voteS_iff.1 hv
  have HV := Lib.hid hv
  have H1 := Lib.hid h1
  have hd : ((0 : Int) == v.di) = false := by simp; omega
  have hpl := posV_le v l
  rw [HN.out] at hpl
  obtain ⟨lo, hlo⟩ : ∃ lo, lo = posV l v := ⟨_, rfl⟩
  rw [← hlo] at hpl
  have hbef : ∀ i, i ≤ lo → (i < lo → befV (vth l i) v = true) ∧ (i = lo → i < n → befV (vth l i) v = false) := by
    intro i hi
    have hq : ∀ (m : List VoteD), (∀ t, t < posV m v → befV (vth m t) v = true) ∧ (posV m v < m.length → befV (vth m (posV m v)) v = false) := by
      intro m
      induction m with
      | nil => exact ⟨fun t ht => absurd ht (by simp [posV]), fun h => absurd h (by simp)⟩
      | cons x m ih =>
        cases hx : befV x v
        · have e : posV (x :: m) v = 0 := by rw [posV, if_neg (by rw [hx]; simp)]
          rw [e]
          exact ⟨fun t ht => absurd ht (by omega), fun _ => hx⟩
        · have e : posV (x :: m) v = posV m v + 1 := by rw [posV, if_pos hx]
          rw [e]
          refine ⟨fun t ht => ?_, fun h => ?_⟩
          · cases t with
            | zero => exact hx
            | succ t => exact ih.1 t (by omega)
          · exact ih.2 (by simpa using h)
    refine ⟨fun h => (hq l).1 i (by omega), fun h h' => ?_⟩
    have := (hq l).2 (by rw [HN.out]; omega)
    rw [h, hlo]; exact this
  have HBEF := Lib.hid hbef
  have HLO := Lib.hid hlo
  have hge : decide ((65536 : Int) ≤ (n : Int)) = false := by rw [decide_eq_false_iff_not]; omega
  have hnn2 : (n : Int) < 65536 := by omega
  clear hl hM hy hv h1 s1 hbef hlo hnn
  go_enter Try.func37, Try.ntmps37
  go_wp2_with fail
  refine (ref19_vote v true _ HV.out).mono ?_
  rintro e w1 ⟨rfl, hb1⟩
  have hB1 : BoxR w1 w.heap.size [.int .i64 v.ro, .int .i64 v.au, .int .i64 v.di] := (BoxR.new w [.int .i64 v.ro, .int .i64 v.au, .int .i64 v.di] 67).up hb1
  have hbw1 : Below w.heap.size w w1 := by (repeat (first | (with_reducible exact Below.refl _ _) | (with_reducible assumption) | (with_reducible apply bel_alloc) | (with_reducible apply bel_drew) | (with_reducible apply bel_drewN) | (with_reducible refine bel_trans ?_ (by with_reducible assumption)) | (with_reducible refine bel_trans ?_ (HF.out _)) | (with_reducible refine bel_set ?_ (by simp) _) | (with_reducible refine bel_set ?_ (by simp; omega) _) | (with_reducible refine bel_set ?_ (by omega) _)))
  have b_0 := (hB1).2 0 _ rfl; have b_1 := (hB1).2 1 _ rfl; have b_2 := (hB1).2 2 _ rfl
  go_wp2_with fail
  refine (ref19_Has A n c l v.ro v.au 0 _ (HL.out.up hbw1) H1.out).mono ?_
  rintro e w2 ⟨rfl, rfl⟩
  clear b_0 b_1 b_2
  have b_0 := (hB1).2 0 _ rfl; have b_1 := (hB1).2 1 _ rfl; have b_2 := (hB1).2 2 _ rfl
  go_wp2_with fail
  clear b_0 b_1 b_2
  go_loopw [7] (fun ix wr => ∃ i : Nat, i ≤ lo ∧ ix = .int .i64 i ∧ Below w1.heap.size w1 wr) (fun ix _ => lo - (intOf ix).toNat)
  case atStart => exact ⟨0, Nat.zero_le _, rfl, Below.refl _ _⟩
  case round =>
    obtain ⟨i, hi, rfl, hbx⟩ := hrel
    (obtain ⟨wi, hwi⟩ : ∃ x, x = wr := ⟨_, rfl⟩); subst hwi
    have hBi := hB1.up hbx
    have hbwi : Below w.heap.size w wi := bel_trans hbw1 hbx
    have hg0 := hBi.1
    have b_0 := (hBi).2 0 _ rfl; have b_1 := (hBi).2 1 _ rfl; have b_2 := (hBi).2 2 _ rfl
    rcases Nat.lt_or_ge i lo with hlt | hge
    · obtain ⟨ab, aoff, rfl, hab, hac⟩ := (HL.out.up hbwi).at (by omega)
      obtain ⟨c0, c1, c2⟩ := hac i (by omega)
      have hbf := (HBEF.out i hi).1 hlt
      have HBF : Hid (befS (vth l i).ro (vth l i).au v.ro v.au = true) := Lib.hid hbf
      have hin : (i : Int) < (n : Int) := by omega
      clear hac hbf
      go_wp2_with fail
      refine wp_region_fam (by kernel_rfl) (by kernel_rfl) (fun ι F hne hF hcl => ?_)
      have hcF0 := fun n o => (bcell (hF n)).1 (w.heap.size) o (by first | (simp; done) | (simp; omega) | omega)
      have hcF1 := fun n o => (bcell (hF n)).1 (ab) o (by first | (simp; done) | (simp; omega) | omega)
      have HF := Lib.hid hF; clear hF
      have HC := Lib.hid hcl; clear hcl
      repeat (any_goals (first
       | go_big_quiet_step (first | (go_at_call 70; exact Calls.fam_same (ref1_BeforeAt _ _ _ _ true _ HBF.out)))
       | (refine wpQuiet_guard _ _ _ rfl rfl ?_; (fail_if_success (intro b' hb; have h2 := hb.symm; have : b' = true := h2.trans (by with_reducible rfl))); (fail_if_success (intro b' hb; have h2 := hb.symm; have : b' = false := h2.trans (by with_reducible rfl))); intro b' hb; simp only [hb]; cases b' <;> (try simp only [Bool.not_eq_true', Bool.not_eq_false', decide_eq_true_eq, decide_eq_false_iff_not, Int.not_lt, Int.not_le, Bool.and_eq_true, Bool.or_eq_true, Bool.or_eq_false_iff, beq_iff_eq, beq_eq_false_iff_ne, Int.natCast_pos] at hb))))
      all_goals (refine wpQuiet_nil ?_; intro nq)
      all_goals (try (exfalso; omega))
      have hFwf := HF.out nq
      clear HF HC hne
      generalize F nq = wf at *
      clear hcF0 hcF1 b_0 b_1 b_2 c0 c1 c2
      go_wp2_with fail
      (first | (go_round; (case rel => exact ⟨i + 1, by omega, by go_num, bel_trans hbx hFwf⟩); (case measure => (simp [intOf] <;> omega))) | (go_roundw; (case rel => exact ⟨i + 1, by omega, by go_num, bel_trans hbx hFwf⟩); (case measure => (simp [intOf] <;> omega))) | (refine ⟨?_, by simp [intOf] <;> omega⟩; (repeat apply Exists.intro); refine ⟨?rel, ?fr⟩; (case fr => ((repeat' apply And.intro) <;> rfl)); (case rel => exact ⟨i + 1, by omega, by go_num, bel_trans hbx hFwf⟩)))
    · have hil : i = lo := by omega
      subst hil
      have HTL : Hid ((l.take i).length = i) := Lib.hid (by rw [List.length_take, HN.out]; omega)
      rcases Nat.lt_or_ge i n with hlt | hge2
      · obtain ⟨ab, aoff, rfl, hab, hac⟩ := (HL.out.up hbwi).at (by omega)
        obtain ⟨c0, c1, c2⟩ := hac i (by omega)
        have hbf := (HBEF.out i hi).2 rfl hlt
        have HBF : Hid (befS (vth l i).ro (vth l i).au v.ro v.au = false) := Lib.hid hbf
        have hin : (i : Int) < (n : Int) := by omega
        have hci : ¬ (c = i) := by omega
        have hic : i ≤ c := by omega
        clear hac hbf
        go_wp2_with fail
        refine wp_region_fam (by kernel_rfl) (by kernel_rfl) (fun ι F hne hF hcl => ?_)
        have hcF0 := fun n o => (bcell (hF n)).1 (w.heap.size) o (by first | (simp; done) | (simp; omega) | omega)
        have hcF1 := fun n o => (bcell (hF n)).1 (ab) o (by first | (simp; done) | (simp; omega) | omega)
        have HF := Lib.hid hF; clear hF
        have HC := Lib.hid hcl; clear hcl
        repeat (any_goals (first
         | go_big_quiet_step (first | (go_at_call 70; exact Calls.fam_same (ref1_BeforeAt _ _ _ _ false _ HBF.out)))
         | (refine wpQuiet_guard _ _ _ rfl rfl ?_; (fail_if_success (intro b' hb; have h2 := hb.symm; have : b' = true := h2.trans (by with_reducible rfl))); (fail_if_success (intro b' hb; have h2 := hb.symm; have : b' = false := h2.trans (by with_reducible rfl))); intro b' hb; simp only [hb]; cases b' <;> (try simp only [Bool.not_eq_true', Bool.not_eq_false', decide_eq_true_eq, decide_eq_false_iff_not, Int.not_lt, Int.not_le, Bool.and_eq_true, Bool.or_eq_true, Bool.or_eq_false_iff, beq_iff_eq, beq_eq_false_iff_ne, Int.natCast_pos] at hb))))
        all_goals (refine wpQuiet_nil ?_; intro nq)
        all_goals (try (exfalso; omega))
        have hFwf := HF.out nq
        clear HF HC hne
        generalize F nq = wf at *
        have hBf := hBi.up hFwf
        have hbwf : Below w.heap.size w wf := bel_trans hbwi hFwf
        have hg1 := hBf.1
        have hn5 : n ≤ 65535 := by omega
        clear hcF0 hcF1 b_0 b_1 b_2 c0 c1 c2 hnn2 hge hi hpl
        have b_0 := (hBf).2 0 _ rfl; have b_1 := (hBf).2 1 _ rfl; have b_2 := (hBf).2 2 _ rfl
        go_wp2_with fail
        go_region_law (first
          | (refine step_appV rfl (.tmp 57) (.tmp 59) rfl rfl w.heap.size v3 (l.take i) (by simp [Act.eval, Act.put]) (own_mono (own_up hown3 (by (repeat (first | (with_reducible exact Below.refl _ _) | (with_reducible assumption) | (with_reducible apply bel_alloc) | (with_reducible apply bel_drew) | (with_reducible apply bel_drewN) | (with_reducible refine bel_trans ?_ (by with_reducible assumption)) | (with_reducible refine bel_trans ?_ (HF.out _)) | (with_reducible refine bel_set ?_ (by simp) _) | (with_reducible refine bel_set ?_ (by simp; omega) _) | (with_reducible refine bel_set ?_ (by omega) _))))) (by first | omega | (simp; omega) | (simp; done))) _ 0 1 1 [v] (by simp [Act.eval, Act.put]; rfl) rfl (box_votes (by first | exact BoxR.new _ _ _ | exact BoxR.up (w := (wf.alloc (.cells #[.int .i64 v.ro, .int .i64 v.au, .int .i64 v.di] 67)).drew) (BoxR.new wf [.int .i64 v.ro, .int .i64 v.au, .int .i64 v.di] 67) hb3)) (by have := HTL.out; omega) (by first | omega | (simp; omega) | (simp; done)) ?_; intro v5 w5 hown5 hb5)
          | (go_wp2_with (go_at_call 36; refine (ref0_CopyVotes _ i _ (l.take i) _ ((HL.out.up (by (repeat (first | (with_reducible exact Below.refl _ _) | (with_reducible assumption) | (with_reducible apply bel_alloc) | (with_reducible apply bel_drew) | (with_reducible apply bel_drewN) | (with_reducible refine bel_trans ?_ (by with_reducible assumption)) | (with_reducible refine bel_trans ?_ (HF.out _)) | (with_reducible refine bel_set ?_ (by simp) _) | (with_reducible refine bel_set ?_ (by simp; omega) _) | (with_reducible refine bel_set ?_ (by omega) _))))).take (by omega)) (by omega)).mono ?_; rintro e w3 ⟨v3, rfl, hown3, hb3⟩; have hz_w3 : w.heap.size + 1 ≤ w3.heap.size := (by have hq := (hb3).size; (try simp at hq); omega); have hc0_w3 := fun o => (bcell hb3).1 (w.heap.size) o (by first | (simp; done) | (simp; omega) | omega))))
        all_goals
          have hbw5 : Below w.heap.size w w5 := by (refine Below.trans ?_ hb5; (repeat (first | (with_reducible exact Below.refl _ _) | (with_reducible assumption) | (with_reducible apply bel_alloc) | (with_reducible apply bel_drew) | (with_reducible apply bel_drewN) | (with_reducible refine bel_trans ?_ (by with_reducible assumption)) | (with_reducible refine bel_trans ?_ (HF.out _)) | (with_reducible refine bel_set ?_ (by simp) _) | (with_reducible refine bel_set ?_ (by simp; omega) _) | (with_reducible refine bel_set ?_ (by omega) _))))
          have HO5 := Lib.hid hown5
          have HT5 : Hid ((l.take i ++ [v]).length ≤ 65537) := Lib.hid (by rw [List.length_append, HTL.out]; simp; omega)
          clear hown3 hown5 hz_w3 hc0_w3
          have HDC := Lib.hid (drop_cells (HL.out.up hbw5) hlt)
          go_wp2_with (at_builtin; refine wpList_appV rfl (.tmp 61) (.tmp 64) rfl rfl w.heap.size v5 (l.take i ++ [v]) rfl HO5.out ab (aoff + i * 3) (n - i) (c - i) (l.drop i) rfl (by rw [List.length_drop, HN.out]) HDC.out (by have := HT5.out; omega) hbw5.size ?_; intro v6 w6 hown6 hg6 hb6 hat6)
          go_ret2
          refine ⟨v6, rfl, ?_, hbw5.trans hb6⟩
          have e : insV l v = l.take i ++ [v] ++ l.drop i := by unfold insV; rw [← HLO.out]
          rw [e]; exact hown6
      · have hin : i = n := by omega
        clear hge2 hi hpl
        subst hin
        clear hnn2
        have hi5 : i ≤ 65535 := by have := hge; rw [decide_eq_false_iff_not] at this; omega
        clear hge
        cases A
        all_goals
          go_wp2_with fail
          refine wp_region_fam (by kernel_rfl) (by kernel_rfl) (fun ι F hne hF hcl => ?_)
          have hcF0 := fun n o => (bcell (hF n)).1 (w.heap.size) o (by first | (simp; done) | (simp; omega) | omega)
          have HF := Lib.hid hF; clear hF
          have HC := Lib.hid hcl; clear hcl
          repeat (any_goals (first
           | go_big_quiet_step (first | (fail))
           | (refine wpQuiet_guard _ _ _ rfl rfl ?_; (fail_if_success (intro b' hb; have h2 := hb.symm; have : b' = true := h2.trans (by with_reducible rfl))); (fail_if_success (intro b' hb; have h2 := hb.symm; have : b' = false := h2.trans (by with_reducible rfl))); intro b' hb; simp only [hb]; cases b' <;> (try simp only [Bool.not_eq_true', Bool.not_eq_false', decide_eq_true_eq, decide_eq_false_iff_not, Int.not_lt, Int.not_le, Bool.and_eq_true, Bool.or_eq_true, Bool.or_eq_false_iff, beq_iff_eq, beq_eq_false_iff_ne, Int.natCast_pos] at hb))))
          all_goals (refine wpQuiet_nil ?_; intro nq)
          all_goals (try (exfalso; omega))
          have hFwf := HF.out nq
          clear HF HC hne
          generalize F nq = wf at *
          have hBf := hBi.up hFwf
          have hbwf : Below w.heap.size w wf := bel_trans hbwi hFwf
          have hg1 := hBf.1
          clear hcF0 b_0 b_1 b_2
          have b_0 := (hBf).2 0 _ rfl; have b_1 := (hBf).2 1 _ rfl; have b_2 := (hBf).2 2 _ rfl
          go_wp2_with fail
          go_region_law (first
            | (refine step_appV rfl (.tmp 57) (.tmp 59) rfl rfl w.heap.size v3 (l.take i) (by simp [Act.eval, Act.put]) (own_mono (own_up hown3 (by (repeat (first | (with_reducible exact Below.refl _ _) | (with_reducible assumption) | (with_reducible apply bel_alloc) | (with_reducible apply bel_drew) | (with_reducible apply bel_drewN) | (with_reducible refine bel_trans ?_ (by with_reducible assumption)) | (with_reducible refine bel_trans ?_ (HF.out _)) | (with_reducible refine bel_set ?_ (by simp) _) | (with_reducible refine bel_set ?_ (by simp; omega) _) | (with_reducible refine bel_set ?_ (by omega) _))))) (by first | omega | (simp; omega) | (simp; done))) _ 0 1 1 [v] (by simp [Act.eval, Act.put]; rfl) rfl (box_votes (by first | exact BoxR.new _ _ _ | exact BoxR.up (w := (wf.alloc (.cells #[.int .i64 v.ro, .int .i64 v.au, .int .i64 v.di] 67)).drew) (BoxR.new wf [.int .i64 v.ro, .int .i64 v.au, .int .i64 v.di] 67) hb3)) (by have := HTL.out; omega) (by first | omega | (simp; omega) | (simp; done)) ?_; intro v5 w5 hown5 hb5)
            | (go_wp2_with (go_at_call 36; refine (ref0_CopyVotes _ i _ (l.take i) _ ((HL.out.up (by (repeat (first | (with_reducible exact Below.refl _ _) | (with_reducible assumption) | (with_reducible apply bel_alloc) | (with_reducible apply bel_drew) | (with_reducible apply bel_drewN) | (with_reducible refine bel_trans ?_ (by with_reducible assumption)) | (with_reducible refine bel_trans ?_ (HF.out _)) | (with_reducible refine bel_set ?_ (by simp) _) | (with_reducible refine bel_set ?_ (by simp; omega) _) | (with_reducible refine bel_set ?_ (by omega) _))))).take (by omega)) (by omega)).mono ?_; rintro e w3 ⟨v3, rfl, hown3, hb3⟩; have hz_w3 : w.heap.size + 1 ≤ w3.heap.size := (by have hq := (hb3).size; (try simp at hq); omega); have hc0_w3 := fun o => (bcell hb3).1 (w.heap.size) o (by first | (simp; done) | (simp; omega) | omega))))
          all_goals
            have hbw5 : Below w.heap.size w w5 := by (refine Below.trans ?_ hb5; (repeat (first | (with_reducible exact Below.refl _ _) | (with_reducible assumption) | (with_reducible apply bel_alloc) | (with_reducible apply bel_drew) | (with_reducible apply bel_drewN) | (with_reducible refine bel_trans ?_ (by with_reducible assumption)) | (with_reducible refine bel_trans ?_ (HF.out _)) | (with_reducible refine bel_set ?_ (by simp) _) | (with_reducible refine bel_set ?_ (by simp; omega) _) | (with_reducible refine bel_set ?_ (by omega) _))))
            have HO5 := Lib.hid hown5
            have HT5 : Hid ((l.take i ++ [v]).length ≤ 65537) := Lib.hid (by rw [List.length_append, HTL.out]; simp; omega)
            clear hown3 hown5 hz_w3 hc0_w3
            rcases own_shape HO5.out with ⟨_, h0⟩ | ⟨gg, cap, rfl, hgB, hkc⟩
            · simp at h0
            · obtain ⟨kk, hkk⟩ : ∃ kk, kk = (l.take i ++ [v]).length := ⟨_, rfl⟩
              rw [← hkk] at HO5 HT5 hkc ⊢
              have HKK := Lib.hid hkk
              clear hkk
              go_wp2_with (at_builtin; refine wpList_app0V rfl (.tmp 61) (.tmp 64) rfl gg kk cap rfl hkc _ _ rfl ?_)
              all_goals
                go_ret2
                refine ⟨.slice (some ⟨gg, 0, none⟩) kk cap, rfl, ?_, hbw5⟩
                have e : insV l v = l.take i ++ [v] := by
                  unfold insV
                  rw [← HLO.out, List.drop_of_length_le (by rw [HN.out]; exact Nat.le_refl _), List.append_nil]
                rw [e]
                have := HO5.out
                rw [HKK.out] at this ⊢
                exact this
end Go.Proofs.Ytffoglofijffpaa
