/- Votes: one more, at the program. -/
import Derived.Test.YtffoglofijffpaaYd
import Derived.Deep.RegionWith
namespace Go.Proofs.Ytffoglofijffpaa
open Go.RowKit
set_option linter.unusedSimpArgs false
set_option linter.unusedVariables false

/-- The slice value v owns, in a block from B on (or is nil), these votes. -/
def OwnV (w : World) (B : Nat) (v : Value) (l : List VoteD) : Prop := w.ownsRow B 67 3 v l.length (flat encV l)
theorem OwnV.nil (w : World) (B : Nat) : OwnV w B (.slice none 0 0) [] := own_nil w B _ _
theorem OwnV.votes {w : World} {B : Nat} {v : Value} {l : List VoteD} (h : OwnV w B v l) (hl : l.length ≤ 9223372036854775807) : ∃ A c, v = .slice A l.length c ∧ VotesR w A l.length l ∧ l.length ≤ c ∧ c ≤ 9223372036854775807 := by
  obtain ⟨A, c, e, hr, _, h1, h2⟩ := own_row h hl
  exact ⟨A, c, e, ⟨rfl, hr⟩, h1, h2⟩
theorem OwnV.up {w w' : World} {B : Nat} {v : Value} {l : List VoteD} (h : OwnV w B v l) (hb : Below w.heap.size w w') : OwnV w' B v l := own_up h hb
theorem OwnV.mono {w : World} {B B' : Nat} {v : Value} {l : List VoteD} (h : OwnV w B v l) (hB : B' ≤ B) : OwnV w B' v l := own_mono h hB
def posV : List VoteD → VoteD → Nat
  | [], _ => 0
  | x :: l, v => if befV x v = true then posV l v + 1 else 0
def insV (l : List VoteD) (v : VoteD) : List VoteD := l.take (posV l v) ++ [v] ++ l.drop (posV l v)
theorem posV_le (v : VoteD) : ∀ l : List VoteD, posV l v ≤ l.length
  | [] => Nat.le_refl _
  | x :: l => by unfold posV; split; have := posV_le v l; simp; omega; simp
theorem insV_len (l : List VoteD) (v : VoteD) : (insV l v).length = l.length + 1 := by
  have := posV_le v l
  unfold insV; simp; omega
theorem posV_eq (v : VoteD) : ∀ (l : List VoteD) (lo : Nat), lo ≤ l.length → (∀ t, t < lo → befV (vth l t) v = true) → (lo < l.length → befV (vth l lo) v = false) → posV l v = lo
  | [], lo, h, _, _ => by have h2 : lo = 0 := by simpa using h
                          subst h2; rfl
  | x :: l, 0, _, _, h => by
    have := h (by simp)
    unfold posV
    rw [if_neg (by show ¬ befV x v = true; rw [show befV x v = false from this]; simp)]
  | x :: l, lo + 1, h, h1, h2 => by
    unfold posV
    rw [if_pos (show befV x v = true from h1 0 (by omega)), posV_eq v l lo (by simpa using h) (fun t ht => h1 (t + 1) (by omega)) (fun ht => h2 (by simpa using ht))]
theorem CutV.pos {l : List VoteD} {v : VoteD} {n lo : Nat} (hN : l.length = n) (hlo : lo ≤ n) (h : CutV l n v.ro v.au lo lo) : posV l v = lo :=
  posV_eq v l lo (by omega) (fun t ht => h.1 t ht) (fun ht => h.2 lo (Nat.le_refl _) (by omega))
theorem flat_ins {l : List VoteD} {v : VoteD} {lo : Nat} (h : posV l v = lo) : (flat encV l).take (lo * 3) ++ encV v ++ (flat encV l).drop (lo * 3) = flat encV (insV l v) := by
  unfold insV
  rw [h, flat_app, flat_app, flat_one, flat_take encV_len, flat_drop encV_len]
theorem has_zero {l : List VoteD} {r a : Int} {lo : Nat} (hM : MayV l) (h : CutV l l.length r a lo lo) (h0 : hasV l r a = 0) : hereV l r a lo = false := by
  rcases cut_has hM.pl h with ⟨_, h2, h3⟩ | ⟨h1, _⟩
  · have := voteS_iff.1 (hM.2 lo h2).1
    omega
  · exact h1
theorem has_some {l : List VoteD} {r a : Int} {lo : Nat} (hM : MayV l) (h : CutV l l.length r a lo lo) (h0 : ¬ hasV l r a = 0) : hereV l r a lo = true ∧ lo < l.length ∧ hasV l r a = (vth l lo).di := by
  rcases cut_has hM.pl h with h1 | ⟨_, h2, _⟩
  · exact h1
  · exact absurd h2 h0
set_option maxRecDepth 100000 in
set_option maxHeartbeats 2000000 in
theorem vote_Put_there (A : Option Addr) (n c : Nat) (l : List VoteD) (v : VoteD) (w : World) (hl : VotesR w A n l) (hM : MayV l) (hv : voteS v = true) (h0 : ¬ hasV l v.ro v.au = 0) (y : Int) (hy : (if hasV l v.ro v.au = v.di then 4 else 5) = y) :
    Calls Try.prog 64 #[.slice A n c, .agg #[.int .i64 v.ro, .int .i64 v.au, .int .i64 v.di]] w fun e w' => e = .returned (.tuple #[.slice A n c, .int .i64 y]) ∧ Below w.heap.size w w' := by
  have HL := Lib.hid hl
  have HN := Lib.hid hl.1
  have HM := Lib.hid hM
  have hn : n ≤ 1000000000 := by have := hM.1; rw [HN.out] at this; omega
  have s1 := voteS_iff.1 hv
  have d1 : Dn (fl v.ro) v.ro := Dn.fl (by omega) (by omega)
  have d2 : Dn (fl v.au) v.au := Dn.fl (by omega) (by omega)
  have H0 := Lib.hid h0
  have HY := Lib.hid hy
  clear hl hM h0 hy hv s1
  go_enter Try.func64, Try.ntmps64
  go_wp2_with fail
  refine (vote_of _ _ _ _).mono ?_
  rintro e w1 ⟨rfl, hb1⟩
  have hz_w1 : w.heap.size + 1 ≤ w1.heap.size := (by have hq := (hb1).size; (try simp at hq); omega); have hc0_w1 := fun o => (bcell hb1).1 (w.heap.size) o (by first | (simp; done) | (simp; omega) | omega)
  go_wp2_with fail
  refine (vote_find A n c l v.ro v.au _ _ _ (HL.out.up (by (repeat (first | (with_reducible exact Below.refl _ _) | (with_reducible assumption) | (with_reducible apply bel_alloc) | (with_reducible apply bel_drew) | (with_reducible apply bel_drewN) | (with_reducible refine bel_trans ?_ (by with_reducible assumption)) | (with_reducible refine bel_trans ?_ (HF.out _)) | (with_reducible refine bel_set ?_ (by simp) _) | (with_reducible refine bel_set ?_ (by simp; omega) _) | (with_reducible refine bel_set ?_ (by omega) _))))) HM.out.pl hn d1 d2).mono ?_
  rintro e w2 ⟨lo, rfl, hlo, hcut, hb2⟩
  obtain ⟨hh, hlt, hdi⟩ := has_some HM.out (by rw [HN.out]; exact hcut) H0.out
  have hB2 : BoxR w2 w.heap.size [.int .i64 v.ro, .int .i64 v.au, .int .i64 v.di] := ((BoxR.new w [.int .i64 v.ro, .int .i64 v.au, .int .i64 v.di] 67).up hb1).up hb2
  have hbw2 : Below w.heap.size w w2 := by (repeat (first | (with_reducible exact Below.refl _ _) | (with_reducible assumption) | (with_reducible apply bel_alloc) | (with_reducible apply bel_drew) | (with_reducible apply bel_drewN) | (with_reducible refine bel_trans ?_ (by with_reducible assumption)) | (with_reducible refine bel_trans ?_ (HF.out _)) | (with_reducible refine bel_set ?_ (by simp) _) | (with_reducible refine bel_set ?_ (by simp; omega) _) | (with_reducible refine bel_set ?_ (by omega) _)))
  have hln : lo < n := by rw [← HN.out]; exact hlt
  obtain ⟨b, off, rfl, hb, hc⟩ := (HL.out.up hbw2).at (by omega)
  obtain ⟨c0, c1, c2⟩ := hc lo hln
  have hg0 := hB2.1
  rw [hh]
  have HDI := Lib.hid hdi
  clear hc0_w1 hz_w1 hc hh hcut hdi
  have b_0 := (hB2).2 0 _ rfl; have b_1 := (hB2).2 1 _ rfl; have b_2 := (hB2).2 2 _ rfl
  by_cases hd : (vth l lo).di = v.di
  · have hdb : ((vth l lo).di == v.di) = true := by simpa using hd
    have HYY : Hid (y = 4) := Lib.hid (by rw [← HY.out, HDI.out, if_pos hd])
    clear hd
    go_wp2_with fail
    refine wp_region_fam (by kernel_rfl) (by kernel_rfl) (fun ι F hne hF hcl => ?_)
    have hcF0 := fun n o => (bcell (hF n)).1 (w.heap.size) o (by first | (simp; done) | (simp; omega) | omega)
    have hcF1 := fun n o => (bcell (hF n)).1 (b) o (by first | (simp; done) | (simp; omega) | omega)
    have HF := Lib.hid hF; clear hF
    have HC := Lib.hid hcl; clear hcl
    repeat (any_goals (first
     | go_big_quiet_step (first | (fail))
     | (refine wpQuiet_guard _ _ _ rfl rfl ?_; (fail_if_success (intro b' hb; have h2 := hb.symm; have : b' = true := h2.trans (by with_reducible rfl))); (fail_if_success (intro b' hb; have h2 := hb.symm; have : b' = false := h2.trans (by with_reducible rfl))); intro b' hb; simp only [hb]; cases b' <;> (try simp only [Bool.not_eq_true', Bool.not_eq_false', decide_eq_true_eq, decide_eq_false_iff_not, Int.not_lt, Int.not_le, Bool.and_eq_true, Bool.or_eq_true, Bool.or_eq_false_iff, beq_iff_eq, beq_eq_false_iff_ne, Int.natCast_pos] at hb))))
    all_goals (refine wpQuiet_nil ?_; intro nq)
    have hFwf := HF.out nq
    clear HF HC hne
    generalize F nq = wf at *
    go_wp2_with fail
    go_ret2
    exact ⟨by rw [HYY.out]; rfl, bel_trans hbw2 hFwf⟩
  · have hdb : ((vth l lo).di == v.di) = false := by simpa using hd
    have HYY : Hid (y = 5) := Lib.hid (by rw [← HY.out, HDI.out, if_neg hd])
    clear hd
    go_wp2_with fail
    refine wp_region_fam (by kernel_rfl) (by kernel_rfl) (fun ι F hne hF hcl => ?_)
    have hcF0 := fun n o => (bcell (hF n)).1 (w.heap.size) o (by first | (simp; done) | (simp; omega) | omega)
    have hcF1 := fun n o => (bcell (hF n)).1 (b) o (by first | (simp; done) | (simp; omega) | omega)
    have HF := Lib.hid hF; clear hF
    have HC := Lib.hid hcl; clear hcl
    repeat (any_goals (first
     | go_big_quiet_step (first | (fail))
     | (refine wpQuiet_guard _ _ _ rfl rfl ?_; (fail_if_success (intro b' hb; have h2 := hb.symm; have : b' = true := h2.trans (by with_reducible rfl))); (fail_if_success (intro b' hb; have h2 := hb.symm; have : b' = false := h2.trans (by with_reducible rfl))); intro b' hb; simp only [hb]; cases b' <;> (try simp only [Bool.not_eq_true', Bool.not_eq_false', decide_eq_true_eq, decide_eq_false_iff_not, Int.not_lt, Int.not_le, Bool.and_eq_true, Bool.or_eq_true, Bool.or_eq_false_iff, beq_iff_eq, beq_eq_false_iff_ne, Int.natCast_pos] at hb))))
    all_goals (refine wpQuiet_nil ?_; intro nq)
    have hFwf := HF.out nq
    clear HF HC hne
    generalize F nq = wf at *
    go_wp2_with fail
    go_ret2
    exact ⟨by rw [HYY.out]; rfl, bel_trans hbw2 hFwf⟩
set_option maxRecDepth 100000 in
set_option maxHeartbeats 2000000 in
theorem vote_Put_full (A : Option Addr) (n c : Nat) (l : List VoteD) (v : VoteD) (w : World) (hl : VotesR w A n l) (hM : MayV l) (hv : voteS v = true) (h0 : hasV l v.ro v.au = 0) (hn5 : n = 65536) :
    Calls Try.prog 64 #[.slice A n c, .agg #[.int .i64 v.ro, .int .i64 v.au, .int .i64 v.di]] w fun e w' => e = .returned (.tuple #[.slice A n c, .int .i64 8]) ∧ Below w.heap.size w w' := by
  have HL := Lib.hid hl
  have HN := Lib.hid hl.1
  have HM := Lib.hid hM
  have s1 := voteS_iff.1 hv
  have d1 : Dn (fl v.ro) v.ro := Dn.fl (by omega) (by omega)
  have d2 : Dn (fl v.au) v.au := Dn.fl (by omega) (by omega)
  have H0 := Lib.hid h0
  subst hn5
  clear hl hM h0 hv s1
  go_enter Try.func64, Try.ntmps64
  go_wp2_with fail
  refine (vote_of _ _ _ _).mono ?_
  rintro e w1 ⟨rfl, hb1⟩
  have hz_w1 : w.heap.size + 1 ≤ w1.heap.size := (by have hq := (hb1).size; (try simp at hq); omega); have hc0_w1 := fun o => (bcell hb1).1 (w.heap.size) o (by first | (simp; done) | (simp; omega) | omega)
  go_wp2_with fail
  refine (vote_find A 65536 c l v.ro v.au _ _ _ (HL.out.up (by (repeat (first | (with_reducible exact Below.refl _ _) | (with_reducible assumption) | (with_reducible apply bel_alloc) | (with_reducible apply bel_drew) | (with_reducible apply bel_drewN) | (with_reducible refine bel_trans ?_ (by with_reducible assumption)) | (with_reducible refine bel_trans ?_ (HF.out _)) | (with_reducible refine bel_set ?_ (by simp) _) | (with_reducible refine bel_set ?_ (by simp; omega) _) | (with_reducible refine bel_set ?_ (by omega) _))))) HM.out.pl (by omega) d1 d2).mono ?_
  rintro e w2 ⟨lo, rfl, hlo, hcut, hb2⟩
  have hh := has_zero HM.out (by rw [HN.out]; exact hcut) H0.out
  have hB2 : BoxR w2 w.heap.size [.int .i64 v.ro, .int .i64 v.au, .int .i64 v.di] := ((BoxR.new w [.int .i64 v.ro, .int .i64 v.au, .int .i64 v.di] 67).up hb1).up hb2
  have hbw2 : Below w.heap.size w w2 := by (repeat (first | (with_reducible exact Below.refl _ _) | (with_reducible assumption) | (with_reducible apply bel_alloc) | (with_reducible apply bel_drew) | (with_reducible apply bel_drewN) | (with_reducible refine bel_trans ?_ (by with_reducible assumption)) | (with_reducible refine bel_trans ?_ (HF.out _)) | (with_reducible refine bel_set ?_ (by simp) _) | (with_reducible refine bel_set ?_ (by simp; omega) _) | (with_reducible refine bel_set ?_ (by omega) _)))
  have hg0 := hB2.1
  rw [hh]
  clear hc0_w1 hz_w1 hh hcut
  have b_0 := (hB2).2 0 _ rfl; have b_1 := (hB2).2 1 _ rfl; have b_2 := (hB2).2 2 _ rfl
  go_wp2_with fail
  refine wp_region_fam (by kernel_rfl) (by kernel_rfl) (fun ι F hne hF hcl => ?_)
  have hcF0 := fun n o => (bcell (hF n)).1 (w.heap.size) o (by first | (simp; done) | (simp; omega) | omega)
  have HF := Lib.hid hF; clear hF
  have HC := Lib.hid hcl; clear hcl
  repeat (any_goals (first
   | go_big_quiet_step (first | (fail))
   | (refine wpQuiet_guard _ _ _ rfl rfl ?_; (fail_if_success (intro b' hb; have h2 := hb.symm; have : b' = true := h2.trans (by with_reducible rfl))); (fail_if_success (intro b' hb; have h2 := hb.symm; have : b' = false := h2.trans (by with_reducible rfl))); intro b' hb; simp only [hb]; cases b' <;> (try simp only [Bool.not_eq_true', Bool.not_eq_false', decide_eq_true_eq, decide_eq_false_iff_not, Int.not_lt, Int.not_le, Bool.and_eq_true, Bool.or_eq_true, Bool.or_eq_false_iff, beq_iff_eq, beq_eq_false_iff_ne, Int.natCast_pos] at hb))))
  all_goals (refine wpQuiet_nil ?_; intro nq)
  have hFwf := HF.out nq
  clear HF HC hne
  generalize F nq = wf at *
  go_wp2_with fail
  go_ret2
  exact ⟨rfl, bel_trans hbw2 hFwf⟩
set_option maxRecDepth 100000 in
set_option maxHeartbeats 2000000 in
theorem vote_Put_ok (A : Option Addr) (n c : Nat) (l : List VoteD) (v : VoteD) (w : World) (hl : VotesR w A n l) (hM : MayV l) (hv : voteS v = true) (h0 : hasV l v.ro v.au = 0) (hn5 : n < 65536) :
    Calls Try.prog 64 #[.slice A n c, .agg #[.int .i64 v.ro, .int .i64 v.au, .int .i64 v.di]] w fun e w' => ∃ u, e = .returned (.tuple #[u, .int .i64 0]) ∧ OwnV w' w.heap.size u (insV l v) ∧ Below w.heap.size w w' := by
  have HL := Lib.hid hl
  have HN := Lib.hid hl.1
  have HM := Lib.hid hM
  have s1 := voteS_iff.1 hv
  have d1 : Dn (fl v.ro) v.ro := Dn.fl (by omega) (by omega)
  have d2 : Dn (fl v.au) v.au := Dn.fl (by omega) (by omega)
  have H0 := Lib.hid h0
  clear hl hM h0 hv s1
  go_enter Try.func64, Try.ntmps64
  go_wp2_with fail
  refine (vote_of _ _ _ _).mono ?_
  rintro e w1 ⟨rfl, hb1⟩
  have hz_w1 : w.heap.size + 1 ≤ w1.heap.size := (by have hq := (hb1).size; (try simp at hq); omega); have hc0_w1 := fun o => (bcell hb1).1 (w.heap.size) o (by first | (simp; done) | (simp; omega) | omega)
  go_wp2_with fail
  refine (vote_find A n c l v.ro v.au _ _ _ (HL.out.up (by (repeat (first | (with_reducible exact Below.refl _ _) | (with_reducible assumption) | (with_reducible apply bel_alloc) | (with_reducible apply bel_drew) | (with_reducible apply bel_drewN) | (with_reducible refine bel_trans ?_ (by with_reducible assumption)) | (with_reducible refine bel_trans ?_ (HF.out _)) | (with_reducible refine bel_set ?_ (by simp) _) | (with_reducible refine bel_set ?_ (by simp; omega) _) | (with_reducible refine bel_set ?_ (by omega) _))))) HM.out.pl (by omega) d1 d2).mono ?_
  rintro e w2 ⟨lo, rfl, hlo, hcut, hb2⟩
  have hh := has_zero HM.out (by rw [HN.out]; exact hcut) H0.out
  have hpos := CutV.pos HN.out hlo hcut
  have HPOS := Lib.hid hpos
  have hB2 : BoxR w2 w.heap.size [.int .i64 v.ro, .int .i64 v.au, .int .i64 v.di] := ((BoxR.new w [.int .i64 v.ro, .int .i64 v.au, .int .i64 v.di] 67).up hb1).up hb2
  have hbw2 : Below w.heap.size w w2 := by (repeat (first | (with_reducible exact Below.refl _ _) | (with_reducible assumption) | (with_reducible apply bel_alloc) | (with_reducible apply bel_drew) | (with_reducible apply bel_drewN) | (with_reducible refine bel_trans ?_ (by with_reducible assumption)) | (with_reducible refine bel_trans ?_ (HF.out _)) | (with_reducible refine bel_set ?_ (by simp) _) | (with_reducible refine bel_set ?_ (by simp; omega) _) | (with_reducible refine bel_set ?_ (by omega) _)))
  have hg0 := hB2.1
  have hn6 : ((n : Int) == 65536) = false := by simp; omega
  rw [hh]
  clear hc0_w1 hz_w1 hh hcut hpos
  have b_0 := (hB2).2 0 _ rfl; have b_1 := (hB2).2 1 _ rfl; have b_2 := (hB2).2 2 _ rfl
  go_wp2_with fail
  refine wp_region_fam (by kernel_rfl) (by kernel_rfl) (fun ι F hne hF hcl => ?_)
  have hcF0 := fun n o => (bcell (hF n)).1 (w.heap.size) o (by first | (simp; done) | (simp; omega) | omega)
  have HF := Lib.hid hF; clear hF
  have HC := Lib.hid hcl; clear hcl
  repeat (any_goals (first
   | go_big_quiet_step (first | (fail))
   | (refine wpQuiet_guard _ _ _ rfl rfl ?_; (fail_if_success (intro b' hb; have h2 := hb.symm; have : b' = true := h2.trans (by with_reducible rfl))); (fail_if_success (intro b' hb; have h2 := hb.symm; have : b' = false := h2.trans (by with_reducible rfl))); intro b' hb; simp only [hb]; cases b' <;> (try simp only [Bool.not_eq_true', Bool.not_eq_false', decide_eq_true_eq, decide_eq_false_iff_not, Int.not_lt, Int.not_le, Bool.and_eq_true, Bool.or_eq_true, Bool.or_eq_false_iff, beq_iff_eq, beq_eq_false_iff_ne, Int.natCast_pos] at hb))))
  all_goals (refine wpQuiet_nil ?_; intro nq)
  have hFwf := HF.out nq
  clear HF HC hne
  generalize F nq = wf at *
  have hBf := hB2.up hFwf
  have hbwf : Below w.heap.size w wf := bel_trans hbw2 hFwf
  have hg1 := hBf.1
  clear hcF0 b_0 b_1 b_2
  have b_0 := (hBf).2 0 _ rfl; have b_1 := (hBf).2 1 _ rfl; have b_2 := (hBf).2 2 _ rfl
  go_wp2_with fail
  go_region_with (first
    | (go_at_call 100; refine (slices_Clone_Vote A n c (flat encV l) _ (HL.out.2.up (by (repeat (first | (with_reducible exact Below.refl _ _) | (with_reducible assumption) | (with_reducible apply bel_alloc) | (with_reducible apply bel_drew) | (with_reducible apply bel_drewN) | (with_reducible refine bel_trans ?_ (by with_reducible assumption)) | (with_reducible refine bel_trans ?_ (HF.out _)) | (with_reducible refine bel_set ?_ (by simp) _) | (with_reducible refine bel_set ?_ (by simp; omega) _) | (with_reducible refine bel_set ?_ (by omega) _))))) (flat_oneCell encV_one l) (by omega)).mono ?_; rintro e w3 ⟨v3, rfl, hown3, hb3⟩; have hz_w3 : w.heap.size + 1 ≤ w3.heap.size := (by have hq := (hb3).size; (try simp at hq); omega); have hc0_w3 := fun o => (bcell hb3).1 (w.heap.size) o (by first | (simp; done) | (simp; omega) | omega))
    | (go_at_call 99; refine (slices_Insert_Vote _ w.heap.size v3 n lo (flat encV l) (encV v) _ (own_mono (own_up hown3 (by (repeat (first | (with_reducible exact Below.refl _ _) | (with_reducible assumption) | (with_reducible apply bel_alloc) | (with_reducible apply bel_drew) | (with_reducible apply bel_drewN) | (with_reducible refine bel_trans ?_ (by with_reducible assumption)) | (with_reducible refine bel_trans ?_ (HF.out _)) | (with_reducible refine bel_set ?_ (by simp) _) | (with_reducible refine bel_set ?_ (by simp; omega) _) | (with_reducible refine bel_set ?_ (by omega) _))))) (by first | omega | (simp; omega) | (simp; done))) hlo (by omega) (by first | exact Blk.new _ _ _ | exact Blk.up (w := (wf.alloc (.cells #[.int .i64 v.ro, .int .i64 v.au, .int .i64 v.di] 67)).drew) (Blk.new wf 67 (encV v)) hb3) (fun h => by have hq := own_lt hown3 _ h; first | omega | (simp at hq; done) | (simp at hq; omega)) (flat_oneCell encV_one l) (encV_one v) rfl (by first | omega | (simp; omega) | (simp; done))).mono ?_; rintro e w4 ⟨v4, rfl, hown4, hb4, _, _⟩))
  all_goals
    go_wp2_with fail
    go_ret2
    refine ⟨v4, rfl, ?_, by (refine Below.trans ?_ hb4; (repeat (first | (with_reducible exact Below.refl _ _) | (with_reducible assumption) | (with_reducible apply bel_alloc) | (with_reducible apply bel_drew) | (with_reducible apply bel_drewN) | (with_reducible refine bel_trans ?_ (by with_reducible assumption)) | (with_reducible refine bel_trans ?_ (HF.out _)) | (with_reducible refine bel_set ?_ (by simp) _) | (with_reducible refine bel_set ?_ (by simp; omega) _) | (with_reducible refine bel_set ?_ (by omega) _))))⟩
    unfold OwnV
    rw [insV_len, HN.out, ← flat_ins HPOS.out]
    exact hown4
noncomputable def giE (l : List VoteD) (v : VoteD) : Int := if mayV l = true ∧ voteS v = true then (if hasV l v.ro v.au = 0 then (if l.length < 65536 then 0 else 8) else (if hasV l v.ro v.au = v.di then 4 else 5)) else 1
noncomputable def giB (l : List VoteD) (v : VoteD) : List VoteD := if giE l v = 0 then insV l v else []
set_option maxRecDepth 100000 in
set_option maxHeartbeats 2000000 in
theorem vote_Give (A : Option Addr) (n c : Nat) (l : List VoteD) (v : VoteD) (y : Int) (m : List VoteD) (w : World) (hl : VotesR w A n l) (hy : giE l v = y) (hm : giB l v = m) :
    Calls Try.prog 30 #[.slice A n c, .agg #[.int .i64 v.ro, .int .i64 v.au, .int .i64 v.di]] w fun e w' => ∃ u, e = .returned (.tuple #[u, .int .i64 y]) ∧ OwnV w' w.heap.size u m ∧ Below w.heap.size w w' := by
  have HL := Lib.hid hl
  have HN := Lib.hid hl.1
  have HY := Lib.hid hy
  have HM := Lib.hid hm
  clear hl hy hm
  cases hmv : mayV l
  · have e1 : y = 1 ∧ m = [] := by rw [← HY.out, ← HM.out]; simp [giE, giB, hmv]
    obtain ⟨rfl, rfl⟩ := e1
    have HMV := Lib.hid hmv
    clear hmv
    go_enter Try.func30, Try.ntmps30
    go_wp2_with fail
    refine (vote_May A n c l false _ (HL.out.up (by (repeat (first | (with_reducible exact Below.refl _ _) | (with_reducible assumption) | (with_reducible apply bel_alloc) | (with_reducible apply bel_drew) | (with_reducible apply bel_drewN) | (with_reducible refine bel_trans ?_ (by with_reducible assumption)) | (with_reducible refine bel_trans ?_ (HF.out _)) | (with_reducible refine bel_set ?_ (by simp) _) | (with_reducible refine bel_set ?_ (by simp; omega) _) | (with_reducible refine bel_set ?_ (by omega) _))))) HMV.out).mono ?_
    rintro e w1 ⟨rfl, hb1⟩
    go_wp2_with fail
    go_ret2
    exact ⟨.slice none 0 0, rfl, OwnV.nil _ _, by (repeat (first | (with_reducible exact Below.refl _ _) | (with_reducible assumption) | (with_reducible apply bel_alloc) | (with_reducible apply bel_drew) | (with_reducible apply bel_drewN) | (with_reducible refine bel_trans ?_ (by with_reducible assumption)) | (with_reducible refine bel_trans ?_ (HF.out _)) | (with_reducible refine bel_set ?_ (by simp) _) | (with_reducible refine bel_set ?_ (by simp; omega) _) | (with_reducible refine bel_set ?_ (by omega) _)))⟩
  · have hMM := mayV_iff.1 hmv
    have hn5 : n ≤ 65536 := by have := hMM.1; rw [HN.out] at this; exact this
    have HMV := Lib.hid hmv
    have HMM := Lib.hid hMM
    clear hMM
    cases hv : voteS v
    · have e1 : y = 1 ∧ m = [] := by rw [← HY.out, ← HM.out]; simp [giE, giB, hv]
      obtain ⟨rfl, rfl⟩ := e1
      have HV := Lib.hid hv
      clear hmv hv
      go_enter Try.func30, Try.ntmps30
      go_wp2_with fail
      refine (vote_May A n c l true _ (HL.out.up (by (repeat (first | (with_reducible exact Below.refl _ _) | (with_reducible assumption) | (with_reducible apply bel_alloc) | (with_reducible apply bel_drew) | (with_reducible apply bel_drewN) | (with_reducible refine bel_trans ?_ (by with_reducible assumption)) | (with_reducible refine bel_trans ?_ (HF.out _)) | (with_reducible refine bel_set ?_ (by simp) _) | (with_reducible refine bel_set ?_ (by simp; omega) _) | (with_reducible refine bel_set ?_ (by omega) _))))) HMV.out).mono ?_
      rintro e w1 ⟨rfl, hb1⟩
      have hz_w1 : w.heap.size + 1 ≤ w1.heap.size := (by have hq := (hb1).size; (try simp at hq); omega); have hc0_w1 := fun o => (bcell hb1).1 (w.heap.size) o (by first | (simp; done) | (simp; omega) | omega)
      go_wp2_with fail
      refine (vote_may v false _ HV.out).mono ?_
      rintro e w2 ⟨rfl, hb2⟩
      go_wp2_with fail
      go_ret2
      exact ⟨.slice none 0 0, rfl, OwnV.nil _ _, by (repeat (first | (with_reducible exact Below.refl _ _) | (with_reducible assumption) | (with_reducible apply bel_alloc) | (with_reducible apply bel_drew) | (with_reducible apply bel_drewN) | (with_reducible refine bel_trans ?_ (by with_reducible assumption)) | (with_reducible refine bel_trans ?_ (HF.out _)) | (with_reducible refine bel_set ?_ (by simp) _) | (with_reducible refine bel_set ?_ (by simp; omega) _) | (with_reducible refine bel_set ?_ (by omega) _)))⟩
    · have HV := Lib.hid hv
      by_cases h0 : hasV l v.ro v.au = 0
      · by_cases hn6 : n < 65536
        · have e1 : y = 0 ∧ m = insV l v := by rw [← HY.out, ← HM.out]; simp [giE, giB, hmv, hv, h0, HN.out, hn6]
          obtain ⟨rfl, rfl⟩ := e1
          have H0 := Lib.hid h0
          clear hmv hv h0
          go_enter Try.func30, Try.ntmps30
          go_wp2_with fail
          refine (vote_May A n c l true _ (HL.out.up (by (repeat (first | (with_reducible exact Below.refl _ _) | (with_reducible assumption) | (with_reducible apply bel_alloc) | (with_reducible apply bel_drew) | (with_reducible apply bel_drewN) | (with_reducible refine bel_trans ?_ (by with_reducible assumption)) | (with_reducible refine bel_trans ?_ (HF.out _)) | (with_reducible refine bel_set ?_ (by simp) _) | (with_reducible refine bel_set ?_ (by simp; omega) _) | (with_reducible refine bel_set ?_ (by omega) _))))) HMV.out).mono ?_
          rintro e w1 ⟨rfl, hb1⟩
          have hz_w1 : w.heap.size + 1 ≤ w1.heap.size := (by have hq := (hb1).size; (try simp at hq); omega); have hc0_w1 := fun o => (bcell hb1).1 (w.heap.size) o (by first | (simp; done) | (simp; omega) | omega)
          go_wp2_with fail
          refine (vote_may v true _ HV.out).mono ?_
          rintro e w2 ⟨rfl, hb2⟩
          have hz_w2 : w.heap.size + 1 ≤ w2.heap.size := (by have hq := (hb2).size; (try simp at hq); omega); have hc0_w2 := fun o => (bcell hb2).1 (w.heap.size) o (by first | (simp; done) | (simp; omega) | omega)
          go_wp2_with fail
          refine (vote_Put_ok A n c l v _ (HL.out.up (by (repeat (first | (with_reducible exact Below.refl _ _) | (with_reducible assumption) | (with_reducible apply bel_alloc) | (with_reducible apply bel_drew) | (with_reducible apply bel_drewN) | (with_reducible refine bel_trans ?_ (by with_reducible assumption)) | (with_reducible refine bel_trans ?_ (HF.out _)) | (with_reducible refine bel_set ?_ (by simp) _) | (with_reducible refine bel_set ?_ (by simp; omega) _) | (with_reducible refine bel_set ?_ (by omega) _))))) HMM.out HV.out H0.out hn6).mono ?_
          rintro e w3 ⟨u, rfl, hown, hb3⟩
          have hsz : w.heap.size ≤ w2.heap.size := by omega
          go_wp2_with fail
          go_ret2
          exact ⟨u, rfl, hown.mono hsz, by (repeat (first | (with_reducible exact Below.refl _ _) | (with_reducible assumption) | (with_reducible apply bel_alloc) | (with_reducible apply bel_drew) | (with_reducible apply bel_drewN) | (with_reducible refine bel_trans ?_ (by with_reducible assumption)) | (with_reducible refine bel_trans ?_ (HF.out _)) | (with_reducible refine bel_set ?_ (by simp) _) | (with_reducible refine bel_set ?_ (by simp; omega) _) | (with_reducible refine bel_set ?_ (by omega) _)))⟩
        · have e1 : y = 8 ∧ m = [] := by rw [← HY.out, ← HM.out]; simp [giE, giB, hmv, hv, h0, HN.out, hn6]
          obtain ⟨rfl, rfl⟩ := e1
          have H0 := Lib.hid h0
          have hn7 : n = 65536 := by omega
          clear hmv hv h0 hn5 hn6
          subst hn7
          go_enter Try.func30, Try.ntmps30
          go_wp2_with fail
          refine (vote_May A 65536 c l true _ (HL.out.up (by (repeat (first | (with_reducible exact Below.refl _ _) | (with_reducible assumption) | (with_reducible apply bel_alloc) | (with_reducible apply bel_drew) | (with_reducible apply bel_drewN) | (with_reducible refine bel_trans ?_ (by with_reducible assumption)) | (with_reducible refine bel_trans ?_ (HF.out _)) | (with_reducible refine bel_set ?_ (by simp) _) | (with_reducible refine bel_set ?_ (by simp; omega) _) | (with_reducible refine bel_set ?_ (by omega) _))))) HMV.out).mono ?_
          rintro e w1 ⟨rfl, hb1⟩
          have hz_w1 : w.heap.size + 1 ≤ w1.heap.size := (by have hq := (hb1).size; (try simp at hq); omega); have hc0_w1 := fun o => (bcell hb1).1 (w.heap.size) o (by first | (simp; done) | (simp; omega) | omega)
          go_wp2_with fail
          refine (vote_may v true _ HV.out).mono ?_
          rintro e w2 ⟨rfl, hb2⟩
          have hz_w2 : w.heap.size + 1 ≤ w2.heap.size := (by have hq := (hb2).size; (try simp at hq); omega); have hc0_w2 := fun o => (bcell hb2).1 (w.heap.size) o (by first | (simp; done) | (simp; omega) | omega)
          go_wp2_with fail
          refine (vote_Put_full A 65536 c l v _ (HL.out.up (by (repeat (first | (with_reducible exact Below.refl _ _) | (with_reducible assumption) | (with_reducible apply bel_alloc) | (with_reducible apply bel_drew) | (with_reducible apply bel_drewN) | (with_reducible refine bel_trans ?_ (by with_reducible assumption)) | (with_reducible refine bel_trans ?_ (HF.out _)) | (with_reducible refine bel_set ?_ (by simp) _) | (with_reducible refine bel_set ?_ (by simp; omega) _) | (with_reducible refine bel_set ?_ (by omega) _))))) HMM.out HV.out H0.out rfl).mono ?_
          rintro e w3 ⟨rfl, hb3⟩
          go_wp2_with fail
          go_ret2
          exact ⟨.slice none 0 0, rfl, OwnV.nil _ _, by (repeat (first | (with_reducible exact Below.refl _ _) | (with_reducible assumption) | (with_reducible apply bel_alloc) | (with_reducible apply bel_drew) | (with_reducible apply bel_drewN) | (with_reducible refine bel_trans ?_ (by with_reducible assumption)) | (with_reducible refine bel_trans ?_ (HF.out _)) | (with_reducible refine bel_set ?_ (by simp) _) | (with_reducible refine bel_set ?_ (by simp; omega) _) | (with_reducible refine bel_set ?_ (by omega) _)))⟩
      · obtain ⟨z, hz⟩ : ∃ z : Int, (if hasV l v.ro v.au = v.di then 4 else 5) = z := ⟨_, rfl⟩
        have hz0 : ¬ z = 0 := by rw [← hz]; split <;> omega
        have hg : giE l v = z := by rw [← hz]; simp [giE, hmv, hv, h0]
        have e1 : y = z := by rw [← HY.out, hg]
        have e2 : m = [] := by rw [← HM.out]; unfold giB; rw [hg, if_neg hz0]
        subst e1; subst e2
        clear hg
        have H0 := Lib.hid h0
        have HZ := Lib.hid hz
        have hzb : (y == 0) = false := by simpa using hz0
        have hzb2 : (y != 0) = true := by simpa using hz0
        clear hmv hv h0 hz hz0
        go_enter Try.func30, Try.ntmps30
        go_wp2_with fail
        refine (vote_May A n c l true _ (HL.out.up (by (repeat (first | (with_reducible exact Below.refl _ _) | (with_reducible assumption) | (with_reducible apply bel_alloc) | (with_reducible apply bel_drew) | (with_reducible apply bel_drewN) | (with_reducible refine bel_trans ?_ (by with_reducible assumption)) | (with_reducible refine bel_trans ?_ (HF.out _)) | (with_reducible refine bel_set ?_ (by simp) _) | (with_reducible refine bel_set ?_ (by simp; omega) _) | (with_reducible refine bel_set ?_ (by omega) _))))) HMV.out).mono ?_
        rintro e w1 ⟨rfl, hb1⟩
        have hz_w1 : w.heap.size + 1 ≤ w1.heap.size := (by have hq := (hb1).size; (try simp at hq); omega); have hc0_w1 := fun o => (bcell hb1).1 (w.heap.size) o (by first | (simp; done) | (simp; omega) | omega)
        go_wp2_with fail
        refine (vote_may v true _ HV.out).mono ?_
        rintro e w2 ⟨rfl, hb2⟩
        have hz_w2 : w.heap.size + 1 ≤ w2.heap.size := (by have hq := (hb2).size; (try simp at hq); omega); have hc0_w2 := fun o => (bcell hb2).1 (w.heap.size) o (by first | (simp; done) | (simp; omega) | omega)
        go_wp2_with fail
        refine (vote_Put_there A n c l v _ (HL.out.up (by (repeat (first | (with_reducible exact Below.refl _ _) | (with_reducible assumption) | (with_reducible apply bel_alloc) | (with_reducible apply bel_drew) | (with_reducible apply bel_drewN) | (with_reducible refine bel_trans ?_ (by with_reducible assumption)) | (with_reducible refine bel_trans ?_ (HF.out _)) | (with_reducible refine bel_set ?_ (by simp) _) | (with_reducible refine bel_set ?_ (by simp; omega) _) | (with_reducible refine bel_set ?_ (by omega) _))))) HMM.out HV.out H0.out y HZ.out).mono ?_
        rintro e w3 ⟨rfl, hb3⟩
        go_wp2_with fail
        go_ret2
        exact ⟨.slice none 0 0, rfl, OwnV.nil _ _, by (repeat (first | (with_reducible exact Below.refl _ _) | (with_reducible assumption) | (with_reducible apply bel_alloc) | (with_reducible apply bel_drew) | (with_reducible apply bel_drewN) | (with_reducible refine bel_trans ?_ (by with_reducible assumption)) | (with_reducible refine bel_trans ?_ (HF.out _)) | (with_reducible refine bel_set ?_ (by simp) _) | (with_reducible refine bel_set ?_ (by simp; omega) _) | (with_reducible refine bel_set ?_ (by omega) _)))⟩
end Go.Proofs.Ytffoglofijffpaa
