/- Fetch: droverref21.Want. -/
import Derived.Test.YtnngeaibdnnpoaaSkHgb
namespace Go.Proofs.Ytnngeaibdnnpoaa
open Go.RowKit
set_option linter.unusedSimpArgs false
set_option linter.unusedVariables false

theorem ins_splitQ {k d : Int} {l : List FRowD} {p : Nat} (h : posQ k d l = p) : l.take p ++ [⟨k, d, 0, 0⟩] ++ l.drop p = insQ ⟨k, d, 0, 0⟩ l := by
  unfold insQ
  rw [show posQ (FRowD.mk k d 0 0).ki (FRowD.mk k d 0 0).di l = p from h]
  simp
theorem OwnQ.shape {w : World} {B n c : Nat} {A : Option Addr} {l : List FRowD} (h : OwnQ w B (.slice A n c) l) (hn : l.length = n) : (A = none ∧ n = 0 ∧ c = 0) ∨ ∃ g, A = some ⟨g, 0, none⟩ ∧ n ≤ c := by
  unfold OwnQ at h
  rw [hn] at h
  rcases own_shape h with ⟨e, h0⟩ | ⟨g, c9, e9, _, h8⟩
  · injection e with e1 e2 e3; exact .inl ⟨e1, h0, e3⟩
  · injection e9 with e1 e2 e3; exact .inr ⟨g, e1, by omega⟩
theorem OwnQ.rowsR {w : World} {B n c : Nat} {A : Option Addr} {l : List FRowD} (h : OwnQ w B (.slice A n c) l) (hn : l.length = n) (hm : n ≤ 9223372036854775807) : RowsR w A n l := by
  obtain ⟨A', c', e', h'⟩ := nmQ h hn hm
  injection e' with e1 e2 e3
  subst e1
  exact h'
set_option maxRecDepth 100000 in
set_option maxHeartbeats 8000000 in
theorem ref21_Want (id nodes k : Int) (A : Option Addr) (n c : Nat) (rows : List FRowD) (lA : Option Addr) (ln lc : Nat) (L : List Int) (w : World) (hl : RowsR w A n rows) (hL : IntsR w lA ln L) (hM : mayF ⟨id, nodes, rows⟩ = true) (hln : ln ≤ 17592186044416) :
    Calls Try.prog 52 #[.agg #[.int .i64 id, .int .i64 nodes, .slice A n c], .int .i64 k, .slice lA ln lc] w fun e w' => ∃ vr vl, e = .returned (.tuple #[.agg #[.int .i64 id, .int .i64 nodes, vr], vl]) ∧ OwnQ w' (w.heap.size + 2) vr (wantQ k rows L).1 ∧ OwnMs w' (w.heap.size + 2) vl (fL id nodes (wantQ k rows L).2) ∧ Below w.heap.size w w' := by
  have hm := mayF_iff.1 hM
  have h1 : 1 ≤ id := hm.2.1
  have h2 : id ≤ nodes := hm.2.2.1
  have h4 : nodes ≤ 16 := (isS_bd hm.1).2
  have hn : n ≤ 64 := by rw [← hl.1]; exact hm.2.2.2.1
  have hsort : SortQ rows := GoodQ.sort hm.2.2.2.2
  have htr : ∀ x ∈ rows, numB x.tr 0 = true := fun x hx => by
    obtain ⟨i, hi, rfl⟩ := List.getElem_of_mem hx
    have h9 := (rowS_iff.1 (hm.2.2.2.2 i hi).1).2.2.2
    rwa [qth_at _ _ hi] at h9
  have HW : Hid (∀ M, WantI k (wantQ k rows M)) := Lib.hid (fun M => WantI.want hsort hm.2.2.2.1 htr M)
  have HL := Lib.hid hl
  have HN := Lib.hid hl.1
  have HLL := Lib.hid hL
  have HLN := Lib.hid hL.1
  obtain ⟨⟨R, Fq⟩, hRF⟩ : ∃ S, wantQ k rows L = S := ⟨_, rfl⟩
  have HRF := Lib.hid hRF
  have HWL : Hid (WantI k (R, Fq)) := Lib.hid (by rw [← hRF]; exact HW.out L)
  clear hl hL hM hm hsort htr hRF
  go_enter Try.func52, Try.ntmps52
  go_upto_region 1 with fail
  refine wp_two (fun W0 hW0 => ?_)
  have hb0 : Below w.heap.size w W0 := by rw [hW0]; (repeat (first | (with_reducible exact Below.refl _ _) | (with_reducible assumption) | (with_reducible apply bel_alloc) | (with_reducible apply bel_drew) | (with_reducible apply bel_drewN) | (with_reducible refine bel_trans ?_ (by with_reducible assumption)) | (with_reducible refine bel_trans ?_ (HF.out _)) | (with_reducible refine bel_set ?_ (by simp) _) | (with_reducible refine bel_set ?_ (by simp; omega) _) | (with_reducible refine bel_set ?_ (by omega) _)))
  have hs0 : W0.heap.size = w.heap.size + 2 := by rw [hW0]; simp
  have HF0 : Hid (Blk W0 w.heap.size 24 [.int .i64 id, .int .i64 nodes, .slice A n c] ∧ Blk W0 (w.heap.size + 1) 24 [.int .i64 0, .int .i64 0, .slice none 0 0]) := Lib.hid (by
    rw [hW0]
    have h1 : Blk (w.alloc (.cells #[.int .i64 id, .int .i64 nodes, .slice A n c] 24)) w.heap.size 24 [.int .i64 id, .int .i64 nodes, .slice A n c] := Blk.new _ 24 [.int .i64 id, .int .i64 nodes, .slice A n c]
    have h2 := h1.up (bel_alloc (Below.refl _ _) : Below _ _ ((w.alloc (.cells #[.int .i64 id, .int .i64 nodes, .slice A n c] 24)).alloc (.cells #[.int .i64 0, .int .i64 0, .slice none 0 0] 24)))
    have h3 := Blk.new (w.alloc (.cells #[.int .i64 id, .int .i64 nodes, .slice A n c] 24)) 24 [.int .i64 0, .int .i64 0, .slice none 0 0]
    exact ⟨h2, by simpa using h3⟩)
  clear hW0
  have HF := Lib.hid HF0.out.1
  have HG := Lib.hid HF0.out.2
  clear HF0
  have xl := HF.out.lt
  have xf := HF.out.frozen
  have x_0 := (HF.out.box).2 0 _ rfl; have x_1 := (HF.out.box).2 1 _ rfl; have x_2 := (HF.out.box).2 2 _ rfl
  have gl := HG.out.lt
  have gf := HG.out.frozen
  have g_0 := (HG.out.box).2 0 _ rfl; have g_1 := (HG.out.box).2 1 _ rfl; have g_2 := (HG.out.box).2 2 _ rfl
  obtain ⟨B, hB⟩ : ∃ B, w.heap.size + 2 = B := ⟨_, rfl⟩
  go_upto_region 2 with (go_at_call 21; refine (ref0_CopyFetch id nodes A n c rows _ (HL.out.up hb0) (by omega)).mono ?_; rintro e w1 ⟨v1, rfl, hown1, hb1⟩; obtain ⟨iA, ic, rfl, -⟩ := nmQ hown1 HN.out (by omega); clear xl xf x_0 x_1 x_2 gl gf g_0 g_1 g_2; have HF1 := Lib.hid (HF.out.up hb1); have HG1 := Lib.hid (HG.out.up hb1); have xl := HF1.out.lt; have xf := HF1.out.frozen; have x_0 := (HF1.out.box).2 0 _ rfl; have x_1 := (HF1.out.box).2 1 _ rfl; have x_2 := (HF1.out.box).2 2 _ rfl; have gl := HG1.out.lt; have gf := HG1.out.frozen; have g_0 := (HG1.out.box).2 0 _ rfl; have g_1 := (HG1.out.box).2 1 _ rfl; have g_2 := (HG1.out.box).2 2 _ rfl)
  have hB1 : B ≤ w1.heap.size := by have := hb1.size; omega
  have hwl : w.heap.size < B := by omega
  obtain ⟨gx, hgx⟩ : ∃ g, g = w1.heap.size := ⟨_, rfl⟩
  refine wp_two (fun W1 hW1 => ?_)
  have HX2 : Hid (Blk W1 gx 24 [.int .i64 id, .int .i64 nodes, .slice iA n ic]) := Lib.hid (by rw [hW1, hgx]; exact Blk.new w1 24 [.int .i64 id, .int .i64 nodes, .slice iA n ic])
  have hbn : Below w1.heap.size w1 W1 := by rw [hW1]; exact bel_alloc (Below.refl _ _)
  have HG2 := Lib.hid (HG1.out.up hbn)
  have HR2 : Hid (OwnQ W1 B (.slice iA n ic) rows) := Lib.hid ((hown1.mono (by omega)).up hbn)
  have hb2 : Below w.heap.size w W1 := bel_trans (bel_trans hb0 hb1) hbn
  have hB2 : B ≤ W1.heap.size := Nat.le_trans hB1 hbn.size
  have hBx : B ≤ gx := by omega
  rw [← hgx]
  clear hW1 xl xf x_0 x_1 x_2 gl gf g_0 g_1 g_2 hown1 hb1 hb0 hs0 hbn hgx
  go_wp2_with fail
  go_loopw [9, 10] (fun s9 jx wr => ∃ (j : Nat) (xA : Option Addr) (xn xc : Nat) (fA : Option Addr) (fn fc : Nat), j ≤ ln ∧ jx = .int .i64 j ∧ s9 = .slice fA fn fc ∧ Hid ((wantQ k rows (L.take j)).1.length = xn) ∧ Hid ((wantQ k rows (L.take j)).2.length = fn) ∧ Hid (OwnQ wr B (.slice fA fn fc) (wantQ k rows (L.take j)).2) ∧ Hid (OwnQ wr B (.slice xA xn xc) (wantQ k rows (L.take j)).1) ∧ Hid (Blk wr gx 24 [.int .i64 id, .int .i64 nodes, .slice xA xn xc]) ∧ Below B W1 wr) (fun _ jx _ => ln - (intOf jx).toNat)
  case atStart => exact ⟨0, iA, n, ic, none, 0, 0, Nat.zero_le _, rfl, rfl, HN, Lib.hid rfl, Lib.hid (OwnQ.nil _ _), HR2, HX2, Below.refl _ _⟩
  case round =>
    clear HX2 HR2
    obtain ⟨j, xA, xn, xc, fA, fn, fc, hj, rfl, rfl, HRN, HFN, HO9, HOX, HX, hbw⟩ := hrel
    (obtain ⟨wk, hwk⟩ : ∃ x, x = wr := ⟨_, rfl⟩); subst hwk
    have hbk : Below w.heap.size w wk := hb2.trans (hbw.mono (by omega))
    have hBk : B ≤ wk.heap.size := Nat.le_trans hB2 hbw.size
    by_cases hlt : j < ln
    · skip
      obtain ⟨lb, lo, rfl, hlb, hlx⟩ := HLL.out.2.2 (by omega)
      have l0 := hlx j hlt
      clear hlx
      obtain ⟨d, hd⟩ : ∃ d, nth L j = d := ⟨_, rfl⟩
      rw [hd] at l0
      have L0 := Lib.hid l0
      clear l0
      obtain ⟨⟨R, Fq⟩, hRF⟩ : ∃ S, wantQ k rows (L.take j) = S := ⟨_, rfl⟩
      have hst := wantQ_snoc k rows L j (by rw [HLN.out]; exact hlt)
      rw [hd, hRF] at hst
      have HST := Lib.hid hst
      have HWI : Hid (WantI k (R, Fq)) := Lib.hid (by rw [← hRF]; exact HW.out _)
      rw [hRF] at HRN HFN HO9 HOX
      have hrn : xn ≤ 64 := by rw [← HRN.out]; exact HWI.out.l1
      have hfn : fn ≤ xn := by rw [← HFN.out, ← HRN.out]; exact HWI.out.l2
      clear hst hd hRF
      obtain ⟨p, hp⟩ : ∃ p, posQ k d R = p := ⟨_, rfl⟩
      obtain ⟨y, hy⟩ : ∃ y, hereQ k d R = y := ⟨_, rfl⟩
      have hpn : p ≤ xn := by have h1 := (posQ_spec k d R).1; rw [hp, show R.length = xn from HRN.out] at h1; exact h1
      obtain ⟨q, hq⟩ : ∃ p, posQ k d Fq = p := ⟨_, rfl⟩
      obtain ⟨z, hz⟩ : ∃ y, hereQ k d Fq = y := ⟨_, rfl⟩
      have hqn : q ≤ fn := by have h1 := (posQ_spec k d Fq).1; rw [hq, show Fq.length = fn from HFN.out] at h1; exact h1
      have HP := Lib.hid hp
      have HY := Lib.hid hy
      have HQ := Lib.hid hq
      have HZ := Lib.hid hz
      clear hp hy hq hz
      have HLR : Hid (RowsR wk xA xn R) := Lib.hid (HOX.out.rowsR HRN.out (by omega))
      have l0k := (bcell hbk).1 lb (lo + j) hlb
      rw [L0.out] at l0k
      have lbk : lb < _ := Nat.lt_of_lt_of_le hlb hbk.size
      have xl := HX.out.lt
      have xf := HX.out.frozen
      have x_0 := (HX.out.box).2 0 _ rfl; have x_1 := (HX.out.box).2 1 _ rfl; have x_2 := (HX.out.box).2 2 _ rfl
      go_upto_region 6 with fail
      refine wp_region_fam (by kernel_rfl) (by kernel_rfl) (fun ι F hne hF hcl => ?_)
      have hcF0 := fun n o => (bcell (hF n)).1 (lb) o (by first | (simp; done) | (simp; omega) | omega)
      have hcF1 := fun n o => (bcell (hF n)).1 (gx) o (by first | (simp; done) | (simp; omega) | omega)
      have HF := Lib.hid hF; clear hF
      have HC := Lib.hid hcl; clear hcl
      repeat (any_goals (first
       | go_big_quiet_step (first | (go_at_call 76; exact Calls.fam HC.out (ref21_find xA xn xc R k d p y _ (HLR.out.up (HF.out _)) HP.out HY.out)))
       | (refine wpQuiet_guard _ _ _ rfl rfl ?_; (fail_if_success (intro b' hb; have h2 := hb.symm; have : b' = true := h2.trans (by with_reducible rfl))); (fail_if_success (intro b' hb; have h2 := hb.symm; have : b' = false := h2.trans (by with_reducible rfl))); intro b' hb; simp only [hb]; cases b' <;> (try simp only [Bool.not_eq_true', Bool.not_eq_false', decide_eq_true_eq, decide_eq_false_iff_not, Int.not_lt, Int.not_le, Bool.and_eq_true, Bool.or_eq_true, Bool.or_eq_false_iff, beq_iff_eq, beq_eq_false_iff_ne, Int.natCast_pos] at hb))))
      all_goals (refine wpQuiet_nil ?_; intro nq)
      all_goals (try (exfalso; omega))
      have hFwf := HF.out nq
      clear HF HC hne
      generalize F nq = wf at *
      clear xl xf x_0 x_1 x_2
      clear l0k lbk
      have hbF : Below w.heap.size w wf := bel_trans hbk hFwf
      have HXF := Lib.hid (HX.out.up hFwf)
      have HOF := Lib.hid (HOX.out.up hFwf)
      have HO9F := Lib.hid (HO9.out.up hFwf)
      have hbwF : Below B W1 wf := hbw.trans (hFwf.mono hBk)
      have hBF : B ≤ wf.heap.size := Nat.le_trans hBk hFwf.size
      clear HX HOX HO9 HLR hbw hFwf
      have l0f := (bcell hbF).1 lb (lo + j) hlb
      rw [L0.out] at l0f
      have lbf : lb < _ := Nat.lt_of_lt_of_le hlb hbF.size
      have xl := HXF.out.lt
      have xf := HXF.out.frozen
      have x_0 := (HXF.out.box).2 0 _ rfl; have x_1 := (HXF.out.box).2 1 _ rfl; have x_2 := (HXF.out.box).2 2 _ rfl
      cases y
      case true =>
        have HEQ : Hid (stepQ k (R, Fq) d = (R, Fq)) := Lib.hid (by unfold stepQ; rw [if_pos (.inl HY.out)])
        go_wp2_with fail
        (first | (go_round; (case rel => exact ⟨j + 1, xA, xn, xc, fA, fn, fc, by omega, by go_num, rfl, Lib.hid (by rw [HST.out, HEQ.out]; exact HRN.out), Lib.hid (by rw [HST.out, HEQ.out]; exact HFN.out), Lib.hid (by rw [HST.out, HEQ.out]; exact HO9F.out), Lib.hid (by rw [HST.out, HEQ.out]; exact HOF.out), HXF, hbwF⟩); (case measure => (simp [intOf] <;> omega))) | (go_roundw; (case rel => exact ⟨j + 1, xA, xn, xc, fA, fn, fc, by omega, by go_num, rfl, Lib.hid (by rw [HST.out, HEQ.out]; exact HRN.out), Lib.hid (by rw [HST.out, HEQ.out]; exact HFN.out), Lib.hid (by rw [HST.out, HEQ.out]; exact HO9F.out), Lib.hid (by rw [HST.out, HEQ.out]; exact HOF.out), HXF, hbwF⟩); (case measure => (simp [intOf] <;> omega))) | (refine ⟨?_, by simp [intOf] <;> omega⟩; (repeat apply Exists.intro); refine ⟨?rel, ?fr⟩; (case fr => ((repeat' apply And.intro) <;> rfl)); (case rel => exact ⟨j + 1, xA, xn, xc, fA, fn, fc, by omega, by go_num, rfl, Lib.hid (by rw [HST.out, HEQ.out]; exact HRN.out), Lib.hid (by rw [HST.out, HEQ.out]; exact HFN.out), Lib.hid (by rw [HST.out, HEQ.out]; exact HO9F.out), Lib.hid (by rw [HST.out, HEQ.out]; exact HOF.out), HXF, hbwF⟩)))
      case false =>
      by_cases h64 : xn < 64
      case neg =>
        have HEQ : Hid (stepQ k (R, Fq) d = (R, Fq)) := Lib.hid (by unfold stepQ; rw [if_pos (.inr (by rw [show (R, Fq).1.length = xn from HRN.out]; omega))])
        have q1 : decide ((64 : Int) ≤ (xn : Int)) = true := by simp; omega
        have q2 : decide ((xn : Int) ≥ 64) = true := by simp; omega
        go_wp2_with fail
        (first | (go_round; (case rel => exact ⟨j + 1, xA, xn, xc, fA, fn, fc, by omega, by go_num, rfl, Lib.hid (by rw [HST.out, HEQ.out]; exact HRN.out), Lib.hid (by rw [HST.out, HEQ.out]; exact HFN.out), Lib.hid (by rw [HST.out, HEQ.out]; exact HO9F.out), Lib.hid (by rw [HST.out, HEQ.out]; exact HOF.out), HXF, hbwF⟩); (case measure => (simp [intOf] <;> omega))) | (go_roundw; (case rel => exact ⟨j + 1, xA, xn, xc, fA, fn, fc, by omega, by go_num, rfl, Lib.hid (by rw [HST.out, HEQ.out]; exact HRN.out), Lib.hid (by rw [HST.out, HEQ.out]; exact HFN.out), Lib.hid (by rw [HST.out, HEQ.out]; exact HO9F.out), Lib.hid (by rw [HST.out, HEQ.out]; exact HOF.out), HXF, hbwF⟩); (case measure => (simp [intOf] <;> omega))) | (refine ⟨?_, by simp [intOf] <;> omega⟩; (repeat apply Exists.intro); refine ⟨?rel, ?fr⟩; (case fr => ((repeat' apply And.intro) <;> rfl)); (case rel => exact ⟨j + 1, xA, xn, xc, fA, fn, fc, by omega, by go_num, rfl, Lib.hid (by rw [HST.out, HEQ.out]; exact HRN.out), Lib.hid (by rw [HST.out, HEQ.out]; exact HFN.out), Lib.hid (by rw [HST.out, HEQ.out]; exact HO9F.out), Lib.hid (by rw [HST.out, HEQ.out]; exact HOF.out), HXF, hbwF⟩)))
      case pos =>
      have q1 : decide ((64 : Int) ≤ (xn : Int)) = false := by simp; omega
      have q2 : decide ((xn : Int) ≥ 64) = false := by simp; omega
      have HEQ : Hid (stepQ k (R, Fq) d = (insQ ⟨k, d, 0, 0⟩ R, insQ ⟨k, d, 0, 0⟩ Fq)) := Lib.hid (by unfold stepQ; rw [if_neg (fun g => g.elim (fun g => by rw [HY.out] at g; cases g) (fun g => by rw [show (R, Fq).1.length = xn from HRN.out] at g; omega))])
      go_upto_region 9 with fail
      clear q1 q2 l0f lbf
      refine wp_two (fun wm hwm => ?_)
      obtain ⟨gr, hgr⟩ : ∃ g, g = wf.heap.size := ⟨_, rfl⟩
      have HRB : Hid (Blk wm gr 55 [.int .i64 k, .int .i64 d, .int .i64 0, .int .i64 0]) := Lib.hid (by rw [hwm, hgr]; exact Blk.new wf 55 [.int .i64 k, .int .i64 d, .int .i64 0, .int .i64 0])
      have hbfm : Below wf.heap.size wf wm := by rw [hwm]; exact bel_alloc (Below.refl _ _)
      have HXB := Lib.hid (HXF.out.up hbfm)
      have HOB := Lib.hid (HOF.out.up hbfm)
      have HFB0 := Lib.hid (HO9F.out.up hbfm)
      have hbm : Below B W1 wm := hbwF.trans (hbfm.mono hBF)
      have hBm : B ≤ wm.heap.size := Nat.le_trans hBF hbfm.size
      have hgrm : gr < wm.heap.size := HRB.out.lt
      have hgxr : gx < gr := by rw [hgr]; exact HXF.out.lt
      rw [← hgr]
      clear hwm hgr HXF HOF HO9F hbwF hbF xl xf x_0 x_1 x_2
      have HRY : Hid (RowsR wm xA xn R) := Lib.hid (HOB.out.rowsR HRN.out (by omega))
      have HSH := Lib.hid (HOB.out.shape HRN.out)
      have HTP : Hid ((R.take p).length = p) := Lib.hid (by rw [List.length_take, show R.length = xn from HRN.out]; omega)
      go_cut [14] from 47 to 54 (fun s14 wx => Hid (OwnQ wx wm.heap.size s14 (R.take p ++ [⟨k, d, 0, 0⟩])) ∧ Below wm.heap.size wm wx)
      case first =>
        rcases HSH.out with ⟨h1, h2, h3⟩ | ⟨g9, h1, hnc⟩
        · subst h1; subst h2; subst h3
          obtain rfl : p = 0 := by omega
          obtain ⟨S, hSd⟩ : ∃ S : World → Prop, S = fun Q => Q.rangeAt gr 0 [.int .i64 k, .int .i64 d, .int .i64 0, .int .i64 0] ∧ Q.cell? ⟨gx, 2, none⟩ = some (.slice none 0 0) := ⟨_, rfl⟩
          have hS2 : ∀ Q, S Q → Q.rangeAt gr 0 [.int .i64 k, .int .i64 d, .int .i64 0, .int .i64 0] := fun Q h => by rw [hSd] at h; exact h.1
          have hS1 : ∀ Q, S Q → Q.cell? ⟨gx, 2, none⟩ = some (.slice none 0 0) := fun Q h => by rw [hSd] at h; exact h.2
          have hS : ∀ Q, Below wm.heap.size wm Q → S Q := fun Q hQ => by rw [hSd]; exact ⟨Blk.rngQ (HRB.out.up hQ), (HXB.out.up hQ).box.2 2 _ rfl⟩
          clear hSd
          refine wp_region_held_drew (S := S) (by kernel_rfl) (hS _ (bel_drew (Below.refl _ _))) (fun hHeld => ?_)
          have hbd : Below wm.heap.size wm wm.drew := bel_drew (Below.refl _ _)
          generalize wm.drew = Z at *
          (refine wpAnyH_tk 0 (some 47) (v := ?_) rfl rfl ?_ ?_; rotate_left; (focus (intro wq hSw; clear hSw; go_simp; all_goals (with_reducible rfl))); simp only [Act.put, List.setIfInBounds_toArray, List.set_cons_zero, List.set_cons_succ])
          (refine wpAnyH_tk 1 (some 48) (v := ?_) rfl rfl ?_ ?_; rotate_left; (focus (intro wq hSw; have q1 := hS1 wq hSw; clear hSw; go_simp; all_goals (with_reducible rfl))); simp only [Act.put, List.setIfInBounds_toArray, List.set_cons_zero, List.set_cons_succ])
          (refine wpAnyH_tk 2 (some 49) (v := ?_) rfl rfl ?_ ?_; rotate_left; (focus (intro wq hSw; clear hSw; go_simp; all_goals (with_reducible rfl))); simp only [Act.put, List.setIfInBounds_toArray, List.set_cons_zero, List.set_cons_succ])
          (refine wpAnyH_tk 3 (some 50) (v := ?_) rfl rfl ?_ ?_; rotate_left; (focus (intro wq hSw; clear hSw; go_simp; all_goals (with_reducible rfl))); simp only [Act.put, List.setIfInBounds_toArray, List.set_cons_zero, List.set_cons_succ])
          refine wpAnyH_takeD (i := 5) (d := (some 52)) (v := .agg ([.int .i64 k, .int .i64 d, .int .i64 0, .int .i64 0]).toArray) rfl rfl (by kernel_rfl) (by kernel_rfl) (by kernel_rfl) (fun _ _ _ h => h) (yieldsIf_load_mid (by rfl) 55 _ rfl gr 0 (by simp [Act.eval, Act.put]) ([.int .i64 k, .int .i64 d, .int .i64 0, .int .i64 0]) _ (hS2) Try.underlying55 (by rfl) (by kernel_rfl)) (by assumption) ?_
          simp only [Act.put, List.setIfInBounds_toArray, List.set_cons_zero, List.set_cons_succ]
          refine wpAnyH_ready (rs := [4, 6]) (by kernel_rfl) (by simp) ?_
          refine AllReadyH.cons (o := _) rfl (fun K hK => ?_) (AllReadyH.cons (o := _) rfl (fun K hK => ?_) AllReadyH.nil)
          · skip
            go_simp
            (go_at_call 45; refine (ref0_CopyRows none 0 0 (R.take 0) _ ((HRY.out.up hbd).take hpn) (by omega)).mono ?_; rintro e w7 ⟨v7, rfl, ho7, hb7⟩)
            obtain ⟨mA, mc, rfl, -⟩ := nmQ ho7 HTP.out (by omega)
            have hbb7 := bel_trans hbd hb7
            have HO7 : Hid (OwnQ w7 wm.heap.size (.slice mA 0 mc) (R.take 0)) := Lib.hid (ho7.mono hbd.size)
            clear ho7
            refine hK.out _ _ (hS _ hbb7) (fun hHeld => ?_)
            clear hK K
            (try simp only [Act.put, List.setIfInBounds_toArray, List.set_cons_zero, List.set_cons_succ])
            refine wpAnyH_ready (rs := [6]) (by kernel_rfl) (by simp) ?_
            refine AllReadyH.cons (o := _) rfl (fun K hK => ?_) AllReadyH.nil
            go_simp
            obtain ⟨gz, hgz⟩ : ∃ g, g = w7.heap.size := ⟨_, rfl⟩
            obtain ⟨ZB, hZB⟩ : ∃ Zr : World, Zr = w7.alloc (.cells #[.int .i64 k, .int .i64 d, .int .i64 0, .int .i64 0] 55) := ⟨_, rfl⟩
            rw [← hgz, ← hZB]
            have hza : Blk ZB gz 55 [.int .i64 k, .int .i64 d, .int .i64 0, .int .i64 0] := by rw [hZB, hgz]; exact Blk.new _ 55 [.int .i64 k, .int .i64 d, .int .i64 0, .int .i64 0]
            have hbz : Below w7.heap.size w7 ZB := by rw [hZB]; exact bel_alloc (Below.refl _ _)
            have hbbz := bel_trans hbb7 hbz
            clear hgz hZB
            have HO8 := Lib.hid (HO7.out.up hbz)
            refine hK.out _ _ (hS _ hbbz) (fun hHeld => ?_)
            clear hK K
            (try simp only [Act.put, List.setIfInBounds_toArray, List.set_cons_zero, List.set_cons_succ])
            refine wpAnyH_ready (rs := [7]) (by kernel_rfl) (by simp) ?_
            refine AllReadyH.cons (o := _) rfl (fun K hK => ?_) AllReadyH.nil
            refine step_appQ rfl (.tmp 51) (.tmp 53) rfl rfl wm.heap.size _ (R.take 0) (by simp [Act.eval, Act.put]) HO8.out gz 0 1 1 [⟨k, d, 0, 0⟩] (by simp [Act.eval, Act.put]) rfl (box_Q hza.box) (by rw [HTP.out]; omega) hbbz.size ?_
            intro v10 w10 hown10 hg10 hb10 hat10
            show K (Act.put _ (some 54) _) _
            refine hK.out _ _ (hS _ (hbbz.trans hb10)) (fun hHeld => ?_)
            clear hK K
            (try simp only [Act.put, List.setIfInBounds_toArray, List.set_cons_zero, List.set_cons_succ])
            (refine wpAnyH_tk 8 (some 14) (v := ?_) rfl rfl ?_ ?_; rotate_left; (focus (intro wq hSw; clear hSw; go_simp; all_goals (with_reducible rfl))); simp only [Act.put, List.setIfInBounds_toArray, List.set_cons_zero, List.set_cons_succ])
            refine wpAnyH_done (by kernel_rfl) ?_ _
            go_wp2_with fail
            go_meet
            exact ⟨Lib.hid hown10, hbbz.trans hb10⟩
          · skip
            go_simp
            obtain ⟨gz, hgz⟩ : ∃ g, g = Z.heap.size := ⟨_, rfl⟩
            obtain ⟨ZB, hZB⟩ : ∃ Zr : World, Zr = Z.alloc (.cells #[.int .i64 k, .int .i64 d, .int .i64 0, .int .i64 0] 55) := ⟨_, rfl⟩
            rw [← hgz, ← hZB]
            have hza : Blk ZB gz 55 [.int .i64 k, .int .i64 d, .int .i64 0, .int .i64 0] := by rw [hZB, hgz]; exact Blk.new _ 55 [.int .i64 k, .int .i64 d, .int .i64 0, .int .i64 0]
            have hbz : Below Z.heap.size Z ZB := by rw [hZB]; exact bel_alloc (Below.refl _ _)
            have hbbz := bel_trans hbd hbz
            clear hgz hZB
            refine hK.out _ _ (hS _ hbbz) (fun hHeld => ?_)
            clear hK K
            (try simp only [Act.put, List.setIfInBounds_toArray, List.set_cons_zero, List.set_cons_succ])
            refine wpAnyH_ready (rs := [4]) (by kernel_rfl) (by simp) ?_
            refine AllReadyH.cons (o := _) rfl (fun K hK => ?_) AllReadyH.nil
            go_simp
            (go_at_call 45; refine (ref0_CopyRows none 0 0 (R.take 0) _ ((HRY.out.up hbbz).take hpn) (by omega)).mono ?_; rintro e w7 ⟨v7, rfl, ho7, hb7⟩)
            obtain ⟨mA, mc, rfl, -⟩ := nmQ ho7 HTP.out (by omega)
            have hbb7 := bel_trans hbbz hb7
            have HO7 : Hid (OwnQ w7 wm.heap.size (.slice mA 0 mc) (R.take 0)) := Lib.hid (ho7.mono hbbz.size)
            clear ho7
            have hza7 := hza.up hb7
            refine hK.out _ _ (hS _ hbb7) (fun hHeld => ?_)
            clear hK K
            (try simp only [Act.put, List.setIfInBounds_toArray, List.set_cons_zero, List.set_cons_succ])
            refine wpAnyH_ready (rs := [7]) (by kernel_rfl) (by simp) ?_
            refine AllReadyH.cons (o := _) rfl (fun K hK => ?_) AllReadyH.nil
            refine step_appQ rfl (.tmp 51) (.tmp 53) rfl rfl wm.heap.size _ (R.take 0) (by simp [Act.eval, Act.put]) HO7.out gz 0 1 1 [⟨k, d, 0, 0⟩] (by simp [Act.eval, Act.put]) rfl (box_Q hza7.box) (by rw [HTP.out]; omega) hbb7.size ?_
            intro v10 w10 hown10 hg10 hb10 hat10
            show K (Act.put _ (some 54) _) _
            refine hK.out _ _ (hS _ (hbb7.trans hb10)) (fun hHeld => ?_)
            clear hK K
            (try simp only [Act.put, List.setIfInBounds_toArray, List.set_cons_zero, List.set_cons_succ])
            (refine wpAnyH_tk 8 (some 14) (v := ?_) rfl rfl ?_ ?_; rotate_left; (focus (intro wq hSw; clear hSw; go_simp; all_goals (with_reducible rfl))); simp only [Act.put, List.setIfInBounds_toArray, List.set_cons_zero, List.set_cons_succ])
            refine wpAnyH_done (by kernel_rfl) ?_ _
            go_wp2_with fail
            go_meet
            exact ⟨Lib.hid hown10, hbb7.trans hb10⟩
        · subst h1
          have hpc : p ≤ xc := by omega
          obtain ⟨S, hSd⟩ : ∃ S : World → Prop, S = fun Q => Q.rangeAt gr 0 [.int .i64 k, .int .i64 d, .int .i64 0, .int .i64 0] ∧ Q.cell? ⟨gx, 2, none⟩ = some (.slice (some ⟨g9, 0, none⟩) xn xc) := ⟨_, rfl⟩
          have hS2 : ∀ Q, S Q → Q.rangeAt gr 0 [.int .i64 k, .int .i64 d, .int .i64 0, .int .i64 0] := fun Q h => by rw [hSd] at h; exact h.1
          have hS1 : ∀ Q, S Q → Q.cell? ⟨gx, 2, none⟩ = some (.slice (some ⟨g9, 0, none⟩) xn xc) := fun Q h => by rw [hSd] at h; exact h.2
          have hS : ∀ Q, Below wm.heap.size wm Q → S Q := fun Q hQ => by rw [hSd]; exact ⟨Blk.rngQ (HRB.out.up hQ), (HXB.out.up hQ).box.2 2 _ rfl⟩
          clear hSd
          refine wp_region_held_drew (S := S) (by kernel_rfl) (hS _ (bel_drew (Below.refl _ _))) (fun hHeld => ?_)
          have hbd : Below wm.heap.size wm wm.drew := bel_drew (Below.refl _ _)
          generalize wm.drew = Z at *
          (refine wpAnyH_tk 0 (some 47) (v := ?_) rfl rfl ?_ ?_; rotate_left; (focus (intro wq hSw; clear hSw; go_simp; all_goals (with_reducible rfl))); simp only [Act.put, List.setIfInBounds_toArray, List.set_cons_zero, List.set_cons_succ])
          (refine wpAnyH_tk 1 (some 48) (v := ?_) rfl rfl ?_ ?_; rotate_left; (focus (intro wq hSw; have q1 := hS1 wq hSw; clear hSw; go_simp; all_goals (with_reducible rfl))); simp only [Act.put, List.setIfInBounds_toArray, List.set_cons_zero, List.set_cons_succ])
          (refine wpAnyH_tk 2 (some 49) (v := ?_) rfl rfl ?_ ?_; rotate_left; (focus (intro wq hSw; clear hSw; go_simp; all_goals (with_reducible rfl))); simp only [Act.put, List.setIfInBounds_toArray, List.set_cons_zero, List.set_cons_succ])
          (refine wpAnyH_tk 3 (some 50) (v := ?_) rfl rfl ?_ ?_; rotate_left; (focus (intro wq hSw; clear hSw; go_simp; all_goals (with_reducible rfl))); simp only [Act.put, List.setIfInBounds_toArray, List.set_cons_zero, List.set_cons_succ])
          refine wpAnyH_takeD (i := 5) (d := (some 52)) (v := .agg ([.int .i64 k, .int .i64 d, .int .i64 0, .int .i64 0]).toArray) rfl rfl (by kernel_rfl) (by kernel_rfl) (by kernel_rfl) (fun _ _ _ h => h) (yieldsIf_load_mid (by rfl) 55 _ rfl gr 0 (by simp [Act.eval, Act.put]) ([.int .i64 k, .int .i64 d, .int .i64 0, .int .i64 0]) _ (hS2) Try.underlying55 (by rfl) (by kernel_rfl)) (by assumption) ?_
          simp only [Act.put, List.setIfInBounds_toArray, List.set_cons_zero, List.set_cons_succ]
          refine wpAnyH_ready (rs := [4, 6]) (by kernel_rfl) (by simp) ?_
          refine AllReadyH.cons (o := _) rfl (fun K hK => ?_) (AllReadyH.cons (o := _) rfl (fun K hK => ?_) AllReadyH.nil)
          · skip
            go_simp
            (go_at_call 45; refine (ref0_CopyRows (some ⟨g9, 0, none⟩) p xc (R.take p) _ ((HRY.out.up hbd).take hpn) (by omega)).mono ?_; rintro e w7 ⟨v7, rfl, ho7, hb7⟩)
            obtain ⟨mA, mc, rfl, -⟩ := nmQ ho7 HTP.out (by omega)
            have hbb7 := bel_trans hbd hb7
            have HO7 : Hid (OwnQ w7 wm.heap.size (.slice mA p mc) (R.take p)) := Lib.hid (ho7.mono hbd.size)
            clear ho7
            refine hK.out _ _ (hS _ hbb7) (fun hHeld => ?_)
            clear hK K
            (try simp only [Act.put, List.setIfInBounds_toArray, List.set_cons_zero, List.set_cons_succ])
            refine wpAnyH_ready (rs := [6]) (by kernel_rfl) (by simp) ?_
            refine AllReadyH.cons (o := _) rfl (fun K hK => ?_) AllReadyH.nil
            go_simp
            obtain ⟨gz, hgz⟩ : ∃ g, g = w7.heap.size := ⟨_, rfl⟩
            obtain ⟨ZB, hZB⟩ : ∃ Zr : World, Zr = w7.alloc (.cells #[.int .i64 k, .int .i64 d, .int .i64 0, .int .i64 0] 55) := ⟨_, rfl⟩
            rw [← hgz, ← hZB]
            have hza : Blk ZB gz 55 [.int .i64 k, .int .i64 d, .int .i64 0, .int .i64 0] := by rw [hZB, hgz]; exact Blk.new _ 55 [.int .i64 k, .int .i64 d, .int .i64 0, .int .i64 0]
            have hbz : Below w7.heap.size w7 ZB := by rw [hZB]; exact bel_alloc (Below.refl _ _)
            have hbbz := bel_trans hbb7 hbz
            clear hgz hZB
            have HO8 := Lib.hid (HO7.out.up hbz)
            refine hK.out _ _ (hS _ hbbz) (fun hHeld => ?_)
            clear hK K
            (try simp only [Act.put, List.setIfInBounds_toArray, List.set_cons_zero, List.set_cons_succ])
            refine wpAnyH_ready (rs := [7]) (by kernel_rfl) (by simp) ?_
            refine AllReadyH.cons (o := _) rfl (fun K hK => ?_) AllReadyH.nil
            refine step_appQ rfl (.tmp 51) (.tmp 53) rfl rfl wm.heap.size _ (R.take p) (by simp [Act.eval, Act.put]) HO8.out gz 0 1 1 [⟨k, d, 0, 0⟩] (by simp [Act.eval, Act.put]) rfl (box_Q hza.box) (by rw [HTP.out]; omega) hbbz.size ?_
            intro v10 w10 hown10 hg10 hb10 hat10
            show K (Act.put _ (some 54) _) _
            refine hK.out _ _ (hS _ (hbbz.trans hb10)) (fun hHeld => ?_)
            clear hK K
            (try simp only [Act.put, List.setIfInBounds_toArray, List.set_cons_zero, List.set_cons_succ])
            (refine wpAnyH_tk 8 (some 14) (v := ?_) rfl rfl ?_ ?_; rotate_left; (focus (intro wq hSw; clear hSw; go_simp; all_goals (with_reducible rfl))); simp only [Act.put, List.setIfInBounds_toArray, List.set_cons_zero, List.set_cons_succ])
            refine wpAnyH_done (by kernel_rfl) ?_ _
            go_wp2_with fail
            go_meet
            exact ⟨Lib.hid hown10, hbbz.trans hb10⟩
          · skip
            go_simp
            obtain ⟨gz, hgz⟩ : ∃ g, g = Z.heap.size := ⟨_, rfl⟩
            obtain ⟨ZB, hZB⟩ : ∃ Zr : World, Zr = Z.alloc (.cells #[.int .i64 k, .int .i64 d, .int .i64 0, .int .i64 0] 55) := ⟨_, rfl⟩
            rw [← hgz, ← hZB]
            have hza : Blk ZB gz 55 [.int .i64 k, .int .i64 d, .int .i64 0, .int .i64 0] := by rw [hZB, hgz]; exact Blk.new _ 55 [.int .i64 k, .int .i64 d, .int .i64 0, .int .i64 0]
            have hbz : Below Z.heap.size Z ZB := by rw [hZB]; exact bel_alloc (Below.refl _ _)
            have hbbz := bel_trans hbd hbz
            clear hgz hZB
            refine hK.out _ _ (hS _ hbbz) (fun hHeld => ?_)
            clear hK K
            (try simp only [Act.put, List.setIfInBounds_toArray, List.set_cons_zero, List.set_cons_succ])
            refine wpAnyH_ready (rs := [4]) (by kernel_rfl) (by simp) ?_
            refine AllReadyH.cons (o := _) rfl (fun K hK => ?_) AllReadyH.nil
            go_simp
            (go_at_call 45; refine (ref0_CopyRows (some ⟨g9, 0, none⟩) p xc (R.take p) _ ((HRY.out.up hbbz).take hpn) (by omega)).mono ?_; rintro e w7 ⟨v7, rfl, ho7, hb7⟩)
            obtain ⟨mA, mc, rfl, -⟩ := nmQ ho7 HTP.out (by omega)
            have hbb7 := bel_trans hbbz hb7
            have HO7 : Hid (OwnQ w7 wm.heap.size (.slice mA p mc) (R.take p)) := Lib.hid (ho7.mono hbbz.size)
            clear ho7
            have hza7 := hza.up hb7
            refine hK.out _ _ (hS _ hbb7) (fun hHeld => ?_)
            clear hK K
            (try simp only [Act.put, List.setIfInBounds_toArray, List.set_cons_zero, List.set_cons_succ])
            refine wpAnyH_ready (rs := [7]) (by kernel_rfl) (by simp) ?_
            refine AllReadyH.cons (o := _) rfl (fun K hK => ?_) AllReadyH.nil
            refine step_appQ rfl (.tmp 51) (.tmp 53) rfl rfl wm.heap.size _ (R.take p) (by simp [Act.eval, Act.put]) HO7.out gz 0 1 1 [⟨k, d, 0, 0⟩] (by simp [Act.eval, Act.put]) rfl (box_Q hza7.box) (by rw [HTP.out]; omega) hbb7.size ?_
            intro v10 w10 hown10 hg10 hb10 hat10
            show K (Act.put _ (some 54) _) _
            refine hK.out _ _ (hS _ (hbb7.trans hb10)) (fun hHeld => ?_)
            clear hK K
            (try simp only [Act.put, List.setIfInBounds_toArray, List.set_cons_zero, List.set_cons_succ])
            (refine wpAnyH_tk 8 (some 14) (v := ?_) rfl rfl ?_ ?_; rotate_left; (focus (intro wq hSw; clear hSw; go_simp; all_goals (with_reducible rfl))); simp only [Act.put, List.setIfInBounds_toArray, List.set_cons_zero, List.set_cons_succ])
            refine wpAnyH_done (by kernel_rfl) ?_ _
            go_wp2_with fail
            go_meet
            exact ⟨Lib.hid hown10, hbb7.trans hb10⟩
      case rest =>
      obtain ⟨HM9, hby⟩ := hcut
      obtain ⟨wy, hwy⟩ : ∃ x, x = wc := ⟨_, rfl⟩
      subst hwy
      have HX9 := Lib.hid (HXB.out.up hby)
      have HF9 := Lib.hid (HFB0.out.up hby)
      have HR9 := Lib.hid (HRB.out.up hby)
      have HRY9 := Lib.hid (HRY.out.up hby)
      have HFB : Hid (∀ g, (Value.slice fA fn fc).ownBlock = some g → g < wm.heap.size) := Lib.hid (fun g e => (own_lt HFB0.out g e).2)
      have hgxm : gx < wm.heap.size := HXB.out.lt
      clear HRY HXB HFB0 HRB HOB
      have HRY := HRY9
      clear HRY9
      have HTM : Hid ((R.take p ++ [(⟨k, d, 0, 0⟩ : FRowD)]).length = p + 1) := Lib.hid (by rw [List.length_append, HTP.out]; rfl)
      obtain ⟨mA, mc, rfl, -⟩ := nmQ HM9.out HTM.out (by omega)
      have HMY := HM9
      have hsy := hby.size
      have HMN : Hid (mA ≠ none ∧ p + 1 ≤ mc) := Lib.hid (by rcases HMY.out.shape HTM.out with ⟨h1, h2, h3⟩ | ⟨g, h1, h2⟩; exact absurd h2 (by omega); exact ⟨by rw [h1]; exact fun h => (by cases h), h2⟩)
      have HDL : Hid ((R.drop p).length = xn - p) := Lib.hid (by rw [List.length_drop, show R.length = xn from HRN.out])
      have HP9 := HP
      have HLQ : Hid ((insQ (⟨k, d, 0, 0⟩ : FRowD) R).length = xn + 1) := Lib.hid (by rw [insQ_len, show R.length = xn from HRN.out])
      have HDV : Hid (∀ g, xA = some ⟨g, 0, none⟩ → ∀ off, (xc ≠ p → off = p * 4) → xn ≤ xc → ∀ j u, (flat encQ (R.drop p))[j]? = some u → wy.cell? ⟨g, off + j, none⟩ = some u) := Lib.hid (fun g eg off h hnc j u hj => if hlt : p < xn then (by have h8 := HRY.out; rw [eg] at h8; have h9 := drop_Q h8 hlt j u hj; rw [h (by omega)]; simpa using h9) else (by rw [List.drop_eq_nil_of_le (by rw [show R.length = xn from HRN.out]; omega)] at hj; simp [flat] at hj))
      have xl := HX9.out.lt
      have xf := HX9.out.frozen
      have x_0 := (HX9.out.box).2 0 _ rfl; have x_1 := (HX9.out.box).2 1 _ rfl; have x_2 := (HX9.out.box).2 2 _ rfl
      go_upto_region 10 with fail
      go_cut [] from 55 to 61 (fun wx => ∃ (sA : Option Addr) (sc : Nat), Hid (Blk wx gx 24 [.int .i64 id, .int .i64 nodes, .slice sA (xn + 1) sc]) ∧ Hid (OwnQ wx B (.slice sA (xn + 1) sc) (insQ ⟨k, d, 0, 0⟩ R)) ∧ Hid (OwnQ wx B (.slice fA fn fc) Fq) ∧ Hid (Blk wx gr 55 [.int .i64 k, .int .i64 d, .int .i64 0, .int .i64 0]) ∧ Below B W1 wx)
      case first =>
        rcases HSH.out with ⟨h1, h2, h3⟩ | ⟨g9, h1, hnc⟩
        · subst h1; subst h2; subst h3
          obtain rfl : p = 0 := by omega
          have hd0 : R = [] := List.eq_nil_of_length_eq_zero HRN.out
          have HNL : Hid (OwnQ wy wm.heap.size (.slice mA (0 + 1) mc) (insQ ⟨k, d, 0, 0⟩ R)) := Lib.hid (by have h9 := HMY.out; have h8 := ins_splitQ HP9.out; rw [← h8]; simpa [hd0] using h9)
          clear hd0
          go_wp2_with (at_builtin; refine wpList_app0Q rfl (.tmp 55) (.tmp 59) rfl _ mA _ mc rfl rfl (fun h => by have h9 := HMN.out; exact absurd h h9.1) (by have h9 := HMN.out; exact h9.2) _ _ rfl ?_)
          have hown5 := HNL.out
          have hb5 : Below wm.heap.size wy wy := Below.refl _ _
          have hX5 := HX9.out
          go_meet
          exact ⟨mA, mc, Lib.hid (hX5.set_ 2 _), Lib.hid ((OwnQ.setAp hown5 (own_ne_blk hown5 hX5 (by decide))).mono (by omega)), Lib.hid (OwnQ.setAp HF9.out (own_ne_blk HF9.out hX5 (by decide))), Lib.hid (HR9.out.far (p := ⟨gx, 2, none⟩) (by show gr ≠ gx; omega) _), (hbm.trans (hby.mono hBm)).trans (Below.set1 hBx _)⟩
        · subst h1
          have hpc : p ≤ xc := by omega
          by_cases hic : xc = p
          · subst hic
            have hxp : xn = xc := by omega
            subst hxp
            have hd0 : R.drop xn = [] := List.drop_eq_nil_of_le (by rw [show R.length = xn from HRN.out]; exact Nat.le_refl _)
            have HNL : Hid (OwnQ wy wm.heap.size (.slice mA (xn + 1) mc) (insQ ⟨k, d, 0, 0⟩ R)) := Lib.hid (by have h9 := HMY.out; have h8 := ins_splitQ HP9.out; rw [hd0, List.append_nil] at h8; rw [← h8]; exact h9)
            clear hd0
            go_wp2_with (at_builtin; refine wpList_app0Q rfl (.tmp 55) (.tmp 59) rfl _ mA _ mc rfl rfl (fun h => by have h9 := HMN.out; exact absurd h h9.1) (by have h9 := HMN.out; exact h9.2) _ _ rfl ?_)
            have hown5 := HNL.out
            have hX5 := HX9.out
            go_meet
            exact ⟨mA, mc, Lib.hid (hX5.set_ 2 _), Lib.hid ((OwnQ.setAp hown5 (own_ne_blk hown5 hX5 (by decide))).mono (by omega)), Lib.hid (OwnQ.setAp HF9.out (own_ne_blk HF9.out hX5 (by decide))), Lib.hid (HR9.out.far (p := ⟨gx, 2, none⟩) (by show gr ≠ gx; omega) _), (hbm.trans (hby.mono hBm)).trans (Below.set1 hBx _)⟩
          · skip
            go_wp2_with (at_builtin; refine wpList_appQ rfl (.tmp 55) (.tmp 59) rfl rfl wm.heap.size _ (R.take p ++ [(⟨k, d, 0, 0⟩ : FRowD)]) rfl HMY.out g9 (p * 4) (xn - p) _ (R.drop p) rfl HDL.out (HDV.out g9 rfl _ (fun h => by first | rfl | omega) hnc) (by rw [HTM.out]; omega) hsy ?_; intro v5 w5 hown5 hg5 hb5 hat5; rw [ins_splitQ HP9.out] at hown5; (obtain ⟨sA, sc, rfl, -⟩ := nmQ hown5 HLQ.out (by omega)); clear xl xf x_0 x_1 x_2; have hX5 : Blk w5 gx 24 [.int .i64 id, .int .i64 nodes, .slice (some ⟨g9, 0, none⟩) xn xc] := (hb5.block gx (by omega)).trans HX9.out; have xl := hX5.lt; have xf := hX5.frozen; have x_0 := (hX5.box).2 0 _ rfl; have x_1 := (hX5.box).2 1 _ rfl; have x_2 := (hX5.box).2 2 _ rfl)
            go_meet
            exact ⟨sA, sc, Lib.hid (hX5.set_ 2 _), Lib.hid ((OwnQ.setAp hown5 (own_ne_blk hown5 hX5 (by decide))).mono (by omega)), Lib.hid (OwnQ.setAp (own_of_heap HF9.out (fun g hg => hb5.block g (HFB.out g hg))) (own_ne_blk (own_of_heap HF9.out (fun g hg => hb5.block g (HFB.out g hg))) hX5 (by decide))), Lib.hid ((show Blk w5 gr 55 [.int .i64 k, .int .i64 d, .int .i64 0, .int .i64 0] from (hb5.block gr hgrm).trans HR9.out).far (p := ⟨gx, 2, none⟩) (by show gr ≠ gx; omega) _), (hbm.trans ((hby.mono hBm).trans (hb5.mono hBm))).trans (Below.set1 hBx _)⟩
      case rest =>
      clear HMY HMN HTM HDL HP9 HLQ HDV HX9 HF9 HR9 HRY HFB hby hbm hBm hsy HSH HTP hgxm xl xf x_0 x_1 x_2
      obtain ⟨sA, sc, HXT, HOT, HFT, HRT, hbT⟩ := hcut
      obtain ⟨wt, hwt⟩ : ∃ x, x = wc := ⟨_, rfl⟩
      subst hwt
      have hbTk : Below w.heap.size w wt := hb2.trans (hbT.mono (by omega))
      have HFR := Lib.hid (HFT.out.rowsR HFN.out (by omega))
      have l0t := (bcell hbTk).1 lb (lo + j) hlb
      rw [L0.out] at l0t
      have lbt : lb < _ := Nat.lt_of_lt_of_le hlb hbTk.size
      go_upto_region 12 with (go_at_call 76; refine (ref21_find fA fn fc Fq k d q z _ HFR.out HQ.out HZ.out).mono ?_; rintro e w5 ⟨rfl, hb5⟩)
      clear l0t lbt
      have HX5 := Lib.hid (HXT.out.up hb5)
      have HO5 := Lib.hid (HOT.out.up hb5)
      have HF5 := Lib.hid (HFT.out.up hb5)
      have HRB := Lib.hid (HRT.out.up hb5)
      have hbn : Below B W1 w5 := hbT.trans (hb5.mono (Nat.le_trans hB2 hbT.size))
      clear HXT HOT HFT HRT HFR hbT hbTk hb5
      obtain ⟨wn, hwn⟩ : ∃ x, x = w5 := ⟨_, rfl⟩
      subst hwn
      have hBn : B ≤ wn.heap.size := Nat.le_trans hB2 hbn.size
      have HRY : Hid (RowsR wn fA fn Fq) := Lib.hid (HF5.out.rowsR HFN.out (by omega))
      have HSH := Lib.hid (HF5.out.shape HFN.out)
      have HTP : Hid ((Fq.take q).length = q) := Lib.hid (by rw [List.length_take, show Fq.length = fn from HFN.out]; omega)
      go_cut [14] from 72 to 78 (fun s14 wx => Hid (OwnQ wx wn.heap.size s14 (Fq.take q ++ [⟨k, d, 0, 0⟩])) ∧ Below wn.heap.size wn wx)
      case first =>
        rcases HSH.out with ⟨h1, h2, h3⟩ | ⟨g9, h1, hnc⟩
        · subst h1; subst h2; subst h3
          obtain rfl : q = 0 := by omega
          obtain ⟨S, hSd⟩ : ∃ S : World → Prop, S = fun Q => Q.rangeAt gr 0 [.int .i64 k, .int .i64 d, .int .i64 0, .int .i64 0] := ⟨_, rfl⟩
          have hS2 : ∀ Q, S Q → Q.rangeAt gr 0 [.int .i64 k, .int .i64 d, .int .i64 0, .int .i64 0] := fun Q h => by rw [hSd] at h; exact h
          have hS : ∀ Q, Below wn.heap.size wn Q → S Q := fun Q hQ => by rw [hSd]; exact Blk.rngQ (HRB.out.up hQ)
          clear hSd
          refine wp_region_held_drew (S := S) (by kernel_rfl) (hS _ (bel_drew (Below.refl _ _))) (fun hHeld => ?_)
          have hbd : Below wn.heap.size wn wn.drew := bel_drew (Below.refl _ _)
          generalize wn.drew = Z at *
          (refine wpAnyH_tk 0 (some 72) (v := ?_) rfl rfl ?_ ?_; rotate_left; (focus (intro wq hSw; clear hSw; go_simp; all_goals (with_reducible rfl))); simp only [Act.put, List.setIfInBounds_toArray, List.set_cons_zero, List.set_cons_succ])
          (refine wpAnyH_tk 1 (some 73) (v := ?_) rfl rfl ?_ ?_; rotate_left; (focus (intro wq hSw; clear hSw; go_simp; all_goals (with_reducible rfl))); simp only [Act.put, List.setIfInBounds_toArray, List.set_cons_zero, List.set_cons_succ])
          (refine wpAnyH_tk 2 (some 74) (v := ?_) rfl rfl ?_ ?_; rotate_left; (focus (intro wq hSw; clear hSw; go_simp; all_goals (with_reducible rfl))); simp only [Act.put, List.setIfInBounds_toArray, List.set_cons_zero, List.set_cons_succ])
          refine wpAnyH_takeD (i := 4) (d := (some 76)) (v := .agg ([.int .i64 k, .int .i64 d, .int .i64 0, .int .i64 0]).toArray) rfl rfl (by kernel_rfl) (by kernel_rfl) (by kernel_rfl) (fun _ _ _ h => h) (yieldsIf_load_mid (by rfl) 55 _ rfl gr 0 (by simp [Act.eval, Act.put]) ([.int .i64 k, .int .i64 d, .int .i64 0, .int .i64 0]) _ (hS2) Try.underlying55 (by rfl) (by kernel_rfl)) (by assumption) ?_
          simp only [Act.put, List.setIfInBounds_toArray, List.set_cons_zero, List.set_cons_succ]
          refine wpAnyH_ready (rs := [3, 5]) (by kernel_rfl) (by simp) ?_
          refine AllReadyH.cons (o := _) rfl (fun K hK => ?_) (AllReadyH.cons (o := _) rfl (fun K hK => ?_) AllReadyH.nil)
          · skip
            go_simp
            (go_at_call 45; refine (ref0_CopyRows none 0 0 (Fq.take 0) _ ((HRY.out.up hbd).take hqn) (by omega)).mono ?_; rintro e w7 ⟨v7, rfl, ho7, hb7⟩)
            obtain ⟨mA, mc, rfl, -⟩ := nmQ ho7 HTP.out (by omega)
            have hbb7 := bel_trans hbd hb7
            have HO7 : Hid (OwnQ w7 wn.heap.size (.slice mA 0 mc) (Fq.take 0)) := Lib.hid (ho7.mono hbd.size)
            clear ho7
            refine hK.out _ _ (hS _ hbb7) (fun hHeld => ?_)
            clear hK K
            (try simp only [Act.put, List.setIfInBounds_toArray, List.set_cons_zero, List.set_cons_succ])
            refine wpAnyH_ready (rs := [5]) (by kernel_rfl) (by simp) ?_
            refine AllReadyH.cons (o := _) rfl (fun K hK => ?_) AllReadyH.nil
            go_simp
            obtain ⟨gz, hgz⟩ : ∃ g, g = w7.heap.size := ⟨_, rfl⟩
            obtain ⟨ZB, hZB⟩ : ∃ Zr : World, Zr = w7.alloc (.cells #[.int .i64 k, .int .i64 d, .int .i64 0, .int .i64 0] 55) := ⟨_, rfl⟩
            rw [← hgz, ← hZB]
            have hza : Blk ZB gz 55 [.int .i64 k, .int .i64 d, .int .i64 0, .int .i64 0] := by rw [hZB, hgz]; exact Blk.new _ 55 [.int .i64 k, .int .i64 d, .int .i64 0, .int .i64 0]
            have hbz : Below w7.heap.size w7 ZB := by rw [hZB]; exact bel_alloc (Below.refl _ _)
            have hbbz := bel_trans hbb7 hbz
            clear hgz hZB
            have HO8 := Lib.hid (HO7.out.up hbz)
            refine hK.out _ _ (hS _ hbbz) (fun hHeld => ?_)
            clear hK K
            (try simp only [Act.put, List.setIfInBounds_toArray, List.set_cons_zero, List.set_cons_succ])
            refine wpAnyH_ready (rs := [6]) (by kernel_rfl) (by simp) ?_
            refine AllReadyH.cons (o := _) rfl (fun K hK => ?_) AllReadyH.nil
            refine step_appQ rfl (.tmp 75) (.tmp 77) rfl rfl wn.heap.size _ (Fq.take 0) (by simp [Act.eval, Act.put]) HO8.out gz 0 1 1 [⟨k, d, 0, 0⟩] (by simp [Act.eval, Act.put]) rfl (box_Q hza.box) (by rw [HTP.out]; omega) hbbz.size ?_
            intro v10 w10 hown10 hg10 hb10 hat10
            show K (Act.put _ (some 78) _) _
            refine hK.out _ _ (hS _ (hbbz.trans hb10)) (fun hHeld => ?_)
            clear hK K
            (try simp only [Act.put, List.setIfInBounds_toArray, List.set_cons_zero, List.set_cons_succ])
            (refine wpAnyH_tk 7 (some 14) (v := ?_) rfl rfl ?_ ?_; rotate_left; (focus (intro wq hSw; clear hSw; go_simp; all_goals (with_reducible rfl))); simp only [Act.put, List.setIfInBounds_toArray, List.set_cons_zero, List.set_cons_succ])
            refine wpAnyH_done (by kernel_rfl) ?_ _
            go_wp2_with fail
            go_meet
            exact ⟨Lib.hid hown10, hbbz.trans hb10⟩
          · skip
            go_simp
            obtain ⟨gz, hgz⟩ : ∃ g, g = Z.heap.size := ⟨_, rfl⟩
            obtain ⟨ZB, hZB⟩ : ∃ Zr : World, Zr = Z.alloc (.cells #[.int .i64 k, .int .i64 d, .int .i64 0, .int .i64 0] 55) := ⟨_, rfl⟩
            rw [← hgz, ← hZB]
            have hza : Blk ZB gz 55 [.int .i64 k, .int .i64 d, .int .i64 0, .int .i64 0] := by rw [hZB, hgz]; exact Blk.new _ 55 [.int .i64 k, .int .i64 d, .int .i64 0, .int .i64 0]
            have hbz : Below Z.heap.size Z ZB := by rw [hZB]; exact bel_alloc (Below.refl _ _)
            have hbbz := bel_trans hbd hbz
            clear hgz hZB
            refine hK.out _ _ (hS _ hbbz) (fun hHeld => ?_)
            clear hK K
            (try simp only [Act.put, List.setIfInBounds_toArray, List.set_cons_zero, List.set_cons_succ])
            refine wpAnyH_ready (rs := [3]) (by kernel_rfl) (by simp) ?_
            refine AllReadyH.cons (o := _) rfl (fun K hK => ?_) AllReadyH.nil
            go_simp
            (go_at_call 45; refine (ref0_CopyRows none 0 0 (Fq.take 0) _ ((HRY.out.up hbbz).take hqn) (by omega)).mono ?_; rintro e w7 ⟨v7, rfl, ho7, hb7⟩)
            obtain ⟨mA, mc, rfl, -⟩ := nmQ ho7 HTP.out (by omega)
            have hbb7 := bel_trans hbbz hb7
            have HO7 : Hid (OwnQ w7 wn.heap.size (.slice mA 0 mc) (Fq.take 0)) := Lib.hid (ho7.mono hbbz.size)
            clear ho7
            have hza7 := hza.up hb7
            refine hK.out _ _ (hS _ hbb7) (fun hHeld => ?_)
            clear hK K
            (try simp only [Act.put, List.setIfInBounds_toArray, List.set_cons_zero, List.set_cons_succ])
            refine wpAnyH_ready (rs := [6]) (by kernel_rfl) (by simp) ?_
            refine AllReadyH.cons (o := _) rfl (fun K hK => ?_) AllReadyH.nil
            refine step_appQ rfl (.tmp 75) (.tmp 77) rfl rfl wn.heap.size _ (Fq.take 0) (by simp [Act.eval, Act.put]) HO7.out gz 0 1 1 [⟨k, d, 0, 0⟩] (by simp [Act.eval, Act.put]) rfl (box_Q hza7.box) (by rw [HTP.out]; omega) hbb7.size ?_
            intro v10 w10 hown10 hg10 hb10 hat10
            show K (Act.put _ (some 78) _) _
            refine hK.out _ _ (hS _ (hbb7.trans hb10)) (fun hHeld => ?_)
            clear hK K
            (try simp only [Act.put, List.setIfInBounds_toArray, List.set_cons_zero, List.set_cons_succ])
            (refine wpAnyH_tk 7 (some 14) (v := ?_) rfl rfl ?_ ?_; rotate_left; (focus (intro wq hSw; clear hSw; go_simp; all_goals (with_reducible rfl))); simp only [Act.put, List.setIfInBounds_toArray, List.set_cons_zero, List.set_cons_succ])
            refine wpAnyH_done (by kernel_rfl) ?_ _
            go_wp2_with fail
            go_meet
            exact ⟨Lib.hid hown10, hbb7.trans hb10⟩
        · subst h1
          have hpc : q ≤ fc := by omega
          obtain ⟨S, hSd⟩ : ∃ S : World → Prop, S = fun Q => Q.rangeAt gr 0 [.int .i64 k, .int .i64 d, .int .i64 0, .int .i64 0] := ⟨_, rfl⟩
          have hS2 : ∀ Q, S Q → Q.rangeAt gr 0 [.int .i64 k, .int .i64 d, .int .i64 0, .int .i64 0] := fun Q h => by rw [hSd] at h; exact h
          have hS : ∀ Q, Below wn.heap.size wn Q → S Q := fun Q hQ => by rw [hSd]; exact Blk.rngQ (HRB.out.up hQ)
          clear hSd
          refine wp_region_held_drew (S := S) (by kernel_rfl) (hS _ (bel_drew (Below.refl _ _))) (fun hHeld => ?_)
          have hbd : Below wn.heap.size wn wn.drew := bel_drew (Below.refl _ _)
          generalize wn.drew = Z at *
          (refine wpAnyH_tk 0 (some 72) (v := ?_) rfl rfl ?_ ?_; rotate_left; (focus (intro wq hSw; clear hSw; go_simp; all_goals (with_reducible rfl))); simp only [Act.put, List.setIfInBounds_toArray, List.set_cons_zero, List.set_cons_succ])
          (refine wpAnyH_tk 1 (some 73) (v := ?_) rfl rfl ?_ ?_; rotate_left; (focus (intro wq hSw; clear hSw; go_simp; all_goals (with_reducible rfl))); simp only [Act.put, List.setIfInBounds_toArray, List.set_cons_zero, List.set_cons_succ])
          (refine wpAnyH_tk 2 (some 74) (v := ?_) rfl rfl ?_ ?_; rotate_left; (focus (intro wq hSw; clear hSw; go_simp; all_goals (with_reducible rfl))); simp only [Act.put, List.setIfInBounds_toArray, List.set_cons_zero, List.set_cons_succ])
          refine wpAnyH_takeD (i := 4) (d := (some 76)) (v := .agg ([.int .i64 k, .int .i64 d, .int .i64 0, .int .i64 0]).toArray) rfl rfl (by kernel_rfl) (by kernel_rfl) (by kernel_rfl) (fun _ _ _ h => h) (yieldsIf_load_mid (by rfl) 55 _ rfl gr 0 (by simp [Act.eval, Act.put]) ([.int .i64 k, .int .i64 d, .int .i64 0, .int .i64 0]) _ (hS2) Try.underlying55 (by rfl) (by kernel_rfl)) (by assumption) ?_
          simp only [Act.put, List.setIfInBounds_toArray, List.set_cons_zero, List.set_cons_succ]
          refine wpAnyH_ready (rs := [3, 5]) (by kernel_rfl) (by simp) ?_
          refine AllReadyH.cons (o := _) rfl (fun K hK => ?_) (AllReadyH.cons (o := _) rfl (fun K hK => ?_) AllReadyH.nil)
          · skip
            go_simp
            (go_at_call 45; refine (ref0_CopyRows (some ⟨g9, 0, none⟩) q fc (Fq.take q) _ ((HRY.out.up hbd).take hqn) (by omega)).mono ?_; rintro e w7 ⟨v7, rfl, ho7, hb7⟩)
            obtain ⟨mA, mc, rfl, -⟩ := nmQ ho7 HTP.out (by omega)
            have hbb7 := bel_trans hbd hb7
            have HO7 : Hid (OwnQ w7 wn.heap.size (.slice mA q mc) (Fq.take q)) := Lib.hid (ho7.mono hbd.size)
            clear ho7
            refine hK.out _ _ (hS _ hbb7) (fun hHeld => ?_)
            clear hK K
            (try simp only [Act.put, List.setIfInBounds_toArray, List.set_cons_zero, List.set_cons_succ])
            refine wpAnyH_ready (rs := [5]) (by kernel_rfl) (by simp) ?_
            refine AllReadyH.cons (o := _) rfl (fun K hK => ?_) AllReadyH.nil
            go_simp
            obtain ⟨gz, hgz⟩ : ∃ g, g = w7.heap.size := ⟨_, rfl⟩
            obtain ⟨ZB, hZB⟩ : ∃ Zr : World, Zr = w7.alloc (.cells #[.int .i64 k, .int .i64 d, .int .i64 0, .int .i64 0] 55) := ⟨_, rfl⟩
            rw [← hgz, ← hZB]
            have hza : Blk ZB gz 55 [.int .i64 k, .int .i64 d, .int .i64 0, .int .i64 0] := by rw [hZB, hgz]; exact Blk.new _ 55 [.int .i64 k, .int .i64 d, .int .i64 0, .int .i64 0]
            have hbz : Below w7.heap.size w7 ZB := by rw [hZB]; exact bel_alloc (Below.refl _ _)
            have hbbz := bel_trans hbb7 hbz
            clear hgz hZB
            have HO8 := Lib.hid (HO7.out.up hbz)
            refine hK.out _ _ (hS _ hbbz) (fun hHeld => ?_)
            clear hK K
            (try simp only [Act.put, List.setIfInBounds_toArray, List.set_cons_zero, List.set_cons_succ])
            refine wpAnyH_ready (rs := [6]) (by kernel_rfl) (by simp) ?_
            refine AllReadyH.cons (o := _) rfl (fun K hK => ?_) AllReadyH.nil
            refine step_appQ rfl (.tmp 75) (.tmp 77) rfl rfl wn.heap.size _ (Fq.take q) (by simp [Act.eval, Act.put]) HO8.out gz 0 1 1 [⟨k, d, 0, 0⟩] (by simp [Act.eval, Act.put]) rfl (box_Q hza.box) (by rw [HTP.out]; omega) hbbz.size ?_
            intro v10 w10 hown10 hg10 hb10 hat10
            show K (Act.put _ (some 78) _) _
            refine hK.out _ _ (hS _ (hbbz.trans hb10)) (fun hHeld => ?_)
            clear hK K
            (try simp only [Act.put, List.setIfInBounds_toArray, List.set_cons_zero, List.set_cons_succ])
            (refine wpAnyH_tk 7 (some 14) (v := ?_) rfl rfl ?_ ?_; rotate_left; (focus (intro wq hSw; clear hSw; go_simp; all_goals (with_reducible rfl))); simp only [Act.put, List.setIfInBounds_toArray, List.set_cons_zero, List.set_cons_succ])
            refine wpAnyH_done (by kernel_rfl) ?_ _
            go_wp2_with fail
            go_meet
            exact ⟨Lib.hid hown10, hbbz.trans hb10⟩
          · skip
            go_simp
            obtain ⟨gz, hgz⟩ : ∃ g, g = Z.heap.size := ⟨_, rfl⟩
            obtain ⟨ZB, hZB⟩ : ∃ Zr : World, Zr = Z.alloc (.cells #[.int .i64 k, .int .i64 d, .int .i64 0, .int .i64 0] 55) := ⟨_, rfl⟩
            rw [← hgz, ← hZB]
            have hza : Blk ZB gz 55 [.int .i64 k, .int .i64 d, .int .i64 0, .int .i64 0] := by rw [hZB, hgz]; exact Blk.new _ 55 [.int .i64 k, .int .i64 d, .int .i64 0, .int .i64 0]
            have hbz : Below Z.heap.size Z ZB := by rw [hZB]; exact bel_alloc (Below.refl _ _)
            have hbbz := bel_trans hbd hbz
            clear hgz hZB
            refine hK.out _ _ (hS _ hbbz) (fun hHeld => ?_)
            clear hK K
            (try simp only [Act.put, List.setIfInBounds_toArray, List.set_cons_zero, List.set_cons_succ])
            refine wpAnyH_ready (rs := [3]) (by kernel_rfl) (by simp) ?_
            refine AllReadyH.cons (o := _) rfl (fun K hK => ?_) AllReadyH.nil
            go_simp
            (go_at_call 45; refine (ref0_CopyRows (some ⟨g9, 0, none⟩) q fc (Fq.take q) _ ((HRY.out.up hbbz).take hqn) (by omega)).mono ?_; rintro e w7 ⟨v7, rfl, ho7, hb7⟩)
            obtain ⟨mA, mc, rfl, -⟩ := nmQ ho7 HTP.out (by omega)
            have hbb7 := bel_trans hbbz hb7
            have HO7 : Hid (OwnQ w7 wn.heap.size (.slice mA q mc) (Fq.take q)) := Lib.hid (ho7.mono hbbz.size)
            clear ho7
            have hza7 := hza.up hb7
            refine hK.out _ _ (hS _ hbb7) (fun hHeld => ?_)
            clear hK K
            (try simp only [Act.put, List.setIfInBounds_toArray, List.set_cons_zero, List.set_cons_succ])
            refine wpAnyH_ready (rs := [6]) (by kernel_rfl) (by simp) ?_
            refine AllReadyH.cons (o := _) rfl (fun K hK => ?_) AllReadyH.nil
            refine step_appQ rfl (.tmp 75) (.tmp 77) rfl rfl wn.heap.size _ (Fq.take q) (by simp [Act.eval, Act.put]) HO7.out gz 0 1 1 [⟨k, d, 0, 0⟩] (by simp [Act.eval, Act.put]) rfl (box_Q hza7.box) (by rw [HTP.out]; omega) hbb7.size ?_
            intro v10 w10 hown10 hg10 hb10 hat10
            show K (Act.put _ (some 78) _) _
            refine hK.out _ _ (hS _ (hbb7.trans hb10)) (fun hHeld => ?_)
            clear hK K
            (try simp only [Act.put, List.setIfInBounds_toArray, List.set_cons_zero, List.set_cons_succ])
            (refine wpAnyH_tk 7 (some 14) (v := ?_) rfl rfl ?_ ?_; rotate_left; (focus (intro wq hSw; clear hSw; go_simp; all_goals (with_reducible rfl))); simp only [Act.put, List.setIfInBounds_toArray, List.set_cons_zero, List.set_cons_succ])
            refine wpAnyH_done (by kernel_rfl) ?_ _
            go_wp2_with fail
            go_meet
            exact ⟨Lib.hid hown10, hbb7.trans hb10⟩
      case rest =>
      obtain ⟨HM9, hby⟩ := hcut
      obtain ⟨wy, hwy⟩ : ∃ x, x = wc := ⟨_, rfl⟩
      subst hwy
      have HRY9 := Lib.hid (HRY.out.up hby)
      clear HRY
      have HRY := HRY9
      clear HRY9
      have HTM : Hid ((Fq.take q ++ [(⟨k, d, 0, 0⟩ : FRowD)]).length = q + 1) := Lib.hid (by rw [List.length_append, HTP.out]; rfl)
      obtain ⟨mA, mc, rfl, -⟩ := nmQ HM9.out HTM.out (by omega)
      have HMY := HM9
      have hsy := hby.size
      have HMN : Hid (mA ≠ none ∧ q + 1 ≤ mc) := Lib.hid (by rcases HMY.out.shape HTM.out with ⟨h1, h2, h3⟩ | ⟨g, h1, h2⟩; exact absurd h2 (by omega); exact ⟨by rw [h1]; exact fun h => (by cases h), h2⟩)
      have HDL : Hid ((Fq.drop q).length = fn - q) := Lib.hid (by rw [List.length_drop, show Fq.length = fn from HFN.out])
      have HP9 := HQ
      have HLQ : Hid ((insQ (⟨k, d, 0, 0⟩ : FRowD) Fq).length = fn + 1) := Lib.hid (by rw [insQ_len, show Fq.length = fn from HFN.out])
      have HDV : Hid (∀ g, fA = some ⟨g, 0, none⟩ → ∀ off, (fc ≠ q → off = q * 4) → fn ≤ fc → ∀ j u, (flat encQ (Fq.drop q))[j]? = some u → wy.cell? ⟨g, off + j, none⟩ = some u) := Lib.hid (fun g eg off h hnc j u hj => if hlt : q < fn then (by have h8 := HRY.out; rw [eg] at h8; have h9 := drop_Q h8 hlt j u hj; rw [h (by omega)]; simpa using h9) else (by rw [List.drop_eq_nil_of_le (by rw [show Fq.length = fn from HFN.out]; omega)] at hj; simp [flat] at hj))
      have HX5' := HX5
      rcases HSH.out with ⟨h1, h2, h3⟩ | ⟨g9, h1, hnc⟩
      · subst h1; subst h2; subst h3
        obtain rfl : q = 0 := by omega
        have hd0 : Fq = [] := List.eq_nil_of_length_eq_zero HFN.out
        have HNL : Hid (OwnQ wy wn.heap.size (.slice mA (0 + 1) mc) (insQ ⟨k, d, 0, 0⟩ Fq)) := Lib.hid (by have h9 := HMY.out; have h8 := ins_splitQ HP9.out; rw [← h8]; simpa [hd0] using h9)
        clear hd0
        go_wp2_with (at_builtin; refine wpList_app0Q rfl (.tmp 79) (.tmp 82) rfl _ mA _ mc rfl rfl (fun h => by have h9 := HMN.out; exact absurd h h9.1) (by have h9 := HMN.out; exact h9.2) _ _ rfl ?_)
        have hown5 := HNL.out
        have hbnu := hby
        (first | (go_round; (case rel => exact ⟨j + 1, sA, xn + 1, sc, mA, 0 + 1, mc, by omega, by go_num, rfl, Lib.hid (by rw [HST.out, HEQ.out]; show (insQ _ R).length = _; rw [insQ_len, show R.length = xn from HRN.out]), Lib.hid (by rw [HST.out, HEQ.out]; exact HLQ.out), Lib.hid (by rw [HST.out, HEQ.out]; exact hown5.mono (by omega)), Lib.hid (by rw [HST.out, HEQ.out]; exact HO5.out.up hbnu), Lib.hid (HX5.out.up hbnu), hbn.trans (hbnu.mono hBn)⟩); (case measure => (simp [intOf] <;> omega))) | (go_roundw; (case rel => exact ⟨j + 1, sA, xn + 1, sc, mA, 0 + 1, mc, by omega, by go_num, rfl, Lib.hid (by rw [HST.out, HEQ.out]; show (insQ _ R).length = _; rw [insQ_len, show R.length = xn from HRN.out]), Lib.hid (by rw [HST.out, HEQ.out]; exact HLQ.out), Lib.hid (by rw [HST.out, HEQ.out]; exact hown5.mono (by omega)), Lib.hid (by rw [HST.out, HEQ.out]; exact HO5.out.up hbnu), Lib.hid (HX5.out.up hbnu), hbn.trans (hbnu.mono hBn)⟩); (case measure => (simp [intOf] <;> omega))) | (refine ⟨?_, by simp [intOf] <;> omega⟩; (repeat apply Exists.intro); refine ⟨?rel, ?fr⟩; (case fr => ((repeat' apply And.intro) <;> rfl)); (case rel => exact ⟨j + 1, sA, xn + 1, sc, mA, 0 + 1, mc, by omega, by go_num, rfl, Lib.hid (by rw [HST.out, HEQ.out]; show (insQ _ R).length = _; rw [insQ_len, show R.length = xn from HRN.out]), Lib.hid (by rw [HST.out, HEQ.out]; exact HLQ.out), Lib.hid (by rw [HST.out, HEQ.out]; exact hown5.mono (by omega)), Lib.hid (by rw [HST.out, HEQ.out]; exact HO5.out.up hbnu), Lib.hid (HX5.out.up hbnu), hbn.trans (hbnu.mono hBn)⟩)))
      · subst h1
        have hpc : q ≤ fc := by omega
        by_cases hic : fc = q
        · subst hic
          have hxp : fn = fc := by omega
          subst hxp
          have hd0 : Fq.drop fn = [] := List.drop_eq_nil_of_le (by rw [show Fq.length = fn from HFN.out]; exact Nat.le_refl _)
          have HNL : Hid (OwnQ wy wn.heap.size (.slice mA (fn + 1) mc) (insQ ⟨k, d, 0, 0⟩ Fq)) := Lib.hid (by have h9 := HMY.out; have h8 := ins_splitQ HP9.out; rw [hd0, List.append_nil] at h8; rw [← h8]; exact h9)
          clear hd0
          go_wp2_with (at_builtin; refine wpList_app0Q rfl (.tmp 79) (.tmp 82) rfl _ mA _ mc rfl rfl (fun h => by have h9 := HMN.out; exact absurd h h9.1) (by have h9 := HMN.out; exact h9.2) _ _ rfl ?_)
          have hown5 := HNL.out
          have hbnu := hby
          (first | (go_round; (case rel => exact ⟨j + 1, sA, xn + 1, sc, mA, fn + 1, mc, by omega, by go_num, rfl, Lib.hid (by rw [HST.out, HEQ.out]; show (insQ _ R).length = _; rw [insQ_len, show R.length = xn from HRN.out]), Lib.hid (by rw [HST.out, HEQ.out]; exact HLQ.out), Lib.hid (by rw [HST.out, HEQ.out]; exact hown5.mono (by omega)), Lib.hid (by rw [HST.out, HEQ.out]; exact HO5.out.up hbnu), Lib.hid (HX5.out.up hbnu), hbn.trans (hbnu.mono hBn)⟩); (case measure => (simp [intOf] <;> omega))) | (go_roundw; (case rel => exact ⟨j + 1, sA, xn + 1, sc, mA, fn + 1, mc, by omega, by go_num, rfl, Lib.hid (by rw [HST.out, HEQ.out]; show (insQ _ R).length = _; rw [insQ_len, show R.length = xn from HRN.out]), Lib.hid (by rw [HST.out, HEQ.out]; exact HLQ.out), Lib.hid (by rw [HST.out, HEQ.out]; exact hown5.mono (by omega)), Lib.hid (by rw [HST.out, HEQ.out]; exact HO5.out.up hbnu), Lib.hid (HX5.out.up hbnu), hbn.trans (hbnu.mono hBn)⟩); (case measure => (simp [intOf] <;> omega))) | (refine ⟨?_, by simp [intOf] <;> omega⟩; (repeat apply Exists.intro); refine ⟨?rel, ?fr⟩; (case fr => ((repeat' apply And.intro) <;> rfl)); (case rel => exact ⟨j + 1, sA, xn + 1, sc, mA, fn + 1, mc, by omega, by go_num, rfl, Lib.hid (by rw [HST.out, HEQ.out]; show (insQ _ R).length = _; rw [insQ_len, show R.length = xn from HRN.out]), Lib.hid (by rw [HST.out, HEQ.out]; exact HLQ.out), Lib.hid (by rw [HST.out, HEQ.out]; exact hown5.mono (by omega)), Lib.hid (by rw [HST.out, HEQ.out]; exact HO5.out.up hbnu), Lib.hid (HX5.out.up hbnu), hbn.trans (hbnu.mono hBn)⟩)))
        · skip
          go_wp2_with (at_builtin; refine wpList_appQ rfl (.tmp 79) (.tmp 82) rfl rfl wn.heap.size _ (Fq.take q ++ [(⟨k, d, 0, 0⟩ : FRowD)]) rfl HMY.out g9 (q * 4) (fn - q) _ (Fq.drop q) rfl HDL.out (HDV.out g9 rfl _ (fun h => by first | rfl | omega) hnc) (by rw [HTM.out]; omega) hsy ?_; intro v5 w5 hown5 hg5 hb5 hat5; rw [ins_splitQ HP9.out] at hown5; (obtain ⟨tA, tc, rfl, -⟩ := nmQ hown5 HLQ.out (by omega)))
          have hbnu := hby.trans hb5
          (first | (go_round; (case rel => exact ⟨j + 1, sA, xn + 1, sc, tA, fn + 1, tc, by omega, by go_num, rfl, Lib.hid (by rw [HST.out, HEQ.out]; show (insQ _ R).length = _; rw [insQ_len, show R.length = xn from HRN.out]), Lib.hid (by rw [HST.out, HEQ.out]; exact HLQ.out), Lib.hid (by rw [HST.out, HEQ.out]; exact hown5.mono (by omega)), Lib.hid (by rw [HST.out, HEQ.out]; exact HO5.out.up hbnu), Lib.hid (HX5.out.up hbnu), hbn.trans (hbnu.mono hBn)⟩); (case measure => (simp [intOf] <;> omega))) | (go_roundw; (case rel => exact ⟨j + 1, sA, xn + 1, sc, tA, fn + 1, tc, by omega, by go_num, rfl, Lib.hid (by rw [HST.out, HEQ.out]; show (insQ _ R).length = _; rw [insQ_len, show R.length = xn from HRN.out]), Lib.hid (by rw [HST.out, HEQ.out]; exact HLQ.out), Lib.hid (by rw [HST.out, HEQ.out]; exact hown5.mono (by omega)), Lib.hid (by rw [HST.out, HEQ.out]; exact HO5.out.up hbnu), Lib.hid (HX5.out.up hbnu), hbn.trans (hbnu.mono hBn)⟩); (case measure => (simp [intOf] <;> omega))) | (refine ⟨?_, by simp [intOf] <;> omega⟩; (repeat apply Exists.intro); refine ⟨?rel, ?fr⟩; (case fr => ((repeat' apply And.intro) <;> rfl)); (case rel => exact ⟨j + 1, sA, xn + 1, sc, tA, fn + 1, tc, by omega, by go_num, rfl, Lib.hid (by rw [HST.out, HEQ.out]; show (insQ _ R).length = _; rw [insQ_len, show R.length = xn from HRN.out]), Lib.hid (by rw [HST.out, HEQ.out]; exact HLQ.out), Lib.hid (by rw [HST.out, HEQ.out]; exact hown5.mono (by omega)), Lib.hid (by rw [HST.out, HEQ.out]; exact HO5.out.up hbnu), Lib.hid (HX5.out.up hbnu), hbn.trans (hbnu.mono hBn)⟩)))
    · skip
      subst hB
      obtain rfl : ln = j := by omega
      rw [List.take_of_length_le (by rw [HLN.out]; exact Nat.le_refl _)] at HRN HFN HO9 HOX
      rw [HRF.out] at HRN HFN HO9 HOX
      have HWI := HWL
      have hfn64 : fn ≤ 64 := by rw [← HFN.out]; exact Nat.le_trans HWI.out.l2 HWI.out.l1
      have HTF : Hid (∀ j, j < fn → 0 ≤ (qth Fq j).tr ∧ (qth Fq j).tr ≤ 1099511627776) := Lib.hid (fun j hj => by
        have hj' : j < Fq.length := by rw [show Fq.length = fn from HFN.out]; exact hj
        rw [qth_at _ _ hj']
        exact numB_iff.1 (HWI.out.tr _ (HWI.out.sub _ (List.getElem_mem hj'))))
      have HF4 := HX
      have HG4 : Hid (Blk wk (w.heap.size + 1) 24 [.int .i64 0, .int .i64 0, .slice none 0 0]) := Lib.hid ((hbw.block _ (by omega)).trans HG2.out)
      have HR4 := HOX
      have HFR : Hid (RowsR wk fA fn Fq) := Lib.hid (HO9.out.rowsR HFN.out (by omega))
      have hb4 := hbk
      have hw4 : w.heap.size + 2 ≤ wk.heap.size := by omega
      go_upto_region 14 with fail
      obtain ⟨W4, hW4⟩ : ∃ x, x = wk := ⟨_, rfl⟩
      subst hW4
      go_cut [7] from 84 to 87 (fun s7 wx => Hid (Blk wx (w.heap.size + 1) 24 [.int .i64 id, .int .i64 nodes, .slice xA xn xc]) ∧ Hid (OwnQ wx (w.heap.size + 2) (.slice xA xn xc) R) ∧ Hid (OwnMs wx (w.heap.size + 2) s7 (fL id nodes Fq)) ∧ Below w.heap.size w wx)
      case first =>
        obtain ⟨S, hSd⟩ : ∃ S : World → Prop, S = fun Q => Q.rangeAt gx 0 [.int .i64 id, .int .i64 nodes, .slice xA xn xc] := ⟨_, rfl⟩
        have hS1 : ∀ Q, S Q → Q.rangeAt gx 0 [.int .i64 id, .int .i64 nodes, .slice xA xn xc] := fun Q h => by rw [hSd] at h; exact h
        have hS : ∀ Q, Below W4.heap.size W4 Q → S Q := fun Q hQ => by rw [hSd]; exact Blk.rngQ (HF4.out.up hQ)
        have hS2 : ∀ Q, Blk Q gx 24 [.int .i64 id, .int .i64 nodes, .slice xA xn xc] → S Q := fun Q h => by rw [hSd]; exact Blk.rngQ h
        clear hSd
        refine wp_region_held_drew (S := S) (by kernel_rfl) (hS _ (bel_drew (Below.refl _ _))) (fun hHeld => ?_)
        have hbd : Below W4.heap.size W4 W4.drew := bel_drew (Below.refl _ _)
        generalize W4.drew = Z at *
        refine wpAnyH_takeD (i := 0) (d := (some 84)) (v := .agg ([.int .i64 id, .int .i64 nodes, .slice xA xn xc]).toArray) rfl rfl (by kernel_rfl) (by kernel_rfl) (by kernel_rfl) (fun _ _ _ h => h) (yieldsIf_load_mid (by rfl) 24 _ rfl gx 0 (by simp [Act.eval, Act.put]) ([.int .i64 id, .int .i64 nodes, .slice xA xn xc]) _ (hS1) Try.underlying24 (by rfl) (by kernel_rfl)) (by assumption) ?_
        simp only [Act.put, List.setIfInBounds_toArray, List.set_cons_zero, List.set_cons_succ]
        refine wpAnyH_takeD (i := 1) (d := (some 85)) (v := .agg ([.int .i64 id, .int .i64 nodes, .slice xA xn xc]).toArray) rfl rfl (by kernel_rfl) (by kernel_rfl) (by kernel_rfl) (fun _ _ _ h => h) (yieldsIf_load_mid (by rfl) 24 _ rfl gx 0 (by simp [Act.eval, Act.put]) ([.int .i64 id, .int .i64 nodes, .slice xA xn xc]) _ (hS1) Try.underlying24 (by rfl) (by kernel_rfl)) (by assumption) ?_
        simp only [Act.put, List.setIfInBounds_toArray, List.set_cons_zero, List.set_cons_succ]
        (refine wpAnyH_tk 2 (some 86) (v := ?_) rfl rfl ?_ ?_; rotate_left; (focus (intro wq hSw; clear hSw; go_simp; all_goals (with_reducible rfl))); simp only [Act.put, List.setIfInBounds_toArray, List.set_cons_zero, List.set_cons_succ])
        refine wpAnyH_ready (rs := [3]) (by kernel_rfl) (by simp) ?_
        refine AllReadyH.cons (o := _) rfl (fun K hK => ?_) AllReadyH.nil
        go_simp
        (go_at_call 77; refine (ref21_asks id nodes xA xn xc fA fn fc Fq _ (HFR.out.up hbd) hfn64 h1 h2 h4 HTF.out).mono ?_; rintro e w5 ⟨vl, rfl, hm5, hb5⟩)
        have hbb := bel_trans hbd hb5
        have hsd := hbd.size
        refine hK.out _ _ (hS _ hbb) (fun hHeld => ?_)
        clear hK K
        (try simp only [Act.put, List.setIfInBounds_toArray, List.set_cons_zero, List.set_cons_succ])
        refine wpAnyH_ready (rs := [4]) (by kernel_rfl) (by simp) ?_
        refine AllReadyH.cons (o := _) rfl (fun K hK => ?_) AllReadyH.nil
        have hG5 := HG4.out.up hbb
        have gl := hG5.lt
        have gf := hG5.frozen
        have g_0 := (hG5.box).2 0 _ rfl; have g_1 := (hG5.box).2 1 _ rfl; have g_2 := (hG5.box).2 2 _ rfl
        go_simp
        clear gl gf g_0 g_1 g_2
        refine hK.out _ _ (hS2 _ (((HF4.out.up hbb).far (p := ⟨w.heap.size + 1, 0, none⟩) (by show gx ≠ w.heap.size + 1; omega) _).far (p := ⟨w.heap.size + 1, 1, none⟩) (by show gx ≠ w.heap.size + 1; omega) _ |>.far (p := ⟨w.heap.size + 1, 2, none⟩) (by show gx ≠ w.heap.size + 1; omega) _)) (fun hHeld => ?_)
        clear hK K
        (try simp only [Act.put, List.setIfInBounds_toArray, List.set_cons_zero, List.set_cons_succ])
        (refine wpAnyH_tk 5 (some 7) (v := ?_) rfl rfl ?_ ?_; rotate_left; (focus (intro wq hSw; clear hSw; go_simp; all_goals (with_reducible rfl))); simp only [Act.put, List.setIfInBounds_toArray, List.set_cons_zero, List.set_cons_succ])
        refine wpAnyH_done (by kernel_rfl) ?_ _
        go_wp2_with fail
        go_meet
        exact ⟨Lib.hid (((hG5.set_ 0 _).set_ 1 _).set_ 2 _), Lib.hid (OwnQ.set3 (OwnQ.set3 (OwnQ.set3 (HR4.out.up hbb) (by omega) _) (by omega) _) (by omega) _), Lib.hid (OwnMs.low (OwnMs.low (OwnMs.low (hm5.mono (by omega)) (by omega)) (by omega)) (by omega)), bel_set3 (bel_set3 (bel_set3 (bel_trans hb4 hbb) (by omega)) (by omega)) (by omega)⟩
      case rest =>
      obtain ⟨HG9, HR9, HM9, hb9⟩ := hcut
      have gl := HG9.out.lt
      have gf := HG9.out.frozen
      have g_0 := (HG9.out.box).2 0 _ rfl; have g_1 := (HG9.out.box).2 1 _ rfl; have g_2 := (HG9.out.box).2 2 _ rfl
      go_wp2_with fail
      refine bodyPost_ret (v := .tuple #[.agg #[.int .i64 id, .int .i64 nodes, .slice xA xn xc], _]) (by simp [results, Try.results52, go_sem, g_0, g_1, g_2] <;> rfl) rfl ⟨_, _, rfl, by first | (rw [HRF.out]; exact HR9.out) | (rw [HRF.out, ← hB]; exact HR9.out), by first | (rw [HRF.out]; exact HM9.out) | (rw [HRF.out, ← hB]; exact HM9.out), hb9⟩
end Go.Proofs.Ytnngeaibdnnpoaa
