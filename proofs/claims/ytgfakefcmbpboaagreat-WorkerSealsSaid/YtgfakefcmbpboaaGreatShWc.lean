/- droverlaw13: weights, heavy: what is played. -/
import Derived.Test.YtgfakefcmbpboaaGreatShWa
import Derived.Deep.RegionHeld3
namespace Go.Proofs.YtgfakefcmbpboaaGreat
open Go.RowKit
set_option linter.unusedSimpArgs false
set_option linter.unusedVariables false

def mwS (M : MsgD) : Int := xwS M.b.tx + (1 + (M.h.ba.length : Int) + (M.h.pa.length : Int)) + (1 + (M.c.h.ba.length : Int) + (M.c.h.pa.length : Int) + (M.c.si.length : Int)) + (M.ds.length : Int)
theorem xwS_le {l : List TxD} (h1 : l.length ≤ 17592186044416) (h2 : ∀ x ∈ l, SmX x) : xwS l ≤ 562949953421312 := wgo_bound _ _ (fun x hx => szX_le (h2 x hx)) (by omega)
set_option maxRecDepth 100000 in
set_option maxHeartbeats 1000000 in
theorem law0_HeaderWeight (a r : Int) (bA pA : Option Addr) (bn bc pn pc : Nat) (w : World) (h1 : bn ≤ 17592186044416) (h2 : pn ≤ 17592186044416) :
    Calls Tryz.prog 107 #[.agg #[.int .i64 a, .int .i64 r, .slice bA bn bc, .slice pA pn pc]] w fun e w' => e = .returned (.int .i64 (1 + (bn : Int) + (pn : Int))) ∧ Below w.heap.size w w' := by
  go_enter Tryz.func107, Tryz.ntmps107
  go_wp2_with fail
  go_ret
  exact ⟨rfl, by (repeat (first | (with_reducible exact Below.refl _ _) | (with_reducible assumption) | (with_reducible apply bel_alloc) | (with_reducible apply bel_drew) | (with_reducible apply bel_drewN) | (with_reducible refine bel_trans ?_ (by with_reducible assumption)) | (with_reducible refine bel_trans ?_ (HF.out _)) | (with_reducible refine bel_set ?_ (by simp) _) | (with_reducible refine bel_set ?_ (by simp; omega) _) | (with_reducible refine bel_set ?_ (by omega) _)))⟩
set_option maxRecDepth 100000 in
set_option maxHeartbeats 1000000 in
theorem law0_CertWeight (a r d : Int) (bA pA sA : Option Addr) (bn bc pn pc sn sc : Nat) (w : World) (h1 : bn ≤ 17592186044416) (h2 : pn ≤ 17592186044416) (h3 : sn ≤ 17592186044416) :
    Calls Tryz.prog 108 #[.agg #[.int .i64 a, .int .i64 r, .slice bA bn bc, .slice pA pn pc, .int .i64 d, .slice sA sn sc]] w fun e w' => e = .returned (.int .i64 (1 + (bn : Int) + (pn : Int) + (sn : Int))) ∧ Below w.heap.size w w' := by
  go_enter Tryz.func108, Tryz.ntmps108
  go_wp2_with fail
  have hA : BoxR (w.alloc (.cells #[.int .i64 a, .int .i64 r, .slice bA bn bc, .slice pA pn pc, .int .i64 d, .slice sA sn sc] 47)) w.heap.size [.int .i64 a, .int .i64 r, .slice bA bn bc, .slice pA pn pc, .int .i64 d, .slice sA sn sc] := BoxR.new w [.int .i64 a, .int .i64 r, .slice bA bn bc, .slice pA pn pc, .int .i64 d, .slice sA sn sc] 47
  have hbX : Below w.heap.size w (w.alloc (.cells #[.int .i64 a, .int .i64 r, .slice bA bn bc, .slice pA pn pc, .int .i64 d, .slice sA sn sc] 47)) := by (repeat (first | (with_reducible exact Below.refl _ _) | (with_reducible assumption) | (with_reducible apply bel_alloc) | (with_reducible apply bel_drew) | (with_reducible apply bel_drewN) | (with_reducible refine bel_trans ?_ (by with_reducible assumption)) | (with_reducible refine bel_trans ?_ (HF.out _)) | (with_reducible refine bel_set ?_ (by simp) _) | (with_reducible refine bel_set ?_ (by simp; omega) _) | (with_reducible refine bel_set ?_ (by omega) _)))
  generalize (w.alloc (.cells #[.int .i64 a, .int .i64 r, .slice bA bn bc, .slice pA pn pc, .int .i64 d, .slice sA sn sc] 47)) = X at *
  have hg := hA.1
  have b_0 := (hA).2 0 _ rfl; have b_1 := (hA).2 1 _ rfl; have b_2 := (hA).2 2 _ rfl; have b_3 := (hA).2 3 _ rfl; have b_4 := (hA).2 4 _ rfl; have b_5 := (hA).2 5 _ rfl
  refine wp_region_fam (by kernel_rfl) (by kernel_rfl) (fun ι F hne hF hcl => ?_)
  have hcF0 := fun n o => (bcell (hF n)).1 (w.heap.size) o (by first | (simp; done) | (simp; omega) | omega)
  have HF := Lib.hid hF; clear hF
  have HC := Lib.hid hcl; clear hcl
  repeat (any_goals (first
   | go_big_quiet_step (first | (go_at_call 107; exact Calls.fam HC.out (law0_HeaderWeight a r bA pA bn bc pn pc _ h1 h2)))
   | (refine wpQuiet_guard _ _ _ rfl rfl ?_; (fail_if_success (intro b' hb; have h2 := hb.symm; have : b' = true := h2.trans (by with_reducible rfl))); (fail_if_success (intro b' hb; have h2 := hb.symm; have : b' = false := h2.trans (by with_reducible rfl))); intro b' hb; simp only [hb]; cases b' <;> (try simp only [Bool.not_eq_true', Bool.not_eq_false', decide_eq_true_eq, decide_eq_false_iff_not, Int.not_lt, Int.not_le, Bool.and_eq_true, Bool.or_eq_true, Bool.or_eq_false_iff, beq_iff_eq, beq_eq_false_iff_ne, Int.natCast_pos] at hb))))
  all_goals (refine wpQuiet_nil ?_; intro nq)
  have hFwf := HF.out nq
  clear HF HC hne
  generalize F nq = wf at *
  go_wp2_with fail
  go_ret
  exact ⟨rfl, bel_trans hbX hFwf⟩
def M18 (P : MsgP) (M : MsgD) : Value := .agg #[.int .i64 M.ki, .int .i64 M.fr, .int .i64 M.tt, .int .i64 M.di, .int .i64 M.b.au, .int .i64 M.b.n, .slice P.b.A P.b.n P.b.c, .int .i64 M.h.au, .int .i64 M.h.ro, .slice P.h.b.A P.h.b.n P.h.b.c, .slice P.h.p.A P.h.p.n P.h.p.c, .int .i64 M.c.h.au, .int .i64 M.c.h.ro, .slice P.c.h.b.A P.c.h.b.n P.c.h.b.c, .slice P.c.h.p.A P.c.h.p.n P.c.h.p.c, .int .i64 M.c.di, .slice P.c.s.A P.c.s.n P.c.s.c, .slice P.ds.A P.ds.n P.ds.c]
set_option maxRecDepth 100000 in
set_option maxHeartbeats 2000000 in
theorem law0_MessageWeight (P : MsgP) (M : MsgD) (y : Int) (w : World) (h : MsgR w P M) (hs : SmM M) (hy : mwS M = y) :
    Calls Tryz.prog 66 #[M18 P M] w fun e w' => e = .returned (.int .i64 y) ∧ Below w.heap.size w w' := by
  obtain ⟨⟨xA, xn, xc⟩, ⟨⟨hA, hn, hc⟩, ⟨gA, gn, gc⟩⟩, ⟨⟨⟨kA, kn, kc⟩, ⟨lA, ln, lc⟩⟩, ⟨sA, sn, sc⟩⟩, ⟨dA, dn, dc⟩⟩ := P
  obtain ⟨z, hz⟩ : ∃ z, xwS M.b.tx = z := ⟨_, rfl⟩
  have HX : Hid (TxsR w xA xn M.b.tx) := Lib.hid h.tx
  have e1 : M.h.ba.length = hn := h.h.1.1
  have e2 : M.h.pa.length = gn := h.h.2.1
  have e3 : M.c.h.ba.length = kn := h.c.1.1.1
  have e4 : M.c.h.pa.length = ln := h.c.1.2.1
  have e5 : M.c.si.length = sn := h.c.2.1
  have e6 : M.ds.length = dn := h.ds.1
  have b0 : xn ≤ 17592186044416 := by rw [← HX.out.1]; exact hs.b.1
  have b1 : hn ≤ 17592186044416 := by rw [← e1]; exact hs.h1
  have b2 : gn ≤ 17592186044416 := by rw [← e2]; exact hs.h2
  have b3 : kn ≤ 17592186044416 := by rw [← e3]; exact hs.c1
  have b4 : ln ≤ 17592186044416 := by rw [← e4]; exact hs.c2
  have b5 : sn ≤ 17592186044416 := by rw [← e5]; exact hs.c3
  have b6 : dn ≤ 17592186044416 := by rw [← e6]; exact hs.ds
  have z0 : 0 ≤ z := by rw [← hz]; have := xwS_ge M.b.tx; omega
  have z1 : z ≤ 562949953421312 := by rw [← hz]; exact xwS_le hs.b.1 hs.b.2
  have HY : Hid (z + (1 + (hn : Int) + (gn : Int)) + (1 + (kn : Int) + (ln : Int) + (sn : Int)) + (dn : Int) = y) := Lib.hid (by rw [← hy, ← hz, ← e1, ← e2, ← e3, ← e4, ← e5, ← e6]; rfl)
  have HZ := Lib.hid hz
  have HS := Lib.hid hs.b.2
  clear h hs hy hz e1 e2 e3 e4 e5 e6
  show Calls Tryz.prog 66 #[.agg #[.int .i64 M.ki, .int .i64 M.fr, .int .i64 M.tt, .int .i64 M.di, .int .i64 M.b.au, .int .i64 M.b.n, .slice xA xn xc, .int .i64 M.h.au, .int .i64 M.h.ro, .slice hA hn hc, .slice gA gn gc, .int .i64 M.c.h.au, .int .i64 M.c.h.ro, .slice kA kn kc, .slice lA ln lc, .int .i64 M.c.di, .slice sA sn sc, .slice dA dn dc]] w _
  go_enter Tryz.func66, Tryz.ntmps66
  go_wp2_with fail
  have hB : BoxR (w.alloc (.cells #[.int .i64 M.ki, .int .i64 M.fr, .int .i64 M.tt, .int .i64 M.di, .int .i64 M.b.au, .int .i64 M.b.n, .slice xA xn xc, .int .i64 M.h.au, .int .i64 M.h.ro, .slice hA hn hc, .slice gA gn gc, .int .i64 M.c.h.au, .int .i64 M.c.h.ro, .slice kA kn kc, .slice lA ln lc, .int .i64 M.c.di, .slice sA sn sc, .slice dA dn dc] 49)) w.heap.size [.int .i64 M.ki, .int .i64 M.fr, .int .i64 M.tt, .int .i64 M.di, .int .i64 M.b.au, .int .i64 M.b.n, .slice xA xn xc, .int .i64 M.h.au, .int .i64 M.h.ro, .slice hA hn hc, .slice gA gn gc, .int .i64 M.c.h.au, .int .i64 M.c.h.ro, .slice kA kn kc, .slice lA ln lc, .int .i64 M.c.di, .slice sA sn sc, .slice dA dn dc] := BoxR.new w [.int .i64 M.ki, .int .i64 M.fr, .int .i64 M.tt, .int .i64 M.di, .int .i64 M.b.au, .int .i64 M.b.n, .slice xA xn xc, .int .i64 M.h.au, .int .i64 M.h.ro, .slice hA hn hc, .slice gA gn gc, .int .i64 M.c.h.au, .int .i64 M.c.h.ro, .slice kA kn kc, .slice lA ln lc, .int .i64 M.c.di, .slice sA sn sc, .slice dA dn dc] 49
  have hbX : Below w.heap.size w (w.alloc (.cells #[.int .i64 M.ki, .int .i64 M.fr, .int .i64 M.tt, .int .i64 M.di, .int .i64 M.b.au, .int .i64 M.b.n, .slice xA xn xc, .int .i64 M.h.au, .int .i64 M.h.ro, .slice hA hn hc, .slice gA gn gc, .int .i64 M.c.h.au, .int .i64 M.c.h.ro, .slice kA kn kc, .slice lA ln lc, .int .i64 M.c.di, .slice sA sn sc, .slice dA dn dc] 49)) := by (repeat (first | (with_reducible exact Below.refl _ _) | (with_reducible assumption) | (with_reducible apply bel_alloc) | (with_reducible apply bel_drew) | (with_reducible apply bel_drewN) | (with_reducible refine bel_trans ?_ (by with_reducible assumption)) | (with_reducible refine bel_trans ?_ (HF.out _)) | (with_reducible refine bel_set ?_ (by simp) _) | (with_reducible refine bel_set ?_ (by simp; omega) _) | (with_reducible refine bel_set ?_ (by omega) _)))
  generalize (w.alloc (.cells #[.int .i64 M.ki, .int .i64 M.fr, .int .i64 M.tt, .int .i64 M.di, .int .i64 M.b.au, .int .i64 M.b.n, .slice xA xn xc, .int .i64 M.h.au, .int .i64 M.h.ro, .slice hA hn hc, .slice gA gn gc, .int .i64 M.c.h.au, .int .i64 M.c.h.ro, .slice kA kn kc, .slice lA ln lc, .int .i64 M.c.di, .slice sA sn sc, .slice dA dn dc] 49)) = X at *
  have hg := hB.1
  have hx := HX.out.up hbX
  have HXX := Lib.hid hx
  have b_0 := (hB).2 0 _ rfl; have b_1 := (hB).2 1 _ rfl; have b_2 := (hB).2 2 _ rfl; have b_3 := (hB).2 3 _ rfl; have b_4 := (hB).2 4 _ rfl; have b_5 := (hB).2 5 _ rfl; have b_6 := (hB).2 6 _ rfl; have b_7 := (hB).2 7 _ rfl; have b_8 := (hB).2 8 _ rfl; have b_9 := (hB).2 9 _ rfl; have b_10 := (hB).2 10 _ rfl; have b_11 := (hB).2 11 _ rfl; have b_12 := (hB).2 12 _ rfl; have b_13 := (hB).2 13 _ rfl; have b_14 := (hB).2 14 _ rfl; have b_15 := (hB).2 15 _ rfl; have b_16 := (hB).2 16 _ rfl; have b_17 := (hB).2 17 _ rfl
  clear hx hB
  refine wp_region_fam (by kernel_rfl) (by kernel_rfl) (fun ι F hne hF hcl => ?_)
  have hcF0 := fun n o => (bcell (hF n)).1 (w.heap.size) o (by first | (simp; done) | (simp; omega) | omega)
  have HF := Lib.hid hF; clear hF
  have HC := Lib.hid hcl; clear hcl
  repeat (any_goals (first
   | go_big_quiet_step (first | (go_at_call 107; exact Calls.fam HC.out (law0_HeaderWeight _ _ hA gA hn hc gn gc _ b1 b2)) | (go_at_call 108; exact Calls.fam HC.out (law0_CertWeight _ _ _ kA lA sA kn kc ln lc sn sc _ b3 b4 b5)) | (go_at_call 23; exact Calls.fam HC.out (law0_TxWeight xA xn xc M.b.tx z _ (HXX.out.up (HF.out _)) HS.out b0 HZ.out)))
   | (refine wpQuiet_guard _ _ _ rfl rfl ?_; (fail_if_success (intro b' hb; have h2 := hb.symm; have : b' = true := h2.trans (by with_reducible rfl))); (fail_if_success (intro b' hb; have h2 := hb.symm; have : b' = false := h2.trans (by with_reducible rfl))); intro b' hb; simp only [hb]; cases b' <;> (try simp only [Bool.not_eq_true', Bool.not_eq_false', decide_eq_true_eq, decide_eq_false_iff_not, Int.not_lt, Int.not_le, Bool.and_eq_true, Bool.or_eq_true, Bool.or_eq_false_iff, beq_iff_eq, beq_eq_false_iff_ne, Int.natCast_pos] at hb))))
  all_goals (refine wpQuiet_nil ?_; intro nq)
  have hFwf := HF.out nq
  clear HF HC hne
  generalize F nq = wf at *
  go_wp2_with fail
  go_ret
  exact ⟨ret_int HY.out, bel_trans hbX hFwf⟩
set_option maxRecDepth 100000 in
set_option maxHeartbeats 2000000 in
theorem law7_Heavy (P : MsgP) (M : MsgD) (y : Int) (w : World) (h : MsgR w P M) (hs : SmM M) (hy : mwS M = y) :
    Calls Tryz.prog 25 #[M18 P M] w fun e w' => e = .returned (.bool (decide (2000 < y))) ∧ Below w.heap.size w w' := by
  have H := Lib.hid h
  have HS := Lib.hid hs
  have HY := Lib.hid hy
  clear h hs hy
  unfold M18
  go_enter Tryz.func25, Tryz.ntmps25
  go_wp2_with fail
  refine (law0_MessageWeight P M y _ (H.out.up (by (repeat (first | (with_reducible exact Below.refl _ _) | (with_reducible assumption) | (with_reducible apply bel_alloc) | (with_reducible apply bel_drew) | (with_reducible apply bel_drewN) | (with_reducible refine bel_trans ?_ (by with_reducible assumption)) | (with_reducible refine bel_trans ?_ (HF.out _)) | (with_reducible refine bel_set ?_ (by simp) _) | (with_reducible refine bel_set ?_ (by simp; omega) _) | (with_reducible refine bel_set ?_ (by omega) _))))) HS.out HY.out).mono ?_
  rintro e w1 ⟨rfl, hb1⟩
  go_wp2_with fail
  go_ret
  exact ⟨rfl, by (repeat (first | (with_reducible exact Below.refl _ _) | (with_reducible assumption) | (with_reducible apply bel_alloc) | (with_reducible apply bel_drew) | (with_reducible apply bel_drewN) | (with_reducible refine bel_trans ?_ (by with_reducible assumption)) | (with_reducible refine bel_trans ?_ (HF.out _)) | (with_reducible refine bel_set ?_ (by simp) _) | (with_reducible refine bel_set ?_ (by simp; omega) _) | (with_reducible refine bel_set ?_ (by omega) _)))⟩
end Go.Proofs.YtgfakefcmbpboaaGreat
