/- droverlaw13: weights, heavy: what is played. -/
import Derived.Test.YtgfakefcmbpboaaGreatSuWb
import Derived.Deep.RegionHeld3
import Derived.Test.YtgfakefcmbpboaaGreatSuWi
namespace Go.Proofs.YtgfakefcmbpboaaGreat
set_option linter.all false
set_option maxRecDepth 100000
open Go.RowKit

def mwS (M : MsgD) : Int := xwS M.b.tx + (1 + (M.h.ba.length : Int) + (M.h.pa.length : Int)) + (1 + (M.c.h.ba.length : Int) + (M.c.h.pa.length : Int) + (M.c.si.length : Int)) + (M.ds.length : Int)
theorem xwS_le {l : List TxD} (h1 : l.length ≤ 17592186044416) (h2 : ∀ x ∈ l, SmX x) : xwS l ≤ 562949953421312 := wgo_bound _ _ (fun x hx => szX_le (h2 x hx)) (by omega)
set_option maxHeartbeats 1000000 in
theorem law0_HeaderWeight (a r : Int) (bA pA : Option Addr) (bn bc pn pc : Nat) (w : World) (h1 : bn ≤ 17592186044416) (h2 : pn ≤ 17592186044416) :
    Calls Tryz.prog 107 #[.agg #[.int .i64 a, .int .i64 r, .slice bA bn bc, .slice pA pn pc]] w fun e w' => e = .returned (.int .i64 (1 + (bn : Int) + (pn : Int))) ∧ Below w.heap.size w w' := by
  go_enter Tryz.func107, Tryz.ntmps107
  go_wp2_with fail
  go_ret
  exact ⟨rfl, belA⟩
set_option maxHeartbeats 1000000 in
theorem law0_CertWeight (a r d : Int) (bA pA sA : Option Addr) (bn bc pn pc sn sc : Nat) (w : World) (h1 : bn ≤ 17592186044416) (h2 : pn ≤ 17592186044416) (h3 : sn ≤ 17592186044416) :
    Calls Tryz.prog 108 #[.agg #[.int .i64 a, .int .i64 r, .slice bA bn bc, .slice pA pn pc, .int .i64 d, .slice sA sn sc]] w fun e w' => e = .returned (.int .i64 (1 + (bn : Int) + (pn : Int) + (sn : Int))) ∧ Below w.heap.size w w' := by
  go_enter Tryz.func108, Tryz.ntmps108
  go_wp2_with fail
  have hA : BoxR (w.alloc (.cells #[.int .i64 a, .int .i64 r, .slice bA bn bc, .slice pA pn pc, .int .i64 d, .slice sA sn sc] 47)) w.heap.size [.int .i64 a, .int .i64 r, .slice bA bn bc, .slice pA pn pc, .int .i64 d, .slice sA sn sc] := BoxR.new w [.int .i64 a, .int .i64 r, .slice bA bn bc, .slice pA pn pc, .int .i64 d, .slice sA sn sc] 47
  have hbX : Below w.heap.size w (w.alloc (.cells #[.int .i64 a, .int .i64 r, .slice bA bn bc, .slice pA pn pc, .int .i64 d, .slice sA sn sc] 47)) := by (repeat (first | (with_reducible exact Below.refl _ _) | (with_reducible assumption) | (with_reducible apply bel_alloc) | (with_reducible apply bel_drew) | (with_reducible apply bel_drewN) | (with_reducible refine bel_trans ?_ (by with_reducible assumption)) | (with_reducible refine bel_trans ?_ (HF.out _)) | (with_reducible refine bel_set ?_ (by simp) _) | (with_reducible refine bel_set ?_ (by simp; omega) _) | (with_reducible refine bel_set ?_ (by omega) _)))
  generalize (w.alloc (.cells #[.int .i64 a, .int .i64 r, .slice bA bn bc, .slice pA pn pc, .int .i64 d, .slice sA sn sc] 47)) = X at *
  have hg := hA.1
  have b_0 := (hA).2 0 _ rfl; have b_1 := (hA).2 1 _ rfl; have b_2 := (hA).2 2 _ rfl; have b_3 := (hA).2 3 _ rfl; have b_4 := (hA).2 4 _ rfl; have b_5 := (hA).2 5 _ rfl
  refine wp_region_fam (by kernel_rfl) (by kernel_rfl) (fun ι F hne hF hcl => ?_)
  have hcF0 := fun n o => (bcell (hF n)).1 (w.heap.size) o (by first | (simp; done) | (simp; omega) | omega)
  have HF := ħ hF; clear hF
  have HC := ħ hcl; clear hcl
  repeat (any_goals (first
   | go_big_quiet_step (first | (go_at_call 107; exact Calls.fam HC.out (law0_HeaderWeight a r bA pA bn bc pn pc _ h1 h2)))
   | (refine wpQuiet_guard _ _ _ rfl rfl ?_; (fail_if_success (intro b' hb; have h2 := hb.symm; have : b' = true := h2.trans (by with_reducible rfl))); (fail_if_success (intro b' hb; have h2 := hb.symm; have : b' = false := h2.trans (by with_reducible rfl))); intro b' hb; simp only [hb]; cases b' <;> (try simp only [Bool.not_eq_true', Bool.not_eq_false', decide_eq_true_eq, decide_eq_false_iff_not, Int.not_lt, Int.not_le, Bool.and_eq_true, Bool.or_eq_true, Bool.or_eq_false_iff, beq_iff_eq, beq_eq_false_iff_ne, Int.natCast_pos] at hb))))
  all_goals (refine wpQuiet_nil ?_; intro nq)
  have hFwf := HF.out nq
  clear HF HC hne
  generalize F nq = wf at *
  go_wp2_with fail
  go_ret
  exact ⟨rfl, bel_trans hbX hFwf⟩
def M18 (P : MsgP) (M : MsgD) : Value := .agg #[.int .i64 M.ki, .int .i64 M.fr, .int .i64 M.tt, .int .i64 M.di, .int .i64 M.b.au, .int .i64 M.b.n, .slice P.b.A P.b.n P.b.c, .int .i64 M.h.au, .int .i64 M.h.ro, .slice P.h.b.A P.h.b.n P.h.b.c, .slice P.h.p.A P.h.p.n P.h.p.c, .int .i64 M.c.h.au, .int .i64 M.c.h.ro, .slice P.c.h.b.A P.c.h.b.n P.c.h.b.c, .slice P.c.h.p.A P.c.h.p.n P.c.h.p.c, .int .i64 M.c.di, .slice P.c.s.A P.c.s.n P.c.s.c, .slice P.ds.A P.ds.n P.ds.c]
set_option maxHeartbeats 2000000 in
theorem law0_MessageWeight (P : MsgP) (M : MsgD) (y : Int) (w : World) (h : MsgR w P M) (hs : SmM M) (hy : mwS M = y) :
    Calls Tryz.prog 66 #[M18 P M] w fun e w' => e = .returned (.int .i64 y) ∧ Below w.heap.size w w' := by
  obtain ⟨⟨xA, xn, xc⟩, ⟨⟨hA, hn, hc⟩, ⟨gA, gn, gc⟩⟩, ⟨⟨⟨kA, kn, kc⟩, ⟨lA, ln, lc⟩⟩, ⟨sA, sn, sc⟩⟩, ⟨dA, dn, dc⟩⟩ := P
  obtain ⟨z, hz⟩ : ∃ z, xwS M.b.tx = z := ⟨_, rfl⟩
  have HX : Hid (TxsR w xA xn M.b.tx) := ħ h.tx
  have e1 : M.h.ba.length = hn := h.h.1.1
  have e2 : M.h.pa.length = gn := h.h.2.1
  have e3 : M.c.h.ba.length = kn := h.c.1.1.1
  have e4 : M.c.h.pa.length = ln := h.c.1.2.1
  have e5 : M.c.si.length = sn := h.c.2.1
  have e6 : M.ds.length = dn := h.ds.1
  have b0 : xn ≤ 17592186044416 := by rw [← HX.out.1]; exact hs.b.1
  have b1 : hn ≤ 17592186044416 := by rw [← e1]; exact hs.h1
  have b2 : gn ≤ 17592186044416 := by rw [← e2]; exact hs.h2
  have b3 : kn ≤ 17592186044416 := by rw [← e3]; exact hs.c1
  have b4 : ln ≤ 17592186044416 := by rw [← e4]; exact hs.c2
  have b5 : sn ≤ 17592186044416 := by rw [← e5]; exact hs.c3
  have b6 : dn ≤ 17592186044416 := by rw [← e6]; exact hs.ds
  have z0 : 0 ≤ z := by rw [← hz]; have := xwS_ge M.b.tx; omega
  have z1 : z ≤ 562949953421312 := by rw [← hz]; exact xwS_le hs.b.1 hs.b.2
  have HY : Hid (z + (1 + (hn : Int) + (gn : Int)) + (1 + (kn : Int) + (ln : Int) + (sn : Int)) + (dn : Int) = y) := ħ (by rw [← hy, ← hz, ← e1, ← e2, ← e3, ← e4, ← e5, ← e6]; rfl)
  have HZ := ħ hz
  have HS := ħ hs.b.2
  clear h hs hy hz e1 e2 e3 e4 e5 e6
  show Calls Tryz.prog 66 #[.agg #[.int .i64 M.ki, .int .i64 M.fr, .int .i64 M.tt, .int .i64 M.di, .int .i64 M.b.au, .int .i64 M.b.n, .slice xA xn xc, .int .i64 M.h.au, .int .i64 M.h.ro, .slice hA hn hc, .slice gA gn gc, .int .i64 M.c.h.au, .int .i64 M.c.h.ro, .slice kA kn kc, .slice lA ln lc, .int .i64 M.c.di, .slice sA sn sc, .slice dA dn dc]] w _
  go_enter Tryz.func66, Tryz.ntmps66
  go_wp2_with fail
  have hB : BoxR (w.alloc (.cells #[.int .i64 M.ki, .int .i64 M.fr, .int .i64 M.tt, .int .i64 M.di, .int .i64 M.b.au, .int .i64 M.b.n, .slice xA xn xc, .int .i64 M.h.au, .int .i64 M.h.ro, .slice hA hn hc, .slice gA gn gc, .int .i64 M.c.h.au, .int .i64 M.c.h.ro, .slice kA kn kc, .slice lA ln lc, .int .i64 M.c.di, .slice sA sn sc, .slice dA dn dc] 49)) w.heap.size [.int .i64 M.ki, .int .i64 M.fr, .int .i64 M.tt, .int .i64 M.di, .int .i64 M.b.au, .int .i64 M.b.n, .slice xA xn xc, .int .i64 M.h.au, .int .i64 M.h.ro, .slice hA hn hc, .slice gA gn gc, .int .i64 M.c.h.au, .int .i64 M.c.h.ro, .slice kA kn kc, .slice lA ln lc, .int .i64 M.c.di, .slice sA sn sc, .slice dA dn dc] := BoxR.new w [.int .i64 M.ki, .int .i64 M.fr, .int .i64 M.tt, .int .i64 M.di, .int .i64 M.b.au, .int .i64 M.b.n, .slice xA xn xc, .int .i64 M.h.au, .int .i64 M.h.ro, .slice hA hn hc, .slice gA gn gc, .int .i64 M.c.h.au, .int .i64 M.c.h.ro, .slice kA kn kc, .slice lA ln lc, .int .i64 M.c.di, .slice sA sn sc, .slice dA dn dc] 49
  have hbX : Below w.heap.size w (w.alloc (.cells #[.int .i64 M.ki, .int .i64 M.fr, .int .i64 M.tt, .int .i64 M.di, .int .i64 M.b.au, .int .i64 M.b.n, .slice xA xn xc, .int .i64 M.h.au, .int .i64 M.h.ro, .slice hA hn hc, .slice gA gn gc, .int .i64 M.c.h.au, .int .i64 M.c.h.ro, .slice kA kn kc, .slice lA ln lc, .int .i64 M.c.di, .slice sA sn sc, .slice dA dn dc] 49)) := by (repeat (first | (with_reducible exact Below.refl _ _) | (with_reducible assumption) | (with_reducible apply bel_alloc) | (with_reducible apply bel_drew) | (with_reducible apply bel_drewN) | (with_reducible refine bel_trans ?_ (by with_reducible assumption)) | (with_reducible refine bel_trans ?_ (HF.out _)) | (with_reducible refine bel_set ?_ (by simp) _) | (with_reducible refine bel_set ?_ (by simp; omega) _) | (with_reducible refine bel_set ?_ (by omega) _)))
  generalize (w.alloc (.cells #[.int .i64 M.ki, .int .i64 M.fr, .int .i64 M.tt, .int .i64 M.di, .int .i64 M.b.au, .int .i64 M.b.n, .slice xA xn xc, .int .i64 M.h.au, .int .i64 M.h.ro, .slice hA hn hc, .slice gA gn gc, .int .i64 M.c.h.au, .int .i64 M.c.h.ro, .slice kA kn kc, .slice lA ln lc, .int .i64 M.c.di, .slice sA sn sc, .slice dA dn dc] 49)) = X at *
  have hg := hB.1
  have hx := HX.out.up hbX
  have HXX := ħ hx
  have b_0 := (hB).2 0 _ rfl; have b_1 := (hB).2 1 _ rfl; have b_2 := (hB).2 2 _ rfl; have b_3 := (hB).2 3 _ rfl; have b_4 := (hB).2 4 _ rfl; have b_5 := (hB).2 5 _ rfl; have b_6 := (hB).2 6 _ rfl; have b_7 := (hB).2 7 _ rfl; have b_8 := (hB).2 8 _ rfl; have b_9 := (hB).2 9 _ rfl; have b_10 := (hB).2 10 _ rfl; have b_11 := (hB).2 11 _ rfl; have b_12 := (hB).2 12 _ rfl; have b_13 := (hB).2 13 _ rfl; have b_14 := (hB).2 14 _ rfl; have b_15 := (hB).2 15 _ rfl; have b_16 := (hB).2 16 _ rfl; have b_17 := (hB).2 17 _ rfl
  clear hx hB
  refine wp_region_fam (by kernel_rfl) (by kernel_rfl) (fun ι F hne hF hcl => ?_)
  have hcF0 := fun n o => (bcell (hF n)).1 (w.heap.size) o (by first | (simp; done) | (simp; omega) | omega)
  have HF := ħ hF; clear hF
  have HC := ħ hcl; clear hcl
  repeat (any_goals (first
   | go_big_quiet_step (first | (go_at_call 107; exact Calls.fam HC.out (law0_HeaderWeight _ _ hA gA hn hc gn gc _ b1 b2)) | (go_at_call 108; exact Calls.fam HC.out (law0_CertWeight _ _ _ kA lA sA kn kc ln lc sn sc _ b3 b4 b5)) | (go_at_call 23; exact Calls.fam HC.out (law0_TxWeight xA xn xc M.b.tx z _ (HXX.out.up (HF.out _)) HS.out b0 HZ.out)))
   | (refine wpQuiet_guard _ _ _ rfl rfl ?_; (fail_if_success (intro b' hb; have h2 := hb.symm; have : b' = true := h2.trans (by with_reducible rfl))); (fail_if_success (intro b' hb; have h2 := hb.symm; have : b' = false := h2.trans (by with_reducible rfl))); intro b' hb; simp only [hb]; cases b' <;> (try simp only [Bool.not_eq_true', Bool.not_eq_false', decide_eq_true_eq, decide_eq_false_iff_not, Int.not_lt, Int.not_le, Bool.and_eq_true, Bool.or_eq_true, Bool.or_eq_false_iff, beq_iff_eq, beq_eq_false_iff_ne, Int.natCast_pos] at hb))))
  all_goals (refine wpQuiet_nil ?_; intro nq)
  have hFwf := HF.out nq
  clear HF HC hne
  generalize F nq = wf at *
  go_wp2_with fail
  go_ret
  exact ⟨ret_int HY.out, bel_trans hbX hFwf⟩
set_option maxHeartbeats 2000000 in
theorem law7_Heavy (P : MsgP) (M : MsgD) (y : Int) (w : World) (h : MsgR w P M) (hs : SmM M) (hy : mwS M = y) :
    Calls Tryz.prog 25 #[M18 P M] w fun e w' => e = .returned (.bool (decide (2000 < y))) ∧ Below w.heap.size w w' := by
  have H := ħ h
  have HS := ħ hs
  have HY := ħ hy
  clear h hs hy
  unfold M18
  go_enter Tryz.func25, Tryz.ntmps25
  go_wp2_with fail
  refine (law0_MessageWeight P M y _ (H.out.up (belA)) HS.out HY.out).mono ?_
  rintro e w1 ⟨rfl, hb1⟩
  go_wp2_with fail
  go_ret
  exact ⟨rfl, belA⟩
open Go.RowKit

theorem info_Message : (Tryz.prog.info? 49).map (fun i => (i.zero, i.size, i.bytes)) = some (some (.agg #[.int .i64 0, .int .i64 0, .int .i64 0, .int .i64 0, .int .i64 0, .int .i64 0, .slice none 0 0, .int .i64 0, .int .i64 0, .slice none 0 0, .slice none 0 0, .int .i64 0, .int .i64 0, .slice none 0 0, .slice none 0 0, .int .i64 0, .slice none 0 0, .slice none 0 0]), 18, 256) := by kernel_rfl
theorem run_app_Message (w : World) (B : Nat) (v : Value) (n : Nat) (xs : List Value) (hown : w.ownsRow B 49 18 v n xs) (vb off m c : Nat) (e : List Value) (hm : e.length = m * 18) (hv : ∀ j u, e[j]? = some u → w.cell? ⟨vb, off + j, none⟩ = some u) (h1e : ∀ u ∈ e, u.oneCell' = true) (hn : n + m ≤ 1000000000) (hB : B ≤ w.heap.size) :
    ∃ v' w', (Builtin.append_ #[68, 68] 68 #[v, .slice (some ⟨vb, off, none⟩) m c]).run Tryz.prog w = .ok v' w' ∧ w'.ownsRow B 49 18 v' (n + m) (xs ++ e) ∧ w.grownBy w' v.ownBlock ∧ Below B w w' ∧ (v'.ownBlock = v.ownBlock ∨ v'.ownBlock = some w.heap.size) := by
  obtain ⟨i0, hi, hz, hz1, hz2⟩ := info_parts info_Message
  obtain ⟨v', w', hrun, h2, h3, _, h5⟩ := run_append_own_at (P := Tryz.prog) w B 68 68 49 i0 _ 18 256 Tryz.underlying68 hi hz hz1 hz2 rfl (by omega) v n xs hown ⟨vb, off, none⟩ m c e hm
    (by intro j u hu; rw [Addr.add_lit]; exact hv j u hu) h1e (by simp only [maxLen]; omega) (by omega) hB
  exact ⟨v', w', hrun, h2, h3, ⟨h3.os, h3.tape, h3.output, h3.size, fun k hk => h3.block k (by omega) (fun e => by have := (own_lt hown k e.symm).1; omega)⟩, h5⟩
/-- A message whose lists are one's own, from block B on. -/
structure OwnM (w : World) (B : Nat) (P : MsgP) (M : MsgD) : Prop where
  b : OwnX w B P.b.v M.b.tx
  h1 : OwnI w B P.h.b.v M.h.ba
  h2 : OwnI w B P.h.p.v M.h.pa
  c1 : OwnI w B P.c.h.b.v M.c.h.ba
  c2 : OwnI w B P.c.h.p.v M.c.h.pa
  c3 : OwnI w B P.c.s.v M.c.si
  ds : OwnI w B P.ds.v M.ds
theorem OwnM.up {w w' : World} {B : Nat} {P M} (h : OwnM w B P M) (hb : Below w.heap.size w w') : OwnM w' B P M := ⟨h.b.up hb, h.h1.up hb, h.h2.up hb, h.c1.up hb, h.c2.up hb, h.c3.up hb, h.ds.up hb⟩
theorem OwnM.mono {w : World} {B B' : Nat} {P M} (h : OwnM w B P M) (hB : B' ≤ B) : OwnM w B' P M := ⟨h.b.mono hB, h.h1.mono hB, h.h2.mono hB, h.c1.mono hB, h.c2.mono hB, h.c3.mono hB, h.ds.mono hB⟩
theorem OwnM.low {w : World} {B b o : Nat} {u : Value} {P M} (h : OwnM w B P M) (hp : b < B) : OwnM (w.setCell ⟨b, o, none⟩ u) B P M := ⟨h.b.set3 hp u, h.h1.low hp u, h.h2.low hp u, h.c1.low hp u, h.c2.low hp u, h.c3.low hp u, h.ds.low hp u⟩
theorem OwnM.grownT {w w' : World} {B B' n : Nat} {v : Value} {xs : List Value} {P M} (h : OwnM w B P M) (hv : w.ownsRow B' 49 18 v n xs) (hg : w.grownBy w' v.ownBlock) : OwnM w' B P M := ⟨own_farT h.b hv (by decide) hg, own_farT h.h1 hv (by decide) hg, own_farT h.h2 hv (by decide) hg, own_farT h.c1 hv (by decide) hg, own_farT h.c2 hv (by decide) hg, own_farT h.c3 hv (by decide) hg, own_farT h.ds hv (by decide) hg⟩
def dMsg : DeepT MsgD MsgP where
  t := 49
  k := 18
  enc := fun M P => msgCells P M
  inner := fun w B P M => OwnM w B P M
  k0 := by omega
  len := fun _ _ => rfl
  one := fun h u hu => by
    simp only [msgCells, List.mem_cons, List.not_mem_nil, or_false] at hu
    rcases hu with rfl | rfl | rfl | rfl | rfl | rfl | rfl | rfl | rfl | rfl | rfl | rfl | rfl | rfl | rfl | rfl | rfl | rfl <;> rfl
  up := fun h hb => h.up hb
  mono := fun h hB => h.mono hB
  low := fun h hp => h.low hp
  grown := fun h hv hg => h.grownT hv hg
def OwnMs (w : World) (B : Nat) (v : Value) (l : List MsgD) : Prop := ∃ ps, OwnT dMsg w B v ps l
theorem OwnMs.up {w w' : World} {B : Nat} {v : Value} {l : List MsgD} (h : OwnMs w B v l) (hb : Below w.heap.size w w') : OwnMs w' B v l := let ⟨ps, h⟩ := h; ⟨ps, h.up hb⟩
theorem OwnMs.mono {w : World} {B B' : Nat} {v : Value} {l : List MsgD} (h : OwnMs w B v l) (hB : B' ≤ B) : OwnMs w B' v l := let ⟨ps, h⟩ := h; ⟨ps, h.mono hB⟩
theorem OwnMs.nil (w : World) (B : Nat) : OwnMs w B (.slice none 0 0) [] := ⟨[], OwnT.nil _ _⟩
structure BigM (M : MsgD) : Prop where
  b : M.b.tx.length ≤ 800000000
  h1 : M.h.ba.length ≤ 800000000
  h2 : M.h.pa.length ≤ 800000000
  c1 : M.c.h.ba.length ≤ 800000000
  c2 : M.c.h.pa.length ≤ 800000000
  c3 : M.c.si.length ≤ 800000000
  ds : M.ds.length ≤ 800000000
def BigMs (l : List MsgD) : Prop := l.length ≤ 800000000 ∧ ∀ x ∈ l, BigM x
theorem OwnI.slR {w : World} {B : Nat} {s : SlP} {l : List Int} (h : OwnI w B s.v l) (hl : l.length ≤ 800000000) : IntsR w s.A s.n l := by
  obtain ⟨A, c, e, hi, _⟩ := h.ints (by omega)
  unfold SlP.v at e
  injection e with e1 e2 e3
  rw [e1, e2]; exact hi
theorem OwnX.slR {w : World} {B : Nat} {s : SlP} {l : List TxD} (h : OwnX w B s.v l) (hl : l.length ≤ 800000000) : TxsR w s.A s.n l := by
  obtain ⟨A, c, e, hi, _⟩ := h.txs (by omega)
  unfold SlP.v at e
  injection e with e1 e2 e3
  rw [e1, e2]; exact hi
theorem OwnM.msg {w : World} {B : Nat} {P M} (h : OwnM w B P M) (hs : BigM M) : MsgR w P M :=
  ⟨h.b.slR hs.b, ⟨h.h1.slR hs.h1, h.h2.slR hs.h2⟩, ⟨⟨h.c1.slR hs.c1, h.c2.slR hs.c2⟩, h.c3.slR hs.c3⟩, h.ds.slR hs.ds⟩
def mth (l : List MsgD) (i : Nat) : MsgD := l.getD i default
def MsgsR (w : World) (A : Option Addr) (n : Nat) (l : List MsgD) : Prop :=
  l.length = n ∧ n ≤ 9223372036854775807 ∧ (0 < n → ∃ b off, A = some ⟨b, off, none⟩ ∧ b < w.heap.size ∧ ∀ j, j < n → ∃ P : MsgP, (∀ r u, (msgCells P (mth l j))[r]? = some u → w.cell? ⟨b, off + j * 18 + r, none⟩ = some u) ∧ MsgR w P (mth l j))
theorem MsgsR.up {w w' : World} {A n l} (h : MsgsR w A n l) (hb : Below w.heap.size w w') : MsgsR w' A n l := by
  obtain ⟨h1, h2, h3⟩ := h
  refine ⟨h1, h2, fun hn => ?_⟩
  obtain ⟨b, off, e, hlt, hc⟩ := h3 hn
  refine ⟨b, off, e, Nat.lt_of_lt_of_le hlt hb.size, fun j hj => ?_⟩
  obtain ⟨P, g0, g1⟩ := hc j hj
  exact ⟨P, fun r u hu => ((bcell hb).1 _ _ hlt).trans (g0 r u hu), g1.up hb⟩
theorem MsgsR.nil (w : World) : MsgsR w none 0 [] := ⟨rfl, by omega, fun h => absurd h (by omega)⟩
theorem OwnMs.msgs {w : World} {B : Nat} {v : Value} {l : List MsgD} (h : OwnMs w B v l) (hs : BigMs l) : ∃ A c, v = .slice A l.length c ∧ MsgsR w A l.length l ∧ l.length ≤ c ∧ c ≤ 9223372036854775807 := by
  obtain ⟨ps, h⟩ := h
  obtain ⟨A, c, e, h1, h2, h3⟩ := h.read
  refine ⟨A, c, e, ⟨rfl, by have := hs.1; omega, fun h0 => ?_⟩, h1, by simpa [maxLen] using h2⟩
  obtain ⟨b, eA, hB, hb, hc⟩ := h3 h0
  refine ⟨b, 0, eA, hb, fun j hj => ⟨ps.getD j default, fun r u hu => hc j hj r u hu, ?_⟩⟩
  have hin : OwnM w B (ps.getD j default) (l.getD j default) := h.2.2 j hj
  exact hin.msg (hs.2 _ (getD_mem hj))
theorem run_appM (w : World) (B : Nat) (v : Value) (ps : List MsgP) (l : List MsgD) (hown : OwnT dMsg w B v ps l) (g : Nat) (x : MsgD) (p : MsgP) (hbx : BoxR w g (msgCells p x)) (hin : OwnM w B p x) (hlen : l.length ≤ 800000000) (hB : B ≤ w.heap.size) :
    ∃ v' w', (Builtin.append_ #[68, 68] 68 #[v, .slice (some ⟨g, 0, none⟩) 1 1]).run Tryz.prog w = .ok v' w' ∧ OwnT dMsg w' B v' (ps ++ [p]) (l ++ [x]) ∧ w.grownBy w' v.ownBlock ∧ Below B w w' := by
  obtain ⟨v', w', hrun, h2, h3, h4, h5⟩ := run_app_Message w B v l.length (dcells dMsg l ps) hown.1 g 0 1 1 (msgCells p x) rfl (fun r u hu => by rw [Nat.zero_add]; exact hbx.2 r u hu) (dMsg.one (w := w) (B := B) (p := p) (x := x) hin) (by omega) hB
  exact ⟨v', w', hrun, hown.snoc hin h2 h3, h3, h4⟩
theorem wpList_appM {w : World} {ops : Array Oper} {rest : List Oper} {o : Oper} {a : Act} {Q : Exit → Act → World → Prop} (hgd : o.guard = none) (s x : Operand)
    (ho : o.op = .call { callee := .builtin .append, args := #[s, x], argTypes := #[68, 68] }) (hty : o.type = 68) (B : Nat) (v : Value) (ps : List MsgP) (l : List MsgD) (hs : a.eval s = v) (hown : OwnT dMsg w B v ps l) (g : Nat) (y : MsgD) (p : MsgP) (hx : a.eval x = .slice (some ⟨g, 0, none⟩) 1 1)
    (hbx : BoxR w g (msgCells p y)) (hin : OwnM w B p y) (hlen : l.length ≤ 800000000) (hB : B ≤ w.heap.size)
    (h : ∀ v' w', OwnT dMsg w' B v' (ps ++ [p]) (l ++ [y]) → w.grownBy w' v.ownBlock → Below B w w' → wpList Tryz.prog ops Q rest (a.put o.dst v') w') : wpList Tryz.prog ops Q (o :: rest) a w := by
  obtain ⟨v', w', hrun, h2, h3, h4⟩ := run_appM w B v ps l hown g y p hbx hin hlen hB
  exact Lib.wpList_append_run w hgd s x _ _ ho _ _ hs hx _ _ (by rw [hty]; exact hrun) (h v' w' h2 h3 h4)
theorem step_appM {ops : Array Oper} {o : Oper} {a : Act} {w : World} {K : Act → World → Prop} {Q : Exit → Act → World → Prop} {E : Prop} (hg : o.guard = none) (s x : Operand)
    (ho : o.op = .call { callee := .builtin .append, args := #[s, x], argTypes := #[68, 68] }) (hty : o.type = 68) (B : Nat) (v : Value) (ps : List MsgP) (l : List MsgD) (hs : a.eval s = v) (hown : OwnT dMsg w B v ps l) (g : Nat) (y : MsgD) (p : MsgP) (hx : a.eval x = .slice (some ⟨g, 0, none⟩) 1 1)
    (hbx : BoxR w g (msgCells p y)) (hin : OwnM w B p y) (hlen : l.length ≤ 800000000) (hB : B ≤ w.heap.size)
    (h : ∀ v' w', OwnT dMsg w' B v' (ps ++ [p]) (l ++ [y]) → w.grownBy w' v.ownBlock → Below B w w' → K (a.put o.dst v') w') : if Region.wanted o (yielded ops a.tmps) = true then Oper.wp Tryz.prog o a w K Q else E := by
  obtain ⟨v', w', hrun, h2, h3, h4⟩ := run_appM w B v ps l hown g y p hbx hin hlen hB
  exact step_run hg s x _ _ ho v _ hs hx v' w' (by rw [hty]; exact hrun) (h v' w' h2 h3 h4)
end Go.Proofs.YtgfakefcmbpboaaGreat
