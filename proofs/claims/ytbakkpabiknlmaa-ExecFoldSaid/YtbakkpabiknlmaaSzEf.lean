/- Exec: Push at the program. -/
import Derived.Test.YtbakkpabiknlmaaSzEe
namespace Go.Proofs.Ytbakkpabiknlmaa
open Go.RowKit
set_option linter.unusedSimpArgs false
set_option linter.unusedVariables false

theorem betD_iff {l : List Int} : betS l 1 65536 = true ↔ WithinI l 1 65536 := dec_iff
set_option maxRecDepth 100000 in
set_option maxHeartbeats 1000000 in
theorem exec_Push1 (x : Int) (y : Bool) (w : World) (hy : digS x = y) : Calls Try.prog 30 #[.int .i64 x] w fun e w' => e = .returned (.bool (!y)) ∧ w = w' := by
  have HY := Lib.hid hy
  clear hy
  cases y
  all_goals
    go_enter Try.func30, Try.ntmps30
    go_wp2_with (go_at_call 31; refine (comm_Digest x _ _ HY.out).mono ?_; rintro e w' ⟨rfl, rfl⟩)
    go_ret
    exact ⟨rfl, rfl⟩
def FirstI (l : List Int) (n : Nat) (y : Int) : Prop := (y = -1 ∧ ∀ j, j < n → digS (nth l j) = true) ∨ ∃ k : Nat, y = k ∧ k < n ∧ digS (nth l k) = false
set_option maxRecDepth 100000 in
set_option maxHeartbeats 1000000 in
theorem slices_IndexFunc_I (A : Option Addr) (n c : Nat) (l : List Int) (w : World) (hl : IntsR w A n l) :
    Calls Try.prog 51 #[.slice A n c, .func (.func 30) #[] #[]] w fun e w' => ∃ y, e = .returned (.int .i64 y) ∧ FirstI l n y ∧ w = w' := by
  have HL := Lib.hid hl
  have hnn : n ≤ 9223372036854775807 := hl.2.1
  clear hl
  go_enter Try.func51, Try.ntmps51
  go_wp2_with fail
  go_loop [8] (fun ix => ∃ k : Nat, k ≤ n ∧ ix = .int .i64 k ∧ Hid (∀ j, j < k → digS (nth l j) = true)) (fun ix => n - (intOf ix).toNat)
  case atStart => exact ⟨0, Nat.zero_le _, rfl, Lib.hid (fun j hj => absurd hj (by omega))⟩
  case round =>
    obtain ⟨k, hk, rfl, HG⟩ := hrel
    by_cases hlt : k < n
    · obtain ⟨b, off, rfl, hb, hc⟩ := HL.out.2.2 (by omega)
      have c0 := hc k hlt
      clear hc
      obtain ⟨x, hx⟩ : ∃ x, nth l k = x := ⟨_, rfl⟩
      rw [hx] at c0
      have HX := Lib.hid hx
      clear hx
      cases hy : digS x
      · have HY := Lib.hid hy
        clear hy
        go_wp2_with (go_at_call 30; refine (exec_Push1 x false _ HY.out).mono ?_; rintro e w1 ⟨rfl, rfl⟩)
        go_ret
        exact ⟨k, rfl, .inr ⟨k, rfl, hlt, by rw [HX.out]; exact HY.out⟩, rfl⟩
      · have HY := Lib.hid hy
        clear hy
        go_wp2_with (go_at_call 30; refine (exec_Push1 x true _ HY.out).mono ?_; rintro e w1 ⟨rfl, rfl⟩)
        (first | (go_round; (case rel => exact ⟨k + 1, by omega, by go_num, Lib.hid (fun j hj => by (rcases Nat.lt_or_ge j k with h | h; exact HG.out j h; (obtain rfl : j = k := by omega); rw [HX.out]; exact HY.out))⟩); (case measure => (simp [intOf] <;> omega))) | (go_roundw; (case rel => exact ⟨k + 1, by omega, by go_num, Lib.hid (fun j hj => by (rcases Nat.lt_or_ge j k with h | h; exact HG.out j h; (obtain rfl : j = k := by omega); rw [HX.out]; exact HY.out))⟩); (case measure => (simp [intOf] <;> omega))) | (refine ⟨?_, by simp [intOf] <;> omega⟩; (repeat apply Exists.intro); refine ⟨?rel, ?fr⟩; (case fr => ((repeat' apply And.intro) <;> rfl)); (case rel => exact ⟨k + 1, by omega, by go_num, Lib.hid (fun j hj => by (rcases Nat.lt_or_ge j k with h | h; exact HG.out j h; (obtain rfl : j = k := by omega); rw [HX.out]; exact HY.out))⟩)))
    · obtain rfl : k = n := by omega
      go_wp2_with fail
      go_ret
      exact ⟨-1, rfl, .inl ⟨rfl, HG.out⟩, rfl⟩
set_option maxRecDepth 100000 in
set_option maxHeartbeats 1000000 in
theorem slices_ContainsFunc_I (A : Option Addr) (n c : Nat) (l : List Int) (y : Bool) (w : World) (hl : IntsR w A n l) (hy : betS l 1 65536 = y) :
    Calls Try.prog 29 #[.slice A n c, .func (.func 30) #[] #[]] w fun e w' => e = .returned (.bool (!y)) ∧ w = w' := by
  have HL := Lib.hid hl
  have HY := Lib.hid hy
  have HN := Lib.hid hl.1
  clear hl hy
  go_enter Try.func29, Try.ntmps29
  go_wp2_with fail
  refine (slices_IndexFunc_I A n c l _ HL.out).mono ?_
  rintro e w1 ⟨z, rfl, hf, rfl⟩
  have hz : (decide (0 ≤ z)) = !y := by
    rw [← HY.out]
    rcases hf with ⟨rfl, h⟩ | ⟨k, rfl, hk, h⟩
    · have : betS l 1 65536 = true := betD_iff.2 fun j hj => digS_iff.1 (h j (by rw [← HN.out]; exact hj))
      rw [this]; rfl
    · have : betS l 1 65536 = false := by
        cases hb : betS l 1 65536
        · rfl
        · have := digS_iff.2 (betD_iff.1 hb k (by rw [HN.out]; exact hk))
          rw [h] at this; cases this
      rw [this]; simp
  clear hf
  go_wp2_with fail
  go_ret
  exact ⟨ret_bool rfl, rfl⟩
/-- What Push gives. -/
structure PushO (w : World) (B : Nat) (vp va vs vf : Value) (p : List PairD) (q : List AcctD) (s F : List Int) : Prop where
  e : ExO w B vp va vs p q s
  f : OwnI w B vf F
  pf : Disj vp vf
  qf : Disj va vf
  sf : Disj vs vf
theorem PushO.up {w w' : World} {B : Nat} {vp va vs vf : Value} {p : List PairD} {q : List AcctD} {s F : List Int} (h : PushO w B vp va vs vf p q s F) (hb : Below w.heap.size w w') : PushO w' B vp va vs vf p q s F :=
  { h with e := h.e.up hb, f := h.f.up hb }
theorem PushO.mono {w : World} {B B' : Nat} {vp va vs vf : Value} {p : List PairD} {q : List AcctD} {s F : List Int} (h : PushO w B vp va vs vf p q s F) (hB : B' ≤ B) : PushO w B' vp va vs vf p q s F :=
  { h with e := h.e.mono hB, f := h.f.mono hB }
theorem PushO.set {w : World} {B b o : Nat} {vp va vs vf : Value} {p : List PairD} {q : List AcctD} {s F : List Int} (h : PushO w B vp va vs vf p q s F) (hb : b < B) (u : Value) : PushO (w.setCell ⟨b, o, none⟩ u) B vp va vs vf p q s F :=
  { h with e := h.e.set hb u, f := own_set h.f hb u }
set_option maxRecDepth 100000 in
set_option maxHeartbeats 4000000 in
theorem exec_Push_ok (pA qA sA lA : Option Addr) (pn pc qn qc sn sc ln lc : Nat) (p : List PairD) (q : List AcctD) (s l : List Int) (c : Int) (w : World) (hp : PairsR w pA pn p) (hq : AcctsR w qA qn q) (hs : IntsR w sA sn s) (hl : IntsR w lA ln l) (h1 : exB p q s c = true) (h2 : betS l 1 65536 = true) (h3 : sn ≤ 1000000) (h4 : ln ≤ 1000000) :
    Calls Try.prog 10 #[.agg #[.slice pA pn pc, .slice qA qn qc, .slice sA sn sc, .int .i64 c], .slice lA ln lc] w fun e w' => ∃ vp va vs vf, e = .returned (.tuple #[.agg #[vp, va, vs, .int .i64 c], vf, .int .i64 0]) ∧ PushO w' w.heap.size vp va vs vf p q (s ++ freshL s l) (freshL s l) ∧ Below w.heap.size w w' := by
  have HP := Lib.hid hp
  have HQ := Lib.hid hq
  have HS := Lib.hid hs
  have HL := Lib.hid hl
  have HY1 := Lib.hid h1
  have HY2 := Lib.hid h2
  have hpl : pn ≤ 4096 := by rw [← hp.1]; exact (exB_iff.1 h1).1.1.1
  have hql : qn ≤ 4096 := by rw [← hq.1]; exact (exB_iff.1 h1).1.2.1
  clear hp hq hs hl h1 h2
  go_enter Try.func10, Try.ntmps10
  go_wp2_with (first
      | (go_at_call 28; refine (exec_May pA qA sA pn pc qn qc sn sc p q s c _ _ (HP.out.up (by (repeat (first | (with_reducible exact Below.refl _ _) | (with_reducible assumption) | (with_reducible apply bel_alloc) | (with_reducible apply bel_drew) | (with_reducible apply bel_drewN) | (with_reducible refine bel_trans ?_ (by with_reducible assumption)) | (with_reducible refine bel_trans ?_ (HF.out _)) | (with_reducible refine bel_set ?_ (by simp) _) | (with_reducible refine bel_set ?_ (by simp; omega) _) | (with_reducible refine bel_set ?_ (by omega) _))))) (HQ.out.up (by (repeat (first | (with_reducible exact Below.refl _ _) | (with_reducible assumption) | (with_reducible apply bel_alloc) | (with_reducible apply bel_drew) | (with_reducible apply bel_drewN) | (with_reducible refine bel_trans ?_ (by with_reducible assumption)) | (with_reducible refine bel_trans ?_ (HF.out _)) | (with_reducible refine bel_set ?_ (by simp) _) | (with_reducible refine bel_set ?_ (by simp; omega) _) | (with_reducible refine bel_set ?_ (by omega) _))))) (HS.out.up (by (repeat (first | (with_reducible exact Below.refl _ _) | (with_reducible assumption) | (with_reducible apply bel_alloc) | (with_reducible apply bel_drew) | (with_reducible apply bel_drewN) | (with_reducible refine bel_trans ?_ (by with_reducible assumption)) | (with_reducible refine bel_trans ?_ (HF.out _)) | (with_reducible refine bel_set ?_ (by simp) _) | (with_reducible refine bel_set ?_ (by simp; omega) _) | (with_reducible refine bel_set ?_ (by omega) _))))) HY1.out).mono ?_; rintro e w1 ⟨rfl, hb1⟩; have hR1 := (show Blk ((w.alloc (.cells #[.slice pA pn pc, .slice qA qn qc, .slice sA sn sc, .int .i64 c] 28)).alloc (.cells #[.slice none 0 0, .slice none 0 0, .slice none 0 0, .int .i64 0] 28)) (w.heap.size + 1) 28 [.slice none 0 0, .slice none 0 0, .slice none 0 0, .int .i64 0] from by have := Blk.new (w.alloc (.cells #[.slice pA pn pc, .slice qA qn qc, .slice sA sn sc, .int .i64 c] 28)) 28 [.slice none 0 0, .slice none 0 0, .slice none 0 0, .int .i64 0]; simpa using this).up hb1; have hE1 := (show Blk ((w.alloc (.cells #[.slice pA pn pc, .slice qA qn qc, .slice sA sn sc, .int .i64 c] 28)).alloc (.cells #[.slice none 0 0, .slice none 0 0, .slice none 0 0, .int .i64 0] 28)) w.heap.size 28 [.slice pA pn pc, .slice qA qn qc, .slice sA sn sc, .int .i64 c] from (Blk.new w 28 [.slice pA pn pc, .slice qA qn qc, .slice sA sn sc, .int .i64 c]).up (by (repeat (first | (with_reducible exact Below.refl _ _) | (with_reducible assumption) | (with_reducible apply bel_alloc) | (with_reducible apply bel_drew) | (with_reducible apply bel_drewN) | (with_reducible refine bel_trans ?_ (by with_reducible assumption)) | (with_reducible refine bel_trans ?_ (HF.out _)) | (with_reducible refine bel_set ?_ (by simp) _) | (with_reducible refine bel_set ?_ (by simp; omega) _) | (with_reducible refine bel_set ?_ (by omega) _))))).up hb1; have hbw1 : Below w.heap.size w w1 := (by (repeat (first | (with_reducible exact Below.refl _ _) | (with_reducible assumption) | (with_reducible apply bel_alloc) | (with_reducible apply bel_drew) | (with_reducible apply bel_drewN) | (with_reducible refine bel_trans ?_ (by with_reducible assumption)) | (with_reducible refine bel_trans ?_ (HF.out _)) | (with_reducible refine bel_set ?_ (by simp) _) | (with_reducible refine bel_set ?_ (by simp; omega) _) | (with_reducible refine bel_set ?_ (by omega) _)))); have HR1 := Lib.hid hR1; have HE1 := Lib.hid hE1; have g_0 := (hE1.box).2 0 _ rfl; have g_1 := (hE1.box).2 1 _ rfl; have g_2 := (hE1.box).2 2 _ rfl; have g_3 := (hE1.box).2 3 _ rfl; have hel := hE1.lt; clear hR1 hE1)
      | (go_at_call 29; refine (slices_ContainsFunc_I lA ln lc l _ _ (HL.out.up (by (repeat (first | (with_reducible exact Below.refl _ _) | (with_reducible assumption) | (with_reducible apply bel_alloc) | (with_reducible apply bel_drew) | (with_reducible apply bel_drewN) | (with_reducible refine bel_trans ?_ (by with_reducible assumption)) | (with_reducible refine bel_trans ?_ (HF.out _)) | (with_reducible refine bel_set ?_ (by simp) _) | (with_reducible refine bel_set ?_ (by simp; omega) _) | (with_reducible refine bel_set ?_ (by omega) _))))) HY2.out).mono ?_; rintro e w2 ⟨rfl, rfl⟩)
      | (go_at_call 33; refine (exec_Own pA qA sA pn pc qn qc sn sc p q s c _ (HP.out.up hbw1) (HQ.out.up hbw1) (HS.out.up hbw1) (by omega) (by omega) (by omega)).mono ?_; rintro e w3 ⟨vp, va, vs, rfl, hex, hb3⟩; obtain ⟨Ap, cp, rfl, hpr⟩ := nmP hex.p HP.out.1 (by omega); obtain ⟨Aa, ca, rfl, har⟩ := nmA hex.a HQ.out.1 (by omega); obtain ⟨As, cs, rfl, hsr⟩ := nmI hex.s HS.out.1 (by omega); have HEX := Lib.hid hex; have HSR := Lib.hid hsr; clear hex hpr har hsr; have hbw3 := bel_trans hbw1 hb3)
      | (go_at_call 32; refine (exec_More Ap Aa As lA pn cp qn ca sn cs ln lc s l c _ HSR.out (HL.out.up hbw3) (by omega) (by omega)).mono ?_; rintro e w4 ⟨vs4, vf4, rfl, hs4, hf4, hd4, hb4⟩; obtain ⟨n5, hn5⟩ : ∃ n5, (s ++ freshL s l).length = n5 := ⟨_, rfl⟩; obtain ⟨n6, hn6⟩ : ∃ n6, (freshL s l).length = n6 := ⟨_, rfl⟩; have hn6l : n6 ≤ 1000000 := (by rw [← hn6]; have := fresh_len l s; rw [HL.out.1] at this; omega); have hn5l : n5 ≤ 2000000 := (by rw [← hn5, List.length_append, hn6, HS.out.1]; omega); obtain ⟨A5, c5, rfl, _⟩ := nmI hs4 hn5 (by omega); obtain ⟨A6, c6, rfl, _⟩ := nmI hf4 hn6 (by omega); have HS4 := Lib.hid hs4; have HF4 := Lib.hid hf4; have HD4 := Lib.hid hd4; clear hs4 hf4 hd4 hn5 hn6; have hb34 := bel_trans hb3 hb4; have hE5 := HE1.out.up hb34; have hR5 := HR1.out.up hb34; have HE5 := Lib.hid hE5; have HR5 := Lib.hid hR5; clear g_0 g_1 g_2 g_3; have d_0 := (hE5.box).2 0 _ rfl; have d_1 := (hE5.box).2 1 _ rfl; have d_2 := (hE5.box).2 2 _ rfl; have d_3 := (hE5.box).2 3 _ rfl; have df := hE5.frozen; have hbl5 := hE5.lt; have hrl5 := hR5.lt; have rf := hR5.frozen; have k_0 := (hR5.box).2 0 _ rfl; have k_1 := (hR5.box).2 1 _ rfl; have k_2 := (hR5.box).2 2 _ rfl; have k_3 := (hR5.box).2 3 _ rfl; clear hE5 hR5))
  have hw1 : w.heap.size + 2 ≤ w1.heap.size := HR1.out.lt
  have hR6 := (((HR5.out.far (p := ⟨w.heap.size, 0, none⟩) (by simp) (.slice Ap pn cp)).far (p := ⟨w.heap.size, 1, none⟩) (by simp) (.slice Aa qn ca)).far (p := ⟨w.heap.size, 2, none⟩) (by simp) (.slice A5 n5 c5)).far (p := ⟨w.heap.size, 3, none⟩) (by simp) (.int .i64 c)
  have hR7 := set4 hR6 (.slice Ap pn cp) (.slice Aa qn ca) (.slice A5 n5 c5) (.int .i64 c)
  have r_0 := (hR7.box).2 0 _ rfl; have r_1 := (hR7.box).2 1 _ rfl; have r_2 := (hR7.box).2 2 _ rfl; have r_3 := (hR7.box).2 3 _ rfl
  have hP : PushO w4 w1.heap.size (.slice Ap pn cp) (.slice Aa qn ca) (.slice A5 n5 c5) (.slice A6 n6 c6) p q (s ++ freshL s l) (freshL s l) :=
    { e := { p := HEX.out.p.up hb4, a := HEX.out.a.up hb4, s := OwnI.mono HS4.out hb3.size, pa := HEX.out.pa, ps := disj_later HEX.out.p HS4.out (Nat.le_refl _), qs := disj_later HEX.out.a HS4.out (Nat.le_refl _) }, f := OwnI.mono HF4.out hb3.size, pf := disj_later HEX.out.p HF4.out (Nat.le_refl _), qf := disj_later HEX.out.a HF4.out (Nat.le_refl _), sf := Disj.symm HD4.out }
  have hb14 : Below w.heap.size w w4 := bel_trans hbw1 hb34
  exact bodyPost_ret (v := .tuple #[.agg #[.slice Ap pn cp, .slice Aa qn ca, .slice A5 n5 c5, .int .i64 c], .slice A6 n6 c6, .int .i64 0]) (by simp [results, Try.results10, go_sem, r_0, r_1, r_2, r_3]) rfl ⟨_, _, _, _, rfl, ((((((((hP.set (by omega) _).set (by omega) _).set (by omega) _).set (by omega) _).set (by omega) _).set (by omega) _).set (by omega) _).set (by omega) _).mono (by omega), by (repeat (first | (with_reducible exact Below.refl _ _) | (with_reducible assumption) | (with_reducible apply bel_alloc) | (with_reducible apply bel_drew) | (with_reducible apply bel_drewN) | (with_reducible refine bel_trans ?_ (by with_reducible assumption)) | (with_reducible refine bel_trans ?_ (HF.out _)) | ((with_reducible refine bel_set3 ?_ ?_); rotate_left; omega)))⟩
end Go.Proofs.Ytbakkpabiknlmaa
