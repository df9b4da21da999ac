/- Exec at the program: copies of one's own, more that was seen, Push. -/
import Derived.Test.YtbakkpabiknlmaaSzEc
namespace Go.Proofs.Ytbakkpabiknlmaa
open Go.RowKit
set_option linter.unusedSimpArgs false
set_option linter.unusedVariables false

theorem nmP {w : World} {B n : Nat} {v : Value} {l : List PairD} (h : OwnP w B v l) (hn : l.length = n) (hl : n ≤ 9223372036854775807) : ∃ A c, v = .slice A n c ∧ PairsR w A n l := by
  obtain ⟨A, c, e, h1, _⟩ := h.pairs (by omega)
  rw [hn] at e h1
  exact ⟨A, c, e, h1⟩
theorem nmA {w : World} {B n : Nat} {v : Value} {l : List AcctD} (h : OwnA w B v l) (hn : l.length = n) (hl : n ≤ 9223372036854775807) : ∃ A c, v = .slice A n c ∧ AcctsR w A n l := by
  obtain ⟨A, c, e, h1, _⟩ := h.accts (by omega)
  rw [hn] at e h1
  exact ⟨A, c, e, h1⟩
theorem nmI {w : World} {B n : Nat} {v : Value} {l : List Int} (h : OwnI w B v l) (hn : l.length = n) (hl : n ≤ 9223372036854775807) : ∃ A c, v = .slice A n c ∧ IntsR w A n l := by
  obtain ⟨A, c, e, h1, _⟩ := h.ints (by omega)
  rw [hn] at e h1
  exact ⟨A, c, e, h1⟩
/-- What was executed, of one's own. -/
structure ExO (w : World) (B : Nat) (vp va vs : Value) (p : List PairD) (q : List AcctD) (s : List Int) : Prop where
  p : OwnP w B vp p
  a : OwnA w B va q
  s : OwnI w B vs s
  pa : Disj vp va
  ps : Disj vp vs
  qs : Disj va vs
theorem ExO.up {w w' : World} {B : Nat} {vp va vs : Value} {p : List PairD} {q : List AcctD} {s : List Int} (h : ExO w B vp va vs p q s) (hb : Below w.heap.size w w') : ExO w' B vp va vs p q s :=
  { h with p := h.p.up hb, a := h.a.up hb, s := h.s.up hb }
theorem ExO.mono {w : World} {B B' : Nat} {vp va vs : Value} {p : List PairD} {q : List AcctD} {s : List Int} (h : ExO w B vp va vs p q s) (hB : B' ≤ B) : ExO w B' vp va vs p q s :=
  { h with p := h.p.mono hB, a := h.a.mono hB, s := h.s.mono hB }
theorem ExO.set {w : World} {B b o : Nat} {vp va vs : Value} {p : List PairD} {q : List AcctD} {s : List Int} (h : ExO w B vp va vs p q s) (hb : b < B) (u : Value) : ExO (w.setCell ⟨b, o, none⟩ u) B vp va vs p q s :=
  { h with p := OwnP.set3 h.p hb u, a := OwnA.set3 h.a hb u, s := own_set h.s hb u }
theorem set4 {w : World} {g : Nat} {t : TypeId} {a b c d : Value} (h : Blk w g t [a, b, c, d]) (x0 x1 x2 x3 : Value) : Blk ((((w.setCell ⟨g, 0, none⟩ x0).setCell ⟨g, 1, none⟩ x1).setCell ⟨g, 2, none⟩ x2).setCell ⟨g, 3, none⟩ x3) g t [x0, x1, x2, x3] :=
  (((h.set_ 0 x0).set_ 1 x1).set_ 2 x2).set_ 3 x3
set_option maxRecDepth 100000 in
set_option maxHeartbeats 4000000 in
theorem exec_Own (pA qA sA : Option Addr) (pn pc qn qc sn sc : Nat) (p : List PairD) (q : List AcctD) (s : List Int) (c : Int) (w : World) (hp : PairsR w pA pn p) (hq : AcctsR w qA qn q) (hs : IntsR w sA sn s) (h1 : pn ≤ 900000000) (h2 : qn ≤ 900000000) (h3 : sn ≤ 900000000) :
    Calls Try.prog 33 #[.agg #[.slice pA pn pc, .slice qA qn qc, .slice sA sn sc, .int .i64 c]] w fun e w' => ∃ vp va vs, e = .returned (.agg #[vp, va, vs, .int .i64 c]) ∧ ExO w' w.heap.size vp va vs p q s ∧ Below w.heap.size w w' := by
  have HP := Lib.hid hp
  have HQ := Lib.hid hq
  have HS := Lib.hid hs
  clear hp hq hs
  go_enter Try.func33, Try.ntmps33
  go_upto_region 1 with fail
  go_cut [] from 3 to 10 (fun wx => ∃ vp va vs, Blk wx w.heap.size 28 [vp, va, vs, .int .i64 c] ∧ Blk wx (w.heap.size + 1) 28 [.slice none 0 0, .slice none 0 0, .slice none 0 0, .int .i64 0] ∧ ExO wx (w.heap.size + 2) vp va vs p q s ∧ Below w.heap.size w wx)
  case first =>
    have hX1 : Blk ((w.alloc (.cells #[.slice pA pn pc, .slice qA qn qc, .slice sA sn sc, .int .i64 c] 28)).alloc (.cells #[.slice none 0 0, .slice none 0 0, .slice none 0 0, .int .i64 0] 28)) w.heap.size 28 [.slice pA pn pc, .slice qA qn qc, .slice sA sn sc, .int .i64 c] := (Blk.new w 28 [.slice pA pn pc, .slice qA qn qc, .slice sA sn sc, .int .i64 c]).up (by (repeat (first | (with_reducible exact Below.refl _ _) | (with_reducible assumption) | (with_reducible apply bel_alloc) | (with_reducible apply bel_drew) | (with_reducible apply bel_drewN) | (with_reducible refine bel_trans ?_ (by with_reducible assumption)) | (with_reducible refine bel_trans ?_ (HF.out _)) | (with_reducible refine bel_set ?_ (by simp) _) | (with_reducible refine bel_set ?_ (by simp; omega) _) | (with_reducible refine bel_set ?_ (by omega) _))))
    have hX2 : Blk ((w.alloc (.cells #[.slice pA pn pc, .slice qA qn qc, .slice sA sn sc, .int .i64 c] 28)).alloc (.cells #[.slice none 0 0, .slice none 0 0, .slice none 0 0, .int .i64 0] 28)) (w.heap.size + 1) 28 [.slice none 0 0, .slice none 0 0, .slice none 0 0, .int .i64 0] := by
      have := Blk.new (w.alloc (.cells #[.slice pA pn pc, .slice qA qn qc, .slice sA sn sc, .int .i64 c] 28)) 28 [.slice none 0 0, .slice none 0 0, .slice none 0 0, .int .i64 0]
      simpa using this
    have hbX : Below w.heap.size w ((w.alloc (.cells #[.slice pA pn pc, .slice qA qn qc, .slice sA sn sc, .int .i64 c] 28)).alloc (.cells #[.slice none 0 0, .slice none 0 0, .slice none 0 0, .int .i64 0] 28)) := by (repeat (first | (with_reducible exact Below.refl _ _) | (with_reducible assumption) | (with_reducible apply bel_alloc) | (with_reducible apply bel_drew) | (with_reducible apply bel_drewN) | (with_reducible refine bel_trans ?_ (by with_reducible assumption)) | (with_reducible refine bel_trans ?_ (HF.out _)) | (with_reducible refine bel_set ?_ (by simp) _) | (with_reducible refine bel_set ?_ (by simp; omega) _) | (with_reducible refine bel_set ?_ (by omega) _)))
    have hzX : ((w.alloc (.cells #[.slice pA pn pc, .slice qA qn qc, .slice sA sn sc, .int .i64 c] 28)).alloc (.cells #[.slice none 0 0, .slice none 0 0, .slice none 0 0, .int .i64 0] 28)).heap.size = w.heap.size + 2 := by simp
    generalize ((w.alloc (.cells #[.slice pA pn pc, .slice qA qn qc, .slice sA sn sc, .int .i64 c] 28)).alloc (.cells #[.slice none 0 0, .slice none 0 0, .slice none 0 0, .int .i64 0] 28)) = X at *
    have g_0 := (hX1.box).2 0 _ rfl; have g_1 := (hX1.box).2 1 _ rfl; have g_2 := (hX1.box).2 2 _ rfl; have g_3 := (hX1.box).2 3 _ rfl
    have hff := hX1.frozen
    have HX1 := Lib.hid hX1
    have HX2 := Lib.hid hX2
    clear hX1 hX2
    go_region_with (first
      | (go_at_call 40; refine (table_Own pA pn pc p qA qn qc q _ (HP.out.up (by (repeat (first | (with_reducible exact Below.refl _ _) | (with_reducible assumption) | (with_reducible apply bel_alloc) | (with_reducible apply bel_drew) | (with_reducible apply bel_drewN) | (with_reducible refine bel_trans ?_ (by with_reducible assumption)) | (with_reducible refine bel_trans ?_ (HF.out _)) | (with_reducible refine bel_set ?_ (by simp) _) | (with_reducible refine bel_set ?_ (by simp; omega) _) | (with_reducible refine bel_set ?_ (by omega) _))))) (HQ.out.up (by (repeat (first | (with_reducible exact Below.refl _ _) | (with_reducible assumption) | (with_reducible apply bel_alloc) | (with_reducible apply bel_drew) | (with_reducible apply bel_drewN) | (with_reducible refine bel_trans ?_ (by with_reducible assumption)) | (with_reducible refine bel_trans ?_ (HF.out _)) | (with_reducible refine bel_set ?_ (by simp) _) | (with_reducible refine bel_set ?_ (by simp; omega) _) | (with_reducible refine bel_set ?_ (by omega) _))))) h1 h2).mono ?_; rintro e wp ⟨vp, va, rfl, hownP, hownA, hDP, hbP⟩; obtain ⟨Ap, cp, rfl, _⟩ := nmP hownP HP.out.1 (by omega); obtain ⟨Aa, ca, rfl, _⟩ := nmA hownA HQ.out.1 (by omega); have hzP := hbP.size; (try simp at hzP); have hcP := fun o => (bcell hbP).1 w.heap.size o (by first | (simp; done) | (simp; omega) | omega); have hfP := fun o => (bcell hbP).2 w.heap.size o (by first | (simp; done) | (simp; omega) | omega))
      | (go_at_call 53; refine (clone_Ints sA sn sc s _ (HS.out.up (by (repeat (first | (with_reducible exact Below.refl _ _) | (with_reducible assumption) | (with_reducible apply bel_alloc) | (with_reducible apply bel_drew) | (with_reducible apply bel_drewN) | (with_reducible refine bel_trans ?_ (by with_reducible assumption)) | (with_reducible refine bel_trans ?_ (HF.out _)) | (with_reducible refine bel_set ?_ (by simp) _) | (with_reducible refine bel_set ?_ (by simp; omega) _) | (with_reducible refine bel_set ?_ (by omega) _))))) h3).mono ?_; rintro e ws ⟨⟨As, ns, cs⟩, rfl, hownS, hbS⟩; have hzS := hbS.size; (try simp at hzS); have hcS := fun o => (bcell hbS).1 w.heap.size o (by first | (simp; done) | (simp; omega) | omega); have hfS := fun o => (bcell hbS).2 w.heap.size o (by first | (simp; done) | (simp; omega) | omega)))
    all_goals
      go_wp2_with fail
      go_meet
      have hb1 : Below X.heap.size X ws := by (repeat (first | (with_reducible exact Below.refl _ _) | (with_reducible assumption) | (with_reducible apply bel_alloc) | (with_reducible apply bel_drew) | (with_reducible apply bel_drewN) | (with_reducible refine bel_trans ?_ (by with_reducible assumption)) | (with_reducible refine bel_trans ?_ (HF.out _)) | (with_reducible refine bel_set ?_ (by simp) _) | (with_reducible refine bel_set ?_ (by simp; omega) _) | (with_reducible refine bel_set ?_ (by omega) _)))
      have hX1a := (((HX1.out.up hb1).set_ 0 (.slice Ap pn cp)).set_ 1 (.slice Aa qn ca)).set_ 2 (.slice As ns cs)
      have hX2a := (((HX2.out.up hb1).far (p := ⟨w.heap.size, 0, none⟩) (by simp) (.slice Ap pn cp)).far (p := ⟨w.heap.size, 1, none⟩) (by simp) (.slice Aa qn ca)).far (p := ⟨w.heap.size, 2, none⟩) (by simp) (.slice As ns cs)
      have hE : ExO ws (w.heap.size + 2) (.slice Ap pn cp) (.slice Aa qn ca) (.slice As ns cs) p q s := { p := OwnP.mono (hownP.up hbS) (by first | omega | (simp; omega)), a := OwnA.mono (hownA.up hbS) (by first | omega | (simp; omega)), s := OwnI.mono hownS (by omega), pa := hDP, ps := disj_later hownP hownS (Nat.le_refl _) , qs := disj_later hownA hownS (Nat.le_refl _) }
      exact ⟨_, _, _, hX1a, hX2a, ((hE.set (by omega) _).set (by omega) _).set (by omega) _, by (repeat (first | (with_reducible exact Below.refl _ _) | (with_reducible assumption) | (with_reducible apply bel_alloc) | (with_reducible apply bel_drew) | (with_reducible apply bel_drewN) | (with_reducible refine bel_trans ?_ (by with_reducible assumption)) | (with_reducible refine bel_trans ?_ (HF.out _)) | ((with_reducible refine bel_set3 ?_ ?_); rotate_left; omega)))⟩
  case rest =>
  obtain ⟨vp, va, vs, hx1, hx2, hE, hb⟩ := hcut
  obtain ⟨Ap, cp, rfl, _⟩ := nmP hE.p HP.out.1 (by omega)
  obtain ⟨Aa, ca, rfl, _⟩ := nmA hE.a HQ.out.1 (by omega)
  obtain ⟨As, cs, rfl, _⟩ := nmI hE.s HS.out.1 (by omega)
  have g_0 := (hx1.box).2 0 _ rfl; have g_1 := (hx1.box).2 1 _ rfl; have g_2 := (hx1.box).2 2 _ rfl; have g_3 := (hx1.box).2 3 _ rfl
  have k_0 := (hx2.box).2 0 _ rfl; have k_1 := (hx2.box).2 1 _ rfl; have k_2 := (hx2.box).2 2 _ rfl; have k_3 := (hx2.box).2 3 _ rfl
  have kf := hx2.frozen
  have HE := Lib.hid hE
  have hx2l := hx2.lt
  have hR := set4 hx2 (.slice Ap pn cp) (.slice Aa qn ca) (.slice As sn cs) (.int .i64 c)
  have r_0 := (hR.box).2 0 _ rfl; have r_1 := (hR.box).2 1 _ rfl; have r_2 := (hR.box).2 2 _ rfl; have r_3 := (hR.box).2 3 _ rfl
  clear hE hR
  go_wp2_with fail
  exact bodyPost_ret (v := .agg #[.slice Ap pn cp, .slice Aa qn ca, .slice As sn cs, .int .i64 c]) (by simp [results, Try.results33, go_sem, r_0, r_1, r_2, r_3]) rfl ⟨_, _, _, rfl, ((((HE.out.set (by omega) _).set (by omega) _).set (by omega) _).set (by omega) _).mono (by omega), by (repeat (first | (with_reducible exact Below.refl _ _) | (with_reducible assumption) | (with_reducible apply bel_alloc) | (with_reducible apply bel_drew) | (with_reducible apply bel_drewN) | (with_reducible refine bel_trans ?_ (by with_reducible assumption)) | (with_reducible refine bel_trans ?_ (HF.out _)) | ((with_reducible refine bel_set3 ?_ ?_); rotate_left; omega)))⟩
theorem upd_mem {s acc : List Int} {x : Int} : (fun m => if m = x then true else decide (m ∈ s ++ acc)) = fun m => decide (m ∈ s ++ (acc ++ [x])) := by
  funext m
  by_cases e : m = x
  · simp [e]
  · simp [e]
theorem upd_same {s acc : List Int} {x : Int} (h : x ∈ s ++ acc) : (fun m => if m = x then true else decide (m ∈ s ++ acc)) = fun m => decide (m ∈ s ++ acc) := by
  funext m
  by_cases e : m = x
  · subst e; simp at h; simp [h]
  · simp [e]
set_option maxRecDepth 100000 in
set_option maxHeartbeats 4000000 in
theorem exec_More (pA qA sA lA : Option Addr) (pn pc qn qc sn sc ln lc : Nat) (s l : List Int) (c : Int) (w : World) (hs : IntsR w sA sn s) (hl : IntsR w lA ln l) (h3 : sn ≤ 100000000) (h4 : ln ≤ 100000000) :
    Calls Try.prog 32 #[.agg #[.slice pA pn pc, .slice qA qn qc, .slice sA sn sc, .int .i64 c], .slice lA ln lc] w fun e w' => ∃ vs vf, e = .returned (.tuple #[.agg #[.slice pA pn pc, .slice qA qn qc, vs, .int .i64 c], vf]) ∧ OwnI w' w.heap.size vs (s ++ freshL s l) ∧ OwnI w' w.heap.size vf (freshL s l) ∧ Disj vf vs ∧ Below w.heap.size w w' := by
  have HS := Lib.hid hs
  have HL := Lib.hid hl
  have HN := Lib.hid hs.1
  have HM := Lib.hid hl.1
  clear hs hl
  have hmm := @run_makeMap Try.prog
  go_enter Try.func32, Try.ntmps32
  go_wp2_with fail
  go_loopw [16] (fun ix wr => ∃ k : Nat, k ≤ sn ∧ ix = .int .i64 k ∧ Hid (MapR Value.bool false wr (w.heap.size + 2) (fun m => decide (m ∈ s.take k))) ∧ Hid (Blk wr w.heap.size 28 [.slice pA pn pc, .slice qA qn qc, .slice sA sn sc, .int .i64 c]) ∧ Hid (Blk wr (w.heap.size + 1) 28 [.slice none 0 0, .slice none 0 0, .slice none 0 0, .int .i64 0]) ∧ Below w.heap.size w wr) (fun ix _ => sn - (intOf ix).toNat)
  case atStart => exact ⟨0, Nat.zero_le _, rfl, Lib.hid (MapR.made' (by simp) (by funext m; simp)), Lib.hid ((Blk.new w 28 [.slice pA pn pc, .slice qA qn qc, .slice sA sn sc, .int .i64 c]).up (by (repeat (first | (with_reducible exact Below.refl _ _) | (with_reducible assumption) | (with_reducible apply bel_alloc) | (with_reducible apply bel_drew) | (with_reducible apply bel_drewN) | (with_reducible refine bel_trans ?_ (by with_reducible assumption)) | (with_reducible refine bel_trans ?_ (HF.out _)) | (with_reducible refine bel_set ?_ (by simp) _) | (with_reducible refine bel_set ?_ (by simp; omega) _) | (with_reducible refine bel_set ?_ (by omega) _))))), Lib.hid (by have := (Blk.new (w.alloc (.cells #[.slice pA pn pc, .slice qA qn qc, .slice sA sn sc, .int .i64 c] 28)) 28 [.slice none 0 0, .slice none 0 0, .slice none 0 0, .int .i64 0]).up (w' := ((w.alloc (.cells #[.slice pA pn pc, .slice qA qn qc, .slice sA sn sc, .int .i64 c] 28)).alloc (.cells #[.slice none 0 0, .slice none 0 0, .slice none 0 0, .int .i64 0] 28)).alloc (.map #[] 0)) (by (repeat (first | (with_reducible exact Below.refl _ _) | (with_reducible assumption) | (with_reducible apply bel_alloc) | (with_reducible apply bel_drew) | (with_reducible apply bel_drewN) | (with_reducible refine bel_trans ?_ (by with_reducible assumption)) | (with_reducible refine bel_trans ?_ (HF.out _)) | (with_reducible refine bel_set ?_ (by simp) _) | (with_reducible refine bel_set ?_ (by simp; omega) _) | (with_reducible refine bel_set ?_ (by omega) _)))); simpa using this), by (repeat (first | (with_reducible exact Below.refl _ _) | (with_reducible assumption) | (with_reducible apply bel_alloc) | (with_reducible apply bel_drew) | (with_reducible apply bel_drewN) | (with_reducible refine bel_trans ?_ (by with_reducible assumption)) | (with_reducible refine bel_trans ?_ (HF.out _)) | (with_reducible refine bel_set ?_ (by simp) _) | (with_reducible refine bel_set ?_ (by simp; omega) _) | (with_reducible refine bel_set ?_ (by omega) _)))⟩
  case round =>
    obtain ⟨k, hk, rfl, HMp, HB, HR, hbw⟩ := hrel
    (obtain ⟨wk, hwk⟩ : ∃ x, x = wr := ⟨_, rfl⟩); subst hwk
    have b_0 := (HB.out.box).2 0 _ rfl; have b_1 := (HB.out.box).2 1 _ rfl; have b_2 := (HB.out.box).2 2 _ rfl; have b_3 := (HB.out.box).2 3 _ rfl
    have hg0 := HB.out.lt
    have hg1 := HR.out.lt
    by_cases hlt : k < sn
    · obtain ⟨b, off, rfl, hb, hc⟩ := (HS.out.up hbw).2.2 (by omega)
      have hck := hc k hlt
      clear hc
      obtain ⟨x, hx⟩ : ∃ x, nth s k = x := ⟨_, rfl⟩
      rw [hx] at hck
      have HX := Lib.hid hx
      have HKL : Hid (k < s.length) := Lib.hid (by rw [HN.out]; exact hlt)
      clear hx
      go_wp2_with (at_mapUpdate; refine wpList_mapUpd Value.bool false rfl _ _ _ 90 3 4 (.inl rfl) Try.underlying90 Try.underlying3 HMp.out rfl _ rfl true rfl ?_; intro w2 hM2 hg2 hsz2)
      have hb2 : Below w.heap.size w w2 := bel_grown hbw hg2 (by omega)
      rw [take_succ_mem HKL.out HX.out] at hM2
      (first | (go_round; (case rel => exact ⟨k + 1, by omega, by go_num, Lib.hid hM2, Lib.hid (HB.out.grown hg2 (by omega)), Lib.hid (HR.out.grown hg2 (by omega)), hb2⟩); (case measure => (simp [intOf] <;> omega))) | (go_roundw; (case rel => exact ⟨k + 1, by omega, by go_num, Lib.hid hM2, Lib.hid (HB.out.grown hg2 (by omega)), Lib.hid (HR.out.grown hg2 (by omega)), hb2⟩); (case measure => (simp [intOf] <;> omega))) | (refine ⟨?_, by simp [intOf] <;> omega⟩; (repeat apply Exists.intro); refine ⟨?rel, ?fr⟩; (case fr => ((repeat' apply And.intro) <;> rfl)); (case rel => exact ⟨k + 1, by omega, by go_num, Lib.hid hM2, Lib.hid (HB.out.grown hg2 (by omega)), Lib.hid (HR.out.grown hg2 (by omega)), hb2⟩)))
    · obtain rfl : k = sn := by omega
      have hMp0 := HMp.out
      rw [List.take_of_length_le (by rw [HN.out]; omega)] at hMp0
      have HMp0 := Lib.hid hMp0
      have hbz := hbw.size
      clear hMp0
      have hz3 : w.heap.size + 3 ≤ wk.heap.size := by have := HMp0.out.lt; omega
      go_wp2_with fail
      go_loopw [6, 25] (fun v ix wr => ∃ (j : Nat) (acc : List Int), j ≤ ln ∧ acc.length ≤ j ∧ ix = .int .i64 j ∧ Hid (acc ++ freshL (s ++ acc) (l.drop j) = freshL s l) ∧ Hid (OwnI wr (w.heap.size + 3) v acc) ∧ Hid (MapR Value.bool false wr (w.heap.size + 2) (fun m => decide (m ∈ s ++ acc))) ∧ Hid (Blk wr w.heap.size 28 [.slice pA pn pc, .slice qA qn qc, .slice sA k sc, .int .i64 c]) ∧ Hid (Blk wr (w.heap.size + 1) 28 [.slice none 0 0, .slice none 0 0, .slice none 0 0, .int .i64 0]) ∧ Below w.heap.size w wr) (fun _ ix _ => ln - (intOf ix).toNat)
      case atStart => exact ⟨0, [], Nat.zero_le _, Nat.le_refl _, rfl, Lib.hid (by simp), Lib.hid (OwnI.nil _ _), Lib.hid (by simpa using HMp0.out), HB, HR, hbw⟩
      case round =>
        clear HB HR hbw b_0 b_1 b_2 b_3 hg0 hg1
        obtain ⟨j, acc, hj, hacc, rfl, HF, HO, HMq, HB, HR, hbw⟩ := hrel
        (obtain ⟨wj, hwj⟩ : ∃ x, x = wr := ⟨_, rfl⟩); subst hwj
        have b_0 := (HB.out.box).2 0 _ rfl; have b_1 := (HB.out.box).2 1 _ rfl; have b_2 := (HB.out.box).2 2 _ rfl; have b_3 := (HB.out.box).2 3 _ rfl
        have hg0 := HB.out.lt
        have hg1 := HR.out.lt
        have hgm := HMq.out.lt
        by_cases hlt2 : j < ln
        · obtain ⟨b, off, rfl, hb, hc⟩ := (HL.out.up hbw).2.2 (by omega)
          have hck := hc j hlt2
          clear hc
          obtain ⟨x, hx⟩ : ∃ x, nth l j = x := ⟨_, rfl⟩
          have hfs := fresh_step (s := s ++ acc) (l := l) (k := j) (by rw [HM.out]; exact hlt2)
          rw [hx] at hck hfs
          have HFS := Lib.hid hfs
          clear hx hfs
          have hlook := HMq.out.lookup (P := Try.prog) Try.underlying90 Try.underlying3 (by kernel_rfl) x
          obtain ⟨z, hz⟩ : ∃ z, decide (x ∈ s ++ acc) = z := ⟨_, rfl⟩
          rw [hz] at hlook
          cases z
          · have HZ : Hid (x ∉ s ++ acc) := Lib.hid (by simpa using hz)
            clear hz
            have hF2 : (acc ++ [x]) ++ freshL (s ++ (acc ++ [x])) (l.drop (j + 1)) = freshL s l := by
              rw [← HF.out, HFS.out, if_neg HZ.out]; simp
            have HF2 := Lib.hid hF2
            clear hF2
            go_wp2_with (first | (at_builtin; refine wpList_app1 rfl (.tmp 33) (.tmp 35) rfl (w.heap.size + 3) _ _ rfl (HO.out.alloc _) _ x rfl (cell0_alloc _ _ _) (by omega) (by simp; omega) ?_; intro v1 w1 hown1 hg1 hbel1 hat1; have hbel3 : Below (w.heap.size + 3) wj w1 := Below.trans ((Below.refl _ _).alloc (by omega) _) hbel1; have hMw := HMq.out.below hbel3 (by omega)) | (at_mapUpdate; refine wpList_mapUpd Value.bool false rfl _ _ _ 90 3 4 (.inl rfl) Try.underlying90 Try.underlying3 hMw rfl _ rfl true rfl ?_; intro w2 hM2 hg2 hsz2))
            have hb2 : Below w.heap.size w w2 := bel_grown (hbw.trans (hbel3.mono (by omega))) hg2 (by omega)
            rw [upd_mem] at hM2
            (first | (go_round; (case rel => exact ⟨j + 1, acc ++ [x], by omega, by simp; omega, by go_num, HF2, Lib.hid (hown1.grown hg2 (by omega)), Lib.hid hM2, Lib.hid ((HB.out.below hbel3 (by omega)).grown hg2 (by omega)), Lib.hid ((HR.out.below hbel3 (by omega)).grown hg2 (by omega)), hb2⟩); (case measure => (simp [intOf] <;> omega))) | (go_roundw; (case rel => exact ⟨j + 1, acc ++ [x], by omega, by simp; omega, by go_num, HF2, Lib.hid (hown1.grown hg2 (by omega)), Lib.hid hM2, Lib.hid ((HB.out.below hbel3 (by omega)).grown hg2 (by omega)), Lib.hid ((HR.out.below hbel3 (by omega)).grown hg2 (by omega)), hb2⟩); (case measure => (simp [intOf] <;> omega))) | (refine ⟨?_, by simp [intOf] <;> omega⟩; (repeat apply Exists.intro); refine ⟨?rel, ?fr⟩; (case fr => ((repeat' apply And.intro) <;> rfl)); (case rel => exact ⟨j + 1, acc ++ [x], by omega, by simp; omega, by go_num, HF2, Lib.hid (hown1.grown hg2 (by omega)), Lib.hid hM2, Lib.hid ((HB.out.below hbel3 (by omega)).grown hg2 (by omega)), Lib.hid ((HR.out.below hbel3 (by omega)).grown hg2 (by omega)), hb2⟩)))
          · have HZ : Hid (x ∈ s ++ acc) := Lib.hid (by simpa using hz)
            clear hz
            have hF2 : acc ++ freshL (s ++ acc) (l.drop (j + 1)) = freshL s l := by
              rw [← HF.out, HFS.out, if_pos HZ.out]
            have HF2 := Lib.hid hF2
            clear hF2
            go_wp2_with (at_mapUpdate; refine wpList_mapUpd Value.bool false rfl _ _ _ 90 3 4 (.inl rfl) Try.underlying90 Try.underlying3 HMq.out rfl _ rfl true rfl ?_; intro w2 hM2 hg2 hsz2)
            have hb2 : Below w.heap.size w w2 := bel_grown hbw hg2 (by omega)
            rw [upd_same HZ.out] at hM2
            (first | (go_round; (case rel => exact ⟨j + 1, acc, by omega, by omega, by go_num, HF2, Lib.hid (HO.out.grown hg2 (by omega)), Lib.hid hM2, Lib.hid (HB.out.grown hg2 (by omega)), Lib.hid (HR.out.grown hg2 (by omega)), hb2⟩); (case measure => (simp [intOf] <;> omega))) | (go_roundw; (case rel => exact ⟨j + 1, acc, by omega, by omega, by go_num, HF2, Lib.hid (HO.out.grown hg2 (by omega)), Lib.hid hM2, Lib.hid (HB.out.grown hg2 (by omega)), Lib.hid (HR.out.grown hg2 (by omega)), hb2⟩); (case measure => (simp [intOf] <;> omega))) | (refine ⟨?_, by simp [intOf] <;> omega⟩; (repeat apply Exists.intro); refine ⟨?rel, ?fr⟩; (case fr => ((repeat' apply And.intro) <;> rfl)); (case rel => exact ⟨j + 1, acc, by omega, by omega, by go_num, HF2, Lib.hid (HO.out.grown hg2 (by omega)), Lib.hid hM2, Lib.hid (HB.out.grown hg2 (by omega)), Lib.hid (HR.out.grown hg2 (by omega)), hb2⟩)))
        · have hF2 : acc = freshL s l := by
            rw [← HF.out, List.drop_of_length_le (by rw [HM.out]; omega)]; simp [freshL]
          subst hF2
          obtain ⟨fn, hfn⟩ : ∃ fn, (freshL s l).length = fn := ⟨_, rfl⟩
          have hfl : fn ≤ ln := by rw [← hfn]; omega
          obtain ⟨Af, cf, rfl, hfr⟩ := nmI HO.out hfn (by omega)
          have HFR := Lib.hid hfr
          have HFN := Lib.hid hfn
          clear hfr hfn HF hacc
          go_wp2_with (go_at_call 52; refine (slices_Concat_Int _ sA Af k sc fn cf s (freshL s l) _ (BoxR.new _ [.slice sA k sc, .slice Af fn cf] _) (HS.out.up (by (repeat (first | (with_reducible exact Below.refl _ _) | (with_reducible assumption) | (with_reducible apply bel_alloc) | (with_reducible apply bel_drew) | (with_reducible apply bel_drewN) | (with_reducible refine bel_trans ?_ (by with_reducible assumption)) | (with_reducible refine bel_trans ?_ (HF.out _)) | (with_reducible refine bel_set ?_ (by simp) _) | (with_reducible refine bel_set ?_ (by simp; omega) _) | (with_reducible refine bel_set ?_ (by omega) _))))) (HFR.out.up (by (repeat (first | (with_reducible exact Below.refl _ _) | (with_reducible assumption) | (with_reducible apply bel_alloc) | (with_reducible apply bel_drew) | (with_reducible apply bel_drewN) | (with_reducible refine bel_trans ?_ (by with_reducible assumption)) | (with_reducible refine bel_trans ?_ (HF.out _)) | (with_reducible refine bel_set ?_ (by simp) _) | (with_reducible refine bel_set ?_ (by simp; omega) _) | (with_reducible refine bel_set ?_ (by omega) _))))) (by omega) (by omega)).mono ?_; rintro e w5 ⟨v5, rfl, hown5, hb5⟩; have hbj5 : Below wj.heap.size wj w5 := (by (repeat (first | (with_reducible exact Below.refl _ _) | (with_reducible assumption) | (with_reducible apply bel_alloc) | (with_reducible apply bel_drew) | (with_reducible apply bel_drewN) | (with_reducible refine bel_trans ?_ (by with_reducible assumption)) | (with_reducible refine bel_trans ?_ (HF.out _)) | (with_reducible refine bel_set ?_ (by simp) _) | (with_reducible refine bel_set ?_ (by simp; omega) _) | (with_reducible refine bel_set ?_ (by omega) _)))); obtain ⟨n5, hn5⟩ : ∃ n5, (s ++ freshL s l).length = n5 := ⟨_, rfl⟩; have hn5l : n5 ≤ 200000000 := (by rw [← hn5, List.length_append, HFN.out, HN.out]; omega); obtain ⟨A5, c5, rfl, _⟩ := nmI hown5 hn5 (by omega); have HO5 := Lib.hid hown5; clear hown5 hn5; have hB5 := HB.out.up hbj5; have hR5 := HR.out.up hbj5; have HB5 := Lib.hid hB5; have HR5 := Lib.hid hR5; clear hB5 hR5; clear b_0 b_1 b_2 b_3; have d_0 := (HB5.out.box).2 0 _ rfl; have d_1 := (HB5.out.box).2 1 _ rfl; have d_2 := (HB5.out.box).2 2 _ rfl; have d_3 := (HB5.out.box).2 3 _ rfl; have df := HB5.out.frozen; have hbl5 := HB5.out.lt; have hrl5 := HR5.out.lt; have rf := HR5.out.frozen; have k_0 := (HR5.out.box).2 0 _ rfl; have k_1 := (HR5.out.box).2 1 _ rfl; have k_2 := (HR5.out.box).2 2 _ rfl; have k_3 := (HR5.out.box).2 3 _ rfl; have hz5 := hbj5.size; have hR6 := set4 (HR5.out.far (p := ⟨w.heap.size, 2, none⟩) (by simp) (.slice A5 n5 c5)) (.slice pA pn pc) (.slice qA qn qc) (.slice A5 n5 c5) (.int .i64 c); have r_0 := (hR6.box).2 0 _ rfl; have r_1 := (hR6.box).2 1 _ rfl; have r_2 := (hR6.box).2 2 _ rfl; have r_3 := (hR6.box).2 3 _ rfl; clear hR6)
          have hzx : w.heap.size + 3 ≤ wj.heap.size := by omega
          have hd : Disj (.slice Af fn cf) (.slice A5 n5 c5) := disj_later (HO.out.up (w' := wj.alloc (.cells #[.slice sA k sc, .slice Af fn cf] 0)) (by (repeat (first | (with_reducible exact Below.refl _ _) | (with_reducible assumption) | (with_reducible apply bel_alloc) | (with_reducible apply bel_drew) | (with_reducible apply bel_drewN) | (with_reducible refine bel_trans ?_ (by with_reducible assumption)) | (with_reducible refine bel_trans ?_ (HF.out _)) | (with_reducible refine bel_set ?_ (by simp) _) | (with_reducible refine bel_set ?_ (by simp; omega) _) | (with_reducible refine bel_set ?_ (by omega) _))))) HO5.out (by simp)
          refine bodyPost_ret (v := .tuple #[.agg #[.slice pA pn pc, .slice qA qn qc, .slice A5 n5 c5, .int .i64 c], .slice Af fn cf]) (by simp [results, Try.results32, go_sem, r_0, r_1, r_2, r_3]) rfl ⟨_, _, rfl, ?_, ?_, hd, by (repeat (first | (with_reducible exact Below.refl _ _) | (with_reducible assumption) | (with_reducible apply bel_alloc) | (with_reducible apply bel_drew) | (with_reducible apply bel_drewN) | (with_reducible refine bel_trans ?_ (by with_reducible assumption)) | (with_reducible refine bel_trans ?_ (HF.out _)) | ((with_reducible refine bel_set3 ?_ ?_); rotate_left; omega)))⟩
          · exact OwnI.mono (own_set (own_set (own_set (own_set (own_set HO5.out (by simp; omega) _) (by simp; omega) _) (by simp; omega) _) (by simp; omega) _) (by simp; omega) _) (by simp; omega)
          · exact OwnI.mono (own_set (own_set (own_set (own_set (own_set (HO.out.up hbj5) (by simp) _) (by simp) _) (by simp) _) (by simp) _) (by simp) _) (by omega)
end Go.Proofs.Ytbakkpabiknlmaa
