/- The law ExecTwice. -/
import Derived.Test.YtgljmljmljccgaaEm
import Derived.Deep.RegionHeld3
namespace Go.Proofs.Ytgljmljmljccgaa
open Go.RowKit
set_option linter.unusedSimpArgs false
set_option linter.unusedVariables false

theorem exec_Step_idle (pA qA sA lA : Option Addr) (pn pc qn qc sn sc ln lc : Nat) (p : List PairD) (q : List AcctD) (s : List Int) (l : List HeldD) (cn : Nat) (x : Int) (w : World) (hx : x = (cn : Int)) (hp : PairsR w pA pn p) (hq : AcctsR w qA qn q) (hs : IntsR w sA sn s) (hl : HeldsR w lA ln l) (h1 : exB p q s (cn : Int) = true) (h2 : hdB l = true) (h3 : sn ≤ 1000000) (h4 : ln ≤ 1000000) (hR : stepR l (s.drop cn) p q = ((p, q), 0)) :
    Calls Try.prog 40 #[.agg #[.slice pA pn pc, .slice qA qn qc, .slice sA sn sc, .int .i64 x], .slice lA ln lc] w fun e w' => ∃ vp va vs, e = .returned (.tuple #[.agg #[vp, va, vs, .int .i64 x], .int .i64 0, .int .i64 0]) ∧ ExO w' w.heap.size vp va vs p q s ∧ Below w.heap.size w w' := by
  subst hx
  refine (exec_Step_ok pA qA sA lA pn pc qn qc sn sc ln lc p q s l cn p q 0 w hp hq hs hl h1 h2 h3 h4 hR).mono ?_
  rintro e w' ⟨vp, va, vs, rfl, h⟩
  exact ⟨vp, va, vs, by simp, h⟩
theorem fresh_again (s l : List Int) : freshL (s ++ freshL s l) l = [] := fresh_none fun x hx => by
  by_cases h : x ∈ s
  · exact List.mem_append_left _ h
  · exact List.mem_append_right _ ((fresh_mem l s x).2 ⟨hx, h⟩)
theorem step_again (l : List HeldD) : ∀ (ds : List Int) (p : List PairD) (q : List AcctD), stepR l (ds.drop (stepR l ds p q).2) (stepR l ds p q).1.1 (stepR l ds p q).1.2 = ((stepR l ds p q).1, 0)
  | [], p, q => by simp [stepR]
  | d :: ds, p, q => by
    by_cases h : khasH l d = true
    · have ih := step_again l ds (runT (hth l (kposH l d)).b.tx p q).1 (runT (hth l (kposH l d)).b.tx p q).2
      have e : stepR l (d :: ds) p q = ((stepR l ds (runT (hth l (kposH l d)).b.tx p q).1 (runT (hth l (kposH l d)).b.tx p q).2).1, (stepR l ds (runT (hth l (kposH l d)).b.tx p q).1 (runT (hth l (kposH l d)).b.tx p q).2).2 + 1) := by
        conv => lhs; unfold stepR
        rw [if_pos h]
      rw [e]
      simpa using ih
    · have e : stepR l (d :: ds) p q = ((p, q), 0) := by
        conv => lhs; unfold stepR
        rw [if_neg h]
      rw [e]
      simpa using e
theorem exB_step {l : List HeldD} {p FP : List PairD} {q FQ : List AcctD} {s : List Int} {cn N : Nat} (h : exB p q s (cn : Int) = true) (hst : stepR l (s.drop cn) p q = ((FP, FQ), N)) : exB FP FQ s ((cn + N : Nat) : Int) = true ∧ stepR l (s.drop (cn + N)) FP FQ = ((FP, FQ), 0) ∧ cn + N ≤ s.length := by
  have h1 := exB_iff.1 h
  have h2 := stepR_may l (s.drop cn) h1.1
  have h3 := step_again l (s.drop cn) p q
  rw [hst] at h2 h3
  have hc : cn ≤ s.length := by have := h1.2.2.2; omega
  have hl : cn + N ≤ s.length := by have := h2.2; simp at this; omega
  refine ⟨exB_iff.2 ⟨h2.1, h1.2.1, by omega, by omega⟩, ?_, hl⟩
  simpa [List.drop_drop] using h3
theorem exB_push {p : List PairD} {q : List AcctD} {s l : List Int} {c : Int} (h : exB p q s c = true) (hl : betS l 1 65536 = true) : exB p q (s ++ freshL s l) c = true := by
  have h1 := exB_iff.1 h
  exact exB_iff.2 ⟨h1.1, h1.2.1.push (betD_iff.1 hl), h1.2.2.1, by have := h1.2.2.2; simp; omega⟩
set_option maxRecDepth 100000 in
set_option maxHeartbeats 16000000 in
theorem law_ExecTwice (P : ScrP) (D : ScrD) (w : World) (h : ScrR w P D) :
    Calls Try.prog 9 #[P.val D] w fun e w' => e = .returned (.bool true) ∧ Below w.heap.size w w' := by
  obtain ⟨⟨pA, pn, pc⟩, ⟨qA, qn, qc⟩, ⟨sA, sn, sc⟩, ⟨lA, ln, lc⟩⟩ := P
  have H := Lib.hid h
  have HP : Hid (PairsR w pA pn D.e.p) := Lib.hid h.p
  have HQ : Hid (AcctsR w qA qn D.e.q) := Lib.hid h.q
  have HS : Hid (IntsR w sA sn D.e.s) := Lib.hid h.s
  have HL : Hid (ActsR w lA ln D.l) := Lib.hid h.l
  have hsc : sn ≤ sc := h.sc
  clear h
  obtain ⟨ec, hec⟩ : ∃ z, D.e.c = z := ⟨_, rfl⟩
  obtain ⟨yE, hyE⟩ : ∃ y, exB D.e.p D.e.q D.e.s ec = y := ⟨_, rfl⟩
  have HEC := Lib.hid hec
  have HYE := Lib.hid hyE
  have hheavy := law23_heavy ⟨⟨pA, pn, pc⟩, ⟨qA, qn, qc⟩, ⟨sA, sn, sc⟩, ⟨lA, ln, lc⟩⟩ D
  show Calls Try.prog 9 #[.agg #[.slice pA pn pc, .slice qA qn qc, .slice sA sn sc, .int .i64 D.e.c, .slice lA ln lc]] w _
  simp only [ScrP.val] at hheavy
  rw [hec] at hheavy ⊢
  have HHV := Lib.hid hheavy
  clear hheavy hec hyE
  go_enter Try.func9, Try.ntmps9
  go_wp2_with fail
  refine (HHV.out _ (H.out.up (by (repeat (first | (with_reducible exact Below.refl _ _) | (with_reducible assumption) | (with_reducible apply bel_alloc) | (with_reducible apply bel_drew) | (with_reducible apply bel_drewN) | (with_reducible refine bel_trans ?_ (by with_reducible assumption)) | (with_reducible refine bel_trans ?_ (HF.out _)) | (with_reducible refine bel_set ?_ (by simp) _) | (with_reducible refine bel_set ?_ (by simp; omega) _) | (with_reducible refine bel_set ?_ (by omega) _)))))).mono ?_
  rintro e w1 ⟨x, rfl, hx, hb1⟩
  cases x
  case true =>
    clear hx
    go_wp2_with fail
    go_ret
    exact ⟨rfl, by (repeat (first | (with_reducible exact Below.refl _ _) | (with_reducible assumption) | (with_reducible apply bel_alloc) | (with_reducible apply bel_drew) | (with_reducible apply bel_drewN) | (with_reducible refine bel_trans ?_ (by with_reducible assumption)) | (with_reducible refine bel_trans ?_ (HF.out _)) | (with_reducible refine bel_set ?_ (by simp) _) | (with_reducible refine bel_set ?_ (by simp; omega) _) | (with_reducible refine bel_set ?_ (by omega) _)))⟩
  case false =>
  have hLt := hx rfl
  have hp4 : pn ≤ 4000 := hLt.p
  have hq4 : qn ≤ 4000 := hLt.q
  have hs3 : sn ≤ 300 := hLt.s
  have hl1 : ln ≤ 100 := hLt.l
  have HLT := Lib.hid hLt
  have hB1 : BoxR w1 w.heap.size [.slice pA pn pc, .slice qA qn qc, .slice sA sn sc, .int .i64 ec, .slice lA ln lc] := (BoxR.new w [.slice pA pn pc, .slice qA qn qc, .slice sA sn sc, .int .i64 ec, .slice lA ln lc] 71).up hb1
  have hbw1 : Below w.heap.size w w1 := by (repeat (first | (with_reducible exact Below.refl _ _) | (with_reducible assumption) | (with_reducible apply bel_alloc) | (with_reducible apply bel_drew) | (with_reducible apply bel_drewN) | (with_reducible refine bel_trans ?_ (by with_reducible assumption)) | (with_reducible refine bel_trans ?_ (HF.out _)) | (with_reducible refine bel_set ?_ (by simp) _) | (with_reducible refine bel_set ?_ (by simp; omega) _) | (with_reducible refine bel_set ?_ (by omega) _)))
  have HB1 := Lib.hid hB1
  have hg1 := hB1.1
  have b_0 := (hB1).2 0 _ rfl; have b_1 := (hB1).2 1 _ rfl; have b_2 := (hB1).2 2 _ rfl; have b_3 := (hB1).2 3 _ rfl; have b_4 := (hB1).2 4 _ rfl
  clear hx hLt hb1 hB1
  cases yE
  case false =>
    go_wp2_with (go_at_call 34; refine (ref22_Exec pA qA sA pn pc qn qc sn sc D.e.p D.e.q D.e.s ec _ _ (HP.out.up hbw1) (HQ.out.up hbw1) (HS.out.up hbw1) hsc (by omega) HYE.out).mono ?_; rintro e w2 ⟨rfl, hb2⟩)
    go_ret
    exact ⟨rfl, by (repeat (first | (with_reducible exact Below.refl _ _) | (with_reducible assumption) | (with_reducible apply bel_alloc) | (with_reducible apply bel_drew) | (with_reducible apply bel_drewN) | (with_reducible refine bel_trans ?_ (by with_reducible assumption)) | (with_reducible refine bel_trans ?_ (HF.out _)) | (with_reducible refine bel_set ?_ (by simp) _) | (with_reducible refine bel_set ?_ (by simp; omega) _) | (with_reducible refine bel_set ?_ (by omega) _)))⟩
  case true =>
  go_wp2_with (go_at_call 34; refine (ref22_Exec pA qA sA pn pc qn qc sn sc D.e.p D.e.q D.e.s ec _ _ (HP.out.up hbw1) (HQ.out.up hbw1) (HS.out.up hbw1) hsc (by omega) HYE.out).mono ?_; rintro e w2 ⟨rfl, hb2⟩)
  have hbw2 : Below w.heap.size w w2 := by (repeat (first | (with_reducible exact Below.refl _ _) | (with_reducible assumption) | (with_reducible apply bel_alloc) | (with_reducible apply bel_drew) | (with_reducible apply bel_drewN) | (with_reducible refine bel_trans ?_ (by with_reducible assumption)) | (with_reducible refine bel_trans ?_ (HF.out _)) | (with_reducible refine bel_set ?_ (by simp) _) | (with_reducible refine bel_set ?_ (by simp; omega) _) | (with_reducible refine bel_set ?_ (by omega) _)))
  have HB2 := Lib.hid (HB1.out.up hb2)
  clear b_0 b_1 b_2 b_3 b_4 hg1 HB1 hbw1 hb2 HHV
  go_loopw [3] (fun ix wr => ∃ k : Nat, k ≤ ln ∧ ix = .int .i64 k ∧ Hid (BoxR wr w.heap.size [.slice pA pn pc, .slice qA qn qc, .slice sA sn sc, .int .i64 ec, .slice lA ln lc]) ∧ Below w.heap.size w wr) (fun ix _ => ln - (intOf ix).toNat)
  case atStart => exact ⟨0, Nat.zero_le _, rfl, HB2, hbw2⟩
  case round =>
    clear HB2 hbw2
    obtain ⟨k, hk, rfl, HB, hbw⟩ := hrel
    (obtain ⟨wk, hwk⟩ : ∃ x, x = wr := ⟨_, rfl⟩); subst hwk
    have b_0 := (HB.out).2 0 _ rfl; have b_1 := (HB.out).2 1 _ rfl; have b_2 := (HB.out).2 2 _ rfl; have b_3 := (HB.out).2 3 _ rfl; have b_4 := (HB.out).2 4 _ rfl
    have hg0 := HB.out.1
    by_cases hlt : k < ln ∧ k < 12
    · obtain ⟨hlt1, hlt2⟩ := hlt
      obtain ⟨ab, aoff, rfl, hab, hac⟩ := (HL.out.up hbw).2.2 (by omega)
      obtain ⟨A5, m5, d5, C5, k5, e5, c0, c1, c2, hI, hH⟩ := hac k hlt1
      obtain ⟨a, ha⟩ : ∃ a, acth D.l k = a := ⟨_, rfl⟩
      rw [ha] at c0 hI hH
      have ham : a ∈ D.l := by rw [← ha]; have := HL.out.1; simp [acth, show k < D.l.length by omega]
      have hm6 : m5 ≤ 6000 := by rw [← hI.1]; exact HLT.out.li a ham
      have hk6 : k5 ≤ 6000 := by rw [← hH.1]; exact HLT.out.hi a ham
      have HI := Lib.hid hI
      have HH := Lib.hid hH
      have hck1 := c1
      have hck2 := c2
      clear hac ha hI hH c0 ham
      obtain ⟨yd, hyd⟩ : ∃ y, betS a.l 1 65536 = y := ⟨_, rfl⟩
      have HYD := Lib.hid hyd
      obtain ⟨yh, hyh⟩ : ∃ y, hdB a.h = y := ⟨_, rfl⟩
      have HYH := Lib.hid hyh
      clear hyd hyh
      cases yd
      case false =>
        go_wp2_with (go_at_call 35; refine (ref0_Digests A5 m5 d5 a.l _ HI.out).mono ?_; rintro e w3 ⟨rfl, rfl⟩; rw [HYD.out])
        (first | (go_round; (case rel => exact ⟨k + 1, by omega, by go_num, HB, hbw⟩); (case measure => (simp [intOf] <;> omega))) | (go_roundw; (case rel => exact ⟨k + 1, by omega, by go_num, HB, hbw⟩); (case measure => (simp [intOf] <;> omega))) | (refine ⟨?_, by simp [intOf] <;> omega⟩; (repeat apply Exists.intro); refine ⟨?rel, ?fr⟩; (case fr => ((repeat' apply And.intro) <;> rfl)); (case rel => exact ⟨k + 1, by omega, by go_num, HB, hbw⟩)))
      case true =>
      cases yh
      case false =>
        go_wp2_with (first
          | (go_at_call 35; refine (ref0_Digests A5 m5 d5 a.l _ HI.out).mono ?_; rintro e w3 ⟨rfl, rfl⟩; rw [HYD.out])
          | (go_at_call 36; refine (ref13_Held C5 k5 e5 a.h _ _ (HH.out.up (by (repeat (first | (with_reducible exact Below.refl _ _) | (with_reducible assumption) | (with_reducible apply bel_alloc) | (with_reducible apply bel_drew) | (with_reducible apply bel_drewN) | (with_reducible refine bel_trans ?_ (by with_reducible assumption)) | (with_reducible refine bel_trans ?_ (HF.out _)) | (with_reducible refine bel_set ?_ (by simp) _) | (with_reducible refine bel_set ?_ (by simp; omega) _) | (with_reducible refine bel_set ?_ (by omega) _))))) HYH.out).mono ?_; rintro e w4 ⟨rfl, hb4⟩))
        (first | (go_round; (case rel => exact ⟨k + 1, by omega, by go_num, Lib.hid (HB.out.up hb4), bel_trans hbw hb4⟩); (case measure => (simp [intOf] <;> omega))) | (go_roundw; (case rel => exact ⟨k + 1, by omega, by go_num, Lib.hid (HB.out.up hb4), bel_trans hbw hb4⟩); (case measure => (simp [intOf] <;> omega))) | (refine ⟨?_, by simp [intOf] <;> omega⟩; (repeat apply Exists.intro); refine ⟨?rel, ?fr⟩; (case fr => ((repeat' apply And.intro) <;> rfl)); (case rel => exact ⟨k + 1, by omega, by go_num, Lib.hid (HB.out.up hb4), bel_trans hbw hb4⟩)))
      case true =>
      have hec0 := (exB_iff.1 HYE.out).2.2
      obtain ⟨cn, hcn⟩ : ∃ cn : Nat, ec = (cn : Int) := ⟨ec.toNat, by omega⟩
      subst hcn
      have HY5 := Lib.hid (exB_push HYE.out HYD.out)
      have HFR := Lib.hid (fresh_again D.e.s a.l)
      obtain ⟨n5, hn5⟩ : ∃ n, (D.e.s ++ freshL D.e.s a.l).length = n := ⟨_, rfl⟩
      obtain ⟨n6, hn6⟩ : ∃ n, (freshL D.e.s a.l).length = n := ⟨_, rfl⟩
      have HNE : Hid (n5 = sn + n6) := Lib.hid (by rw [← hn5, List.length_append, hn6, HS.out.1])
      have hn6l : n6 ≤ 6000 := by rw [← hn6]; have h7 := fresh_len a.l D.e.s; have h8 := HI.out.1; omega
      have hn5l : n5 ≤ 6300 := by rw [HNE.out]; omega
      obtain ⟨⟨⟨FP, FQ⟩, N⟩, hst⟩ : ∃ r, stepR a.h ((D.e.s ++ freshL D.e.s a.l).drop cn) D.e.p D.e.q = r := ⟨_, rfl⟩
      obtain ⟨hY6, hst2, hNl⟩ := exB_step HY5.out hst
      have HY6 := Lib.hid hY6
      have HST := Lib.hid hst
      have HST2 := Lib.hid hst2
      obtain ⟨n7, hn7⟩ : ∃ n, FP.length = n := ⟨_, rfl⟩
      obtain ⟨n8, hn8⟩ : ∃ n, FQ.length = n := ⟨_, rfl⟩
      have hn7l : n7 ≤ 4096 := by rw [← hn7]; exact (exB_iff.1 hY6).1.1.1
      have hn8l : n8 ≤ 4096 := by rw [← hn8]; exact (exB_iff.1 hY6).1.2.1
      have hNb : cn + N ≤ 6300 := by have := hNl; rw [hn5] at this; omega
      have HN5 := Lib.hid hn5
      have HN6 := Lib.hid hn6
      have HN7 := Lib.hid hn7
      have HN8 := Lib.hid hn8
      clear hec0 hst hst2 hY6 hNl hn5 hn6 hn7 hn8
      go_upto_region 7 with (first
          | (go_at_call 35; refine (ref0_Digests A5 m5 d5 a.l _ HI.out).mono ?_; rintro e w3 ⟨rfl, rfl⟩; rw [HYD.out])
          | (go_at_call 36; refine (ref13_Held C5 k5 e5 a.h _ _ (HH.out.up (by (repeat (first | (with_reducible exact Below.refl _ _) | (with_reducible assumption) | (with_reducible apply bel_alloc) | (with_reducible apply bel_drew) | (with_reducible apply bel_drewN) | (with_reducible refine bel_trans ?_ (by with_reducible assumption)) | (with_reducible refine bel_trans ?_ (HF.out _)) | (with_reducible refine bel_set ?_ (by simp) _) | (with_reducible refine bel_set ?_ (by simp; omega) _) | (with_reducible refine bel_set ?_ (by omega) _))))) HYH.out).mono ?_; rintro e wj ⟨rfl, hbkwj⟩))
      have hbwj := bel_trans hbw hbkwj
      have HBwj := Lib.hid (HB.out.up hbkwj)
      have hgwj := HBwj.out.1
      have habwj : ab < wj.heap.size := Nat.lt_of_lt_of_le hab hbkwj.size
      have C1wj := Lib.hid ((hbkwj.cell (p := ⟨ab, aoff + k * 3 + 1, none⟩) hab).trans hck1)
      have C2wj := Lib.hid ((hbkwj.cell (p := ⟨ab, aoff + k * 3 + 2, none⟩) hab).trans hck2)
      clear b_0 b_1 b_2 b_3 b_4 c1 c2
      have b_0 := (HBwj.out).2 0 _ rfl; have b_1 := (HBwj.out).2 1 _ rfl; have b_2 := (HBwj.out).2 2 _ rfl; have b_3 := (HBwj.out).2 3 _ rfl; have b_4 := (HBwj.out).2 4 _ rfl
      have c1 := C1wj.out
      have c2 := C2wj.out
      have hcells : ∀ Y, Below wj.heap.size wj Y → Y.cell? ⟨w.heap.size, 0, none⟩ = some (.slice pA pn pc) ∧ Y.cell? ⟨w.heap.size, 1, none⟩ = some (.slice qA qn qc) ∧ Y.cell? ⟨w.heap.size, 2, none⟩ = some (.slice sA sn sc) ∧ Y.cell? ⟨w.heap.size, 3, none⟩ = some (.int .i64 cn) ∧ Y.cell? ⟨w.heap.size, 4, none⟩ = some (.slice (some ⟨ab, aoff, none⟩) ln lc) ∧ Y.cell? ⟨ab, aoff + k * 3 + 1, none⟩ = some (.slice A5 m5 d5) := fun Y hY => by
        have q := (HBwj.out.up hY).2
        exact ⟨q 0 _ rfl, q 1 _ rfl, q 2 _ rfl, q 3 _ rfl, (HBwj.out.up hY).2 4 _ rfl, (hY.cell (p := ⟨ab, aoff + k * 3 + 1, none⟩) habwj).trans C1wj.out⟩
      have HCELLS := Lib.hid hcells
      clear hcells
      go_upto_region 7 with fail
      go_cut [4, 5, 6] from 53 to 65 (fun s4 s5 s6 wx => ∃ (g : Nat) (Bp Ba Bs Bf : Option Addr) (dp da ds df : Nat), s4 = .pointer (some ⟨g, 0, none⟩) ∧ s5 = .slice Bf n6 df ∧ s6 = .int .i64 0 ∧ Blk wx g 68 [.slice Bp pn dp, .slice Ba qn da, .slice Bs n5 ds, .int .i64 cn] ∧ Hid (PairsR wx Bp pn D.e.p ∧ AcctsR wx Ba qn D.e.q ∧ IntsR wx Bs n5 (D.e.s ++ freshL D.e.s a.l)) ∧ Below wj.heap.size wj wx)
      case first =>
        clear b_0 b_1 b_2 b_3 b_4 c1 c2
        go_region_held3 (fun Y => Y.cell? ⟨w.heap.size, 0, none⟩ = some (.slice pA pn pc) ∧ Y.cell? ⟨w.heap.size, 1, none⟩ = some (.slice qA qn qc) ∧ Y.cell? ⟨w.heap.size, 2, none⟩ = some (.slice sA sn sc) ∧ Y.cell? ⟨w.heap.size, 3, none⟩ = some (.int .i64 cn) ∧ Y.cell? ⟨w.heap.size, 4, none⟩ = some (.slice (some ⟨ab, aoff, none⟩) ln lc) ∧ Y.cell? ⟨ab, aoff + k * 3 + 1, none⟩ = some (.slice A5 m5 d5))
          (exact HCELLS.out _ (by (repeat (first | (with_reducible exact Below.refl _ _) | (with_reducible assumption) | (with_reducible apply bel_alloc) | (with_reducible apply bel_drew) | (with_reducible apply bel_drewN) | (with_reducible refine bel_trans ?_ (by with_reducible assumption)) | (with_reducible refine bel_trans ?_ (HF.out _)) | ((with_reducible refine bel_set3 ?_ ?_); rotate_left; omega)))))
          ((go_at_call 37; refine (exec_Push_ok pA qA sA A5 pn pc qn qc sn sc m5 d5 D.e.p D.e.q D.e.s a.l cn _ (HP.out.up (bel_trans hbwj (by (repeat (first | (with_reducible exact Below.refl _ _) | (with_reducible assumption) | (with_reducible apply bel_alloc) | (with_reducible apply bel_drew) | (with_reducible apply bel_drewN) | (with_reducible refine bel_trans ?_ (by with_reducible assumption)) | (with_reducible refine bel_trans ?_ (HF.out _)) | (with_reducible refine bel_set ?_ (by simp) _) | (with_reducible refine bel_set ?_ (by simp; omega) _) | (with_reducible refine bel_set ?_ (by omega) _)))))) (HQ.out.up (bel_trans hbwj (by (repeat (first | (with_reducible exact Below.refl _ _) | (with_reducible assumption) | (with_reducible apply bel_alloc) | (with_reducible apply bel_drew) | (with_reducible apply bel_drewN) | (with_reducible refine bel_trans ?_ (by with_reducible assumption)) | (with_reducible refine bel_trans ?_ (HF.out _)) | (with_reducible refine bel_set ?_ (by simp) _) | (with_reducible refine bel_set ?_ (by simp; omega) _) | (with_reducible refine bel_set ?_ (by omega) _)))))) (HS.out.up (bel_trans hbwj (by (repeat (first | (with_reducible exact Below.refl _ _) | (with_reducible assumption) | (with_reducible apply bel_alloc) | (with_reducible apply bel_drew) | (with_reducible apply bel_drewN) | (with_reducible refine bel_trans ?_ (by with_reducible assumption)) | (with_reducible refine bel_trans ?_ (HF.out _)) | (with_reducible refine bel_set ?_ (by simp) _) | (with_reducible refine bel_set ?_ (by simp; omega) _) | (with_reducible refine bel_set ?_ (by omega) _)))))) (HI.out.up (bel_trans hbkwj (by (repeat (first | (with_reducible exact Below.refl _ _) | (with_reducible assumption) | (with_reducible apply bel_alloc) | (with_reducible apply bel_drew) | (with_reducible apply bel_drewN) | (with_reducible refine bel_trans ?_ (by with_reducible assumption)) | (with_reducible refine bel_trans ?_ (HF.out _)) | (with_reducible refine bel_set ?_ (by simp) _) | (with_reducible refine bel_set ?_ (by simp; omega) _) | (with_reducible refine bel_set ?_ (by omega) _)))))) HYE.out HYD.out (by omega) (by omega)).mono ?_; rintro e w7 ⟨vp, va, vs, vf, rfl, hPO, hb7⟩; obtain ⟨Bp, dp, rfl, -⟩ := nmP hPO.e.p HP.out.1 (by omega); obtain ⟨Ba, da, rfl, -⟩ := nmA hPO.e.a HQ.out.1 (by omega); obtain ⟨Bs, ds, rfl, -⟩ := nmI hPO.e.s HN5.out (by omega); obtain ⟨Bf, df, rfl, -⟩ := nmI hPO.f HN6.out (by omega); have HPO := Lib.hid hPO; clear hPO; (try have hcA := fun o => (bcell hb7).1 wj.heap.size o (by first | (simp; done) | (simp; omega) | omega)); (try have hfA := fun o => (bcell hb7).2 wj.heap.size o (by first | (simp; done) | (simp; omega) | omega)); have hzA := hb7.size; (try simp at hzA)))
        · go_wp2_with fail
          go_meet
          have hP8 := HPO.out.up (w' := w7.alloc (.cells #[.slice Bp pn dp, .slice Ba qn da, .slice Bs n5 ds, .int .i64 cn] 68)) (by (repeat (first | (with_reducible exact Below.refl _ _) | (with_reducible assumption) | (with_reducible apply bel_alloc) | (with_reducible apply bel_drew) | (with_reducible apply bel_drewN) | (with_reducible refine bel_trans ?_ (by with_reducible assumption)) | (with_reducible refine bel_trans ?_ (HF.out _)) | (with_reducible refine bel_set ?_ (by simp) _) | (with_reducible refine bel_set ?_ (by simp; omega) _) | (with_reducible refine bel_set ?_ (by omega) _))))
          refine ⟨_, Bp, Ba, Bs, Bf, dp, da, ds, df, rfl, rfl, rfl, Blk.new w7 68 [.slice Bp pn dp, .slice Ba qn da, .slice Bs n5 ds, .int .i64 cn], Lib.hid ⟨?_, ?_, ?_⟩, by (repeat (first | (with_reducible exact Below.refl _ _) | (with_reducible assumption) | (with_reducible apply bel_alloc) | (with_reducible apply bel_drew) | (with_reducible apply bel_drewN) | (with_reducible refine bel_trans ?_ (by with_reducible assumption)) | (with_reducible refine bel_trans ?_ (HF.out _)) | ((with_reducible refine bel_set3 ?_ ?_); rotate_left; omega)))⟩
          · obtain ⟨A', c', e', h'⟩ := nmP hP8.e.p HP.out.1 (by omega); injection e' with e1 e2 e3; subst e1; exact h'
          · obtain ⟨A', c', e', h'⟩ := nmA hP8.e.a HQ.out.1 (by omega); injection e' with e1 e2 e3; subst e1; exact h'
          · obtain ⟨A', c', e', h'⟩ := nmI hP8.e.s HN5.out (by omega); injection e' with e1 e2 e3; subst e1; exact h'
        · go_wp2_with fail
          go_meet
          have hk : Blk w7 wj.heap.size 68 [.slice none 0 0, .slice none 0 0, .slice none 0 0, .int .i64 0] := Blk.up (Blk.new wj.drew 68 [.slice none 0 0, .slice none 0 0, .slice none 0 0, .int .i64 0]) hb7
          have hP8 := (((HPO.out.set (b := wj.heap.size) (o := 0) (by simp) (.slice Bp pn dp)).set (b := wj.heap.size) (o := 1) (by simp) (.slice Ba qn da)).set (b := wj.heap.size) (o := 2) (by simp) (.slice Bs n5 ds)).set (b := wj.heap.size) (o := 3) (by simp) (.int .i64 cn)
          refine ⟨_, Bp, Ba, Bs, Bf, dp, da, ds, df, rfl, rfl, rfl, set4 hk _ _ _ _, Lib.hid ⟨?_, ?_, ?_⟩, by (repeat (first | (with_reducible exact Below.refl _ _) | (with_reducible assumption) | (with_reducible apply bel_alloc) | (with_reducible apply bel_drew) | (with_reducible apply bel_drewN) | (with_reducible refine bel_trans ?_ (by with_reducible assumption)) | (with_reducible refine bel_trans ?_ (HF.out _)) | ((with_reducible refine bel_set3 ?_ ?_); rotate_left; omega)))⟩
          · obtain ⟨A', c', e', h'⟩ := nmP hP8.e.p HP.out.1 (by omega); injection e' with e1 e2 e3; subst e1; exact h'
          · obtain ⟨A', c', e', h'⟩ := nmA hP8.e.a HQ.out.1 (by omega); injection e' with e1 e2 e3; subst e1; exact h'
          · obtain ⟨A', c', e', h'⟩ := nmI hP8.e.s HN5.out (by omega); injection e' with e1 e2 e3; subst e1; exact h'
      case rest =>
      clear HCELLS b_0 b_1 b_2 b_3 b_4 c1 c2
      obtain ⟨g4, Ap, Aa, As, Af, cp, ca, cs, cf, rfl, rfl, rfl, hG4, HR4, hbu1⟩ := hcut
      have hl4 := hG4.lt
      obtain ⟨u1, hu1⟩ : ∃ x, x = wc := ⟨_, rfl⟩
      subst hu1
      have hbku1 := bel_trans hbkwj hbu1
      have HBu1 := Lib.hid (HB.out.up hbku1)
      have hgu1 := HBu1.out.1
      have habu1 : ab < u1.heap.size := Nat.lt_of_lt_of_le hab hbku1.size
      have C1u1 := Lib.hid ((hbku1.cell (p := ⟨ab, aoff + k * 3 + 1, none⟩) hab).trans hck1)
      have C2u1 := Lib.hid ((hbku1.cell (p := ⟨ab, aoff + k * 3 + 2, none⟩) hab).trans hck2)
      have b_0 := (HBu1.out).2 0 _ rfl; have b_1 := (HBu1.out).2 1 _ rfl; have b_2 := (HBu1.out).2 2 _ rfl; have b_3 := (HBu1.out).2 3 _ rfl; have b_4 := (HBu1.out).2 4 _ rfl
      have c1 := C1u1.out
      have c2 := C2u1.out
      have HG4 := Lib.hid hG4
      clear hG4
      have hcells : ∀ Y, Below u1.heap.size u1 Y → Y.cell? ⟨g4, 0, none⟩ = some (.slice Ap pn cp) ∧ Y.cell? ⟨g4, 1, none⟩ = some (.slice Aa qn ca) ∧ Y.cell? ⟨g4, 2, none⟩ = some (.slice As n5 cs) ∧ Y.cell? ⟨g4, 3, none⟩ = some (.int .i64 cn) ∧ Y.cell? ⟨w.heap.size, 4, none⟩ = some (.slice (some ⟨ab, aoff, none⟩) ln lc) ∧ Y.cell? ⟨ab, aoff + k * 3 + 1, none⟩ = some (.slice A5 m5 d5) := fun Y hY => by
        have q := (HG4.out.box.up hY).2
        exact ⟨q 0 _ rfl, q 1 _ rfl, q 2 _ rfl, q 3 _ rfl, (HBu1.out.up hY).2 4 _ rfl, (hY.cell (p := ⟨ab, aoff + k * 3 + 1, none⟩) habu1).trans C1u1.out⟩
      have HCELLS := Lib.hid hcells
      clear hcells
      go_upto_region 8 with fail
      go_cut [7, 8, 9] from 66 to 77 (fun s7 s8 s9 wx => ∃ (g : Nat) (Bp Ba Bs Bf : Option Addr) (dp da ds df : Nat), s7 = .pointer (some ⟨g, 0, none⟩) ∧ s8 = .slice Bf 0 df ∧ s9 = .int .i64 0 ∧ Blk wx g 68 [.slice Bp pn dp, .slice Ba qn da, .slice Bs n5 ds, .int .i64 cn] ∧ Hid (PairsR wx Bp pn D.e.p ∧ AcctsR wx Ba qn D.e.q ∧ IntsR wx Bs n5 (D.e.s ++ freshL D.e.s a.l)) ∧ Below u1.heap.size u1 wx)
      case first =>
        clear b_0 b_1 b_2 b_3 b_4 c1 c2
        go_region_held3 (fun Y => Y.cell? ⟨g4, 0, none⟩ = some (.slice Ap pn cp) ∧ Y.cell? ⟨g4, 1, none⟩ = some (.slice Aa qn ca) ∧ Y.cell? ⟨g4, 2, none⟩ = some (.slice As n5 cs) ∧ Y.cell? ⟨g4, 3, none⟩ = some (.int .i64 cn) ∧ Y.cell? ⟨w.heap.size, 4, none⟩ = some (.slice (some ⟨ab, aoff, none⟩) ln lc) ∧ Y.cell? ⟨ab, aoff + k * 3 + 1, none⟩ = some (.slice A5 m5 d5))
          (exact HCELLS.out _ (by (repeat (first | (with_reducible exact Below.refl _ _) | (with_reducible assumption) | (with_reducible apply bel_alloc) | (with_reducible apply bel_drew) | (with_reducible apply bel_drewN) | (with_reducible refine bel_trans ?_ (by with_reducible assumption)) | (with_reducible refine bel_trans ?_ (HF.out _)) | ((with_reducible refine bel_set3 ?_ ?_); rotate_left; omega)))))
          ((go_at_call 37; refine (exec_Push_ok Ap Aa As A5 pn cp qn ca n5 cs m5 d5 D.e.p D.e.q (D.e.s ++ freshL D.e.s a.l) a.l cn _ (HR4.out.1.up (by (repeat (first | (with_reducible exact Below.refl _ _) | (with_reducible assumption) | (with_reducible apply bel_alloc) | (with_reducible apply bel_drew) | (with_reducible apply bel_drewN) | (with_reducible refine bel_trans ?_ (by with_reducible assumption)) | (with_reducible refine bel_trans ?_ (HF.out _)) | (with_reducible refine bel_set ?_ (by simp) _) | (with_reducible refine bel_set ?_ (by simp; omega) _) | (with_reducible refine bel_set ?_ (by omega) _))))) (HR4.out.2.1.up (by (repeat (first | (with_reducible exact Below.refl _ _) | (with_reducible assumption) | (with_reducible apply bel_alloc) | (with_reducible apply bel_drew) | (with_reducible apply bel_drewN) | (with_reducible refine bel_trans ?_ (by with_reducible assumption)) | (with_reducible refine bel_trans ?_ (HF.out _)) | (with_reducible refine bel_set ?_ (by simp) _) | (with_reducible refine bel_set ?_ (by simp; omega) _) | (with_reducible refine bel_set ?_ (by omega) _))))) (HR4.out.2.2.up (by (repeat (first | (with_reducible exact Below.refl _ _) | (with_reducible assumption) | (with_reducible apply bel_alloc) | (with_reducible apply bel_drew) | (with_reducible apply bel_drewN) | (with_reducible refine bel_trans ?_ (by with_reducible assumption)) | (with_reducible refine bel_trans ?_ (HF.out _)) | (with_reducible refine bel_set ?_ (by simp) _) | (with_reducible refine bel_set ?_ (by simp; omega) _) | (with_reducible refine bel_set ?_ (by omega) _))))) (HI.out.up (bel_trans hbku1 (by (repeat (first | (with_reducible exact Below.refl _ _) | (with_reducible assumption) | (with_reducible apply bel_alloc) | (with_reducible apply bel_drew) | (with_reducible apply bel_drewN) | (with_reducible refine bel_trans ?_ (by with_reducible assumption)) | (with_reducible refine bel_trans ?_ (HF.out _)) | (with_reducible refine bel_set ?_ (by simp) _) | (with_reducible refine bel_set ?_ (by simp; omega) _) | (with_reducible refine bel_set ?_ (by omega) _)))))) HY5.out HYD.out (by omega) (by omega)).mono ?_; rintro e w7 ⟨vp, va, vs, vf, rfl, hPO, hb7⟩; rw [HFR.out, List.append_nil] at hPO; obtain ⟨Bp, dp, rfl, -⟩ := nmP hPO.e.p HP.out.1 (by omega); obtain ⟨Ba, da, rfl, -⟩ := nmA hPO.e.a HQ.out.1 (by omega); obtain ⟨Bs, ds, rfl, -⟩ := nmI hPO.e.s HN5.out (by omega); obtain ⟨Bf, df, rfl, -⟩ := nmI (n := 0) hPO.f rfl (by omega); have HPO := Lib.hid hPO; clear hPO; (try have hcA := fun o => (bcell hb7).1 u1.heap.size o (by first | (simp; done) | (simp; omega) | omega)); (try have hfA := fun o => (bcell hb7).2 u1.heap.size o (by first | (simp; done) | (simp; omega) | omega)); have hzA := hb7.size; (try simp at hzA)))
        · go_wp2_with fail
          go_meet
          have hP8 := HPO.out.up (w' := w7.alloc (.cells #[.slice Bp pn dp, .slice Ba qn da, .slice Bs n5 ds, .int .i64 cn] 68)) (by (repeat (first | (with_reducible exact Below.refl _ _) | (with_reducible assumption) | (with_reducible apply bel_alloc) | (with_reducible apply bel_drew) | (with_reducible apply bel_drewN) | (with_reducible refine bel_trans ?_ (by with_reducible assumption)) | (with_reducible refine bel_trans ?_ (HF.out _)) | (with_reducible refine bel_set ?_ (by simp) _) | (with_reducible refine bel_set ?_ (by simp; omega) _) | (with_reducible refine bel_set ?_ (by omega) _))))
          refine ⟨_, Bp, Ba, Bs, Bf, dp, da, ds, df, rfl, rfl, rfl, Blk.new w7 68 [.slice Bp pn dp, .slice Ba qn da, .slice Bs n5 ds, .int .i64 cn], Lib.hid ⟨?_, ?_, ?_⟩, by (repeat (first | (with_reducible exact Below.refl _ _) | (with_reducible assumption) | (with_reducible apply bel_alloc) | (with_reducible apply bel_drew) | (with_reducible apply bel_drewN) | (with_reducible refine bel_trans ?_ (by with_reducible assumption)) | (with_reducible refine bel_trans ?_ (HF.out _)) | ((with_reducible refine bel_set3 ?_ ?_); rotate_left; omega)))⟩
          · obtain ⟨A', c', e', h'⟩ := nmP hP8.e.p HP.out.1 (by omega); injection e' with e1 e2 e3; subst e1; exact h'
          · obtain ⟨A', c', e', h'⟩ := nmA hP8.e.a HQ.out.1 (by omega); injection e' with e1 e2 e3; subst e1; exact h'
          · obtain ⟨A', c', e', h'⟩ := nmI hP8.e.s HN5.out (by omega); injection e' with e1 e2 e3; subst e1; exact h'
        · go_wp2_with fail
          go_meet
          have hk : Blk w7 u1.heap.size 68 [.slice none 0 0, .slice none 0 0, .slice none 0 0, .int .i64 0] := Blk.up (Blk.new u1.drew 68 [.slice none 0 0, .slice none 0 0, .slice none 0 0, .int .i64 0]) hb7
          have hP8 := (((HPO.out.set (b := u1.heap.size) (o := 0) (by simp) (.slice Bp pn dp)).set (b := u1.heap.size) (o := 1) (by simp) (.slice Ba qn da)).set (b := u1.heap.size) (o := 2) (by simp) (.slice Bs n5 ds)).set (b := u1.heap.size) (o := 3) (by simp) (.int .i64 cn)
          refine ⟨_, Bp, Ba, Bs, Bf, dp, da, ds, df, rfl, rfl, rfl, set4 hk _ _ _ _, Lib.hid ⟨?_, ?_, ?_⟩, by (repeat (first | (with_reducible exact Below.refl _ _) | (with_reducible assumption) | (with_reducible apply bel_alloc) | (with_reducible apply bel_drew) | (with_reducible apply bel_drewN) | (with_reducible refine bel_trans ?_ (by with_reducible assumption)) | (with_reducible refine bel_trans ?_ (HF.out _)) | ((with_reducible refine bel_set3 ?_ ?_); rotate_left; omega)))⟩
          · obtain ⟨A', c', e', h'⟩ := nmP hP8.e.p HP.out.1 (by omega); injection e' with e1 e2 e3; subst e1; exact h'
          · obtain ⟨A', c', e', h'⟩ := nmA hP8.e.a HQ.out.1 (by omega); injection e' with e1 e2 e3; subst e1; exact h'
          · obtain ⟨A', c', e', h'⟩ := nmI hP8.e.s HN5.out (by omega); injection e' with e1 e2 e3; subst e1; exact h'
      case rest =>
      clear HCELLS b_0 b_1 b_2 b_3 b_4 c1 c2
      obtain ⟨g7, Bp, Ba, Bs, Bf, dp, da, ds, df, rfl, rfl, rfl, hG7, HR7, hbu2⟩ := hcut
      have hl7 := hG7.lt
      obtain ⟨u2, hu2⟩ : ∃ x, x = wc := ⟨_, rfl⟩
      subst hu2
      have hbku2 := bel_trans hbku1 hbu2
      have HBu2 := Lib.hid (HB.out.up hbku2)
      have hgu2 := HBu2.out.1
      have habu2 : ab < u2.heap.size := Nat.lt_of_lt_of_le hab hbku2.size
      have C1u2 := Lib.hid ((hbku2.cell (p := ⟨ab, aoff + k * 3 + 1, none⟩) hab).trans hck1)
      have C2u2 := Lib.hid ((hbku2.cell (p := ⟨ab, aoff + k * 3 + 2, none⟩) hab).trans hck2)
      have b_0 := (HBu2.out).2 0 _ rfl; have b_1 := (HBu2.out).2 1 _ rfl; have b_2 := (HBu2.out).2 2 _ rfl; have b_3 := (HBu2.out).2 3 _ rfl; have b_4 := (HBu2.out).2 4 _ rfl
      have c1 := C1u2.out
      have c2 := C2u2.out
      have HG4b := Lib.hid (HG4.out.up hbu2)
      have HG7 := Lib.hid hG7
      clear hG7
      have hl4b := HG4b.out.lt
      have x_0 := (HG4b.out.box).2 0 _ rfl; have x_1 := (HG4b.out.box).2 1 _ rfl; have x_2 := (HG4b.out.box).2 2 _ rfl; have x_3 := (HG4b.out.box).2 3 _ rfl
      have y_0 := (HG7.out.box).2 0 _ rfl; have y_1 := (HG7.out.box).2 1 _ rfl; have y_2 := (HG7.out.box).2 2 _ rfl; have y_3 := (HG7.out.box).2 3 _ rfl
      have hne : ((n5 : Int) != (sn : Int) + (n6 : Int)) = false := by have := HNE.out; simp; omega
      go_wp2_with (first
        | (go_at_call 38; refine (law23_num _ _).mono ?_; rintro e w' ⟨rfl, rfl⟩)
        | (go_at_call 39; refine (ref0_EqExec Ap Aa As Bp Ba Bs pn cp qn ca n5 cs pn dp qn da n5 ds D.e.p D.e.q (D.e.s ++ freshL D.e.s a.l) cn _ (HR4.out.1.up hbu2) (HR4.out.2.1.up hbu2) (HR4.out.2.2.up hbu2) HR7.out.1 HR7.out.2.1 HR7.out.2.2).mono ?_; rintro e u3 ⟨rfl, hbu3⟩; have hbku3 := bel_trans hbku2 hbu3; have HBu3 := Lib.hid (HB.out.up hbku3); have hgu3 := HBu3.out.1; have habu3 : ab < u3.heap.size := Nat.lt_of_lt_of_le hab hbku3.size; have C2u3 := Lib.hid ((hbku3.cell (p := ⟨ab, aoff + k * 3 + 2, none⟩) hab).trans hck2); have C1u3 := Lib.hid ((hbku3.cell (p := ⟨ab, aoff + k * 3 + 1, none⟩) hab).trans hck1); have HG4c := Lib.hid (HG4b.out.up hbu3); have hl4c := HG4c.out.lt; clear b_0 b_1 b_2 b_3 b_4 c1 c2 x_0 x_1 x_2 x_3 y_0 y_1 y_2 y_3; have x_0 := (HG4c.out.box).2 0 _ rfl; have x_1 := (HG4c.out.box).2 1 _ rfl; have x_2 := (HG4c.out.box).2 2 _ rfl; have x_3 := (HG4c.out.box).2 3 _ rfl; have b_0 := (HBu3.out).2 0 _ rfl; have b_1 := (HBu3.out).2 1 _ rfl; have b_2 := (HBu3.out).2 2 _ rfl; have b_3 := (HBu3.out).2 3 _ rfl; have b_4 := (HBu3.out).2 4 _ rfl; have c1 := C1u3.out; have c2 := C2u3.out))
      have HR4c : Hid (PairsR u3 Ap pn D.e.p ∧ AcctsR u3 Aa qn D.e.q ∧ IntsR u3 As n5 (D.e.s ++ freshL D.e.s a.l)) := Lib.hid ⟨HR4.out.1.up (bel_trans hbu2 hbu3), HR4.out.2.1.up (bel_trans hbu2 hbu3), HR4.out.2.2.up (bel_trans hbu2 hbu3)⟩
      clear x_0 x_1 x_2 x_3
      have hcells : ∀ Y, Below u3.heap.size u3 Y → Y.cell? ⟨g4, 0, none⟩ = some (.slice Ap pn cp) ∧ Y.cell? ⟨g4, 1, none⟩ = some (.slice Aa qn ca) ∧ Y.cell? ⟨g4, 2, none⟩ = some (.slice As n5 cs) ∧ Y.cell? ⟨g4, 3, none⟩ = some (.int .i64 cn) ∧ Y.cell? ⟨w.heap.size, 4, none⟩ = some (.slice (some ⟨ab, aoff, none⟩) ln lc) ∧ Y.cell? ⟨ab, aoff + k * 3 + 2, none⟩ = some (.slice C5 k5 e5) := fun Y hY => by
        have q := (HG4c.out.box.up hY).2
        exact ⟨q 0 _ rfl, q 1 _ rfl, q 2 _ rfl, q 3 _ rfl, (HBu3.out.up hY).2 4 _ rfl, (hY.cell (p := ⟨ab, aoff + k * 3 + 2, none⟩) habu3).trans C2u3.out⟩
      have HCELLS := Lib.hid hcells
      clear hcells
      go_upto_region 11 with fail
      go_cut [10, 11, 12] from 110 to 121 (fun s10 s11 s12 wx => ∃ (g : Nat) (Bp Ba Bs : Option Addr) (dp da ds : Nat), s10 = .pointer (some ⟨g, 0, none⟩) ∧ s11 = .int .i64 N ∧ s12 = .int .i64 0 ∧ Blk wx g 68 [.slice Bp n7 dp, .slice Ba n8 da, .slice Bs n5 ds, .int .i64 ((cn : Int) + (N : Int))] ∧ Hid (PairsR wx Bp n7 FP ∧ AcctsR wx Ba n8 FQ ∧ IntsR wx Bs n5 (D.e.s ++ freshL D.e.s a.l)) ∧ Below u3.heap.size u3 wx)
      case first =>
        clear b_0 b_1 b_2 b_3 b_4 c1 c2
        go_region_held3 (fun Y => Y.cell? ⟨g4, 0, none⟩ = some (.slice Ap pn cp) ∧ Y.cell? ⟨g4, 1, none⟩ = some (.slice Aa qn ca) ∧ Y.cell? ⟨g4, 2, none⟩ = some (.slice As n5 cs) ∧ Y.cell? ⟨g4, 3, none⟩ = some (.int .i64 cn) ∧ Y.cell? ⟨w.heap.size, 4, none⟩ = some (.slice (some ⟨ab, aoff, none⟩) ln lc) ∧ Y.cell? ⟨ab, aoff + k * 3 + 2, none⟩ = some (.slice C5 k5 e5))
          (exact HCELLS.out _ (by (repeat (first | (with_reducible exact Below.refl _ _) | (with_reducible assumption) | (with_reducible apply bel_alloc) | (with_reducible apply bel_drew) | (with_reducible apply bel_drewN) | (with_reducible refine bel_trans ?_ (by with_reducible assumption)) | (with_reducible refine bel_trans ?_ (HF.out _)) | ((with_reducible refine bel_set3 ?_ ?_); rotate_left; omega)))))
          ((go_at_call 40; refine (exec_Step_ok Ap Aa As C5 pn cp qn ca n5 cs k5 e5 D.e.p D.e.q (D.e.s ++ freshL D.e.s a.l) a.h cn FP FQ N _ (HR4c.out.1.up (by (repeat (first | (with_reducible exact Below.refl _ _) | (with_reducible assumption) | (with_reducible apply bel_alloc) | (with_reducible apply bel_drew) | (with_reducible apply bel_drewN) | (with_reducible refine bel_trans ?_ (by with_reducible assumption)) | (with_reducible refine bel_trans ?_ (HF.out _)) | (with_reducible refine bel_set ?_ (by simp) _) | (with_reducible refine bel_set ?_ (by simp; omega) _) | (with_reducible refine bel_set ?_ (by omega) _))))) (HR4c.out.2.1.up (by (repeat (first | (with_reducible exact Below.refl _ _) | (with_reducible assumption) | (with_reducible apply bel_alloc) | (with_reducible apply bel_drew) | (with_reducible apply bel_drewN) | (with_reducible refine bel_trans ?_ (by with_reducible assumption)) | (with_reducible refine bel_trans ?_ (HF.out _)) | (with_reducible refine bel_set ?_ (by simp) _) | (with_reducible refine bel_set ?_ (by simp; omega) _) | (with_reducible refine bel_set ?_ (by omega) _))))) (HR4c.out.2.2.up (by (repeat (first | (with_reducible exact Below.refl _ _) | (with_reducible assumption) | (with_reducible apply bel_alloc) | (with_reducible apply bel_drew) | (with_reducible apply bel_drewN) | (with_reducible refine bel_trans ?_ (by with_reducible assumption)) | (with_reducible refine bel_trans ?_ (HF.out _)) | (with_reducible refine bel_set ?_ (by simp) _) | (with_reducible refine bel_set ?_ (by simp; omega) _) | (with_reducible refine bel_set ?_ (by omega) _))))) (HH.out.up (bel_trans hbku3 (by (repeat (first | (with_reducible exact Below.refl _ _) | (with_reducible assumption) | (with_reducible apply bel_alloc) | (with_reducible apply bel_drew) | (with_reducible apply bel_drewN) | (with_reducible refine bel_trans ?_ (by with_reducible assumption)) | (with_reducible refine bel_trans ?_ (HF.out _)) | (with_reducible refine bel_set ?_ (by simp) _) | (with_reducible refine bel_set ?_ (by simp; omega) _) | (with_reducible refine bel_set ?_ (by omega) _)))))) HY5.out HYH.out (by omega) (by omega) HST.out).mono ?_; rintro e w7 ⟨vp, va, vs, rfl, hPO, hb7⟩; obtain ⟨Bp, dp, rfl, -⟩ := nmP hPO.p HN7.out (by omega); obtain ⟨Ba, da, rfl, -⟩ := nmA hPO.a HN8.out (by omega); obtain ⟨Bs, ds, rfl, -⟩ := nmI hPO.s HN5.out (by omega); have HPO := Lib.hid hPO; clear hPO; (try have hcA := fun o => (bcell hb7).1 u3.heap.size o (by first | (simp; done) | (simp; omega) | omega)); (try have hfA := fun o => (bcell hb7).2 u3.heap.size o (by first | (simp; done) | (simp; omega) | omega)); have hzA := hb7.size; (try simp at hzA)))
        · go_wp2_with fail
          go_meet
          have hP8 := HPO.out.up (w' := w7.alloc (.cells #[.slice Bp n7 dp, .slice Ba n8 da, .slice Bs n5 ds, .int .i64 ((cn : Int) + (N : Int))] 68)) (by (repeat (first | (with_reducible exact Below.refl _ _) | (with_reducible assumption) | (with_reducible apply bel_alloc) | (with_reducible apply bel_drew) | (with_reducible apply bel_drewN) | (with_reducible refine bel_trans ?_ (by with_reducible assumption)) | (with_reducible refine bel_trans ?_ (HF.out _)) | (with_reducible refine bel_set ?_ (by simp) _) | (with_reducible refine bel_set ?_ (by simp; omega) _) | (with_reducible refine bel_set ?_ (by omega) _))))
          refine ⟨_, Bp, Ba, Bs, dp, da, ds, rfl, rfl, rfl, Blk.new w7 68 [.slice Bp n7 dp, .slice Ba n8 da, .slice Bs n5 ds, .int .i64 ((cn : Int) + (N : Int))], Lib.hid ⟨?_, ?_, ?_⟩, by (repeat (first | (with_reducible exact Below.refl _ _) | (with_reducible assumption) | (with_reducible apply bel_alloc) | (with_reducible apply bel_drew) | (with_reducible apply bel_drewN) | (with_reducible refine bel_trans ?_ (by with_reducible assumption)) | (with_reducible refine bel_trans ?_ (HF.out _)) | ((with_reducible refine bel_set3 ?_ ?_); rotate_left; omega)))⟩
          · obtain ⟨A', c', e', h'⟩ := nmP hP8.p HN7.out (by omega); injection e' with e1 e2 e3; subst e1; exact h'
          · obtain ⟨A', c', e', h'⟩ := nmA hP8.a HN8.out (by omega); injection e' with e1 e2 e3; subst e1; exact h'
          · obtain ⟨A', c', e', h'⟩ := nmI hP8.s HN5.out (by omega); injection e' with e1 e2 e3; subst e1; exact h'
        · go_wp2_with fail
          go_meet
          have hk : Blk w7 u3.heap.size 68 [.slice none 0 0, .slice none 0 0, .slice none 0 0, .int .i64 0] := Blk.up (Blk.new u3.drew 68 [.slice none 0 0, .slice none 0 0, .slice none 0 0, .int .i64 0]) hb7
          have hP8 := (((HPO.out.set (b := u3.heap.size) (o := 0) (by simp) (.slice Bp n7 dp)).set (b := u3.heap.size) (o := 1) (by simp) (.slice Ba n8 da)).set (b := u3.heap.size) (o := 2) (by simp) (.slice Bs n5 ds)).set (b := u3.heap.size) (o := 3) (by simp) (.int .i64 ((cn : Int) + (N : Int)))
          refine ⟨_, Bp, Ba, Bs, dp, da, ds, rfl, rfl, rfl, set4 hk _ _ _ _, Lib.hid ⟨?_, ?_, ?_⟩, by (repeat (first | (with_reducible exact Below.refl _ _) | (with_reducible assumption) | (with_reducible apply bel_alloc) | (with_reducible apply bel_drew) | (with_reducible apply bel_drewN) | (with_reducible refine bel_trans ?_ (by with_reducible assumption)) | (with_reducible refine bel_trans ?_ (HF.out _)) | ((with_reducible refine bel_set3 ?_ ?_); rotate_left; omega)))⟩
          · obtain ⟨A', c', e', h'⟩ := nmP hP8.p HN7.out (by omega); injection e' with e1 e2 e3; subst e1; exact h'
          · obtain ⟨A', c', e', h'⟩ := nmA hP8.a HN8.out (by omega); injection e' with e1 e2 e3; subst e1; exact h'
          · obtain ⟨A', c', e', h'⟩ := nmI hP8.s HN5.out (by omega); injection e' with e1 e2 e3; subst e1; exact h'
      case rest =>
      clear HCELLS b_0 b_1 b_2 b_3 b_4 c1 c2
      obtain ⟨g10, Cp, Ca, Cs, ep, ea, es, rfl, rfl, rfl, hG10, HR10, hbu4⟩ := hcut
      have hl10 := hG10.lt
      obtain ⟨u4, hu4⟩ : ∃ x, x = wc := ⟨_, rfl⟩
      subst hu4
      have hbku4 := bel_trans hbku3 hbu4
      have HBu4 := Lib.hid (HB.out.up hbku4)
      have hgu4 := HBu4.out.1
      have habu4 : ab < u4.heap.size := Nat.lt_of_lt_of_le hab hbku4.size
      have C1u4 := Lib.hid ((hbku4.cell (p := ⟨ab, aoff + k * 3 + 1, none⟩) hab).trans hck1)
      have C2u4 := Lib.hid ((hbku4.cell (p := ⟨ab, aoff + k * 3 + 2, none⟩) hab).trans hck2)
      have b_0 := (HBu4.out).2 0 _ rfl; have b_1 := (HBu4.out).2 1 _ rfl; have b_2 := (HBu4.out).2 2 _ rfl; have b_3 := (HBu4.out).2 3 _ rfl; have b_4 := (HBu4.out).2 4 _ rfl
      have c1 := C1u4.out
      have c2 := C2u4.out
      have HG4d := Lib.hid (HG4c.out.up hbu4)
      have HG10 := Lib.hid hG10
      clear hG10
      have hcells : ∀ Y, Below u4.heap.size u4 Y → Y.cell? ⟨g10, 0, none⟩ = some (.slice Cp n7 ep) ∧ Y.cell? ⟨g10, 1, none⟩ = some (.slice Ca n8 ea) ∧ Y.cell? ⟨g10, 2, none⟩ = some (.slice Cs n5 es) ∧ Y.cell? ⟨g10, 3, none⟩ = some (.int .i64 ((cn : Int) + (N : Int))) ∧ Y.cell? ⟨w.heap.size, 4, none⟩ = some (.slice (some ⟨ab, aoff, none⟩) ln lc) ∧ Y.cell? ⟨ab, aoff + k * 3 + 2, none⟩ = some (.slice C5 k5 e5) := fun Y hY => by
        have q := (HG10.out.box.up hY).2
        exact ⟨q 0 _ rfl, q 1 _ rfl, q 2 _ rfl, q 3 _ rfl, (HBu4.out.up hY).2 4 _ rfl, (hY.cell (p := ⟨ab, aoff + k * 3 + 2, none⟩) habu4).trans C2u4.out⟩
      have HCELLS := Lib.hid hcells
      clear hcells
      go_upto_region 12 with fail
      go_cut [13, 14, 15] from 122 to 133 (fun s13 s14 s15 wx => ∃ (g : Nat) (Bq Br Bt : Option Addr) (dp da ds : Nat), s13 = .pointer (some ⟨g, 0, none⟩) ∧ s14 = .int .i64 0 ∧ s15 = .int .i64 0 ∧ Blk wx g 68 [.slice Bq n7 dp, .slice Br n8 da, .slice Bt n5 ds, .int .i64 ((cn : Int) + (N : Int))] ∧ Hid (PairsR wx Bq n7 FP ∧ AcctsR wx Br n8 FQ ∧ IntsR wx Bt n5 (D.e.s ++ freshL D.e.s a.l)) ∧ Below u4.heap.size u4 wx)
      case first =>
        clear b_0 b_1 b_2 b_3 b_4 c1 c2
        go_region_held3 (fun Y => Y.cell? ⟨g10, 0, none⟩ = some (.slice Cp n7 ep) ∧ Y.cell? ⟨g10, 1, none⟩ = some (.slice Ca n8 ea) ∧ Y.cell? ⟨g10, 2, none⟩ = some (.slice Cs n5 es) ∧ Y.cell? ⟨g10, 3, none⟩ = some (.int .i64 ((cn : Int) + (N : Int))) ∧ Y.cell? ⟨w.heap.size, 4, none⟩ = some (.slice (some ⟨ab, aoff, none⟩) ln lc) ∧ Y.cell? ⟨ab, aoff + k * 3 + 2, none⟩ = some (.slice C5 k5 e5))
          (exact HCELLS.out _ (by (repeat (first | (with_reducible exact Below.refl _ _) | (with_reducible assumption) | (with_reducible apply bel_alloc) | (with_reducible apply bel_drew) | (with_reducible apply bel_drewN) | (with_reducible refine bel_trans ?_ (by with_reducible assumption)) | (with_reducible refine bel_trans ?_ (HF.out _)) | ((with_reducible refine bel_set3 ?_ ?_); rotate_left; omega)))))
          ((go_at_call 40; refine (exec_Step_idle Cp Ca Cs C5 n7 ep n8 ea n5 es k5 e5 FP FQ (D.e.s ++ freshL D.e.s a.l) a.h (cn + N) ((cn : Int) + (N : Int)) _ (by omega) (HR10.out.1.up (by (repeat (first | (with_reducible exact Below.refl _ _) | (with_reducible assumption) | (with_reducible apply bel_alloc) | (with_reducible apply bel_drew) | (with_reducible apply bel_drewN) | (with_reducible refine bel_trans ?_ (by with_reducible assumption)) | (with_reducible refine bel_trans ?_ (HF.out _)) | (with_reducible refine bel_set ?_ (by simp) _) | (with_reducible refine bel_set ?_ (by simp; omega) _) | (with_reducible refine bel_set ?_ (by omega) _))))) (HR10.out.2.1.up (by (repeat (first | (with_reducible exact Below.refl _ _) | (with_reducible assumption) | (with_reducible apply bel_alloc) | (with_reducible apply bel_drew) | (with_reducible apply bel_drewN) | (with_reducible refine bel_trans ?_ (by with_reducible assumption)) | (with_reducible refine bel_trans ?_ (HF.out _)) | (with_reducible refine bel_set ?_ (by simp) _) | (with_reducible refine bel_set ?_ (by simp; omega) _) | (with_reducible refine bel_set ?_ (by omega) _))))) (HR10.out.2.2.up (by (repeat (first | (with_reducible exact Below.refl _ _) | (with_reducible assumption) | (with_reducible apply bel_alloc) | (with_reducible apply bel_drew) | (with_reducible apply bel_drewN) | (with_reducible refine bel_trans ?_ (by with_reducible assumption)) | (with_reducible refine bel_trans ?_ (HF.out _)) | (with_reducible refine bel_set ?_ (by simp) _) | (with_reducible refine bel_set ?_ (by simp; omega) _) | (with_reducible refine bel_set ?_ (by omega) _))))) (HH.out.up (bel_trans hbku4 (by (repeat (first | (with_reducible exact Below.refl _ _) | (with_reducible assumption) | (with_reducible apply bel_alloc) | (with_reducible apply bel_drew) | (with_reducible apply bel_drewN) | (with_reducible refine bel_trans ?_ (by with_reducible assumption)) | (with_reducible refine bel_trans ?_ (HF.out _)) | (with_reducible refine bel_set ?_ (by simp) _) | (with_reducible refine bel_set ?_ (by simp; omega) _) | (with_reducible refine bel_set ?_ (by omega) _)))))) HY6.out HYH.out (by omega) (by omega) HST2.out).mono ?_; rintro e w7 ⟨vp, va, vs, rfl, hPO, hb7⟩; obtain ⟨Bq, dp, rfl, -⟩ := nmP hPO.p HN7.out (by omega); obtain ⟨Br, da, rfl, -⟩ := nmA hPO.a HN8.out (by omega); obtain ⟨Bt, ds, rfl, -⟩ := nmI hPO.s HN5.out (by omega); have HPO := Lib.hid hPO; clear hPO; (try have hcA := fun o => (bcell hb7).1 u4.heap.size o (by first | (simp; done) | (simp; omega) | omega)); (try have hfA := fun o => (bcell hb7).2 u4.heap.size o (by first | (simp; done) | (simp; omega) | omega)); have hzA := hb7.size; (try simp at hzA)))
        · go_wp2_with fail
          go_meet
          have hP8 := HPO.out.up (w' := w7.alloc (.cells #[.slice Bq n7 dp, .slice Br n8 da, .slice Bt n5 ds, .int .i64 ((cn : Int) + (N : Int))] 68)) (by (repeat (first | (with_reducible exact Below.refl _ _) | (with_reducible assumption) | (with_reducible apply bel_alloc) | (with_reducible apply bel_drew) | (with_reducible apply bel_drewN) | (with_reducible refine bel_trans ?_ (by with_reducible assumption)) | (with_reducible refine bel_trans ?_ (HF.out _)) | (with_reducible refine bel_set ?_ (by simp) _) | (with_reducible refine bel_set ?_ (by simp; omega) _) | (with_reducible refine bel_set ?_ (by omega) _))))
          refine ⟨_, Bq, Br, Bt, dp, da, ds, rfl, rfl, rfl, Blk.new w7 68 [.slice Bq n7 dp, .slice Br n8 da, .slice Bt n5 ds, .int .i64 ((cn : Int) + (N : Int))], Lib.hid ⟨?_, ?_, ?_⟩, by (repeat (first | (with_reducible exact Below.refl _ _) | (with_reducible assumption) | (with_reducible apply bel_alloc) | (with_reducible apply bel_drew) | (with_reducible apply bel_drewN) | (with_reducible refine bel_trans ?_ (by with_reducible assumption)) | (with_reducible refine bel_trans ?_ (HF.out _)) | ((with_reducible refine bel_set3 ?_ ?_); rotate_left; omega)))⟩
          · obtain ⟨A', c', e', h'⟩ := nmP hP8.p HN7.out (by omega); injection e' with e1 e2 e3; subst e1; exact h'
          · obtain ⟨A', c', e', h'⟩ := nmA hP8.a HN8.out (by omega); injection e' with e1 e2 e3; subst e1; exact h'
          · obtain ⟨A', c', e', h'⟩ := nmI hP8.s HN5.out (by omega); injection e' with e1 e2 e3; subst e1; exact h'
        · go_wp2_with fail
          go_meet
          have hk : Blk w7 u4.heap.size 68 [.slice none 0 0, .slice none 0 0, .slice none 0 0, .int .i64 0] := Blk.up (Blk.new u4.drew 68 [.slice none 0 0, .slice none 0 0, .slice none 0 0, .int .i64 0]) hb7
          have hP8 := (((HPO.out.set (b := u4.heap.size) (o := 0) (by simp) (.slice Bq n7 dp)).set (b := u4.heap.size) (o := 1) (by simp) (.slice Br n8 da)).set (b := u4.heap.size) (o := 2) (by simp) (.slice Bt n5 ds)).set (b := u4.heap.size) (o := 3) (by simp) (.int .i64 ((cn : Int) + (N : Int)))
          refine ⟨_, Bq, Br, Bt, dp, da, ds, rfl, rfl, rfl, set4 hk _ _ _ _, Lib.hid ⟨?_, ?_, ?_⟩, by (repeat (first | (with_reducible exact Below.refl _ _) | (with_reducible assumption) | (with_reducible apply bel_alloc) | (with_reducible apply bel_drew) | (with_reducible apply bel_drewN) | (with_reducible refine bel_trans ?_ (by with_reducible assumption)) | (with_reducible refine bel_trans ?_ (HF.out _)) | ((with_reducible refine bel_set3 ?_ ?_); rotate_left; omega)))⟩
          · obtain ⟨A', c', e', h'⟩ := nmP hP8.p HN7.out (by omega); injection e' with e1 e2 e3; subst e1; exact h'
          · obtain ⟨A', c', e', h'⟩ := nmA hP8.a HN8.out (by omega); injection e' with e1 e2 e3; subst e1; exact h'
          · obtain ⟨A', c', e', h'⟩ := nmI hP8.s HN5.out (by omega); injection e' with e1 e2 e3; subst e1; exact h'
      case rest =>
      clear HCELLS b_0 b_1 b_2 b_3 b_4 c1 c2
      obtain ⟨g13, Ep, Ea, Es, fp, fa, fs, rfl, rfl, rfl, hG13, HR13, hbu5⟩ := hcut
      have hl13 := hG13.lt
      obtain ⟨u5, hu5⟩ : ∃ x, x = wc := ⟨_, rfl⟩
      subst hu5
      have hbku5 := bel_trans hbku4 hbu5
      have HBu5 := Lib.hid (HB.out.up hbku5)
      have hgu5 := HBu5.out.1
      have habu5 : ab < u5.heap.size := Nat.lt_of_lt_of_le hab hbku5.size
      have C1u5 := Lib.hid ((hbku5.cell (p := ⟨ab, aoff + k * 3 + 1, none⟩) hab).trans hck1)
      have C2u5 := Lib.hid ((hbku5.cell (p := ⟨ab, aoff + k * 3 + 2, none⟩) hab).trans hck2)
      have b_0 := (HBu5.out).2 0 _ rfl; have b_1 := (HBu5.out).2 1 _ rfl; have b_2 := (HBu5.out).2 2 _ rfl; have b_3 := (HBu5.out).2 3 _ rfl; have b_4 := (HBu5.out).2 4 _ rfl
      have c1 := C1u5.out
      have c2 := C2u5.out
      have HG4e := Lib.hid (HG4d.out.up hbu5)
      have HG10b := Lib.hid (HG10.out.up hbu5)
      have HG13 := Lib.hid hG13
      clear hG13
      have hl4e := HG4e.out.lt
      have hl10b := HG10b.out.lt
      have x_0 := (HG4e.out.box).2 0 _ rfl; have x_1 := (HG4e.out.box).2 1 _ rfl; have x_2 := (HG4e.out.box).2 2 _ rfl; have x_3 := (HG4e.out.box).2 3 _ rfl
      have y_0 := (HG10b.out.box).2 0 _ rfl; have y_1 := (HG10b.out.box).2 1 _ rfl; have y_2 := (HG10b.out.box).2 2 _ rfl; have y_3 := (HG10b.out.box).2 3 _ rfl
      have z_0 := (HG13.out.box).2 0 _ rfl; have z_1 := (HG13.out.box).2 1 _ rfl; have z_2 := (HG13.out.box).2 2 _ rfl; have z_3 := (HG13.out.box).2 3 _ rfl
      go_wp2_with (first
        | (go_at_call 38; refine (law23_num _ _).mono ?_; rintro e w' ⟨rfl, rfl⟩)
        | (go_at_call 39; refine (ref0_EqExec Cp Ca Cs Ep Ea Es n7 ep n8 ea n5 es n7 fp n8 fa n5 fs FP FQ (D.e.s ++ freshL D.e.s a.l) ((cn : Int) + (N : Int)) _ (HR10.out.1.up hbu5) (HR10.out.2.1.up hbu5) (HR10.out.2.2.up hbu5) HR13.out.1 HR13.out.2.1 HR13.out.2.2).mono ?_; rintro e u6 ⟨rfl, hbu6⟩))
      have hbku6 := bel_trans hbku5 hbu6
      (first | (go_round; (case rel => exact ⟨k + 1, by omega, by go_num, Lib.hid (HB.out.up hbku6), bel_trans hbw hbku6⟩); (case measure => (simp [intOf] <;> omega))) | (go_roundw; (case rel => exact ⟨k + 1, by omega, by go_num, Lib.hid (HB.out.up hbku6), bel_trans hbw hbku6⟩); (case measure => (simp [intOf] <;> omega))) | (refine ⟨?_, by simp [intOf] <;> omega⟩; (repeat apply Exists.intro); refine ⟨?rel, ?fr⟩; (case fr => ((repeat' apply And.intro) <;> rfl)); (case rel => exact ⟨k + 1, by omega, by go_num, Lib.hid (HB.out.up hbku6), bel_trans hbw hbku6⟩)))
    · go_wp2_with (go_at_call 41; refine (law23_wakes _).mono ?_; rintro e w9 ⟨rfl, hb9⟩)
      all_goals
        go_ret
        exact ⟨rfl, bel_trans hbw hb9⟩
end Go.Proofs.Ytgljmljmljccgaa
