/- The law TableOnce. -/
import Derived.Test.YtffoglofijffpaaPi
import Derived.Deep.Cut
import Derived.Deep.CutRange
namespace Go.Proofs.Ytffoglofijffpaa
open Go.RowKit
set_option linter.unusedSimpArgs false
set_option linter.unusedVariables false

theorem pn2 {w : World} {B : Nat} {v : Value} {l : List PairD} (h : OwnP w B v l) (hl : l.length ≤ 9223372036854775807) : ∃ A n c, v = .slice A n c ∧ l.length = n ∧ PairsR w A n l := by
  obtain ⟨A, c, e, hr, _⟩ := h.pairs hl
  exact ⟨A, _, c, e, rfl, hr⟩
theorem an2 {w : World} {B : Nat} {v : Value} {l : List AcctD} (h : OwnA w B v l) (hl : l.length ≤ 9223372036854775807) : ∃ A n c, v = .slice A n c ∧ l.length = n ∧ AcctsR w A n l := by
  obtain ⟨A, c, e, hr, _⟩ := h.accts hl
  exact ⟨A, _, c, e, rfl, hr⟩
theorem tab_set {w : World} {C B g : Nat} {a b vp2 va2 : Value} {l2 : List PairD} {q2 : List AcctD} (hk : Blk w g 25 [a, b]) (hp : OwnP w B vp2 l2) (ha : OwnA w B va2 q2) (hd : Disj vp2 va2) (hg : g < B) (hC : C ≤ g) :
    TabR ((w.setCell ⟨g, 0, none⟩ vp2).setCell ⟨g, 1, none⟩ va2) C g vp2 va2 l2 q2 := by
  have hn : vp2.ownBlock ≠ some g := fun e => by have := (own_lt hp g e).1; omega
  have hn2 : va2.ownBlock ≠ some g := fun e => by have := (own_lt ha g e).1; omega
  exact { blk := (hk.set_ 0 vp2).set_ 1 va2, p := own_setD (own_setD (hp.mono (by omega)) hn vp2) hn va2, a := own_setD (own_setD (ha.mono (by omega)) hn2 vp2) hn2 va2, d := hd, np := hn, na := hn2, cb := hC }
theorem map_set' {α β : Type} (f : α → β) (l : List α) (k : Nat) (x : α) : (l.map f).set k (f x) = (l.set k x).map f := by rw [List.map_set]
theorem map_at {α β : Type} (f : α → β) (l : List α) (d : α) {k : Nat} (hk : k < l.length) : (l.map f)[k]? = some (f (l.getD k d)) := by
  rw [List.getElem?_map, List.getElem?_eq_getElem hk, List.getD_eq_getElem?_getD, List.getElem?_eq_getElem hk]; rfl
set_option maxRecDepth 100000 in
set_option maxHeartbeats 40000000 in
theorem law_TableOnce (P : AskP) (D : AskD) (w : World) (h : AskR w P D) :
    Calls Try.prog 4 #[P.val] w fun e w' => e = .returned (.bool true) ∧ Below w.heap.size w w' := by
  obtain ⟨⟨pA, pn, pc⟩, ⟨qA, qn, qc⟩, ⟨xA, xn, xc⟩, ⟨bA, bn, bc⟩, ⟨kA, kn, kc⟩⟩ := P
  have H := Lib.hid h
  have HX : Hid (TxsR w xA xn D.x) := Lib.hid h.x
  clear h
  show Calls Try.prog 4 #[.agg #[.slice pA pn pc, .slice qA qn qc, .slice xA xn xc, .slice bA bn bc, .slice kA kn kc]] w _
  go_enter Try.func4, Try.ntmps4
  go_wp2_with fail
  refine (law22_heavy ⟨⟨pA, pn, pc⟩, ⟨qA, qn, qc⟩, ⟨xA, xn, xc⟩, ⟨bA, bn, bc⟩, ⟨kA, kn, kc⟩⟩ D _ (H.out.up (by (repeat (first | (with_reducible exact Below.refl _ _) | (with_reducible assumption) | (with_reducible apply bel_alloc) | (with_reducible apply bel_drew) | (with_reducible apply bel_drewN) | (with_reducible refine bel_trans ?_ (by with_reducible assumption)) | (with_reducible refine bel_trans ?_ (HF.out _)) | (with_reducible refine bel_set ?_ (by simp) _) | (with_reducible refine bel_set ?_ (by simp; omega) _) | (with_reducible refine bel_set ?_ (by omega) _)))))).mono ?_
  rintro e w1 ⟨x, rfl, hx, hb1⟩
  cases x
  case true =>
    clear hx
    go_wp2_with fail
    go_ret
    exact ⟨rfl, by (repeat (first | (with_reducible exact Below.refl _ _) | (with_reducible assumption) | (with_reducible apply bel_alloc) | (with_reducible apply bel_drew) | (with_reducible apply bel_drewN) | (with_reducible refine bel_trans ?_ (by with_reducible assumption)) | (with_reducible refine bel_trans ?_ (HF.out _)) | (with_reducible refine bel_set ?_ (by simp) _) | (with_reducible refine bel_set ?_ (by simp; omega) _) | (with_reducible refine bel_set ?_ (by omega) _)))⟩
  case false =>
    clear hx
    have hB1 : BoxR w1 w.heap.size [.slice pA pn pc, .slice qA qn qc, .slice xA xn xc, .slice bA bn bc, .slice kA kn kc] := (BoxR.new w [.slice pA pn pc, .slice qA qn qc, .slice xA xn xc, .slice bA bn bc, .slice kA kn kc] 30).up hb1
    have hbw1 : Below w.heap.size w w1 := by (repeat (first | (with_reducible exact Below.refl _ _) | (with_reducible assumption) | (with_reducible apply bel_alloc) | (with_reducible apply bel_drew) | (with_reducible apply bel_drewN) | (with_reducible refine bel_trans ?_ (by with_reducible assumption)) | (with_reducible refine bel_trans ?_ (HF.out _)) | (with_reducible refine bel_set ?_ (by simp) _) | (with_reducible refine bel_set ?_ (by simp; omega) _) | (with_reducible refine bel_set ?_ (by omega) _)))
    clear hb1
    go_wp2_with fail
    go_loopw [6] (fun ix wr => ∃ (i : Nat) (vp va' : Value) (l : List PairD) (q : List AcctD) (la : List Int) (va : List ByteArray), i ≤ xn ∧ i ≤ 60 ∧ ix = .int .i64 i ∧ Hid (TOnce l q la va i) ∧ Hid (TabR wr w1.heap.size w1.heap.size vp va' l q) ∧ Hid (Blk wr (w1.heap.size + 1) 40 (la.map (Value.int .i64))) ∧ Hid (Blk wr (w1.heap.size + 2) 41 (va.map Value.string)) ∧ Below w1.heap.size w1 wr) (fun ix _ => xn - (intOf ix).toNat)
    case atStart =>
      refine ⟨0, .slice none 0 0, .slice none 0 0, [], [], [0, 0, 0, 0, 0], [⟨#[]⟩, ⟨#[]⟩, ⟨#[]⟩, ⟨#[]⟩, ⟨#[]⟩], Nat.zero_le _, Nat.zero_le _, rfl, Lib.hid TOnce.start, Lib.hid { blk := (Blk.new w1 25 [.slice none 0 0, .slice none 0 0]).up (by (repeat (first | (with_reducible exact Below.refl _ _) | (with_reducible assumption) | (with_reducible apply bel_alloc) | (with_reducible apply bel_drew) | (with_reducible apply bel_drewN) | (with_reducible refine bel_trans ?_ (by with_reducible assumption)) | (with_reducible refine bel_trans ?_ (HF.out _)) | (with_reducible refine bel_set ?_ (by simp) _) | (with_reducible refine bel_set ?_ (by simp; omega) _) | (with_reducible refine bel_set ?_ (by omega) _)))), p := OwnP.nil _ _, a := OwnA.nil _ _, d := (fun g e => by cases e), np := (fun e => by cases e), na := (fun e => by cases e), cb := Nat.le_refl _ }, Lib.hid ?_, Lib.hid ?_, by (repeat (first | (with_reducible exact Below.refl _ _) | (with_reducible assumption) | (with_reducible apply bel_alloc) | (with_reducible apply bel_drew) | (with_reducible apply bel_drewN) | (with_reducible refine bel_trans ?_ (by with_reducible assumption)) | (with_reducible refine bel_trans ?_ (HF.out _)) | (with_reducible refine bel_set ?_ (by simp) _) | (with_reducible refine bel_set ?_ (by simp; omega) _) | (with_reducible refine bel_set ?_ (by omega) _)))⟩
      · have q := (Blk.new (w1.alloc (.cells #[.slice none 0 0, .slice none 0 0] 25)) 40 [.int .i64 0, .int .i64 0, .int .i64 0, .int .i64 0, .int .i64 0]).up (w' := ((w1.alloc (.cells #[.slice none 0 0, .slice none 0 0] 25)).alloc (.cells #[.int .i64 0, .int .i64 0, .int .i64 0, .int .i64 0, .int .i64 0] 40)).alloc (.cells #[.string ⟨#[]⟩, .string ⟨#[]⟩, .string ⟨#[]⟩, .string ⟨#[]⟩, .string ⟨#[]⟩] 41)) (by (repeat (first | (with_reducible exact Below.refl _ _) | (with_reducible assumption) | (with_reducible apply bel_alloc) | (with_reducible apply bel_drew) | (with_reducible apply bel_drewN) | (with_reducible refine bel_trans ?_ (by with_reducible assumption)) | (with_reducible refine bel_trans ?_ (HF.out _)) | (with_reducible refine bel_set ?_ (by simp) _) | (with_reducible refine bel_set ?_ (by simp; omega) _) | (with_reducible refine bel_set ?_ (by omega) _))))
        simpa using q
      · have q := Blk.new ((w1.alloc (.cells #[.slice none 0 0, .slice none 0 0] 25)).alloc (.cells #[.int .i64 0, .int .i64 0, .int .i64 0, .int .i64 0, .int .i64 0] 40)) 41 [.string ⟨#[]⟩, .string ⟨#[]⟩, .string ⟨#[]⟩, .string ⟨#[]⟩, .string ⟨#[]⟩]
        simpa using q
    case round =>
      obtain ⟨i, vp, va', l, q, la, va, hi, hi60, rfl, HON, HT, HK4, HK5, hbx⟩ := hrel
      (obtain ⟨wi, hwi⟩ : ∃ x, x = wr := ⟨_, rfl⟩); subst hwi
      have hBi := hB1.up hbx
      have hbwi : Below w.heap.size w wi := bel_trans hbw1 hbx
      have b_0 := (hBi).2 0 _ rfl; have b_1 := (hBi).2 1 _ rfl; have b_2 := (hBi).2 2 _ rfl; have b_3 := (hBi).2 3 _ rfl; have b_4 := (hBi).2 4 _ rfl
      have hg0 := hBi.1
      by_cases hlt : i < xn ∧ i < 60
      · obtain ⟨hlt1, hlt2⟩ := hlt
        obtain ⟨A3, n3, c3, rfl, hn3, hpr3⟩ := pn2 HT.out.p (by have := HON.out.may.1.1; omega)
        obtain ⟨A4, n4, c4, rfl, hn4, har4⟩ := an2 HT.out.a (by have := HON.out.may.2.1; omega)
        have HPR3 := Lib.hid hpr3
        have HAR4 := Lib.hid har4
        clear hn3 hn4 hpr3 har4
        obtain ⟨xb, xoff, rfl, hxb, hxc⟩ := (HX.out.up hbwi).at (by omega)
        obtain ⟨x0, x1, x2, x3⟩ := hxc i hlt1
        obtain ⟨xx, hx⟩ : ∃ x, xth D.x i = x := ⟨_, rfl⟩
        rw [hx] at x0 x1 x2 x3
        obtain ⟨s0, hs0⟩ : ∃ y, wiB xx.se 4 = y := ⟨_, rfl⟩
        obtain ⟨s1, hs1⟩ : ∃ y, wiB xx.sq 3 = y := ⟨_, rfl⟩
        obtain ⟨s2, hs2⟩ : ∃ y, wiB (xx.k.size : Int) 5 = y := ⟨_, rfl⟩
        obtain ⟨s3, hs3⟩ : ∃ y, wiB (xx.v.size : Int) 3 = y := ⟨_, rfl⟩
        have l0 : s0 < 4 := by rw [← hs0]; exact wiB_lt _ (by omega)
        have l1 : s1 < 3 := by rw [← hs1]; exact wiB_lt _ (by omega)
        have l2 : s2 < 5 := by rw [← hs2]; exact wiB_lt _ (by omega)
        have l3 : s3 < 3 := by rw [← hs3]; exact wiB_lt _ (by omega)
        have HS0 := Lib.hid hs0
        have HS1 := Lib.hid hs1
        have HS2 := Lib.hid hs2
        have HS3 := Lib.hid hs3
        obtain ⟨ls, hls⟩ : ∃ ls, lsS la (s0 + 1) = ls := ⟨_, rfl⟩
        have hlb := HON.out.lb (s0 + 1) (by omega)
        rw [hls] at hlb
        obtain ⟨hlb0, hlb1⟩ := hlb
        have k4 : wi.cell? ⟨w1.heap.size + 1, s0 + 1, none⟩ = some (.int .i64 ls) := HK4.out.box.2 (s0 + 1) _ (by rw [map_at (Value.int .i64) la 0 (by rw [HON.out.ll]; omega), ← hls]; rfl)
        have hk4l := HK4.out.lt
        have hI0 : (0 : Int) ≤ 1 + (s0 : Int) := by omega
        have hI1 : 1 + (s0 : Int) < 5 := by omega
        have hI2 : (1 + (s0 : Int)).toNat = s0 + 1 := by omega
        have HLS := Lib.hid hls
        clear hxc hs0 hs1 hs2 hs3 hx hls
        go_wp2_with (go_at_call 20; refine (law0_Within xx.se 4 s0 _ (by omega) (by omega) HS0.out).mono ?_; rintro e w2 ⟨rfl, rfl⟩)
        refine wp_region_fam (by kernel_rfl) (by kernel_rfl) (fun ι F hne hF hcl => ?_)
        have hcF0 := fun n o => (bcell (hF n)).1 (w.heap.size) o (by first | (simp; done) | (simp; omega) | omega)
        have hcF1 := fun n o => (bcell (hF n)).1 (xb) o (by first | (simp; done) | (simp; omega) | omega)
        have hcF2 := fun n o => (bcell (hF n)).1 (w1.heap.size + 1) o (by first | (simp; done) | (simp; omega) | omega)
        have HF := Lib.hid hF; clear hF
        have HC := Lib.hid hcl; clear hcl
        repeat (any_goals (first
         | go_big_quiet_step (first | (go_at_call 20; exact Calls.fam_same (law0_Within xx.sq 3 s1 _ (by omega) (by omega) HS1.out)))
         | (refine wpQuiet_guard _ _ _ rfl rfl ?_; (fail_if_success (intro b' hb; have h2 := hb.symm; have : b' = true := h2.trans (by with_reducible rfl))); (fail_if_success (intro b' hb; have h2 := hb.symm; have : b' = false := h2.trans (by with_reducible rfl))); intro b' hb; simp only [hb]; cases b' <;> (try simp only [Bool.not_eq_true', Bool.not_eq_false', decide_eq_true_eq, decide_eq_false_iff_not, Int.not_lt, Int.not_le, Bool.and_eq_true, Bool.or_eq_true, Bool.or_eq_false_iff, beq_iff_eq, beq_eq_false_iff_ne, Int.natCast_pos] at hb))))
        all_goals (refine wpQuiet_nil ?_; intro nq)
        all_goals (try (exfalso; omega))
        have hFwf := HF.out nq
        clear HF HC hne
        generalize F nq = wf at *
        have hBf := hBi.up hFwf
        have hg1 := hBf.1
        have hxbf := Nat.lt_of_lt_of_le hxb hFwf.size
        have y2 := (hFwf.cell (p := ⟨xb, xoff + i * 4 + 2, none⟩) hxb).trans x2
        have y3 := (hFwf.cell (p := ⟨xb, xoff + i * 4 + 3, none⟩) hxb).trans x3
        clear hcF0 hcF1 hcF2 b_0 b_1 b_2 b_3 b_4 x0 x1 x2 x3 k4
        have b_0 := (hBf).2 0 _ rfl; have b_1 := (hBf).2 1 _ rfl; have b_2 := (hBf).2 2 _ rfl; have b_3 := (hBf).2 3 _ rfl; have b_4 := (hBf).2 4 _ rfl
        go_upto_region 13 with (first | (go_at_call 20; refine (law0_Within (xx.k.size : Int) 5 s2 _ (by omega) (by omega) HS2.out).mono ?_; rintro e w2 ⟨rfl, rfl⟩) | (go_at_call 20; refine (law0_Within (xx.v.size : Int) 3 s3 _ (by omega) (by omega) HS3.out).mono ?_; rintro e w2 ⟨rfl, rfl⟩))
        obtain ⟨x, hxe⟩ : ∃ x, x = onX (s0 + 1) (ls + (s1 : Int)) s2 (valS s3) := ⟨_, rfl⟩
        have e1 : x.se = 1 + (s0 : Int) := by rw [hxe]; show ((s0 + 1 : Nat) : Int) = _; omega
        have e2 : x.sq = ls + (s1 : Int) := by rw [hxe]; rfl
        have e3 : x.k = keyK s2 := by rw [hxe]; rfl
        have e4 : x.v = valS s3 := by rw [hxe]; rfl
        have HE1 := Lib.hid e1
        have HE2 := Lib.hid e2
        have HE3 := Lib.hid e3
        have HE4 := Lib.hid e4
        have HXE := Lib.hid hxe
        clear e1 e2 e3 e4 hxe
        go_cut [7, 8, 9, 10, 11] from 23 to 178 (fun s7 s8 s9 s10 s11 wx => ∃ gx : Nat, s7 = .int .i64 x.se ∧ s8 = .int .i64 x.sq ∧ s9 = .int .i64 (s2 : Int) ∧ s10 = .string x.v ∧ s11 = .pointer (some ⟨gx, 0, none⟩) ∧ wf.heap.size ≤ gx ∧ Blk wx gx 44 [.int .i64 x.se, .int .i64 x.sq, .string x.k, .string x.v] ∧ Below wf.heap.size wf wx)
        case first =>
          have hcv := run_key (((wf.alloc (.cells #[.string ⟨#[]⟩, .string ⟨#[97]⟩, .string ⟨#[98]⟩] 9)).alloc (.cells #[.int .u8 (97 + (s2 : Int))] 5))) (wf.heap.size + 1) s2 (by simp)
          have h3 : s3 = 0 ∨ s3 = 1 ∨ s3 = 2 := by omega
          rcases h3 with rfl | rfl | rfl
          all_goals
            go_wp2_with fail
            go_meet
            refine ⟨wf.heap.size + 1 + 1, by rw [HE1.out], by rw [HE2.out], rfl, by rw [HE4.out]; rfl, rfl, by omega, ?_, by (repeat (first | (with_reducible exact Below.refl _ _) | (with_reducible assumption) | (with_reducible apply bel_alloc) | (with_reducible apply bel_drew) | (with_reducible apply bel_drewN) | (with_reducible refine bel_trans ?_ (by with_reducible assumption)) | (with_reducible refine bel_trans ?_ (HF.out _)) | (with_reducible refine bel_set ?_ (by simp) _) | (with_reducible refine bel_set ?_ (by simp; omega) _) | (with_reducible refine bel_set ?_ (by omega) _)))⟩
            rw [HE1.out, HE2.out, HE3.out, HE4.out]
            first
              | (rw [show valS 0 = (⟨#[]⟩ : ByteArray) from rfl]; have q := Blk.new ((wf.alloc (.cells #[.string ⟨#[]⟩, .string ⟨#[97]⟩, .string ⟨#[98]⟩] 9)).alloc (.cells #[.int .u8 (97 + (s2 : Int))] 5)) 44 [.int .i64 (1 + (s0 : Int)), .int .i64 (ls + (s1 : Int)), .string (keyK s2), .string ⟨#[]⟩]; simpa using q)
              | (rw [show valS 1 = (⟨#[97]⟩ : ByteArray) from rfl]; have q := Blk.new ((wf.alloc (.cells #[.string ⟨#[]⟩, .string ⟨#[97]⟩, .string ⟨#[98]⟩] 9)).alloc (.cells #[.int .u8 (97 + (s2 : Int))] 5)) 44 [.int .i64 (1 + (s0 : Int)), .int .i64 (ls + (s1 : Int)), .string (keyK s2), .string ⟨#[97]⟩]; simpa using q)
              | (rw [show valS 2 = (⟨#[98]⟩ : ByteArray) from rfl]; have q := Blk.new ((wf.alloc (.cells #[.string ⟨#[]⟩, .string ⟨#[97]⟩, .string ⟨#[98]⟩] 9)).alloc (.cells #[.int .u8 (97 + (s2 : Int))] 5)) 44 [.int .i64 (1 + (s0 : Int)), .int .i64 (ls + (s1 : Int)), .string (keyK s2), .string ⟨#[98]⟩]; simpa using q)
        case rest =>
          obtain ⟨gx, rfl, rfl, rfl, rfl, rfl, hgx, hkx, hbc⟩ := hcut
          have hbic := bel_trans hFwf hbc
          have hb1c := bel_trans hbx hbic
          have HTc := Lib.hid (HT.out.up hbic)
          have HK4c := Lib.hid (HK4.out.up hbic)
          have HK5c := Lib.hid (HK5.out.up hbic)
          have HPc := Lib.hid (HPR3.out.up hbic)
          have HAc := Lib.hid (HAR4.out.up hbic)
          have HKX := Lib.hid hkx
          have hgx1 : w1.heap.size + 2 < gx := by have := HK5.out.lt; have := hFwf.size; omega
          have hxl := hkx.lt
          have htl := HTc.out.blk.lt
          have h5l := HK5c.out.lt
          obtain ⟨y, hy⟩ : ∃ y, okT l q x = y := ⟨_, rfl⟩
          have hyd : y = decide (x.sq = ls + 1) := by
            rw [← hy, HXE.out, HON.out.ok hlt2 (by omega) (by omega) (valS_size _), HLS.out]
            rfl
          have HY := Lib.hid hy
          have hM2 : MayT (doP l q x) (doA l q x) := HON.out.may.do_
          have HM2 := Lib.hid hM2
          have hJ0 : (0 : Int) ≤ x.se := by rw [HE1.out]; omega
          have hJ1 : x.se < 5 := by rw [HE1.out]; omega
          have hJ2 : x.se.toNat = s0 + 1 := by rw [HE1.out]; omega
          have k4c : wc.cell? ⟨w1.heap.size + 1, s0 + 1, none⟩ = some (.int .i64 ls) := HK4c.out.box.2 (s0 + 1) _ (by rw [map_at (Value.int .i64) la 0 (by rw [HON.out.ll]; omega), ← HLS.out]; rfl)
          clear hkx hy hM2 b_0 b_1 b_2 b_3 b_4 y2 y3 hI0 hI1 hI2
          have t_0 := (HTc.out.blk.box).2 0 _ rfl; have t_1 := (HTc.out.blk.box).2 1 _ rfl
          have x_0 := (HKX.out.box).2 0 _ rfl; have x_1 := (HKX.out.box).2 1 _ rfl; have x_2 := (HKX.out.box).2 2 _ rfl; have x_3 := (HKX.out.box).2 3 _ rfl
          go_wp2_with fail
          refine (table_Apply_ok A3 n3 c3 l A4 n4 c4 q x _ HPc.out HAc.out HON.out.may).mono ?_
          rw [HY.out]
          rintro e w6 ⟨vp6, va6, rfl, hp6, ha6, hd6, hb6⟩
          obtain ⟨A6, n6, c6, rfl, hn6, hpr6⟩ := pn2 hp6 (by have := HM2.out.1.1; omega)
          obtain ⟨A7, n7, c7, rfl, hn7, har7⟩ := an2 ha6 (by have := HM2.out.2.1; omega)
          have hbA : Below wc.heap.size wc (w6.alloc (.cells #[.slice A6 n6 c6, .slice A7 n7 c7] 25)) := by (repeat (first | (with_reducible exact Below.refl _ _) | (with_reducible assumption) | (with_reducible apply bel_alloc) | (with_reducible apply bel_drew) | (with_reducible apply bel_drewN) | (with_reducible refine bel_trans ?_ (by with_reducible assumption)) | (with_reducible refine bel_trans ?_ (HF.out _)) | (with_reducible refine bel_set ?_ (by simp) _) | (with_reducible refine bel_set ?_ (by simp; omega) _) | (with_reducible refine bel_set ?_ (by omega) _)))
          have hz6 := hb6.size
          have hTd := HTc.out.up hbA
          have hK4d := HK4c.out.up hbA
          have hK5d := HK5c.out.up hbA
          have hKXd := HKX.out.up hbA
          have hK12 : Blk (w6.alloc (.cells #[.slice A6 n6 c6, .slice A7 n7 c7] 25)) w6.heap.size 25 [.slice A6 n6 c6, .slice A7 n7 c7] := Blk.new w6 25 [.slice A6 n6 c6, .slice A7 n7 c7]
          have hpd : OwnP (w6.alloc (.cells #[.slice A6 n6 c6, .slice A7 n7 c7] 25)) wc.heap.size (.slice A6 n6 c6) (doP l q x) := hp6.up (by (repeat (first | (with_reducible exact Below.refl _ _) | (with_reducible assumption) | (with_reducible apply bel_alloc) | (with_reducible apply bel_drew) | (with_reducible apply bel_drewN) | (with_reducible refine bel_trans ?_ (by with_reducible assumption)) | (with_reducible refine bel_trans ?_ (HF.out _)) | (with_reducible refine bel_set ?_ (by simp) _) | (with_reducible refine bel_set ?_ (by simp; omega) _) | (with_reducible refine bel_set ?_ (by omega) _))))
          have had : OwnA (w6.alloc (.cells #[.slice A6 n6 c6, .slice A7 n7 c7] 25)) wc.heap.size (.slice A7 n7 c7) (doA l q x) := ha6.up (by (repeat (first | (with_reducible exact Below.refl _ _) | (with_reducible assumption) | (with_reducible apply bel_alloc) | (with_reducible apply bel_drew) | (with_reducible apply bel_drewN) | (with_reducible refine bel_trans ?_ (by with_reducible assumption)) | (with_reducible refine bel_trans ?_ (HF.out _)) | (with_reducible refine bel_set ?_ (by simp) _) | (with_reducible refine bel_set ?_ (by simp; omega) _) | (with_reducible refine bel_set ?_ (by omega) _))))
          have hprd : PairsR (w6.alloc (.cells #[.slice A6 n6 c6, .slice A7 n7 c7] 25)) A6 n6 (doP l q x) := hpr6.up (by (repeat (first | (with_reducible exact Below.refl _ _) | (with_reducible assumption) | (with_reducible apply bel_alloc) | (with_reducible apply bel_drew) | (with_reducible apply bel_drewN) | (with_reducible refine bel_trans ?_ (by with_reducible assumption)) | (with_reducible refine bel_trans ?_ (HF.out _)) | (with_reducible refine bel_set ?_ (by simp) _) | (with_reducible refine bel_set ?_ (by simp; omega) _) | (with_reducible refine bel_set ?_ (by omega) _))))
          have hard : AcctsR (w6.alloc (.cells #[.slice A6 n6 c6, .slice A7 n7 c7] 25)) A7 n7 (doA l q x) := har7.up (by (repeat (first | (with_reducible exact Below.refl _ _) | (with_reducible assumption) | (with_reducible apply bel_alloc) | (with_reducible apply bel_drew) | (with_reducible apply bel_drewN) | (with_reducible refine bel_trans ?_ (by with_reducible assumption)) | (with_reducible refine bel_trans ?_ (HF.out _)) | (with_reducible refine bel_set ?_ (by simp) _) | (with_reducible refine bel_set ?_ (by simp; omega) _) | (with_reducible refine bel_set ?_ (by omega) _))))
          have HPRd := Lib.hid hprd
          have HARd := Lib.hid hard
          have HPd := Lib.hid hpd
          have HAd := Lib.hid had
          have HD6 := Lib.hid hd6
          have HN6 := Lib.hid hn6
          have HN7 := Lib.hid hn7
          have HTd := Lib.hid hTd
          have HK4d := Lib.hid hK4d
          have HK5d := Lib.hid hK5d
          have HKXd := Lib.hid hKXd
          have HK12 := Lib.hid hK12
          have hb1d : Below w1.heap.size w1 (w6.alloc (.cells #[.slice A6 n6 c6, .slice A7 n7 c7] 25)) := bel_trans hb1c hbA
          obtain ⟨g12, hg12⟩ : ∃ g, g = w6.heap.size := ⟨_, rfl⟩
          rw [← hg12] at HK12
          have hg12c : wc.heap.size ≤ g12 := by omega
          clear hn6 hn7 hp6 ha6 hd6 hpr6 har7 hTd hK4d hK5d hKXd hK12 hpd had hprd hard t_0 t_1 x_0 x_1 x_2 x_3 k4c hb6
          cases y
          · have hq1 : (x.sq == ls + 1) = false := by simpa using hyd.symm
            have hd1 : doP l q x = l ∧ doA l q x = q := doP_no HY.out
            have HD1 := Lib.hid hd1
            have HPRe := Lib.hid (HTd.out.p)
            have k4d := HK4d.out.box.2 (s0 + 1) (.int .i64 ls) (by rw [map_at (Value.int .i64) la 0 (by rw [HON.out.ll]; omega), ← HLS.out]; rfl)
            have HPT := Lib.hid (HPc.out.up hbA)
            have HAT := Lib.hid (HAc.out.up hbA)
            have h12l := HK12.out.lt
            have htl2 := HTd.out.blk.lt
            clear hyd hd1
            have t_0 := (HTd.out.blk.box).2 0 _ rfl; have t_1 := (HTd.out.blk.box).2 1 _ rfl
            have u_0 := (HK12.out.box).2 0 _ rfl; have u_1 := (HK12.out.box).2 1 _ rfl
            subst hg12
            go_wp2_with (go_at_call 18; refine (law22_num _ _).mono ?_; rintro e w' ⟨rfl, rfl⟩)
            refine (ref0_EqTable A6 n6 c6 A7 n7 c7 A3 n3 c3 A4 n4 c4 l q _ (by have := HPRd.out; rw [HD1.out.1] at this; exact this) (by have := HARd.out; rw [HD1.out.2] at this; exact this) HPT.out HAT.out).mono ?_
            rintro e w7 ⟨rfl, hb7⟩
            have HON2 : Hid (TOnce (doP l q x) (doA l q x) la va (i + 1)) := Lib.hid (by rw [HD1.out.1, HD1.out.2]; exact HON.out.next)
            have hb7w := hb7
            have HK3w := Lib.hid (HTd.out.blk.up hb7)
            have HK4w := Lib.hid (HK4d.out.up hb7)
            have HK5w := Lib.hid (HK5d.out.up hb7)
            have HKXw := Lib.hid (HKXd.out.up hb7)
            have HK12w := Lib.hid (HK12.out.up hb7)
            have HPw := Lib.hid (HPd.out.up hb7)
            have HAw := Lib.hid (HAd.out.up hb7)
            have HPRw := Lib.hid (HPRd.out.up hb7)
            have HARw := Lib.hid (HARd.out.up hb7)
            have hb1w := bel_trans hb1d hb7
            have g12w := HK12w.out.lt
            have gxw := HKXw.out.lt
            clear t_0 t_1 u_0 u_1 k4d hb7
            have x_0 := (HKXw.out.box).2 0 _ rfl; have x_1 := (HKXw.out.box).2 1 _ rfl; have x_2 := (HKXw.out.box).2 2 _ rfl; have x_3 := (HKXw.out.box).2 3 _ rfl
            have u_0 := (HK12w.out.box).2 0 _ rfl; have u_1 := (HK12w.out.box).2 1 _ rfl
            go_wp2_with fail
            refine (table_Apply_ok A6 n6 c6 (doP l q x) A7 n7 c7 (doA l q x) x _ HPRw.out HARw.out HM2.out).mono ?_
            rw [again_no HON.out.may, (doP_no (again_no (x := x) HON.out.may)).1, (doP_no (again_no (x := x) HON.out.may)).2]
            rintro e w8 ⟨vp8, va8, rfl, hp8, ha8, _, hb8⟩
            obtain ⟨A8, n8, c8, rfl, _, hpr8⟩ := pn2 hp8 (by have := HM2.out.1.1; omega)
            obtain ⟨A9, n9, c9, rfl, _, har9⟩ := an2 ha8 (by have := HM2.out.2.1; omega)
            have h12 := HK12w.out.up hb8
            have g12l := h12.lt
            have HPR8 := Lib.hid hpr8
            have HAR8 := Lib.hid har9
            clear x_0 x_1 x_2 x_3 u_0 u_1 hp8 ha8 hpr8 har9
            have u_0 := (h12.box).2 0 _ rfl; have u_1 := (h12.box).2 1 _ rfl
            go_wp2_with (go_at_call 18; refine (law22_num _ _).mono ?_; rintro e w' ⟨rfl, rfl⟩)
            refine (ref0_EqTable A8 n8 c8 A9 n9 c9 A6 n6 c6 A7 n7 c7 (doP l q x) (doA l q x) _ (HPR8.out.up (by (repeat (first | (with_reducible exact Below.refl _ _) | (with_reducible assumption) | (with_reducible apply bel_alloc) | (with_reducible apply bel_drew) | (with_reducible apply bel_drewN) | (with_reducible refine bel_trans ?_ (by with_reducible assumption)) | (with_reducible refine bel_trans ?_ (HF.out _)) | (with_reducible refine bel_set ?_ (by simp) _) | (with_reducible refine bel_set ?_ (by simp; omega) _) | (with_reducible refine bel_set ?_ (by omega) _))))) (HAR8.out.up (by (repeat (first | (with_reducible exact Below.refl _ _) | (with_reducible assumption) | (with_reducible apply bel_alloc) | (with_reducible apply bel_drew) | (with_reducible apply bel_drewN) | (with_reducible refine bel_trans ?_ (by with_reducible assumption)) | (with_reducible refine bel_trans ?_ (HF.out _)) | (with_reducible refine bel_set ?_ (by simp) _) | (with_reducible refine bel_set ?_ (by simp; omega) _) | (with_reducible refine bel_set ?_ (by omega) _))))) ((HPRw.out.up hb8).up (by (repeat (first | (with_reducible exact Below.refl _ _) | (with_reducible assumption) | (with_reducible apply bel_alloc) | (with_reducible apply bel_drew) | (with_reducible apply bel_drewN) | (with_reducible refine bel_trans ?_ (by with_reducible assumption)) | (with_reducible refine bel_trans ?_ (HF.out _)) | (with_reducible refine bel_set ?_ (by simp) _) | (with_reducible refine bel_set ?_ (by simp; omega) _) | (with_reducible refine bel_set ?_ (by omega) _))))) ((HARw.out.up hb8).up (by (repeat (first | (with_reducible exact Below.refl _ _) | (with_reducible assumption) | (with_reducible apply bel_alloc) | (with_reducible apply bel_drew) | (with_reducible apply bel_drewN) | (with_reducible refine bel_trans ?_ (by with_reducible assumption)) | (with_reducible refine bel_trans ?_ (HF.out _)) | (with_reducible refine bel_set ?_ (by simp) _) | (with_reducible refine bel_set ?_ (by simp; omega) _) | (with_reducible refine bel_set ?_ (by omega) _)))))).mono ?_
            rintro e w9 ⟨rfl, hb9⟩
            have hb89 : Below w8.heap.size w8 w9 := by (repeat (first | (with_reducible exact Below.refl _ _) | (with_reducible assumption) | (with_reducible apply bel_alloc) | (with_reducible apply bel_drew) | (with_reducible apply bel_drewN) | (with_reducible refine bel_trans ?_ (by with_reducible assumption)) | (with_reducible refine bel_trans ?_ (HF.out _)) | (with_reducible refine bel_set ?_ (by simp) _) | (with_reducible refine bel_set ?_ (by simp; omega) _) | (with_reducible refine bel_set ?_ (by omega) _)))
            have hK12 := h12.up hb89
            have hK3 := (HK3w.out.up hb8).up hb89
            have hK4 := (HK4w.out.up hb8).up hb89
            have hK5 := (HK5w.out.up hb8).up hb89
            have hP9 := (HPw.out.up hb8).up hb89
            have hA9 := (HAw.out.up hb8).up hb89
            have hw1c : w1.heap.size < wc.heap.size := by have := HTc.out.blk.lt; omega
            have T10 := tab_set hK3 hP9 hA9 HD6.out hw1c (Nat.le_refl w1.heap.size)
            have K4 := (hK4.far (p := ⟨w1.heap.size, 0, none⟩) (by simp) (.slice A6 n6 c6)).far (p := ⟨w1.heap.size, 1, none⟩) (by simp) (.slice A7 n7 c7)
            have K5 := (hK5.far (p := ⟨w1.heap.size, 0, none⟩) (by simp) (.slice A6 n6 c6)).far (p := ⟨w1.heap.size, 1, none⟩) (by simp) (.slice A7 n7 c7)
            have hb10 : Below w1.heap.size w1 ((w9.setCell ⟨w1.heap.size, 0, none⟩ (.slice A6 n6 c6)).setCell ⟨w1.heap.size, 1, none⟩ (.slice A7 n7 c7)) := ((bel_trans (bel_trans hb1w hb8) hb89).setCell (p := ⟨w1.heap.size, 0, none⟩) (Nat.le_refl _) _).setCell (p := ⟨w1.heap.size, 1, none⟩) (Nat.le_refl _) _
            have f3 := hK3.frozen
            have g3l := hK3.lt
            have g12l9 := hK12.lt
            clear u_0 u_1 h12 hb9
            have t_0 := (hK3.box).2 0 _ rfl; have t_1 := (hK3.box).2 1 _ rfl
            have u_0 := (hK12.box).2 0 _ rfl; have u_1 := (hK12.box).2 1 _ rfl
            have HT10 := Lib.hid T10
            have HK410 := Lib.hid K4
            have HK510 := Lib.hid K5
            have HB10 := Lib.hid hb10
            clear T10 K4 K5 hb10 hK3 hK4 hK5 hK12 hP9 hA9
            go_wp2_with fail
            obtain ⟨W10, hW10⟩ : ∃ W, W = ((w9.setCell ⟨w1.heap.size, 0, none⟩ (.slice A6 n6 c6)).setCell ⟨w1.heap.size, 1, none⟩ (.slice A7 n7 c7)) := ⟨_, rfl⟩
            have HW10 := Lib.hid hW10
            rw [← hW10] at HT10 HK410 HK510 HB10
            clear hW10 t_0 t_1 u_0 u_1 f3
            have HPR10 : Hid (PairsR W10 A6 n6 (doP l q x)) := Lib.hid (by obtain ⟨A', c', e', h', _⟩ := HT10.out.p.pairs (by have := HM2.out.1.1; omega); rw [HN6.out] at e' h'; injection e' with q1 q2 q3; subst q1; exact h')
            have HAR10 : Hid (AcctsR W10 A7 n7 (doA l q x)) := Lib.hid (by obtain ⟨A', c', e', h', _⟩ := HT10.out.a.accts (by have := HM2.out.2.1; omega); rw [HN7.out] at e' h'; injection e' with q1 q2 q3; subst q1; exact h')
            go_loopw [18] (fun sj wr => ∃ j : Nat, j ≤ 5 ∧ sj = .int .i64 j ∧ Below W10.heap.size W10 wr) (fun sj _ => 5 - (intOf sj).toNat)
            case atStart => exact ⟨0, Nat.zero_le _, rfl, by rw [HW10.out]; exact Below.refl _ _⟩
            case round =>
              obtain ⟨j, hj, rfl, hbj⟩ := hrel
              (obtain ⟨wj, hwj⟩ : ∃ x, x = wr := ⟨_, rfl⟩); subst hwj
              by_cases hj5 : j < 5
              · have hTj := HT10.out.up hbj
                have hK5j := HK510.out.up hbj
                have h3l := hTj.blk.lt
                have h5j := hK5j.lt
                obtain ⟨vj, hvj⟩ : ∃ v, vlS (va) j = v := ⟨_, rfl⟩
                have k5 : wj.cell? ⟨w1.heap.size + 2, j, none⟩ = some (.string vj) := hK5j.box.2 j _ (by rw [map_at Value.string (va) ⟨#[]⟩ (by rw [HON2.out.lv]; exact hj5), ← hvj]; rfl)
                obtain ⟨t1, t2⟩ := HON2.out.get hj5
                rw [hvj] at t1 t2
                have hcv := run_key (wj.alloc (.cells #[.int .u8 (97 + (j : Int))] 5)) wj.heap.size j (by simp)
                have t_0 := (hTj.blk.box).2 0 _ rfl; have t_1 := (hTj.blk.box).2 1 _ rfl
                by_cases hz : vj.size = 0
                · have hv1 := nil_true hz
                  have hv2 : (vj.toList != []) = false := by rw [toList_nil.2 hz]; rfl
                  obtain ⟨u, hu⟩ : ∃ u, tgB (doP l q x) (doA l q x) (keyK j) = u := ⟨_, rfl⟩
                  have HU := Lib.hid hu
                  have HT1 := Lib.hid (t1 hz)
                  clear t1 t2 hu hz hvj hTj hK5j
                  go_wp2_with fail
                  refine (table_Get A6 n6 c6 (doP l q x) A7 n7 c7 (doA l q x) (keyK j) u 3 _ ((HPR10.out.up hbj).up (by (repeat (first | (with_reducible exact Below.refl _ _) | (with_reducible assumption) | (with_reducible apply bel_alloc) | (with_reducible apply bel_drew) | (with_reducible apply bel_drewN) | (with_reducible refine bel_trans ?_ (by with_reducible assumption)) | (with_reducible refine bel_trans ?_ (HF.out _)) | (with_reducible refine bel_set ?_ (by simp) _) | (with_reducible refine bel_set ?_ (by simp; omega) _) | (with_reducible refine bel_set ?_ (by omega) _))))) ((HAR10.out.up hbj).up (by (repeat (first | (with_reducible exact Below.refl _ _) | (with_reducible assumption) | (with_reducible apply bel_alloc) | (with_reducible apply bel_drew) | (with_reducible apply bel_drewN) | (with_reducible refine bel_trans ?_ (by with_reducible assumption)) | (with_reducible refine bel_trans ?_ (HF.out _)) | (with_reducible refine bel_set ?_ (by simp) _) | (with_reducible refine bel_set ?_ (by simp; omega) _) | (with_reducible refine bel_set ?_ (by omega) _))))) HU.out HT1.out).mono ?_
                  rintro e w11 ⟨rfl, hb11⟩
                  have hbj2 : Below wj.heap.size wj w11 := by (repeat (first | (with_reducible exact Below.refl _ _) | (with_reducible assumption) | (with_reducible apply bel_alloc) | (with_reducible apply bel_drew) | (with_reducible apply bel_drewN) | (with_reducible refine bel_trans ?_ (by with_reducible assumption)) | (with_reducible refine bel_trans ?_ (HF.out _)) | (with_reducible refine bel_set ?_ (by simp) _) | (with_reducible refine bel_set ?_ (by simp; omega) _) | (with_reducible refine bel_set ?_ (by omega) _)))
                  have k5b := (hbj2.cell (p := ⟨w1.heap.size + 2, j, none⟩) h5j).trans k5
                  clear k5 t_0 t_1 hcv
                  go_wp2_with (go_at_call 18; refine (law22_num _ _).mono ?_; rintro e w' ⟨rfl, rfl⟩)
                  (first | (go_round; (case rel => exact ⟨j + 1, by omega, by go_num, bel_trans hbj hbj2⟩); (case measure => (simp [intOf] <;> omega))) | (go_roundw; (case rel => exact ⟨j + 1, by omega, by go_num, bel_trans hbj hbj2⟩); (case measure => (simp [intOf] <;> omega))) | (refine ⟨?_, by simp [intOf] <;> omega⟩; (repeat apply Exists.intro); refine ⟨?rel, ?fr⟩; (case fr => ((repeat' apply And.intro) <;> rfl)); (case rel => exact ⟨j + 1, by omega, by go_num, bel_trans hbj hbj2⟩)))
                · have hv1 := nil_false hz
                  have hv2 : (vj.toList != []) = true := by rw [bne_iff_ne]; exact fun g => hz (toList_nil.1 g)
                  have HT1 := Lib.hid (t2 hz)
                  clear t1 t2 hz hvj hTj hK5j
                  go_wp2_with fail
                  refine (table_Get A6 n6 c6 (doP l q x) A7 n7 c7 (doA l q x) (keyK j) vj 0 _ ((HPR10.out.up hbj).up (by (repeat (first | (with_reducible exact Below.refl _ _) | (with_reducible assumption) | (with_reducible apply bel_alloc) | (with_reducible apply bel_drew) | (with_reducible apply bel_drewN) | (with_reducible refine bel_trans ?_ (by with_reducible assumption)) | (with_reducible refine bel_trans ?_ (HF.out _)) | (with_reducible refine bel_set ?_ (by simp) _) | (with_reducible refine bel_set ?_ (by simp; omega) _) | (with_reducible refine bel_set ?_ (by omega) _))))) ((HAR10.out.up hbj).up (by (repeat (first | (with_reducible exact Below.refl _ _) | (with_reducible assumption) | (with_reducible apply bel_alloc) | (with_reducible apply bel_drew) | (with_reducible apply bel_drewN) | (with_reducible refine bel_trans ?_ (by with_reducible assumption)) | (with_reducible refine bel_trans ?_ (HF.out _)) | (with_reducible refine bel_set ?_ (by simp) _) | (with_reducible refine bel_set ?_ (by simp; omega) _) | (with_reducible refine bel_set ?_ (by omega) _))))) HT1.out.2 HT1.out.1).mono ?_
                  rintro e w11 ⟨rfl, hb11⟩
                  have hbj2 : Below wj.heap.size wj w11 := by (repeat (first | (with_reducible exact Below.refl _ _) | (with_reducible assumption) | (with_reducible apply bel_alloc) | (with_reducible apply bel_drew) | (with_reducible apply bel_drewN) | (with_reducible refine bel_trans ?_ (by with_reducible assumption)) | (with_reducible refine bel_trans ?_ (HF.out _)) | (with_reducible refine bel_set ?_ (by simp) _) | (with_reducible refine bel_set ?_ (by simp; omega) _) | (with_reducible refine bel_set ?_ (by omega) _)))
                  have k5b := (hbj2.cell (p := ⟨w1.heap.size + 2, j, none⟩) h5j).trans k5
                  clear k5 t_0 t_1 hcv
                  go_wp2_with (go_at_call 18; refine (law22_num _ _).mono ?_; rintro e w' ⟨rfl, rfl⟩)
                  (first | (go_round; (case rel => exact ⟨j + 1, by omega, by go_num, bel_trans hbj hbj2⟩); (case measure => (simp [intOf] <;> omega))) | (go_roundw; (case rel => exact ⟨j + 1, by omega, by go_num, bel_trans hbj hbj2⟩); (case measure => (simp [intOf] <;> omega))) | (refine ⟨?_, by simp [intOf] <;> omega⟩; (repeat apply Exists.intro); refine ⟨?rel, ?fr⟩; (case fr => ((repeat' apply And.intro) <;> rfl)); (case rel => exact ⟨j + 1, by omega, by go_num, bel_trans hbj hbj2⟩)))
              · go_wp2_with fail
                (first | (go_round; (case rel => exact ⟨i + 1, _, _, doP l q x, doA l q x, (la), (va), by omega, by omega, by go_num, HON2, Lib.hid (HT10.out.up hbj), Lib.hid (HK410.out.up hbj), Lib.hid (HK510.out.up hbj), bel_trans HB10.out hbj⟩); (case measure => (simp [intOf] <;> omega))) | (go_roundw; (case rel => exact ⟨i + 1, _, _, doP l q x, doA l q x, (la), (va), by omega, by omega, by go_num, HON2, Lib.hid (HT10.out.up hbj), Lib.hid (HK410.out.up hbj), Lib.hid (HK510.out.up hbj), bel_trans HB10.out hbj⟩); (case measure => (simp [intOf] <;> omega))) | (refine ⟨?_, by simp [intOf] <;> omega⟩; (repeat apply Exists.intro); refine ⟨?rel, ?fr⟩; (case fr => ((repeat' apply And.intro) <;> rfl)); (case rel => exact ⟨i + 1, _, _, doP l q x, doA l q x, (la), (va), by omega, by omega, by go_num, HON2, Lib.hid (HT10.out.up hbj), Lib.hid (HK410.out.up hbj), Lib.hid (HK510.out.up hbj), bel_trans HB10.out hbj⟩)))
          · have hq0 : x.sq = ls + 1 := by simpa using hyd.symm
            have hq1 : (x.sq == ls + 1) = true := by simpa using hq0
            have HQ0 := Lib.hid hq0
            have k4d := HK4d.out.box.2 (s0 + 1) (.int .i64 ls) (by rw [map_at (Value.int .i64) la 0 (by rw [HON.out.ll]; omega), ← HLS.out]; rfl)
            have f4d := HK4d.out.frozen
            have f5d := HK5d.out.frozen
            have k5d := HK5d.out.box.2 s2 (.string (vlS va s2)) (by rw [map_at Value.string va ⟨#[]⟩ (by rw [HON.out.lv]; omega)]; rfl)
            have h4l := HK4d.out.lt
            have h5l2 := HK5d.out.lt
            have HON2 : Hid (TOnce (doP l q x) (doA l q x) (la.set (s0 + 1) x.sq) (va.set s2 x.v) (i + 1)) := Lib.hid (by
              rw [(doP_yes HY.out).1, (doP_yes HY.out).2, HE2.out, HE4.out, HXE.out]
              exact HON.out.step hlt2 (by omega) (by omega) l2 (valS_size _) (by rw [HLS.out, ← HE2.out]; exact HQ0.out))
            clear hyd hq0
            subst hg12
            have hne4 : w6.heap.size ≠ w1.heap.size + 1 := by omega
            have hne5 : w6.heap.size ≠ w1.heap.size + 2 := by omega
            have hx4 : gx ≠ w1.heap.size + 1 := by omega
            have hx5 : gx ≠ w1.heap.size + 2 := by omega
            have hc4 : w1.heap.size + 1 < wc.heap.size := by omega
            have hc5 : w1.heap.size + 2 < wc.heap.size := by omega
            have HK3w := Lib.hid ((HTd.out.blk.far (p := ⟨w1.heap.size + 1, s0 + 1, none⟩) (by simp) (.int .i64 x.sq)).far (p := ⟨w1.heap.size + 2, s2, none⟩) (by simp) (.string x.v))
            have hK4w := (HK4d.out.set_ (s0 + 1) (.int .i64 x.sq)).far (p := ⟨w1.heap.size + 2, s2, none⟩) (by simp) (.string x.v)
            rw [map_set' (Value.int .i64)] at hK4w
            have HK4w := Lib.hid hK4w
            have hK5w := (HK5d.out.far (p := ⟨w1.heap.size + 1, s0 + 1, none⟩) (by simp) (.int .i64 x.sq)).set_ s2 (.string x.v)
            rw [map_set' Value.string] at hK5w
            have HK5w := Lib.hid hK5w
            have HKXw := Lib.hid ((HKXd.out.far (p := ⟨w1.heap.size + 1, s0 + 1, none⟩) hx4 (.int .i64 x.sq)).far (p := ⟨w1.heap.size + 2, s2, none⟩) hx5 (.string x.v))
            have HK12w := Lib.hid ((HK12.out.far (p := ⟨w1.heap.size + 1, s0 + 1, none⟩) hne4 (.int .i64 x.sq)).far (p := ⟨w1.heap.size + 2, s2, none⟩) hne5 (.string x.v))
            have hPw : OwnP (((w6.alloc (.cells #[.slice A6 n6 c6, .slice A7 n7 c7] 25)).setCell ⟨w1.heap.size + 1, s0 + 1, none⟩ (.int .i64 x.sq)).setCell ⟨w1.heap.size + 2, s2, none⟩ (.string x.v)) wc.heap.size (.slice A6 n6 c6) (doP l q x) := OwnP.set3 (OwnP.set3 HPd.out hc4 _) hc5 _
            have hAw : OwnA (((w6.alloc (.cells #[.slice A6 n6 c6, .slice A7 n7 c7] 25)).setCell ⟨w1.heap.size + 1, s0 + 1, none⟩ (.int .i64 x.sq)).setCell ⟨w1.heap.size + 2, s2, none⟩ (.string x.v)) wc.heap.size (.slice A7 n7 c7) (doA l q x) := OwnA.set3 (OwnA.set3 HAd.out hc4 _) hc5 _
            have HPw := Lib.hid hPw
            have HAw := Lib.hid hAw
            have hPRw : PairsR (((w6.alloc (.cells #[.slice A6 n6 c6, .slice A7 n7 c7] 25)).setCell ⟨w1.heap.size + 1, s0 + 1, none⟩ (.int .i64 x.sq)).setCell ⟨w1.heap.size + 2, s2, none⟩ (.string x.v)) A6 n6 (doP l q x) := by obtain ⟨A', c', e', h', _⟩ := hPw.pairs (by have := HM2.out.1.1; omega); rw [HN6.out] at e' h'; injection e' with q1 q2 q3; subst q1; exact h'
            have hARw : AcctsR (((w6.alloc (.cells #[.slice A6 n6 c6, .slice A7 n7 c7] 25)).setCell ⟨w1.heap.size + 1, s0 + 1, none⟩ (.int .i64 x.sq)).setCell ⟨w1.heap.size + 2, s2, none⟩ (.string x.v)) A7 n7 (doA l q x) := by obtain ⟨A', c', e', h', _⟩ := hAw.accts (by have := HM2.out.2.1; omega); rw [HN7.out] at e' h'; injection e' with q1 q2 q3; subst q1; exact h'
            have HPRw := Lib.hid hPRw
            have HARw := Lib.hid hARw
            have hb1w : Below w1.heap.size w1 (((w6.alloc (.cells #[.slice A6 n6 c6, .slice A7 n7 c7] 25)).setCell ⟨w1.heap.size + 1, s0 + 1, none⟩ (.int .i64 x.sq)).setCell ⟨w1.heap.size + 2, s2, none⟩ (.string x.v)) := (hb1d.setCell (p := ⟨w1.heap.size + 1, s0 + 1, none⟩) (by dsimp only; omega) _).setCell (p := ⟨w1.heap.size + 2, s2, none⟩) (by dsimp only; omega) _
            clear hK4w hK5w hPw hAw hPRw hARw
            have hgx6 : gx < w6.heap.size := by omega
            have x_0 := (HKXd.out.box).2 0 _ rfl; have x_1 := (HKXd.out.box).2 1 _ rfl; have x_2 := (HKXd.out.box).2 2 _ rfl; have x_3 := (HKXd.out.box).2 3 _ rfl
            go_wp2_with (go_at_call 18; refine (law22_num _ _).mono ?_; rintro e w' ⟨rfl, rfl⟩)
            refine (table_Apply_ok A6 n6 c6 (doP l q x) A7 n7 c7 (doA l q x) x _ HPRw.out HARw.out HM2.out).mono ?_
            rw [again_no HON.out.may, (doP_no (again_no (x := x) HON.out.may)).1, (doP_no (again_no (x := x) HON.out.may)).2]
            rintro e w8 ⟨vp8, va8, rfl, hp8, ha8, _, hb8⟩
            obtain ⟨A8, n8, c8, rfl, _, hpr8⟩ := pn2 hp8 (by have := HM2.out.1.1; omega)
            obtain ⟨A9, n9, c9, rfl, _, har9⟩ := an2 ha8 (by have := HM2.out.2.1; omega)
            have h12 := HK12w.out.up hb8
            have g12l := h12.lt
            have HPR8 := Lib.hid hpr8
            have HAR8 := Lib.hid har9
            clear x_0 x_1 x_2 x_3 k4d k5d f4d f5d hp8 ha8 hpr8 har9
            have u_0 := (h12.box).2 0 _ rfl; have u_1 := (h12.box).2 1 _ rfl
            go_wp2_with (go_at_call 18; refine (law22_num _ _).mono ?_; rintro e w' ⟨rfl, rfl⟩)
            refine (ref0_EqTable A8 n8 c8 A9 n9 c9 A6 n6 c6 A7 n7 c7 (doP l q x) (doA l q x) _ (HPR8.out.up (by (repeat (first | (with_reducible exact Below.refl _ _) | (with_reducible assumption) | (with_reducible apply bel_alloc) | (with_reducible apply bel_drew) | (with_reducible apply bel_drewN) | (with_reducible refine bel_trans ?_ (by with_reducible assumption)) | (with_reducible refine bel_trans ?_ (HF.out _)) | (with_reducible refine bel_set ?_ (by simp) _) | (with_reducible refine bel_set ?_ (by simp; omega) _) | (with_reducible refine bel_set ?_ (by omega) _))))) (HAR8.out.up (by (repeat (first | (with_reducible exact Below.refl _ _) | (with_reducible assumption) | (with_reducible apply bel_alloc) | (with_reducible apply bel_drew) | (with_reducible apply bel_drewN) | (with_reducible refine bel_trans ?_ (by with_reducible assumption)) | (with_reducible refine bel_trans ?_ (HF.out _)) | (with_reducible refine bel_set ?_ (by simp) _) | (with_reducible refine bel_set ?_ (by simp; omega) _) | (with_reducible refine bel_set ?_ (by omega) _))))) ((HPRw.out.up hb8).up (by (repeat (first | (with_reducible exact Below.refl _ _) | (with_reducible assumption) | (with_reducible apply bel_alloc) | (with_reducible apply bel_drew) | (with_reducible apply bel_drewN) | (with_reducible refine bel_trans ?_ (by with_reducible assumption)) | (with_reducible refine bel_trans ?_ (HF.out _)) | (with_reducible refine bel_set ?_ (by simp) _) | (with_reducible refine bel_set ?_ (by simp; omega) _) | (with_reducible refine bel_set ?_ (by omega) _))))) ((HARw.out.up hb8).up (by (repeat (first | (with_reducible exact Below.refl _ _) | (with_reducible assumption) | (with_reducible apply bel_alloc) | (with_reducible apply bel_drew) | (with_reducible apply bel_drewN) | (with_reducible refine bel_trans ?_ (by with_reducible assumption)) | (with_reducible refine bel_trans ?_ (HF.out _)) | (with_reducible refine bel_set ?_ (by simp) _) | (with_reducible refine bel_set ?_ (by simp; omega) _) | (with_reducible refine bel_set ?_ (by omega) _)))))).mono ?_
            rintro e w9 ⟨rfl, hb9⟩
            have hb89 : Below w8.heap.size w8 w9 := by (repeat (first | (with_reducible exact Below.refl _ _) | (with_reducible assumption) | (with_reducible apply bel_alloc) | (with_reducible apply bel_drew) | (with_reducible apply bel_drewN) | (with_reducible refine bel_trans ?_ (by with_reducible assumption)) | (with_reducible refine bel_trans ?_ (HF.out _)) | (with_reducible refine bel_set ?_ (by simp) _) | (with_reducible refine bel_set ?_ (by simp; omega) _) | (with_reducible refine bel_set ?_ (by omega) _)))
            have hK12 := h12.up hb89
            have hK3 := (HK3w.out.up hb8).up hb89
            have hK4 := (HK4w.out.up hb8).up hb89
            have hK5 := (HK5w.out.up hb8).up hb89
            have hP9 := (HPw.out.up hb8).up hb89
            have hA9 := (HAw.out.up hb8).up hb89
            have hw1c : w1.heap.size < wc.heap.size := by have := HTc.out.blk.lt; omega
            have T10 := tab_set hK3 hP9 hA9 HD6.out hw1c (Nat.le_refl w1.heap.size)
            have K4 := (hK4.far (p := ⟨w1.heap.size, 0, none⟩) (by simp) (.slice A6 n6 c6)).far (p := ⟨w1.heap.size, 1, none⟩) (by simp) (.slice A7 n7 c7)
            have K5 := (hK5.far (p := ⟨w1.heap.size, 0, none⟩) (by simp) (.slice A6 n6 c6)).far (p := ⟨w1.heap.size, 1, none⟩) (by simp) (.slice A7 n7 c7)
            have hb10 : Below w1.heap.size w1 ((w9.setCell ⟨w1.heap.size, 0, none⟩ (.slice A6 n6 c6)).setCell ⟨w1.heap.size, 1, none⟩ (.slice A7 n7 c7)) := ((bel_trans (bel_trans hb1w hb8) hb89).setCell (p := ⟨w1.heap.size, 0, none⟩) (Nat.le_refl _) _).setCell (p := ⟨w1.heap.size, 1, none⟩) (Nat.le_refl _) _
            have f3 := hK3.frozen
            have g3l := hK3.lt
            have g12l9 := hK12.lt
            clear u_0 u_1 h12 hb9
            have t_0 := (hK3.box).2 0 _ rfl; have t_1 := (hK3.box).2 1 _ rfl
            have u_0 := (hK12.box).2 0 _ rfl; have u_1 := (hK12.box).2 1 _ rfl
            have HT10 := Lib.hid T10
            have HK410 := Lib.hid K4
            have HK510 := Lib.hid K5
            have HB10 := Lib.hid hb10
            clear T10 K4 K5 hb10 hK3 hK4 hK5 hK12 hP9 hA9
            go_wp2_with fail
            obtain ⟨W10, hW10⟩ : ∃ W, W = ((w9.setCell ⟨w1.heap.size, 0, none⟩ (.slice A6 n6 c6)).setCell ⟨w1.heap.size, 1, none⟩ (.slice A7 n7 c7)) := ⟨_, rfl⟩
            have HW10 := Lib.hid hW10
            rw [← hW10] at HT10 HK410 HK510 HB10
            clear hW10 t_0 t_1 u_0 u_1 f3
            have HPR10 : Hid (PairsR W10 A6 n6 (doP l q x)) := Lib.hid (by obtain ⟨A', c', e', h', _⟩ := HT10.out.p.pairs (by have := HM2.out.1.1; omega); rw [HN6.out] at e' h'; injection e' with q1 q2 q3; subst q1; exact h')
            have HAR10 : Hid (AcctsR W10 A7 n7 (doA l q x)) := Lib.hid (by obtain ⟨A', c', e', h', _⟩ := HT10.out.a.accts (by have := HM2.out.2.1; omega); rw [HN7.out] at e' h'; injection e' with q1 q2 q3; subst q1; exact h')
            go_loopw [18] (fun sj wr => ∃ j : Nat, j ≤ 5 ∧ sj = .int .i64 j ∧ Below W10.heap.size W10 wr) (fun sj _ => 5 - (intOf sj).toNat)
            case atStart => exact ⟨0, Nat.zero_le _, rfl, by rw [HW10.out]; exact Below.refl _ _⟩
            case round =>
              obtain ⟨j, hj, rfl, hbj⟩ := hrel
              (obtain ⟨wj, hwj⟩ : ∃ x, x = wr := ⟨_, rfl⟩); subst hwj
              by_cases hj5 : j < 5
              · have hTj := HT10.out.up hbj
                have hK5j := HK510.out.up hbj
                have h3l := hTj.blk.lt
                have h5j := hK5j.lt
                obtain ⟨vj, hvj⟩ : ∃ v, vlS (va.set s2 x.v) j = v := ⟨_, rfl⟩
                have k5 : wj.cell? ⟨w1.heap.size + 2, j, none⟩ = some (.string vj) := hK5j.box.2 j _ (by rw [map_at Value.string (va.set s2 x.v) ⟨#[]⟩ (by rw [HON2.out.lv]; exact hj5), ← hvj]; rfl)
                obtain ⟨t1, t2⟩ := HON2.out.get hj5
                rw [hvj] at t1 t2
                have hcv := run_key (wj.alloc (.cells #[.int .u8 (97 + (j : Int))] 5)) wj.heap.size j (by simp)
                have t_0 := (hTj.blk.box).2 0 _ rfl; have t_1 := (hTj.blk.box).2 1 _ rfl
                by_cases hz : vj.size = 0
                · have hv1 := nil_true hz
                  have hv2 : (vj.toList != []) = false := by rw [toList_nil.2 hz]; rfl
                  obtain ⟨u, hu⟩ : ∃ u, tgB (doP l q x) (doA l q x) (keyK j) = u := ⟨_, rfl⟩
                  have HU := Lib.hid hu
                  have HT1 := Lib.hid (t1 hz)
                  clear t1 t2 hu hz hvj hTj hK5j
                  go_wp2_with fail
                  refine (table_Get A6 n6 c6 (doP l q x) A7 n7 c7 (doA l q x) (keyK j) u 3 _ ((HPR10.out.up hbj).up (by (repeat (first | (with_reducible exact Below.refl _ _) | (with_reducible assumption) | (with_reducible apply bel_alloc) | (with_reducible apply bel_drew) | (with_reducible apply bel_drewN) | (with_reducible refine bel_trans ?_ (by with_reducible assumption)) | (with_reducible refine bel_trans ?_ (HF.out _)) | (with_reducible refine bel_set ?_ (by simp) _) | (with_reducible refine bel_set ?_ (by simp; omega) _) | (with_reducible refine bel_set ?_ (by omega) _))))) ((HAR10.out.up hbj).up (by (repeat (first | (with_reducible exact Below.refl _ _) | (with_reducible assumption) | (with_reducible apply bel_alloc) | (with_reducible apply bel_drew) | (with_reducible apply bel_drewN) | (with_reducible refine bel_trans ?_ (by with_reducible assumption)) | (with_reducible refine bel_trans ?_ (HF.out _)) | (with_reducible refine bel_set ?_ (by simp) _) | (with_reducible refine bel_set ?_ (by simp; omega) _) | (with_reducible refine bel_set ?_ (by omega) _))))) HU.out HT1.out).mono ?_
                  rintro e w11 ⟨rfl, hb11⟩
                  have hbj2 : Below wj.heap.size wj w11 := by (repeat (first | (with_reducible exact Below.refl _ _) | (with_reducible assumption) | (with_reducible apply bel_alloc) | (with_reducible apply bel_drew) | (with_reducible apply bel_drewN) | (with_reducible refine bel_trans ?_ (by with_reducible assumption)) | (with_reducible refine bel_trans ?_ (HF.out _)) | (with_reducible refine bel_set ?_ (by simp) _) | (with_reducible refine bel_set ?_ (by simp; omega) _) | (with_reducible refine bel_set ?_ (by omega) _)))
                  have k5b := (hbj2.cell (p := ⟨w1.heap.size + 2, j, none⟩) h5j).trans k5
                  clear k5 t_0 t_1 hcv
                  go_wp2_with (go_at_call 18; refine (law22_num _ _).mono ?_; rintro e w' ⟨rfl, rfl⟩)
                  (first | (go_round; (case rel => exact ⟨j + 1, by omega, by go_num, bel_trans hbj hbj2⟩); (case measure => (simp [intOf] <;> omega))) | (go_roundw; (case rel => exact ⟨j + 1, by omega, by go_num, bel_trans hbj hbj2⟩); (case measure => (simp [intOf] <;> omega))) | (refine ⟨?_, by simp [intOf] <;> omega⟩; (repeat apply Exists.intro); refine ⟨?rel, ?fr⟩; (case fr => ((repeat' apply And.intro) <;> rfl)); (case rel => exact ⟨j + 1, by omega, by go_num, bel_trans hbj hbj2⟩)))
                · have hv1 := nil_false hz
                  have hv2 : (vj.toList != []) = true := by rw [bne_iff_ne]; exact fun g => hz (toList_nil.1 g)
                  have HT1 := Lib.hid (t2 hz)
                  clear t1 t2 hz hvj hTj hK5j
                  go_wp2_with fail
                  refine (table_Get A6 n6 c6 (doP l q x) A7 n7 c7 (doA l q x) (keyK j) vj 0 _ ((HPR10.out.up hbj).up (by (repeat (first | (with_reducible exact Below.refl _ _) | (with_reducible assumption) | (with_reducible apply bel_alloc) | (with_reducible apply bel_drew) | (with_reducible apply bel_drewN) | (with_reducible refine bel_trans ?_ (by with_reducible assumption)) | (with_reducible refine bel_trans ?_ (HF.out _)) | (with_reducible refine bel_set ?_ (by simp) _) | (with_reducible refine bel_set ?_ (by simp; omega) _) | (with_reducible refine bel_set ?_ (by omega) _))))) ((HAR10.out.up hbj).up (by (repeat (first | (with_reducible exact Below.refl _ _) | (with_reducible assumption) | (with_reducible apply bel_alloc) | (with_reducible apply bel_drew) | (with_reducible apply bel_drewN) | (with_reducible refine bel_trans ?_ (by with_reducible assumption)) | (with_reducible refine bel_trans ?_ (HF.out _)) | (with_reducible refine bel_set ?_ (by simp) _) | (with_reducible refine bel_set ?_ (by simp; omega) _) | (with_reducible refine bel_set ?_ (by omega) _))))) HT1.out.2 HT1.out.1).mono ?_
                  rintro e w11 ⟨rfl, hb11⟩
                  have hbj2 : Below wj.heap.size wj w11 := by (repeat (first | (with_reducible exact Below.refl _ _) | (with_reducible assumption) | (with_reducible apply bel_alloc) | (with_reducible apply bel_drew) | (with_reducible apply bel_drewN) | (with_reducible refine bel_trans ?_ (by with_reducible assumption)) | (with_reducible refine bel_trans ?_ (HF.out _)) | (with_reducible refine bel_set ?_ (by simp) _) | (with_reducible refine bel_set ?_ (by simp; omega) _) | (with_reducible refine bel_set ?_ (by omega) _)))
                  have k5b := (hbj2.cell (p := ⟨w1.heap.size + 2, j, none⟩) h5j).trans k5
                  clear k5 t_0 t_1 hcv
                  go_wp2_with (go_at_call 18; refine (law22_num _ _).mono ?_; rintro e w' ⟨rfl, rfl⟩)
                  (first | (go_round; (case rel => exact ⟨j + 1, by omega, by go_num, bel_trans hbj hbj2⟩); (case measure => (simp [intOf] <;> omega))) | (go_roundw; (case rel => exact ⟨j + 1, by omega, by go_num, bel_trans hbj hbj2⟩); (case measure => (simp [intOf] <;> omega))) | (refine ⟨?_, by simp [intOf] <;> omega⟩; (repeat apply Exists.intro); refine ⟨?rel, ?fr⟩; (case fr => ((repeat' apply And.intro) <;> rfl)); (case rel => exact ⟨j + 1, by omega, by go_num, bel_trans hbj hbj2⟩)))
              · go_wp2_with fail
                (first | (go_round; (case rel => exact ⟨i + 1, _, _, doP l q x, doA l q x, (la.set (s0 + 1) x.sq), (va.set s2 x.v), by omega, by omega, by go_num, HON2, Lib.hid (HT10.out.up hbj), Lib.hid (HK410.out.up hbj), Lib.hid (HK510.out.up hbj), bel_trans HB10.out hbj⟩); (case measure => (simp [intOf] <;> omega))) | (go_roundw; (case rel => exact ⟨i + 1, _, _, doP l q x, doA l q x, (la.set (s0 + 1) x.sq), (va.set s2 x.v), by omega, by omega, by go_num, HON2, Lib.hid (HT10.out.up hbj), Lib.hid (HK410.out.up hbj), Lib.hid (HK510.out.up hbj), bel_trans HB10.out hbj⟩); (case measure => (simp [intOf] <;> omega))) | (refine ⟨?_, by simp [intOf] <;> omega⟩; (repeat apply Exists.intro); refine ⟨?rel, ?fr⟩; (case fr => ((repeat' apply And.intro) <;> rfl)); (case rel => exact ⟨i + 1, _, _, doP l q x, doA l q x, (la.set (s0 + 1) x.sq), (va.set s2 x.v), by omega, by omega, by go_num, HON2, Lib.hid (HT10.out.up hbj), Lib.hid (HK410.out.up hbj), Lib.hid (HK510.out.up hbj), bel_trans HB10.out hbj⟩)))
      · clear b_0 b_1 b_3 b_4
        by_cases h1 : i < xn
        · have h2 : ¬ i < 60 := fun h => hlt ⟨h1, h⟩
          clear hlt
          go_wp2_with (go_at_call 19; refine (law22_wakes _).mono ?_; rintro e w9 ⟨rfl, hb9⟩)
          go_ret
          exact ⟨rfl, bel_trans hbwi hb9⟩
        · clear hlt
          go_wp2_with (go_at_call 19; refine (law22_wakes _).mono ?_; rintro e w9 ⟨rfl, hb9⟩)
          go_ret
          exact ⟨rfl, bel_trans hbwi hb9⟩
end Go.Proofs.Ytffoglofijffpaa
