/- Fetch: the law FetchExact. -/
import Derived.Test.YtnngeaibdnnpoaaSkHsa
import Derived.Test.YtnngeaibdnnpoaaSkHsb
import Derived.Test.YtnngeaibdnnpoaaSkHsc
import Derived.Test.YtnngeaibdnnpoaaSkHse
import Derived.Test.YtnngeaibdnnpoaaSkHsf
namespace Go.Proofs.Ytnngeaibdnnpoaa
open Go.RowKit
set_option linter.unusedSimpArgs false
set_option linter.unusedVariables false

theorem step_any (id nodes : Int) (A : Option Addr) (n c : Nat) (rows : List FRowD) (dv ak ag : Int) (C : Option Addr) (m dd : Nat) (lst : List Int) (w : World) (hl : RowsR w A n rows) (hn : n ≤ 1000000) (hC : IntsR w C m lst) (hm : m ≤ 2000) :
    Calls Try.prog 24 #[.agg #[.int .i64 id, .int .i64 nodes, .slice A n c], .agg #[.int .i64 dv, .int .i64 ak, .int .i64 ag, .slice C m dd]] w fun e w' => StepR w' e ∧ Below w.heap.size w w' := by
  obtain ⟨r, hd⟩ : ∃ r, wiI dv 6 = r := ⟨_, rfl⟩
  by_cases h3 : r = 3
  · subst h3
    cases hM : mayF ⟨id, nodes, rows⟩ with
    | false => exact stepG_bad _ _ _ _ _ _ dv _ _ C m dd w hl hM hd hn
    | true =>
      cases hy : hereQ ak ag rows with
      | false => exact stepG_none _ _ _ _ _ _ dv _ _ C m dd w hl hM hd hy
      | true => exact stepG_ok _ _ _ _ _ _ dv _ _ C m dd w hl hM hd hy
  by_cases h4 : r = 4
  · subst h4
    cases hM : mayF ⟨id, nodes, rows⟩ with
    | false => exact stepT_bad4 _ _ _ _ _ _ dv _ _ C m dd w hl hM hd hn
    | true => exact stepT_ok4 _ _ _ _ _ _ dv _ _ C m dd w hl hM hd
  by_cases h5 : r = 5
  · subst h5
    cases hM : mayF ⟨id, nodes, rows⟩ with
    | false => exact stepT_bad5 _ _ _ _ _ _ dv _ _ C m dd w hl hM hd hn
    | true => exact stepT_ok5 _ _ _ _ _ _ dv _ _ C m dd w hl hM hd
  have hr3 : ¬ r = 3 ∧ ¬ r = 4 ∧ ¬ r = 5 := ⟨h3, h4, h5⟩
  cases hM : mayF ⟨id, nodes, rows⟩ with
  | false => exact stepW_may _ _ _ _ _ _ dv _ _ C m dd r hr3 lst w hl hM hd hC hm hn (by rw [hM]; simp)
  | true =>
    cases hK : kdS ak with
    | false => exact stepW_kind _ _ _ _ _ _ dv _ _ C m dd r hr3 lst w hl hM hd hC hm hn (by rw [hK]; simp) hK
    | true =>
      cases hD : betS lst 1 65536 with
      | false => exact stepW_digs _ _ _ _ _ _ dv _ _ C m dd r hr3 lst w hl hM hd hC hm hn (by rw [hD]; simp) hK hD
      | true => exact stepW_ok _ _ _ _ _ _ dv _ _ C m dd r hr3 lst w hl hM hd hC hm hK hD
theorem rows_ne_blk {w : World} {A : Option Addr} {n g b off : Nat} {l : List FRowD} {t : TypeId} {c0 c1 c2 : Value} (h : RowsR w A n l) (hb : Blk w g t [c0, c1, c2]) (e : A = some ⟨b, off, none⟩) (hn : 0 < n) : b ≠ g := by
  intro hg
  subst hg
  obtain ⟨b', off', e', _, hc⟩ := h.at hn
  rw [e] at e'
  injection e' with e'
  injection e' with e1 e2 _
  subst e1; subst e2
  have h3 := (hc 0 hn).2.2.2
  have hb2 : w.heap[b]? = some (.cells #[c0, c1, c2] t) := hb
  simp [World.cell?, hb2] at h3
theorem RowsR.setN {w : World} {A : Option Addr} {n g o : Nat} {l : List FRowD} (h : RowsR w A n l) (hne : ∀ b off, A = some ⟨b, off, none⟩ → 0 < n → b ≠ g) (u : Value) : RowsR (w.setCell ⟨g, o, none⟩ u) A n l := by
  refine ⟨h.1, h.2.1, h.2.2.1, fun hn => ?_⟩
  obtain ⟨b, off, e, hb, hc⟩ := h.2.2.2 hn
  refine ⟨b, off, e, by simpa using hb, fun j v hj => ?_⟩
  exact (World.cell?_of_block (w := w) (w' := w.setCell ⟨g, o, none⟩ u) (a := ⟨b, off + j, none⟩) (Below.heap_setCell _ _ _ _ (by have := hne b off e hn; show b ≠ g; omega))).trans (hc j v hj)
theorem RowsR.put3 {w : World} {A : Option Addr} {n g : Nat} {l : List FRowD} {t : TypeId} {c0 c1 c2 : Value} (h : RowsR w A n l) (hb : Blk w g t [c0, c1, c2]) (x y z : Value) : RowsR (((w.setCell ⟨g, 0, none⟩ x).setCell ⟨g, 1, none⟩ y).setCell ⟨g, 2, none⟩ z) A n l :=
  have hne : ∀ b off, A = some ⟨b, off, none⟩ → 0 < n → b ≠ g := fun b off e hn => rows_ne_blk h hb e hn
  ((h.setN hne x).setN hne y).setN hne z
set_option maxRecDepth 100000 in
set_option maxHeartbeats 8000000 in
theorem law_FetchExact (P : FScrP) (D : FScrD) (w : World) (h : FScrR w P D) :
    Calls Try.prog 8 #[P.val D] w fun e w' => e = .returned (.bool true) ∧ Below w.heap.size w w' := by
  obtain ⟨⟨rA, rn, rc⟩, ⟨lA, ln, lc⟩⟩ := P
  obtain ⟨⟨id, nodes, rows⟩, L⟩ := D
  have H := Lib.hid h
  have HL : Hid (FActsR w lA ln L) := Lib.hid h.l
  have HR : Hid (RowsR w rA rn rows) := Lib.hid h.r
  have hln : ln ≤ 17592186044416 := h.sl
  clear h
  obtain ⟨y, hy⟩ : ∃ y, mayF ⟨id, nodes, rows⟩ = y := ⟨_, rfl⟩
  have HY := Lib.hid hy
  clear hy
  show Calls Try.prog 8 #[.agg #[.int .i64 id, .int .i64 nodes, .slice rA rn rc, .slice lA ln lc]] w _
  go_enter Try.func8, Try.ntmps8
  go_wp2_with fail
  have hbX : Below w.heap.size w (w.alloc (.cells #[.int .i64 id, .int .i64 nodes, .slice rA rn rc, .slice lA ln lc] 27)) := by (repeat (first | (with_reducible exact Below.refl _ _) | (with_reducible assumption) | (with_reducible apply bel_alloc) | (with_reducible apply bel_drew) | (with_reducible apply bel_drewN) | (with_reducible refine bel_trans ?_ (by with_reducible assumption)) | (with_reducible refine bel_trans ?_ (HF.out _)) | (with_reducible refine bel_set ?_ (by simp) _) | (with_reducible refine bel_set ?_ (by simp; omega) _) | (with_reducible refine bel_set ?_ (by omega) _)))
  refine (law21_heavy ⟨⟨rA, rn, rc⟩, ⟨lA, ln, lc⟩⟩ ⟨⟨id, nodes, rows⟩, L⟩ _ (H.out.up hbX)).mono ?_
  rintro e w1 ⟨x, rfl, hx, hb1⟩
  have hB1 : Blk w1 w.heap.size 27 [.int .i64 id, .int .i64 nodes, .slice rA rn rc, .slice lA ln lc] := (Blk.new w 27 [.int .i64 id, .int .i64 nodes, .slice rA rn rc, .slice lA ln lc]).up hb1
  have hb1w := bel_trans hbX hb1
  cases x
  case true =>
    clear hx
    go_wp2_with fail
    go_ret
    exact ⟨rfl, hb1w⟩
  case false =>
  have HLI := Lib.hid (hx rfl)
  have hrn : rn ≤ 2000 := by rw [← HR.out.1]; exact HLI.out.1
  have HB1 := Lib.hid hB1
  have HN := Lib.hid HR.out.1
  clear hx hB1 hb1 hbX
  have xl := HB1.out.lt
  have xf := HB1.out.frozen
  have x_0 := (HB1.out.box).2 0 _ rfl; have x_1 := (HB1.out.box).2 1 _ rfl; have x_2 := (HB1.out.box).2 2 _ rfl; have x_3 := (HB1.out.box).2 3 _ rfl
  go_upto_region 4 with (go_at_call 21; refine (ref0_CopyFetch id nodes rA rn rc rows _ (HR.out.up hb1w) (by omega)).mono ?_; rintro e w2 ⟨v2, rfl, hown2, hb2⟩; (obtain ⟨fA, fc, rfl, -⟩ := nmQ hown2 HN.out (by omega)); clear xl xf x_0 x_1 x_2 x_3)
  refine wp_two (fun W2 hW2 => ?_)
  obtain ⟨gf, hgf⟩ : ∃ g, g = w2.heap.size := ⟨_, rfl⟩
  have h2W : Below w2.heap.size w2 W2 := by rw [hW2]; exact bel_alloc (Below.refl _ _)
  have HF2 : Hid (Blk W2 gf 24 [.int .i64 id, .int .i64 nodes, .slice fA rn fc]) := Lib.hid (by rw [hW2, hgf]; exact Blk.new w2 24 [.int .i64 id, .int .i64 nodes, .slice fA rn fc])
  have HR2 : Hid (RowsR W2 fA rn rows) := Lib.hid ((hown2.rowsR HN.out (by omega)).up h2W)
  have HB2 : Hid (Blk W2 w.heap.size 27 [.int .i64 id, .int .i64 nodes, .slice rA rn rc, .slice lA ln lc]) := Lib.hid ((HB1.out.up hb2).up h2W)
  have hbw2 : Below w.heap.size w W2 := bel_trans (bel_trans hb1w hb2) h2W
  have hgfw : w.heap.size < gf := by rw [hgf]; exact Nat.lt_of_lt_of_le HB1.out.lt hb2.size
  rw [← hgf]
  clear hW2 hgf h2W hown2 hb2 hb1w HB1
  have fl := HF2.out.lt
  have ff := HF2.out.frozen
  have f_0 := (HF2.out.box).2 0 _ rfl; have f_1 := (HF2.out.box).2 1 _ rfl; have f_2 := (HF2.out.box).2 2 _ rfl
  cases y
  all_goals
    go_upto_region 9 with (first | (go_at_call 11; refine (law21_num _ _).mono ?_; rintro e w' ⟨rfl, rfl⟩) | (go_at_call 22; refine (ref21_May id nodes rows fA rn fc _ _ HR2.out HY.out).mono ?_; rintro e w3 ⟨rfl, hb3⟩; clear fl ff f_0 f_1 f_2; have HF3 := Lib.hid (HF2.out.up hb3); have fl := HF3.out.lt; have ff := HF3.out.frozen; have f_0 := (HF3.out.box).2 0 _ rfl; have f_1 := (HF3.out.box).2 1 _ rfl; have f_2 := (HF3.out.box).2 2 _ rfl) | (go_at_call 23; refine (fetch_Check id nodes rows fA rn fc _ _ (HR2.out.up hb3) HY.out).mono ?_; rintro e w4 ⟨rfl, hb4⟩; have hb34 := bel_trans hb3 hb4; clear fl ff f_0 f_1 f_2; have HF4 := Lib.hid (HF3.out.up hb4)))
    have HR4 := Lib.hid (HR2.out.up hb34)
    have HB4 := Lib.hid (HB2.out.up hb34)
    have hbw4 := bel_trans hbw2 hb34
    clear HF2 HF3 HR2 HB2 hbw2 hb3 hb4 hb34 HY
    go_wp2_with fail
    go_loopw [5] (fun iv wr => ∃ (k : Nat) (x0 x1 : Int) (xA : Option Addr) (xn xc : Nat) (xs : List FRowD), k ≤ ln ∧ iv = .int .i64 k ∧ Hid (Blk wr gf 24 [.int .i64 x0, .int .i64 x1, .slice xA xn xc]) ∧ Hid (RowsR wr xA xn xs) ∧ xn ≤ 1000000 ∧ Hid (Blk wr w.heap.size 27 [.int .i64 id, .int .i64 nodes, .slice rA rn rc, .slice lA ln lc]) ∧ Below w.heap.size w wr) (fun iv _ => ln - (intOf iv).toNat)
    case atStart => exact ⟨0, id, nodes, fA, rn, fc, rows, Nat.zero_le _, rfl, HF4, HR4, by omega, HB4, hbw4⟩
    case round =>
      clear HF4 HR4 HB4 hbw4
      obtain ⟨k, x0, x1, xA, xn, xc, xs, hk, rfl, HF, HX, hxn, HB, hbw⟩ := hrel
      (obtain ⟨wk, hwk⟩ : ∃ x, x = wr := ⟨_, rfl⟩); subst hwk
      have bl := HB.out.lt
      have bf := HB.out.frozen
      have b_0 := (HB.out.box).2 0 _ rfl; have b_1 := (HB.out.box).2 1 _ rfl; have b_2 := (HB.out.box).2 2 _ rfl; have b_3 := (HB.out.box).2 3 _ rfl
      by_cases hgo : k < ln ∧ k < 20
      · skip
        obtain ⟨hlt, h20⟩ := hgo
        obtain ⟨lb, lo, rfl, hlb, hc⟩ := HL.out.2.2 (by omega)
        obtain ⟨C, m, dd, c0, c1, c2, c3, hI⟩ := hc k hlt
        obtain ⟨a, ha⟩ : ∃ a, fath L k = a := ⟨_, rfl⟩
        rw [ha] at c0 c1 c2 hI
        have hal : a.l.length ≤ 2000 := by rw [← ha]; exact HLI.out.2.2 k (by show k < L.length; rw [HL.out.1]; exact hlt)
        have hm2 : m ≤ 2000 := by rw [← hI.1]; exact hal
        have HI := Lib.hid hI
        have HAB : Hid (∀ Q, Below w.heap.size w Q → Q.rangeAt lb (lo + k * 4) [.int .i64 a.d, .int .i64 a.k, .int .i64 a.g, .slice C m dd]) := Lib.hid (fun Q hQ r u hu => by
          have g := (bcell hQ).1
          have hr : r < 4 := by (have h9 := (List.getElem?_eq_some_iff.1 hu).1); simpa using h9
          have h4 : r = 0 ∨ r = 1 ∨ r = 2 ∨ r = 3 := by omega
          rcases h4 with rfl | rfl | rfl | rfl
          · simp only [List.getElem?_cons_zero, Option.some.injEq] at hu; subst hu; exact (g _ _ hlb).trans c0
          · simp only [List.getElem?_cons_succ, List.getElem?_cons_zero, Option.some.injEq] at hu; subst hu; exact (g _ _ hlb).trans c1
          · simp only [List.getElem?_cons_succ, List.getElem?_cons_zero, Option.some.injEq] at hu; subst hu; exact (g _ _ hlb).trans c2
          · simp only [List.getElem?_cons_succ, List.getElem?_cons_zero, Option.some.injEq] at hu; subst hu; exact (g _ _ hlb).trans c3)
        clear hc hI ha hal c0 c1 c2 c3
        have q20 : decide ((k : Int) < 20) = true := by simp; omega
        have q21 : decide ((k : Int) < (ln : Int)) = true := by simp; omega
        go_upto_region 12 with fail
        go_cut [6, 7] from 31 to 40 (fun s6 s7 wx => ∃ (g : Nat) (y0 y1 : Int) (yA : Option Addr) (yn yc : Nat) (ys : List FRowD), s6 = .pointer (some ⟨g, 0, none⟩) ∧ s7 = .bool true ∧ wk.heap.size ≤ g ∧ Hid (Blk wx g 24 [.int .i64 y0, .int .i64 y1, .slice yA yn yc]) ∧ Hid (RowsR wx yA yn ys) ∧ yn ≤ 1000000 ∧ Below wk.heap.size wk wx)
        case first =>
          obtain ⟨S, hSd⟩ : ∃ S : World → Prop, S = fun Q => Q.rangeAt gf 0 [.int .i64 x0, .int .i64 x1, .slice xA xn xc] ∧ Q.cell? ⟨w.heap.size, 3, none⟩ = some (.slice (some ⟨lb, lo, none⟩) ln lc) ∧ Q.rangeAt lb (lo + k * 4) [.int .i64 a.d, .int .i64 a.k, .int .i64 a.g, .slice C m dd] := ⟨_, rfl⟩
          have hS1 : ∀ Q, S Q → Q.rangeAt gf 0 [.int .i64 x0, .int .i64 x1, .slice xA xn xc] := fun Q h => by rw [hSd] at h; exact h.1
          have hS2 : ∀ Q, S Q → Q.cell? ⟨w.heap.size, 3, none⟩ = some (.slice (some ⟨lb, lo, none⟩) ln lc) := fun Q h => by rw [hSd] at h; exact h.2.1
          have hS3 : ∀ Q, S Q → Q.rangeAt lb (lo + k * 4) [.int .i64 a.d, .int .i64 a.k, .int .i64 a.g, .slice C m dd] := fun Q h => by rw [hSd] at h; exact h.2.2
          have hS : ∀ Q, Below wk.heap.size wk Q → S Q := fun Q hQ => by rw [hSd]; exact ⟨Blk.rngQ (HF.out.up hQ), (HB.out.up hQ).box.2 3 _ rfl, HAB.out Q (bel_trans hbw hQ)⟩
          clear hSd
          refine wp_region_held_drew (S := S) (by kernel_rfl) (hS _ (bel_drew (Below.refl _ _))) (fun hHeld => ?_)
          have hbd : Below wk.heap.size wk wk.drew := bel_drew (Below.refl _ _)
          generalize wk.drew = Z at *
          refine wpAnyH_takeD (i := 0) (d := (some 32)) (v := .agg ([.int .i64 x0, .int .i64 x1, .slice xA xn xc]).toArray) rfl rfl (by kernel_rfl) (by kernel_rfl) (by kernel_rfl) (fun _ _ _ h => h) (yieldsIf_load_mid (by rfl) 24 _ rfl gf 0 (by simp [Act.eval, Act.put]) ([.int .i64 x0, .int .i64 x1, .slice xA xn xc]) _ (hS1) Try.underlying24 (by rfl) (by kernel_rfl)) (by assumption) ?_
          simp only [Act.put, List.setIfInBounds_toArray, List.set_cons_zero, List.set_cons_succ]
          (refine wpAnyH_tk 1 (some 33) (v := ?_) rfl rfl ?_ ?_; rotate_left; (focus (intro wq hSw; clear hSw; go_simp; all_goals (with_reducible rfl))); simp only [Act.put, List.setIfInBounds_toArray, List.set_cons_zero, List.set_cons_succ])
          (refine wpAnyH_tk 2 (some 34) (v := ?_) rfl rfl ?_ ?_; rotate_left; (focus (intro wq hSw; have q1 := hS2 wq hSw; clear hSw; go_simp; all_goals (with_reducible rfl))); simp only [Act.put, List.setIfInBounds_toArray, List.set_cons_zero, List.set_cons_succ])
          (refine wpAnyH_tk 3 (some 35) (v := ?_) rfl rfl ?_ ?_; rotate_left; (focus (intro wq hSw; clear hSw; go_simp; all_goals (with_reducible rfl))); simp only [Act.put, List.setIfInBounds_toArray, List.set_cons_zero, List.set_cons_succ])
          (refine wpAnyH_tk 4 (some 36) (v := ?_) rfl rfl ?_ ?_; rotate_left; (focus (intro wq hSw; clear hSw; go_simp; all_goals (with_reducible rfl))); simp only [Act.put, List.setIfInBounds_toArray, List.set_cons_zero, List.set_cons_succ])
          refine wpAnyH_takeD (i := 5) (d := (some 37)) (v := .agg ([.int .i64 a.d, .int .i64 a.k, .int .i64 a.g, .slice C m dd]).toArray) rfl rfl (by kernel_rfl) (by kernel_rfl) (by kernel_rfl) (fun _ _ _ h => h) (yieldsIf_load_mid (by rfl) 62 _ rfl lb (lo + k * 4) (by simp [Act.eval, Act.put]) ([.int .i64 a.d, .int .i64 a.k, .int .i64 a.g, .slice C m dd]) _ (hS3) Try.underlying62 (by rfl) (by kernel_rfl)) (by assumption) ?_
          simp only [Act.put, List.setIfInBounds_toArray, List.set_cons_zero, List.set_cons_succ]
          refine wpAnyH_ready (rs := [6, 10]) (by kernel_rfl) (by simp) ?_
          refine AllReadyH.cons (o := _) rfl (fun K hK => ?_) (AllReadyH.cons (o := _) rfl (fun K hK => ?_) AllReadyH.nil)
          · skip
            go_simp
            (go_at_call 24; refine (step_any x0 x1 xA xn xc xs a.d a.k a.g C m dd a.l _ (HX.out.up hbd) hxn (HI.out.up (bel_trans hbw hbd)) hm2).mono ?_; rintro e w5 ⟨⟨y0, y1, ⟨yA, yn, yc⟩, ys, rfl, hys, hyn⟩, hb5⟩)
            dsimp only at hys hyn ⊢
            have HYS := Lib.hid hys
            have hbb5 := bel_trans hbd hb5
            clear hys
            refine hK.out _ _ (hS _ hbb5) (fun hHeld => ?_)
            clear hK K
            (try simp only [Act.put, List.setIfInBounds_toArray, List.set_cons_zero, List.set_cons_succ])
            (refine wpAnyH_tk 7 (some 31) (v := ?_) rfl rfl ?_ ?_; rotate_left; (focus (intro wq hSw; clear hSw; go_simp; all_goals (with_reducible rfl))); simp only [Act.put, List.setIfInBounds_toArray, List.set_cons_zero, List.set_cons_succ])
            (refine wpAnyH_tk 8 (some 39) (v := ?_) rfl rfl ?_ ?_; rotate_left; (focus (intro wq hSw; clear hSw; go_simp; all_goals (with_reducible rfl))); simp only [Act.put, List.setIfInBounds_toArray, List.set_cons_zero, List.set_cons_succ])
            (refine wpAnyH_tk 9 (some 40) (v := ?_) rfl rfl ?_ ?_; rotate_left; (focus (intro wq hSw; clear hSw; go_simp; all_goals (with_reducible rfl))); simp only [Act.put, List.setIfInBounds_toArray, List.set_cons_zero, List.set_cons_succ])
            refine wpAnyH_ready (rs := [10]) (by kernel_rfl) (by simp) ?_
            refine AllReadyH.cons (o := _) rfl (fun K hK => ?_) AllReadyH.nil
            go_simp
            obtain ⟨g4, hg4⟩ : ∃ g, g = w5.heap.size := ⟨_, rfl⟩
            obtain ⟨ZB, hZB⟩ : ∃ Zr : World, Zr = w5.alloc (.cells #[.int .i64 0, .int .i64 0, .slice none 0 0] 24) := ⟨_, rfl⟩
            rw [← hg4, ← hZB]
            have hza : Blk ZB g4 24 [.int .i64 0, .int .i64 0, .slice none 0 0] := by rw [hZB, hg4]; exact Blk.new _ 24 [.int .i64 0, .int .i64 0, .slice none 0 0]
            have hbz : Below w5.heap.size w5 ZB := by rw [hZB]; exact bel_alloc (Below.refl _ _)
            have hbbz := bel_trans hbb5 hbz
            have hg4k : wk.heap.size ≤ g4 := by rw [hg4]; exact hbb5.size
            clear hg4 hZB
            have HYZ := Lib.hid (HYS.out.up hbz)
            refine hK.out _ _ (hS _ hbbz) (fun hHeld => ?_)
            clear hK K
            (try simp only [Act.put, List.setIfInBounds_toArray, List.set_cons_zero, List.set_cons_succ])
            refine wpAnyH_ready (rs := [11]) (by kernel_rfl) (by simp) ?_
            refine AllReadyH.cons (o := _) rfl (fun K hK => ?_) AllReadyH.nil
            have zl := hza.lt
            have zf := hza.frozen
            have z_0 := (hza.box).2 0 _ rfl; have z_1 := (hza.box).2 1 _ rfl; have z_2 := (hza.box).2 2 _ rfl
            go_simp
            clear zl zf z_0 z_1 z_2
            have hbb9 : Below wk.heap.size wk _ := bel_set3 (bel_set3 (bel_set3 hbbz hg4k (o := 0) (v := .int .i64 y0)) hg4k (o := 1) (v := .int .i64 y1)) hg4k (o := 2) (v := .slice yA yn yc)
            refine hK.out _ _ (hS _ hbb9) (fun hHeld => ?_)
            clear hK K
            (try simp only [Act.put, List.setIfInBounds_toArray, List.set_cons_zero, List.set_cons_succ])
            (refine wpAnyH_tk 12 (some 7) (v := ?_) rfl rfl ?_ ?_; rotate_left; (focus (intro wq hSw; clear hSw; go_simp; all_goals (with_reducible rfl))); simp only [Act.put, List.setIfInBounds_toArray, List.set_cons_zero, List.set_cons_succ])
            refine wpAnyH_done (by kernel_rfl) ?_ _
            go_wp2_with fail
            go_meet
            exact ⟨g4, y0, y1, yA, yn, yc, ys, rfl, rfl, hg4k, Lib.hid (hza.put3 _ _ _), Lib.hid (RowsR.put3 HYZ.out hza _ _ _), hyn, hbb9⟩
          · skip
            go_simp
            obtain ⟨g4, hg4⟩ : ∃ g, g = Z.heap.size := ⟨_, rfl⟩
            obtain ⟨ZB, hZB⟩ : ∃ Zr : World, Zr = Z.alloc (.cells #[.int .i64 0, .int .i64 0, .slice none 0 0] 24) := ⟨_, rfl⟩
            rw [← hg4, ← hZB]
            have hza : Blk ZB g4 24 [.int .i64 0, .int .i64 0, .slice none 0 0] := by rw [hZB, hg4]; exact Blk.new _ 24 [.int .i64 0, .int .i64 0, .slice none 0 0]
            have hbz : Below Z.heap.size Z ZB := by rw [hZB]; exact bel_alloc (Below.refl _ _)
            have hbbz := bel_trans hbd hbz
            have hg4k : wk.heap.size ≤ g4 := by rw [hg4]; exact hbd.size
            clear hg4 hZB
            refine hK.out _ _ (hS _ hbbz) (fun hHeld => ?_)
            clear hK K
            (try simp only [Act.put, List.setIfInBounds_toArray, List.set_cons_zero, List.set_cons_succ])
            refine wpAnyH_ready (rs := [6]) (by kernel_rfl) (by simp) ?_
            refine AllReadyH.cons (o := _) rfl (fun K hK => ?_) AllReadyH.nil
            go_simp
            (go_at_call 24; refine (step_any x0 x1 xA xn xc xs a.d a.k a.g C m dd a.l _ (HX.out.up hbbz) hxn (HI.out.up (bel_trans hbw hbbz)) hm2).mono ?_; rintro e w5 ⟨⟨y0, y1, ⟨yA, yn, yc⟩, ys, rfl, hys, hyn⟩, hb5⟩)
            dsimp only at hys hyn ⊢
            have HYS := Lib.hid hys
            have hbb5 := bel_trans hbbz hb5
            clear hys
            have hza5 := hza.up hb5
            refine hK.out _ _ (hS _ hbb5) (fun hHeld => ?_)
            clear hK K
            (try simp only [Act.put, List.setIfInBounds_toArray, List.set_cons_zero, List.set_cons_succ])
            (refine wpAnyH_tk 7 (some 31) (v := ?_) rfl rfl ?_ ?_; rotate_left; (focus (intro wq hSw; clear hSw; go_simp; all_goals (with_reducible rfl))); simp only [Act.put, List.setIfInBounds_toArray, List.set_cons_zero, List.set_cons_succ])
            (refine wpAnyH_tk 8 (some 39) (v := ?_) rfl rfl ?_ ?_; rotate_left; (focus (intro wq hSw; clear hSw; go_simp; all_goals (with_reducible rfl))); simp only [Act.put, List.setIfInBounds_toArray, List.set_cons_zero, List.set_cons_succ])
            (refine wpAnyH_tk 9 (some 40) (v := ?_) rfl rfl ?_ ?_; rotate_left; (focus (intro wq hSw; clear hSw; go_simp; all_goals (with_reducible rfl))); simp only [Act.put, List.setIfInBounds_toArray, List.set_cons_zero, List.set_cons_succ])
            refine wpAnyH_ready (rs := [11]) (by kernel_rfl) (by simp) ?_
            refine AllReadyH.cons (o := _) rfl (fun K hK => ?_) AllReadyH.nil
            have zl := hza5.lt
            have zf := hza5.frozen
            have z_0 := (hza5.box).2 0 _ rfl; have z_1 := (hza5.box).2 1 _ rfl; have z_2 := (hza5.box).2 2 _ rfl
            go_simp
            clear zl zf z_0 z_1 z_2
            have hbb9 : Below wk.heap.size wk _ := bel_set3 (bel_set3 (bel_set3 hbb5 hg4k (o := 0) (v := .int .i64 y0)) hg4k (o := 1) (v := .int .i64 y1)) hg4k (o := 2) (v := .slice yA yn yc)
            refine hK.out _ _ (hS _ hbb9) (fun hHeld => ?_)
            clear hK K
            (try simp only [Act.put, List.setIfInBounds_toArray, List.set_cons_zero, List.set_cons_succ])
            (refine wpAnyH_tk 12 (some 7) (v := ?_) rfl rfl ?_ ?_; rotate_left; (focus (intro wq hSw; clear hSw; go_simp; all_goals (with_reducible rfl))); simp only [Act.put, List.setIfInBounds_toArray, List.set_cons_zero, List.set_cons_succ])
            refine wpAnyH_done (by kernel_rfl) ?_ _
            go_wp2_with fail
            go_meet
            exact ⟨g4, y0, y1, yA, yn, yc, ys, rfl, rfl, hg4k, Lib.hid (hza5.put3 _ _ _), Lib.hid (RowsR.put3 HYS.out hza5 _ _ _), hyn, hbb9⟩
        case rest =>
        obtain ⟨g, y0, y1, yA, yn, yc, ys, rfl, rfl, hgk, HG, HYR, hyn, hbc⟩ := hcut
        obtain ⟨wy, hwy⟩ : ∃ x, x = wc := ⟨_, rfl⟩
        subst hwy
        have HFY := Lib.hid (HF.out.up hbc)
        have HBY := Lib.hid (HB.out.up hbc)
        have hbwy := bel_trans hbw hbc
        clear HF HB HX HI HAB bl bf b_0 b_1 b_2 b_3
        have gl := HG.out.lt
        have gfz := HG.out.frozen
        have g_0 := (HG.out.box).2 0 _ rfl; have g_1 := (HG.out.box).2 1 _ rfl; have g_2 := (HG.out.box).2 2 _ rfl
        have fl := HFY.out.lt
        have ff := HFY.out.frozen
        have f_0 := (HFY.out.box).2 0 _ rfl; have f_1 := (HFY.out.box).2 1 _ rfl; have f_2 := (HFY.out.box).2 2 _ rfl
        have HYN := Lib.hid HYR.out.1
        go_wp2_with (go_at_call 21; refine (ref0_CopyFetch y0 y1 yA yn yc ys _ HYR.out (by omega)).mono ?_; rintro e w7 ⟨v7, rfl, hown7, hb7⟩; (obtain ⟨zA, zc, rfl, -⟩ := nmQ hown7 HYN.out (by omega)); have HO7 : Hid (OwnQ w7 wy.heap.size (.slice zA yn zc) ys) := Lib.hid hown7; have hfl := fl; clear hown7 gl gfz g_0 g_1 g_2 fl ff f_0 f_1 f_2; have HF7 := Lib.hid (HFY.out.up hb7); have HB7 := Lib.hid (HBY.out.up hb7); have hbw7 := bel_trans hbwy hb7; have fl := HF7.out.lt; have ff := HF7.out.frozen; have f_0 := (HF7.out.box).2 0 _ rfl; have f_1 := (HF7.out.box).2 1 _ rfl; have f_2 := (HF7.out.box).2 2 _ rfl)
        (first | (go_round; (case rel => exact ⟨k + 1, y0, y1, zA, yn, zc, ys, by omega, by go_num, Lib.hid (HF7.out.put3 _ _ _), Lib.hid (OwnQ.rowsR (OwnQ.set3 (OwnQ.set3 (OwnQ.set3 HO7.out hfl _) hfl _) hfl _) HYN.out (by omega)), hyn, Lib.hid (HB7.out.far3 (by omega) _ _ _), bel_set3 (bel_set3 (bel_set3 hbw7 (by omega)) (by omega)) (by omega)⟩); (case measure => (simp [intOf] <;> omega))) | (go_roundw; (case rel => exact ⟨k + 1, y0, y1, zA, yn, zc, ys, by omega, by go_num, Lib.hid (HF7.out.put3 _ _ _), Lib.hid (OwnQ.rowsR (OwnQ.set3 (OwnQ.set3 (OwnQ.set3 HO7.out hfl _) hfl _) hfl _) HYN.out (by omega)), hyn, Lib.hid (HB7.out.far3 (by omega) _ _ _), bel_set3 (bel_set3 (bel_set3 hbw7 (by omega)) (by omega)) (by omega)⟩); (case measure => (simp [intOf] <;> omega))) | (refine ⟨?_, by simp [intOf] <;> omega⟩; (repeat apply Exists.intro); refine ⟨?rel, ?fr⟩; (case fr => ((repeat' apply And.intro) <;> rfl)); (case rel => exact ⟨k + 1, y0, y1, zA, yn, zc, ys, by omega, by go_num, Lib.hid (HF7.out.put3 _ _ _), Lib.hid (OwnQ.rowsR (OwnQ.set3 (OwnQ.set3 (OwnQ.set3 HO7.out hfl _) hfl _) hfl _) HYN.out (by omega)), hyn, Lib.hid (HB7.out.far3 (by omega) _ _ _), bel_set3 (bel_set3 (bel_set3 hbw7 (by omega)) (by omega)) (by omega)⟩)))
      · skip
        by_cases hq1 : k < ln
        · have q2 : decide ((k : Int) < 20) = false := by simp; omega
          go_wp2_with (go_at_call 14; refine (law21_wakes _).mono ?_; rintro e w9 ⟨rfl, hb9⟩)
          go_ret
          exact ⟨rfl, bel_trans hbw hb9⟩
        · have q1 : decide ((k : Int) < (ln : Int)) = false := by simp; omega
          go_wp2_with (go_at_call 14; refine (law21_wakes _).mono ?_; rintro e w9 ⟨rfl, hb9⟩)
          go_ret
          exact ⟨rfl, bel_trans hbw hb9⟩
end Go.Proofs.Ytnngeaibdnnpoaa
