/- Fetch: the law FetchRoom. -/
import Derived.Test.YtnngeaibdnnpoaaSkHia
import Derived.Test.YtnngeaibdnnpoaaSkHr2
import Derived.Test.YtnngeaibdnnpoaaSkHu
namespace Go.Proofs.Ytnngeaibdnnpoaa
open Go.RowKit
set_option linter.unusedSimpArgs false
set_option linter.unusedVariables false

theorem rowsRQ {w : World} {B n c : Nat} {A : Option Addr} {l : List FRowD} (h : OwnQ w B (.slice A n c) l) (hn : l.length = n) (hm : n ≤ 9223372036854775807) : RowsR w A n l := by
  obtain ⟨A', c', e', h'⟩ := nmQ h hn hm
  injection e' with e1 e2 e3
  subst e1
  exact h'
theorem intsRI {w : World} {B n c : Nat} {A : Option Addr} {l : List Int} (h : OwnI w B (.slice A n c) l) (hn : l.length = n) (hm : n ≤ 9223372036854775807) : IntsR w A n l := by
  obtain ⟨A', c', e', h'⟩ := nmI h hn hm
  injection e' with e1 e2 e3
  subst e1
  exact h'
theorem bet_1 : betS [1] 1 65536 = true := dec_iff.2 (fun j hj => by
  have : j = 0 := by simpa using hj
  subst this; exact ⟨by decide, by decide⟩)
theorem ints_one1 (w : World) (b : Nat) (hb : b = w.heap.size) : IntsR (w.alloc (.cells #[.int .i64 1] 3)) (some ⟨b, 0, none⟩) 1 [1] := ⟨rfl, by omega, fun _ => ⟨b, 0, rfl, by rw [hb]; simp, fun j hj => by
  obtain rfl : j = 0 := by omega
  subst hb
  exact cell0_alloc _ _ _⟩⟩
theorem Blk.putX {w : World} {g : Nat} {t : TypeId} {a b c : Value} (h : Blk w g t [a, b, c]) (x y z : Value) : Blk (((w.setCell ⟨g, 0, none⟩ x).setCell ⟨g, 1, none⟩ y).setCell ⟨g, 2, none⟩ z) g t [x, y, z] := ((h.set_ 0 x).set_ 1 y).set_ 2 z
theorem Blk.farX {w : World} {g b : Nat} {t : TypeId} {cs : List Value} (h : Blk w g t cs) (hne : g ≠ b) (x y z : Value) : Blk (((w.setCell ⟨b, 0, none⟩ x).setCell ⟨b, 1, none⟩ y).setCell ⟨b, 2, none⟩ z) g t cs := ((h.far (p := ⟨b, 0, none⟩) hne x).far (p := ⟨b, 1, none⟩) hne y).far (p := ⟨b, 2, none⟩) hne z
set_option maxRecDepth 100000 in
set_option maxHeartbeats 8000000 in
theorem law_FetchRoom (P : FScrP) (D : FScrD) (w : World) (h : FScrR w P D) :
    Calls Try.prog 3 #[P.val D] w fun e w' => e = .returned (.bool true) ∧ Below w.heap.size w w' := by
  obtain ⟨⟨rA, rn, rc⟩, ⟨lA, ln, lc⟩⟩ := P
  obtain ⟨⟨id, nodes, rows⟩, L⟩ := D
  have hln : ln ≤ 17592186044416 := h.sl
  clear h
  have HS := Lib.hid (show isS 4 = true by decide)
  have HK8 := Lib.hid (show kdS 8 = true by decide)
  have HK7 := Lib.hid (show kdS 7 = true by decide)
  have HM0 := Lib.hid (mayF_new 1 4 (by decide) (by decide) (by decide))
  have HMR := Lib.hid may_room
  have HD74 := Lib.hid (bet_allN (show 74 ≤ 1000 by omega))
  have HD5 := Lib.hid (bet_allN (show 5 ≤ 1000 by omega))
  have HD1 := Lib.hid bet_1
  have hl0 : decide ((0 : Int) ≤ (ln : Int)) = true := by simp
  have hl1 : decide ((ln : Int) ≥ 0) = true := by simp
  show Calls Try.prog 3 #[.agg #[.int .i64 id, .int .i64 nodes, .slice rA rn rc, .slice lA ln lc]] w _
  go_enter Try.func3, Try.ntmps3
  go_upto_region 1 with fail
  refine wp_two (fun W0 hW0 => ?_)
  have HB0 : Hid (Blk W0 w.heap.size 27 [.int .i64 id, .int .i64 nodes, .slice rA rn rc, .slice lA ln lc]) := Lib.hid (by rw [hW0]; exact Blk.new w 27 [.int .i64 id, .int .i64 nodes, .slice rA rn rc, .slice lA ln lc])
  have hb0 : Below w.heap.size w W0 := by rw [hW0]; (repeat (first | (with_reducible exact Below.refl _ _) | (with_reducible assumption) | (with_reducible apply bel_alloc) | (with_reducible apply bel_drew) | (with_reducible apply bel_drewN) | (with_reducible refine bel_trans ?_ (by with_reducible assumption)) | (with_reducible refine bel_trans ?_ (HF.out _)) | (with_reducible refine bel_set ?_ (by simp) _) | (with_reducible refine bel_set ?_ (by simp; omega) _) | (with_reducible refine bel_set ?_ (by omega) _)))
  clear hW0
  go_upto_region 2 with (go_at_call 9; refine (fetch_New 1 4 _ HS.out (by omega) (by omega)).mono ?_; rintro e w1 ⟨rfl, hb1⟩)
  refine wp_two (fun W1 hW1 => ?_)
  obtain ⟨gf, hgf⟩ : ∃ g, g = w1.heap.size := ⟨_, rfl⟩
  have h1W : Below w1.heap.size w1 W1 := by rw [hW1]; exact bel_alloc (Below.refl _ _)
  have HF1 : Hid (Blk W1 gf 24 [.int .i64 1, .int .i64 4, .slice none 0 0]) := Lib.hid (by rw [hW1, hgf]; exact Blk.new w1 24 [.int .i64 1, .int .i64 4, .slice none 0 0])
  have HB1 := Lib.hid ((HB0.out.up hb1).up h1W)
  have hbw1 : Below w.heap.size w W1 := bel_trans (bel_trans hb0 hb1) h1W
  have hgfw : w.heap.size < gf := by rw [hgf]; exact Nat.lt_of_lt_of_le HB0.out.lt hb1.size
  rw [← hgf]
  clear hW1 hgf h1W HB0 hb0 hb1
  have hf1l : gf < W1.heap.size := HF1.out.lt
  go_wp2_with fail
  go_loopw [5, 6] (fun s5 ix wr => ∃ j : Nat, j ≤ 74 ∧ ix = .int .i64 ((j : Int) + 1) ∧ Hid (OwnI wr W1.heap.size s5 (allN j)) ∧ Below W1.heap.size W1 wr) (fun _ ix _ => 80 - (intOf ix).toNat)
  case atStart => exact ⟨0, by omega, rfl, Lib.hid (OwnI.nil _ _), Below.refl _ _⟩
  case round =>
    obtain ⟨j, hj, rfl, HO, hbw⟩ := hrel
    (obtain ⟨wk, hwk⟩ : ∃ x, x = wr := ⟨_, rfl⟩); subst hwk
    by_cases hlt : j < 74
    · have q1 : decide ((j : Int) + 1 ≤ 74) = true := by simp; omega
      go_wp2_with (at_builtin; refine wpList_app1 rfl (.tmp 25) (.tmp 27) rfl W1.heap.size _ _ rfl (HO.out.up (bel_alloc (Below.refl _ _))) _ ((j : Int) + 1) rfl (cell0_alloc _ _ _) (by rw [allN_len]; omega) (le_alloc hbw.size) ?_; intro v7 w7 hown7 hg7 hb7 hat7)
      (first | (go_round; (case rel => exact ⟨j + 1, by omega, by go_num, Lib.hid (by rw [allN_succ]; exact hown7), hbw.trans (Below.trans ((bel_alloc (Below.refl _ _)).mono hbw.size) hb7)⟩); (case measure => (simp [intOf] <;> omega))) | (go_roundw; (case rel => exact ⟨j + 1, by omega, by go_num, Lib.hid (by rw [allN_succ]; exact hown7), hbw.trans (Below.trans ((bel_alloc (Below.refl _ _)).mono hbw.size) hb7)⟩); (case measure => (simp [intOf] <;> omega))) | (refine ⟨?_, by simp [intOf] <;> omega⟩; (repeat apply Exists.intro); refine ⟨?rel, ?fr⟩; (case fr => ((repeat' apply And.intro) <;> rfl)); (case rel => exact ⟨j + 1, by omega, by go_num, Lib.hid (by rw [allN_succ]; exact hown7), hbw.trans (Below.trans ((bel_alloc (Below.refl _ _)).mono hbw.size) hb7)⟩)))
    · have q1 : decide ((j : Int) + 1 ≤ 74) = false := by simp; omega
      have HA := HO
      rw [show j = 74 by omega] at HA
      clear HO
      obtain ⟨aA, ac, rfl, -⟩ := nmI HA.out (allN_len 74) (by omega)
      have HFk := Lib.hid (HF1.out.up hbw)
      have hs1k := hbw.size
      have fl := HFk.out.lt; have ff := HFk.out.frozen; have f_0 := (HFk.out.box).2 0 _ rfl; have f_1 := (HFk.out.box).2 1 _ rfl; have f_2 := (HFk.out.box).2 2 _ rfl
      go_upto_region 8 with (go_at_call 10; refine (fetch_Want_ok 1 4 8 none 0 0 [] aA 74 ac (allN 74) _ (RowsR.nil _ _) (intsRI HA.out (allN_len 74) (by omega)) HM0.out HK8.out HD74.out (by omega)).mono ?_; rintro e w3 ⟨vr, vl, rfl, hown3, hm3, hb3⟩; rw [want_74] at hown3 hm3; (have hm3 : OwnMs w3 (wk.heap.size + 2) vl msgs4 := by rw [← fL_room]; exact hm3); (have hown3 : OwnQ w3 (wk.heap.size + 2) vr (roomR 64) := hown3); (obtain ⟨xA, xc, rfl, -⟩ := nmQ hown3 (roomR_len 64) (by omega)); clear fl ff f_0 f_1 f_2; have HF3 := Lib.hid (HFk.out.up hb3); have fl := HF3.out.lt; have ff := HF3.out.frozen; have f_0 := (HF3.out.box).2 0 _ rfl; have f_1 := (HF3.out.box).2 1 _ rfl; have f_2 := (HF3.out.box).2 2 _ rfl)
      clear q1 fl ff f_0 f_1 f_2
      refine wp_two (fun W3 hW3 => ?_)
      have HFB : Hid (Blk W3 gf 24 [.int .i64 1, .int .i64 4, .slice xA 64 xc]) := Lib.hid (by rw [hW3]; exact HF3.out.putX _ _ _)
      have HBB : Hid (Blk W3 w.heap.size 27 [.int .i64 id, .int .i64 nodes, .slice rA rn rc, .slice lA ln lc]) := Lib.hid (by rw [hW3]; exact ((HB1.out.up hbw).up hb3).farX (by omega) _ _ _)
      have HQB : Hid (OwnQ W3 (W1.heap.size) (.slice xA 64 xc) (roomR 64)) := Lib.hid (by rw [hW3]; exact (((hown3.mono (by omega)).set3 hf1l _).set3 hf1l _).set3 hf1l _)
      have HMB : Hid (OwnMs W3 W1.heap.size vl msgs4) := Lib.hid (by rw [hW3]; exact (((hm3.mono (by omega)).low hf1l).low hf1l).low hf1l)
      have HAB : Hid (OwnI W3 W1.heap.size (.slice aA 74 ac) (allN 74)) := Lib.hid (by rw [hW3]; exact (((HA.out.up hb3).set (p := ⟨gf, 0, none⟩) hf1l _).set (p := ⟨gf, 1, none⟩) hf1l _).set (p := ⟨gf, 2, none⟩) hf1l _)
      have hbB : Below w.heap.size w W3 := by rw [hW3]; exact bel_set3 (bel_set3 (bel_set3 (bel_trans (bel_trans hbw1 hbw) hb3) (by omega)) (by omega)) (by omega)
      clear hW3 hown3 hm3 hb3 HFk HF3 HA HF1 HB1 hbw hbw1 hs1k
      obtain ⟨mA, mc, em, hmr, -, -⟩ := HMB.out.msgs msgs4_big
      rw [show msgs4.length = 4 from rfl] at em hmr
      subst em
      obtain ⟨mb, mo, rfl, hmb, hmc⟩ := hmr.2.2 (by omega)
      have HMC := Lib.hid hmc
      clear hmr hmc HMB
      have fl := HFB.out.lt; have ff := HFB.out.frozen; have f_0 := (HFB.out.box).2 0 _ rfl; have f_1 := (HFB.out.box).2 1 _ rfl; have f_2 := (HFB.out.box).2 2 _ rfl
      go_wp2_with (go_at_call 11; refine (law21_num _ _).mono ?_; rintro e w' ⟨rfl, rfl⟩)
      clear fl ff f_0 f_1 f_2
      go_loopw [9, 10] (fun s9 ix wr => ∃ j : Nat, j ≤ 4 ∧ ix = .int .i64 (j : Int) ∧ Hid (OwnI wr W3.heap.size s9 (allN (j * 16))) ∧ Below W3.heap.size W3 wr) (fun _ ix _ => 4 - (intOf ix).toNat)
      case atStart => exact ⟨0, by omega, rfl, Lib.hid (OwnI.nil _ _), Below.refl _ _⟩
      case round =>
        obtain ⟨i, hi, rfl, HT, hbi⟩ := hrel
        (obtain ⟨wi, hwi⟩ : ∃ x, x = wr := ⟨_, rfl⟩); subst hwi
        by_cases hlt : i < 4
        · skip
          obtain ⟨P, hP, hin⟩ := HMC.out i hlt
          rw [mth_4 hlt] at hP hin
          have c0 := hP 0 _ rfl
          have c2 := hP 2 _ rfl
          have c17 := hP 17 _ rfl
          have hds : IntsR W3 P.ds.A P.ds.n (pieceN i) := hin.ds
          have hdn : P.ds.n = 16 := by rw [← hds.1, pieceN_len hlt]
          rw [hdn] at hds c17
          obtain ⟨pA, hpA⟩ : ∃ x, P.ds.A = x := ⟨_, rfl⟩
          obtain ⟨pc, hpc⟩ : ∃ x, P.ds.c = x := ⟨_, rfl⟩
          rw [hpA] at hds c17
          rw [hpc] at c17
          clear hpA hpc hdn hin hP
          have HDS := Lib.hid (hds.up hbi)
          have d0 : wi.cell? ⟨mb, mo + i * 18, none⟩ = some (.int .i64 8) := ((bcell hbi).1 mb (mo + i * 18) hmb).trans c0
          have d2 : wi.cell? ⟨mb, mo + i * 18 + 2, none⟩ = some (.int .i64 2) := ((bcell hbi).1 mb (mo + i * 18 + 2) hmb).trans c2
          have d17 : wi.cell? ⟨mb, mo + i * 18 + 17, none⟩ = some (.slice pA 16 pc) := ((bcell hbi).1 mb (mo + i * 18 + 17) hmb).trans c17
          have hmbi : mb < wi.heap.size := Nat.lt_of_lt_of_le hmb hbi.size
          clear c0 c2 c17 hds
          go_wp2_with (at_builtin; refine wpList_appAny rfl (.tmp 79) (.tmp 84) rfl rfl W3.heap.size _ (allN (i * 16)) rfl HT.out _ _ _ (pieceN i) rfl HDS.out (by rw [allN_len]; omega) hbi.size ?_; intro v7 w7 hown7 hg7 hb7 hat7)
          (first | (go_round; (case rel => exact ⟨i + 1, by omega, by go_num, Lib.hid (by rw [← piece_next hlt]; exact hown7), hbi.trans hb7⟩); (case measure => (simp [intOf] <;> omega))) | (go_roundw; (case rel => exact ⟨i + 1, by omega, by go_num, Lib.hid (by rw [← piece_next hlt]; exact hown7), hbi.trans hb7⟩); (case measure => (simp [intOf] <;> omega))) | (refine ⟨?_, by simp [intOf] <;> omega⟩; (repeat apply Exists.intro); refine ⟨?rel, ?fr⟩; (case fr => ((repeat' apply And.intro) <;> rfl)); (case rel => exact ⟨i + 1, by omega, by go_num, Lib.hid (by rw [← piece_next hlt]; exact hown7), hbi.trans hb7⟩)))
        · skip
          have HTA := HT
          rw [show i * 16 = 64 by omega] at HTA
          clear HT HMC
          obtain ⟨tA, tc, rfl, -⟩ := nmI HTA.out (allN_len 64) (by omega)
          have hs3i := hbi.size
          have HF4 := Lib.hid (HFB.out.up hbi)
          have HB4 := Lib.hid (HBB.out.up hbi)
          have HQ4 := Lib.hid (HQB.out.up hbi)
          have HA4 := Lib.hid (HAB.out.up hbi)
          have hb4 := bel_trans hbB hbi
          clear HFB HBB HQB HAB hbB
          have q4 : decide ((i : Int) < 4) = false := by simp; omega
          have fl := HF4.out.lt; have ff := HF4.out.frozen; have f_0 := (HF4.out.box).2 0 _ rfl; have f_1 := (HF4.out.box).2 1 _ rfl; have f_2 := (HF4.out.box).2 2 _ rfl
          go_upto_region 18 with (go_at_call 10; refine (fetch_Want_ok 1 4 7 xA 64 xc (roomR 64) _ 1 1 [1] _ (rowsRQ (HQ4.out.up (bel_alloc (Below.refl _ _))) (roomR_len 64) (by omega)) (by exact ints_one1 _ _ (by simp)) HMR.out HK7.out HD1.out (by omega)).mono ?_; rintro e w5 ⟨vr5, vl5, rfl, hown5, hm5, hb5⟩; rw [want_full (R := roomR 64) (by rw [roomR_len]; exact Nat.le_refl _)] at hown5 hm5; (obtain ⟨B5, hm5⟩ : ∃ B, OwnMs w5 B vl5 [] := ⟨_, fL_none ▸ hm5⟩); (obtain ⟨C5, hown5⟩ : ∃ B, OwnQ w5 B vr5 (roomR 64) := ⟨_, hown5⟩); (obtain ⟨yA, yc, rfl, -⟩ := nmQ hown5 (roomR_len 64) (by omega)); (obtain ⟨nA, nc, rfl, -, -, -⟩ := hm5.msgs ⟨by simp, fun x h => by simp at h⟩); clear fl ff f_0 f_1 f_2)
          refine wp_two (fun W6 hW6 => ?_)
          obtain ⟨g6, hg6⟩ : ∃ g, g = w5.heap.size := ⟨_, rfl⟩
          have h56 : Below w5.heap.size w5 W6 := by rw [hW6]; exact bel_alloc (Below.refl _ _)
          have hb46 : Below wi.heap.size wi W6 := bel_trans (bel_trans (bel_alloc (Below.refl _ _)) hb5) h56
          have HX6 : Hid (Blk W6 g6 24 [.int .i64 1, .int .i64 4, .slice yA 64 yc]) := Lib.hid (by rw [hW6, hg6]; exact Blk.new w5 24 [.int .i64 1, .int .i64 4, .slice yA 64 yc])
          have HY6 : Hid (RowsR W6 yA 64 (roomR 64)) := Lib.hid ((rowsRQ hown5 (roomR_len 64) (by omega)).up h56)
          have HF6 := Lib.hid (HF4.out.up hb46)
          have HB6 := Lib.hid (HB4.out.up hb46)
          have HQ6 : Hid (RowsR W6 xA 64 (roomR 64)) := Lib.hid ((rowsRQ HQ4.out (roomR_len 64) (by omega)).up hb46)
          have HAI : Hid (IntsR W6 aA 74 (allN 74)) := Lib.hid ((intsRI HA4.out (allN_len 74) (by omega)).up hb46)
          have HTI : Hid (IntsR W6 tA 64 (allN 64)) := Lib.hid ((intsRI HTA.out (allN_len 64) (by omega)).up hb46)
          have hb6 := bel_trans hb4 hb46
          have HAC : Hid (74 ≤ ac) := Lib.hid (by obtain ⟨A9, c9, e9, -, -⟩ := HA4.out.ints (by simp [allN]); rcases HA4.out.2 with ⟨e, _⟩ | ⟨g, cap, cur, e, _, _, h9, _⟩; (injection e with _ e2 _; exact absurd e2 (by decide)); (injection e with _ _ e3; rw [allN_len] at h9; omega))
          rw [← hg6]
          clear hW6 hg6 h56 hb46 hb5 hown5 hm5 HF4 HB4 HQ4 HA4 HTA hb4
          obtain ⟨ab, ao, rfl, hab, -⟩ := HAI.out.2.2 (by omega)
          have hac5 : 5 ≤ ac := Nat.le_trans (by omega) HAC.out
          have hac64 : 64 ≤ ac := Nat.le_trans (by omega) HAC.out
          have hai5 : (5 : Int) ≤ (ac : Int) := by omega
          have hai64 : (64 : Int) ≤ (ac : Int) := by omega
          have HA5 : Hid (IntsR W6 (some ⟨ab, ao, none⟩) 5 (allN 5)) := Lib.hid (by have h9 := HAI.out.take (k := 5) (by omega); rw [take_allN (by omega)] at h9; exact h9)
          have HA64 : Hid (IntsR W6 (some ⟨ab, ao, none⟩) 64 (allN 64)) := Lib.hid (by have h9 := HAI.out.take (k := 64) (by omega); rw [take_allN (by omega)] at h9; exact h9)
          clear HAI hab HAC
          go_cut [14, 15, 16] from 93 to 100 (fun s14 s15 s16 wx => ∃ (g : Nat) (zA : Option Addr) (zc : Nat) (oA : Option Addr) (oc : Nat), s14 = .pointer (some ⟨g, 0, none⟩) ∧ s15 = .slice oA 0 oc ∧ s16 = .int .i64 0 ∧ Hid (Blk wx g 24 [.int .i64 1, .int .i64 4, .slice zA 64 zc]) ∧ Hid (RowsR wx zA 64 (roomR 64)) ∧ Below W6.heap.size W6 wx)
          case first =>
            obtain ⟨S, hSd⟩ : ∃ S : World → Prop, S = fun Q => Q.rangeAt gf 0 [.int .i64 1, .int .i64 4, .slice xA 64 xc] := ⟨_, rfl⟩
            have hS1 : ∀ Q, S Q → Q.rangeAt gf 0 [.int .i64 1, .int .i64 4, .slice xA 64 xc] := fun Q h => by rw [hSd] at h; exact h
            have hS : ∀ Q, Below W6.heap.size W6 Q → S Q := fun Q hQ => by rw [hSd]; exact Blk.rngQ (HF6.out.up hQ)
            clear hSd
            refine wp_region_held_drew (S := S) (by kernel_rfl) (hS _ (bel_drew (Below.refl _ _))) (fun hHeld => ?_)
            have hbd : Below W6.heap.size W6 W6.drew := bel_drew (Below.refl _ _)
            generalize W6.drew = Z at *
            refine wpAnyH_takeD (i := 0) (d := (some 94)) (v := .agg ([.int .i64 1, .int .i64 4, .slice xA 64 xc]).toArray) rfl rfl (by kernel_rfl) (by kernel_rfl) (by kernel_rfl) (fun _ _ _ h => h) (yieldsIf_load_mid (by rfl) 24 _ rfl gf 0 (by simp [Act.eval, Act.put]) ([.int .i64 1, .int .i64 4, .slice xA 64 xc]) _ (hS1) Try.underlying24 (by rfl) (by kernel_rfl)) (by assumption) ?_
            simp only [Act.put, List.setIfInBounds_toArray, List.set_cons_zero, List.set_cons_succ]
            (refine wpAnyH_tk 1 (some 95) (v := ?_) rfl rfl ?_ ?_; rotate_left; (focus (intro wq hSw; clear hSw; go_simp; all_goals (with_reducible rfl))); simp only [Act.put, List.setIfInBounds_toArray, List.set_cons_zero, List.set_cons_succ])
            (refine wpAnyH_tk 2 (some 96) (v := ?_) rfl rfl ?_ ?_; rotate_left; (focus (intro wq hSw; clear hSw; go_simp; all_goals (with_reducible rfl))); simp only [Act.put, List.setIfInBounds_toArray, List.set_cons_zero, List.set_cons_succ])
            refine wpAnyH_ready (rs := [3, 8]) (by kernel_rfl) (by simp) ?_
            refine AllReadyH.cons (o := _) rfl (fun K hK => ?_) (AllReadyH.cons (o := _) rfl (fun K hK => ?_) AllReadyH.nil)
            · skip
              go_simp
              (go_at_call 10; refine (fetch_Want_ok 1 4 8 xA 64 xc (roomR 64) (some ⟨ab, ao, none⟩) 5 ac (allN 5) _ (HQ6.out.up hbd) (HA5.out.up hbd) HMR.out HK8.out HD5.out (by omega)).mono ?_; rintro e w7 ⟨vr7, vl7, rfl, hown7, hm7, hb7⟩)
              rw [want_full (R := roomR 64) (by rw [roomR_len]; exact Nat.le_refl _)] at hown7 hm7
              obtain ⟨C7, hm7⟩ : ∃ B, OwnMs w7 B vl7 [] := ⟨_, fL_none ▸ hm7⟩
              obtain ⟨oA, oc, rfl, -, -, -⟩ := hm7.msgs ⟨by simp, fun x h => by simp at h⟩
              obtain ⟨B7, hB7⟩ : ∃ B, B = Z.heap.size + 2 := ⟨_, rfl⟩
              have hown7 : OwnQ w7 B7 vr7 (roomR 64) := by rw [hB7]; exact hown7
              obtain ⟨zA, zc, rfl, -⟩ := nmQ hown7 (roomR_len 64) (by omega)
              have HO7 := Lib.hid hown7
              have hbb7 := bel_trans hbd hb7
              clear hown7 hm7
              refine hK.out _ _ (hS _ hbb7) (fun hHeld => ?_)
              clear hK K
              (try simp only [Act.put, List.setIfInBounds_toArray, List.set_cons_zero, List.set_cons_succ])
              (refine wpAnyH_tk 4 (some 93) (v := ?_) rfl rfl ?_ ?_; rotate_left; (focus (intro wq hSw; clear hSw; go_simp; all_goals (with_reducible rfl))); simp only [Act.put, List.setIfInBounds_toArray, List.set_cons_zero, List.set_cons_succ])
              (refine wpAnyH_tk 5 (some 98) (v := ?_) rfl rfl ?_ ?_; rotate_left; (focus (intro wq hSw; clear hSw; go_simp; all_goals (with_reducible rfl))); simp only [Act.put, List.setIfInBounds_toArray, List.set_cons_zero, List.set_cons_succ])
              (refine wpAnyH_tk 6 (some 99) (v := ?_) rfl rfl ?_ ?_; rotate_left; (focus (intro wq hSw; clear hSw; go_simp; all_goals (with_reducible rfl))); simp only [Act.put, List.setIfInBounds_toArray, List.set_cons_zero, List.set_cons_succ])
              (refine wpAnyH_tk 7 (some 100) (v := ?_) rfl rfl ?_ ?_; rotate_left; (focus (intro wq hSw; clear hSw; go_simp; all_goals (with_reducible rfl))); simp only [Act.put, List.setIfInBounds_toArray, List.set_cons_zero, List.set_cons_succ])
              refine wpAnyH_ready (rs := [8]) (by kernel_rfl) (by simp) ?_
              refine AllReadyH.cons (o := _) rfl (fun K hK => ?_) AllReadyH.nil
              go_simp
              obtain ⟨g4, hg4⟩ : ∃ g, g = w7.heap.size := ⟨_, rfl⟩
              obtain ⟨ZB, hZB⟩ : ∃ Zr : World, Zr = w7.alloc (.cells #[.int .i64 0, .int .i64 0, .slice none 0 0] 24) := ⟨_, rfl⟩
              rw [← hg4, ← hZB]
              have hza : Blk ZB g4 24 [.int .i64 0, .int .i64 0, .slice none 0 0] := by rw [hZB, hg4]; exact Blk.new _ 24 [.int .i64 0, .int .i64 0, .slice none 0 0]
              have hbz : Below w7.heap.size w7 ZB := by rw [hZB]; exact bel_alloc (Below.refl _ _)
              have hbbz := bel_trans hbb7 hbz
              have hg4k : W6.heap.size ≤ g4 := by rw [hg4]; exact hbb7.size
              have HOZ := Lib.hid (HO7.out.up hbz)
              have hne7 : (Value.slice zA 64 zc).ownBlock ≠ some g4 := fun e => by have := (own_lt HO7.out g4 e).2; omega
              clear hg4 hZB
              refine hK.out _ _ (hS _ hbbz) (fun hHeld => ?_)
              clear hK K
              (try simp only [Act.put, List.setIfInBounds_toArray, List.set_cons_zero, List.set_cons_succ])
              refine wpAnyH_ready (rs := [9]) (by kernel_rfl) (by simp) ?_
              refine AllReadyH.cons (o := _) rfl (fun K hK => ?_) AllReadyH.nil
              have zl := hza.lt
              have zf := hza.frozen
              have z_0 := (hza.box).2 0 _ rfl; have z_1 := (hza.box).2 1 _ rfl; have z_2 := (hza.box).2 2 _ rfl
              go_simp
              clear zl zf z_0 z_1 z_2
              have hbb9 : Below W6.heap.size W6 _ := bel_set3 (bel_set3 (bel_set3 hbbz hg4k (o := 0) (v := .int .i64 1)) hg4k (o := 1) (v := .int .i64 4)) hg4k (o := 2) (v := .slice zA 64 zc)
              refine hK.out _ _ (hS _ hbb9) (fun hHeld => ?_)
              clear hK K
              (try simp only [Act.put, List.setIfInBounds_toArray, List.set_cons_zero, List.set_cons_succ])
              (refine wpAnyH_tk 10 (some 15) (v := ?_) rfl rfl ?_ ?_; rotate_left; (focus (intro wq hSw; clear hSw; go_simp; all_goals (with_reducible rfl))); simp only [Act.put, List.setIfInBounds_toArray, List.set_cons_zero, List.set_cons_succ])
              (refine wpAnyH_tk 11 (some 16) (v := ?_) rfl rfl ?_ ?_; rotate_left; (focus (intro wq hSw; clear hSw; go_simp; all_goals (with_reducible rfl))); simp only [Act.put, List.setIfInBounds_toArray, List.set_cons_zero, List.set_cons_succ])
              refine wpAnyH_done (by kernel_rfl) ?_ _
              go_wp2_with fail
              go_meet
              exact ⟨g4, zA, zc, oA, oc, rfl, rfl, rfl, Lib.hid (hza.putX _ _ _), Lib.hid (rowsRQ (((HOZ.out.setAp hne7).setAp hne7).setAp hne7) (roomR_len 64) (by omega)), hbb9⟩
            · skip
              go_simp
              obtain ⟨g4, hg4⟩ : ∃ g, g = Z.heap.size := ⟨_, rfl⟩
              obtain ⟨ZB, hZB⟩ : ∃ Zr : World, Zr = Z.alloc (.cells #[.int .i64 0, .int .i64 0, .slice none 0 0] 24) := ⟨_, rfl⟩
              rw [← hg4, ← hZB]
              have hza : Blk ZB g4 24 [.int .i64 0, .int .i64 0, .slice none 0 0] := by rw [hZB, hg4]; exact Blk.new _ 24 [.int .i64 0, .int .i64 0, .slice none 0 0]
              have hbz : Below Z.heap.size Z ZB := by rw [hZB]; exact bel_alloc (Below.refl _ _)
              have hbbz := bel_trans hbd hbz
              have hg4k : W6.heap.size ≤ g4 := by rw [hg4]; exact hbd.size
              clear hg4 hZB
              refine hK.out _ _ (hS _ hbbz) (fun hHeld => ?_)
              clear hK K
              (try simp only [Act.put, List.setIfInBounds_toArray, List.set_cons_zero, List.set_cons_succ])
              refine wpAnyH_ready (rs := [3]) (by kernel_rfl) (by simp) ?_
              refine AllReadyH.cons (o := _) rfl (fun K hK => ?_) AllReadyH.nil
              go_simp
              (go_at_call 10; refine (fetch_Want_ok 1 4 8 xA 64 xc (roomR 64) (some ⟨ab, ao, none⟩) 5 ac (allN 5) _ (HQ6.out.up hbbz) (HA5.out.up hbbz) HMR.out HK8.out HD5.out (by omega)).mono ?_; rintro e w7 ⟨vr7, vl7, rfl, hown7, hm7, hb7⟩)
              rw [want_full (R := roomR 64) (by rw [roomR_len]; exact Nat.le_refl _)] at hown7 hm7
              obtain ⟨C7, hm7⟩ : ∃ B, OwnMs w7 B vl7 [] := ⟨_, fL_none ▸ hm7⟩
              obtain ⟨oA, oc, rfl, -, -, -⟩ := hm7.msgs ⟨by simp, fun x h => by simp at h⟩
              obtain ⟨B7, hB7⟩ : ∃ B, B = ZB.heap.size + 2 := ⟨_, rfl⟩
              have hown7 : OwnQ w7 B7 vr7 (roomR 64) := by rw [hB7]; exact hown7
              obtain ⟨zA, zc, rfl, -⟩ := nmQ hown7 (roomR_len 64) (by omega)
              have HO7 := Lib.hid hown7
              have hbb7 := bel_trans hbbz hb7
              clear hown7 hm7
              have hza7 := hza.up hb7
              have hlow : g4 < B7 := by have := hza.lt; omega
              refine hK.out _ _ (hS _ hbb7) (fun hHeld => ?_)
              clear hK K
              (try simp only [Act.put, List.setIfInBounds_toArray, List.set_cons_zero, List.set_cons_succ])
              (refine wpAnyH_tk 4 (some 93) (v := ?_) rfl rfl ?_ ?_; rotate_left; (focus (intro wq hSw; clear hSw; go_simp; all_goals (with_reducible rfl))); simp only [Act.put, List.setIfInBounds_toArray, List.set_cons_zero, List.set_cons_succ])
              (refine wpAnyH_tk 5 (some 98) (v := ?_) rfl rfl ?_ ?_; rotate_left; (focus (intro wq hSw; clear hSw; go_simp; all_goals (with_reducible rfl))); simp only [Act.put, List.setIfInBounds_toArray, List.set_cons_zero, List.set_cons_succ])
              (refine wpAnyH_tk 6 (some 99) (v := ?_) rfl rfl ?_ ?_; rotate_left; (focus (intro wq hSw; clear hSw; go_simp; all_goals (with_reducible rfl))); simp only [Act.put, List.setIfInBounds_toArray, List.set_cons_zero, List.set_cons_succ])
              (refine wpAnyH_tk 7 (some 100) (v := ?_) rfl rfl ?_ ?_; rotate_left; (focus (intro wq hSw; clear hSw; go_simp; all_goals (with_reducible rfl))); simp only [Act.put, List.setIfInBounds_toArray, List.set_cons_zero, List.set_cons_succ])
              refine wpAnyH_ready (rs := [9]) (by kernel_rfl) (by simp) ?_
              refine AllReadyH.cons (o := _) rfl (fun K hK => ?_) AllReadyH.nil
              have zl := hza7.lt
              have zf := hza7.frozen
              have z_0 := (hza7.box).2 0 _ rfl; have z_1 := (hza7.box).2 1 _ rfl; have z_2 := (hza7.box).2 2 _ rfl
              go_simp
              clear zl zf z_0 z_1 z_2
              have hbb9 : Below W6.heap.size W6 _ := bel_set3 (bel_set3 (bel_set3 hbb7 hg4k (o := 0) (v := .int .i64 1)) hg4k (o := 1) (v := .int .i64 4)) hg4k (o := 2) (v := .slice zA 64 zc)
              have hne7 : (Value.slice zA 64 zc).ownBlock ≠ some g4 := fun e => by have := (own_lt HO7.out g4 e).1; omega
              refine hK.out _ _ (hS _ hbb9) (fun hHeld => ?_)
              clear hK K
              (try simp only [Act.put, List.setIfInBounds_toArray, List.set_cons_zero, List.set_cons_succ])
              (refine wpAnyH_tk 10 (some 15) (v := ?_) rfl rfl ?_ ?_; rotate_left; (focus (intro wq hSw; clear hSw; go_simp; all_goals (with_reducible rfl))); simp only [Act.put, List.setIfInBounds_toArray, List.set_cons_zero, List.set_cons_succ])
              (refine wpAnyH_tk 11 (some 16) (v := ?_) rfl rfl ?_ ?_; rotate_left; (focus (intro wq hSw; clear hSw; go_simp; all_goals (with_reducible rfl))); simp only [Act.put, List.setIfInBounds_toArray, List.set_cons_zero, List.set_cons_succ])
              refine wpAnyH_done (by kernel_rfl) ?_ _
              go_wp2_with fail
              go_meet
              exact ⟨g4, zA, zc, oA, oc, rfl, rfl, rfl, Lib.hid (hza7.putX _ _ _), Lib.hid (rowsRQ (((HO7.out.setAp hne7).setAp hne7).setAp hne7) (roomR_len 64) (by omega)), hbb9⟩
          case rest =>
          obtain ⟨g9, zA, zc, oA, oc, rfl, rfl, rfl, HZ9, HR9, hb9⟩ := hcut
          obtain ⟨wy, hwy⟩ : ∃ x, x = wc := ⟨_, rfl⟩
          subst hwy
          have HF9 := Lib.hid (HF6.out.up hb9)
          have HX9 := Lib.hid (HX6.out.up hb9)
          have HB9 := Lib.hid (HB6.out.up hb9)
          have HQ9 := Lib.hid (HQ6.out.up hb9)
          have HY9 := Lib.hid (HY6.out.up hb9)
          have HT9 := Lib.hid (HTI.out.up hb9)
          have HA9 := Lib.hid (HA64.out.up hb9)
          have hbw9 := bel_trans hb6 hb9
          clear HF6 HX6 HB6 HQ6 HY6 HTI HA64 HA5 hb6 hb9
          have fl := HF9.out.lt; have ff := HF9.out.frozen; have f_0 := (HF9.out.box).2 0 _ rfl; have f_1 := (HF9.out.box).2 1 _ rfl; have f_2 := (HF9.out.box).2 2 _ rfl
          have xl := HX9.out.lt; have xf := HX9.out.frozen; have x_0 := (HX9.out.box).2 0 _ rfl; have x_1 := (HX9.out.box).2 1 _ rfl; have x_2 := (HX9.out.box).2 2 _ rfl
          have zl := HZ9.out.lt; have zf := HZ9.out.frozen; have z_0 := (HZ9.out.box).2 0 _ rfl; have z_1 := (HZ9.out.box).2 1 _ rfl; have z_2 := (HZ9.out.box).2 2 _ rfl
          have bl := HB9.out.lt; have bf := HB9.out.frozen; have b_0 := (HB9.out.box).2 0 _ rfl; have b_1 := (HB9.out.box).2 1 _ rfl; have b_2 := (HB9.out.box).2 2 _ rfl; have b_3 := (HB9.out.box).2 3 _ rfl
          go_wp2_with (first | (go_at_call 11; refine (law21_num _ _).mono ?_; rintro e w' ⟨rfl, rfl⟩) | (go_at_call 14; refine (law21_wakes _).mono ?_; rintro e w19 ⟨rfl, hb19⟩; have hb19w := bel_trans hbC hb19) | (go_at_call 13; refine (ref0_EqFetch 1 4 zA 64 zc xA 64 xc (roomR 64) _ (HR9.out.up hbB) (HQ9.out.up hbB)).mono ?_; rintro e w18 ⟨rfl, hbC0⟩; have hbC := bel_trans hbB hbC0; clear fl ff f_0 f_1 f_2 xl xf x_0 x_1 x_2 zl zf z_0 z_1 z_2 bl bf b_0 b_1 b_2 b_3; have HFC := Lib.hid (HF9.out.up hbC); have HXC := Lib.hid (HX9.out.up hbC); have HZC := Lib.hid (HZ9.out.up hbC); have HBC := Lib.hid (HB9.out.up hbC); have fl := HFC.out.lt; have ff := HFC.out.frozen; have f_0 := (HFC.out.box).2 0 _ rfl; have f_1 := (HFC.out.box).2 1 _ rfl; have f_2 := (HFC.out.box).2 2 _ rfl; have xl := HXC.out.lt; have xf := HXC.out.frozen; have x_0 := (HXC.out.box).2 0 _ rfl; have x_1 := (HXC.out.box).2 1 _ rfl; have x_2 := (HXC.out.box).2 2 _ rfl; have zl := HZC.out.lt; have zf := HZC.out.frozen; have z_0 := (HZC.out.box).2 0 _ rfl; have z_1 := (HZC.out.box).2 1 _ rfl; have z_2 := (HZC.out.box).2 2 _ rfl; have bl := HBC.out.lt; have bf := HBC.out.frozen; have b_0 := (HBC.out.box).2 0 _ rfl; have b_1 := (HBC.out.box).2 1 _ rfl; have b_2 := (HBC.out.box).2 2 _ rfl; have b_3 := (HBC.out.box).2 3 _ rfl) | (go_at_call 13; refine (ref0_EqFetch 1 4 yA 64 yc xA 64 xc (roomR 64) _ (HY9.out.up hbA) (HQ9.out.up hbA)).mono ?_; rintro e w17 ⟨rfl, hbB0⟩; have hbB := bel_trans hbA hbB0; clear fl ff f_0 f_1 f_2 xl xf x_0 x_1 x_2 zl zf z_0 z_1 z_2 bl bf b_0 b_1 b_2 b_3; have HFB := Lib.hid (HF9.out.up hbB); have HXB := Lib.hid (HX9.out.up hbB); have HZB := Lib.hid (HZ9.out.up hbB); have HBB := Lib.hid (HB9.out.up hbB); have fl := HFB.out.lt; have ff := HFB.out.frozen; have f_0 := (HFB.out.box).2 0 _ rfl; have f_1 := (HFB.out.box).2 1 _ rfl; have f_2 := (HFB.out.box).2 2 _ rfl; have xl := HXB.out.lt; have xf := HXB.out.frozen; have x_0 := (HXB.out.box).2 0 _ rfl; have x_1 := (HXB.out.box).2 1 _ rfl; have x_2 := (HXB.out.box).2 2 _ rfl; have zl := HZB.out.lt; have zf := HZB.out.frozen; have z_0 := (HZB.out.box).2 0 _ rfl; have z_1 := (HZB.out.box).2 1 _ rfl; have z_2 := (HZB.out.box).2 2 _ rfl; have bl := HBB.out.lt; have bf := HBB.out.frozen; have b_0 := (HBB.out.box).2 0 _ rfl; have b_1 := (HBB.out.box).2 1 _ rfl; have b_2 := (HBB.out.box).2 2 _ rfl; have b_3 := (HBB.out.box).2 3 _ rfl) | (go_at_call 12; refine (ref0_EqNumbers_same _ _ _ (allN 64) _ _ _ _ HT9.out HA9.out).mono ?_; rintro e w16 ⟨rfl, hbA⟩; clear fl ff f_0 f_1 f_2 xl xf x_0 x_1 x_2 zl zf z_0 z_1 z_2 bl bf b_0 b_1 b_2 b_3; have HFA := Lib.hid (HF9.out.up hbA); have HXA := Lib.hid (HX9.out.up hbA); have HZA := Lib.hid (HZ9.out.up hbA); have HBA := Lib.hid (HB9.out.up hbA); have fl := HFA.out.lt; have ff := HFA.out.frozen; have f_0 := (HFA.out.box).2 0 _ rfl; have f_1 := (HFA.out.box).2 1 _ rfl; have f_2 := (HFA.out.box).2 2 _ rfl; have xl := HXA.out.lt; have xf := HXA.out.frozen; have x_0 := (HXA.out.box).2 0 _ rfl; have x_1 := (HXA.out.box).2 1 _ rfl; have x_2 := (HXA.out.box).2 2 _ rfl; have zl := HZA.out.lt; have zf := HZA.out.frozen; have z_0 := (HZA.out.box).2 0 _ rfl; have z_1 := (HZA.out.box).2 1 _ rfl; have z_2 := (HZA.out.box).2 2 _ rfl; have bl := HBA.out.lt; have bf := HBA.out.frozen; have b_0 := (HBA.out.box).2 0 _ rfl; have b_1 := (HBA.out.box).2 1 _ rfl; have b_2 := (HBA.out.box).2 2 _ rfl; have b_3 := (HBA.out.box).2 3 _ rfl))
          go_ret
          exact ⟨rfl, bel_trans hbw9 hb19w⟩
end Go.Proofs.Ytnngeaibdnnpoaa
