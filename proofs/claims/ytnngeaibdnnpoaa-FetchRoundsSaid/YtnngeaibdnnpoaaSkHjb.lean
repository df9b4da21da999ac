/- Fetch: the law FetchRounds. -/
import Derived.Test.YtnngeaibdnnpoaaSkHjc
import Derived.Test.YtnngeaibdnnpoaaSkHgb
namespace Go.Proofs.Ytnngeaibdnnpoaa
open Go.RowKit
set_option linter.unusedSimpArgs false
set_option linter.unusedVariables false

theorem wpList_takeG {P : Program} {ops : Array Oper} {Q : Exit → Act → World → Prop} {a : Act} {w : World} {rest : List Oper} {o : Oper} (hg : Region.wanted o (yielded ops a.tmps) = true)
    (h : ∀ K : Act → World → Prop, (∀ a w, wpList P ops Q rest a w → K a w) → o.wp P a w K Q) : wpList P ops Q (o :: rest) a w :=
  wpList_step fun K hK => by rw [if_pos hg]; exact h K hK
theorem bet_393 : betS [9, 3, 9] 1 65536 = true := dec_iff.2 (fun j hj => by
  have h : j = 0 ∨ j = 1 ∨ j = 2 := by have : j < 3 := hj; omega
  rcases h with rfl | rfl | rfl <;> exact ⟨by decide, by decide⟩)
theorem bet_39 : betS [3, 9] 1 65536 = true := dec_iff.2 (fun j hj => by
  have h : j = 0 ∨ j = 1 := by have : j < 2 := hj; omega
  rcases h with rfl | rfl <;> exact ⟨by decide, by decide⟩)
theorem ris_39 : risS [3, 9] = true := dec_iff.2 (fun j hj => by
  obtain rfl : j = 0 := by have : j + 1 < 2 := hj; omega
  decide)
theorem ints_393 (w : World) (b : Nat) (hb : b = w.heap.size) : IntsR (w.alloc (.cells #[.int .i64 9, .int .i64 3, .int .i64 9] 3)) (some ⟨b, 0, none⟩) 3 [9, 3, 9] := ⟨rfl, by omega, fun _ => ⟨b, 0, rfl, by rw [hb]; simp, fun j hj => by
  subst hb
  have h : j = 0 ∨ j = 1 ∨ j = 2 := by omega
  rcases h with rfl | rfl | rfl <;> simp [nth]⟩⟩
theorem ints_39 (w : World) (b : Nat) (hb : b = w.heap.size) : IntsR (w.alloc (.cells #[.int .i64 3, .int .i64 9] 3)) (some ⟨b, 0, none⟩) 2 [3, 9] := ⟨rfl, by omega, fun _ => ⟨b, 0, rfl, by rw [hb]; simp, fun j hj => by
  subst hb
  have h : j = 0 ∨ j = 1 := by omega
  rcases h with rfl | rfl <;> simp [nth]⟩⟩
def stR (k : Nat) (t : Int) : List FRowD := if k = 3 then rR 0 (t + 1) else rR (k : Int) t
theorem stR_len (k : Nat) (t : Int) : (stR k t).length = 2 := by unfold stR; split <;> rfl
theorem rowsJ {w : World} {B n c : Nat} {A : Option Addr} {l : List FRowD} (h : OwnQ w B (.slice A n c) l) (hn : l.length = n) (hm : n ≤ 9223372036854775807) : RowsR w A n l := by
  obtain ⟨A', c', e', h'⟩ := nmQ h hn hm
  injection e' with e1 e2 e3
  subst e1
  exact h'
theorem Blk.putJ {w : World} {g : Nat} {t : TypeId} {a b c : Value} (h : Blk w g t [a, b, c]) (x y z : Value) : Blk (((w.setCell ⟨g, 0, none⟩ x).setCell ⟨g, 1, none⟩ y).setCell ⟨g, 2, none⟩ z) g t [x, y, z] := ((h.set_ 0 x).set_ 1 y).set_ 2 z
theorem del_rR (t : Int) : delQ 7 3 (rR 0 t) = [⟨7, 9, 0, t⟩] := by
  unfold delQ
  rw [show posQ 7 3 (rR 0 t) = 0 from rfl]
  rfl
theorem fBig1 (id tt : Int) : BigMs [fMk 7 id tt [3, 9]] := ⟨by simp, fun x h => by
  rw [List.mem_singleton] at h
  subst h
  exact fBig (by simp)⟩
theorem fBig0 : BigMs [] := ⟨by simp, fun x h => by simp at h⟩
set_option maxRecDepth 100000 in
set_option maxHeartbeats 16000000 in
theorem law_FetchRounds (P : FScrP) (D : FScrD) (w : World) (h : FScrR w P D) :
    Calls Try.prog 7 #[P.val D] w fun e w' => e = .returned (.bool true) ∧ Below w.heap.size w w' := by
  obtain ⟨⟨rA, rn, rc⟩, ⟨lA, ln, lc⟩⟩ := P
  obtain ⟨⟨id0, nodes, rows⟩, L⟩ := D
  have hln : ln ≤ 17592186044416 := h.sl
  have hrn : rn ≤ 17592186044416 := h.sr
  clear h
  obtain ⟨q, hq⟩ : ∃ q, wiI (ln : Int) 4 = q := ⟨_, rfl⟩
  obtain ⟨n, hn⟩ : ∃ n, nOf q = n := ⟨_, rfl⟩
  have hf : four n := by rw [← hn]; exact nOf_four q
  have hnb := four_bd hf
  have hn4 : 4 ≤ n := hnb.1
  have hn16 : n ≤ 16 := hnb.2
  obtain ⟨z, hz⟩ : ∃ z, wiI (rn : Int) n = z := ⟨_, rfl⟩
  have hz0 : 0 ≤ z := by rw [← hz]; exact Int.emod_nonneg _ (by omega)
  have hzn : z < n := by rw [← hz]; exact Int.emod_lt_of_pos _ (by omega)
  have h4 : q = 0 ∨ q = 1 ∨ q = 2 ∨ q = 3 := by
    have a1 : 0 ≤ q := by rw [← hq]; exact Int.emod_nonneg _ (by omega)
    have a2 : q < 4 := by rw [← hq]; exact Int.emod_lt_of_pos _ (by omega)
    omega
  have HFN := Lib.hid hf
  have HQ4 := Lib.hid h4
  have HWQ := Lib.hid hq
  have HNO := Lib.hid hn
  have HWZ := Lib.hid hz
  have HS := Lib.hid (four_isS hf)
  have HK7 := Lib.hid (show kdS 7 = true by decide)
  have HD := Lib.hid bet_393
  have HB39 := Lib.hid bet_39
  have HR39 := Lib.hid ris_39
  clear hq hn hz hf h4 hnb
  show Calls Try.prog 7 #[.agg #[.int .i64 id0, .int .i64 nodes, .slice rA rn rc, .slice lA ln lc]] w _
  go_enter Try.func7, Try.ntmps7
  go_upto_region 1 with fail
  refine wp_two (fun W0 hW0 => ?_)
  have HB0 : Hid (Blk W0 w.heap.size 27 [.int .i64 id0, .int .i64 nodes, .slice rA rn rc, .slice lA ln lc]) := Lib.hid (by rw [hW0]; exact Blk.new w 27 [.int .i64 id0, .int .i64 nodes, .slice rA rn rc, .slice lA ln lc])
  have hb0 : Below w.heap.size w W0 := by rw [hW0]; (repeat (first | (with_reducible exact Below.refl _ _) | (with_reducible assumption) | (with_reducible apply bel_alloc) | (with_reducible apply bel_drew) | (with_reducible apply bel_drewN) | (with_reducible refine bel_trans ?_ (by with_reducible assumption)) | (with_reducible refine bel_trans ?_ (HF.out _)) | (with_reducible refine bel_set ?_ (by simp) _) | (with_reducible refine bel_set ?_ (by simp; omega) _) | (with_reducible refine bel_set ?_ (by omega) _)))
  clear hW0
  have bl := HB0.out.lt; have bf := HB0.out.frozen; have b_0 := (HB0.out.box).2 0 _ rfl; have b_1 := (HB0.out.box).2 1 _ rfl; have b_2 := (HB0.out.box).2 2 _ rfl; have b_3 := (HB0.out.box).2 3 _ rfl
  go_cut [3] from 18 to 24 (fun s3 wx => s3 = .int .i64 n ∧ Below W0.heap.size W0 wx)
  case first =>
    rcases HQ4.out with e | e | e | e
    all_goals
      subst e
      go_wp2_with (go_at_call 16; refine (law0_Within (ln : Int) 4 _ _ (by omega) (by omega) HWQ.out).mono ?_; rintro e w' ⟨rfl, rfl⟩)
      go_meet
      exact ⟨by rw [← HNO.out]; rfl, by (repeat (first | (with_reducible exact Below.refl _ _) | (with_reducible assumption) | (with_reducible apply bel_alloc) | (with_reducible apply bel_drew) | (with_reducible apply bel_drewN) | (with_reducible refine bel_trans ?_ (by with_reducible assumption)) | (with_reducible refine bel_trans ?_ (HF.out _)) | ((with_reducible refine bel_set3 ?_ ?_); rotate_left; omega)))⟩
  case rest =>
  obtain ⟨rfl, hbq⟩ := hcut
  obtain ⟨wq, hwq⟩ : ∃ x, x = wc := ⟨_, rfl⟩
  subst hwq
  clear bl bf b_0 b_1 b_2 b_3
  have HBQ := Lib.hid (HB0.out.up hbq)
  have hb1 := bel_trans hb0 hbq
  clear HB0 hb0 hbq
  have bl := HBQ.out.lt; have bf := HBQ.out.frozen; have b_0 := (HBQ.out.box).2 0 _ rfl; have b_1 := (HBQ.out.box).2 1 _ rfl; have b_2 := (HBQ.out.box).2 2 _ rfl; have b_3 := (HBQ.out.box).2 3 _ rfl
  have hn1000 : n ≤ 1000 := by omega
  have hn1 : 1 ≤ n := by omega
  go_upto_region 3 with (go_at_call 16; refine (law0_Within (rn : Int) n _ _ hn1 hn1000 HWZ.out).mono ?_; rintro e w' ⟨rfl, rfl⟩)
  obtain ⟨id, hid⟩ : ∃ x, x = 1 + z := ⟨_, rfl⟩
  rw [← hid]
  have h1 : 1 ≤ id := by omega
  have h2 : id ≤ n := by omega
  clear hid hz0 hzn bl bf b_0 b_1 b_2 b_3
  go_upto_region 4 with (go_at_call 9; refine (fetch_New id n _ HS.out h1 h2).mono ?_; rintro e w3 ⟨rfl, hb3⟩)
  refine wp_two (fun W3 hW3 => ?_)
  obtain ⟨gf, hgf⟩ : ∃ g, g = w3.heap.size := ⟨_, rfl⟩
  have h3W : Below w3.heap.size w3 W3 := by rw [hW3]; exact bel_alloc (Below.refl _ _)
  have HF3 : Hid (Blk W3 gf 24 [.int .i64 id, .int .i64 n, .slice none 0 0]) := Lib.hid (by rw [hW3, hgf]; exact Blk.new w3 24 [.int .i64 id, .int .i64 n, .slice none 0 0])
  have hbw3 : Below w.heap.size w W3 := bel_trans (bel_trans hb1 hb3) h3W
  have hgfw : w.heap.size ≤ gf := by rw [hgf]; exact (bel_trans hb1 hb3).size
  rw [← hgf]
  clear hW3 hgf h3W HBQ hb1 hb3
  have fl := HF3.out.lt; have ff := HF3.out.frozen; have f_0 := (HF3.out.box).2 0 _ rfl; have f_1 := (HF3.out.box).2 1 _ rfl; have f_2 := (HF3.out.box).2 2 _ rfl
  have HM0 := Lib.hid (mayF_new id n HS.out h1 h2)
  have hn2 : 2 ≤ n := by omega
  go_upto_region 7 with (first | (go_at_call 11; refine (law21_num _ _).mono ?_; rintro e w' ⟨rfl, rfl⟩) | (go_at_call 10; refine (fetch_Want_ok id n 7 none 0 0 [] _ 3 3 [9, 3, 9] _ (RowsR.nil _ _) (by exact ints_393 _ _ (by simp)) HM0.out HK7.out HD.out (by omega)).mono ?_; rintro e w4 ⟨vr, vl, rfl, hown4, hm4, hb4⟩; rw [want_93] at hown4 hm4; (obtain ⟨B4, hB4, hown4, hm4⟩ : ∃ B, gf < B ∧ OwnQ w4 B vr (rR 0 0) ∧ OwnMs w4 B vl (fL id n (rR 0 0)) := ⟨_, by have h9 := HF3.out.lt; simp; omega, hown4, hm4⟩); rw [fL_rR 0 0 h1 h2 hn2 hn16] at hm4; (obtain ⟨fA, fc, rfl, -⟩ := nmQ (n := 2) hown4 rfl (by omega)); have hb34 := bel_trans (bel_alloc (Below.refl _ _) : Below W3.heap.size W3 (W3.alloc (.cells #[.int .i64 9, .int .i64 3, .int .i64 9] 3))) hb4; clear fl ff f_0 f_1 f_2; have HF4 := Lib.hid (HF3.out.up hb34); have fl := HF4.out.lt; have ff := HF4.out.frozen; have f_0 := (HF4.out.box).2 0 _ rfl; have f_1 := (HF4.out.box).2 1 _ rfl; have f_2 := (HF4.out.box).2 2 _ rfl))
  clear fl ff f_0 f_1 f_2
  refine wp_two (fun W5 hW5 => ?_)
  have HF5 : Hid (Blk W5 gf 24 [.int .i64 id, .int .i64 n, .slice fA 2 fc]) := Lib.hid (by rw [hW5]; exact HF4.out.putJ _ _ _)
  have HR5 : Hid (RowsR W5 fA 2 (rR 0 0)) := Lib.hid (by rw [hW5]; exact rowsJ (((hown4.set3 hB4 _).set3 hB4 _).set3 hB4 _) rfl (by omega))
  have HM5 : Hid (OwnMs W5 B4 vl [fMk 7 id (peerI id n 0) [3, 9]]) := Lib.hid (by rw [hW5]; exact ((hm4.low hB4).low hB4).low hB4)
  have hbw5 : Below w.heap.size w W5 := by rw [hW5]; exact bel_set3 (bel_set3 (bel_set3 (bel_trans hbw3 hb34) hgfw) hgfw) hgfw
  clear hW5 hown4 hm4 hb34 hb4 HF3 HF4 hbw3 HM0 HD
  obtain ⟨mA, mc, em, hmr, -, -⟩ := HM5.out.msgs (fBig1 id _)
  rw [show ([fMk 7 id (peerI id n 0) [3, 9]] : List MsgD).length = 1 from rfl] at em hmr
  subst em
  have HMR := Lib.hid hmr
  clear hmr HM5
  have fl := HF5.out.lt; have ff := HF5.out.frozen; have f_0 := (HF5.out.box).2 0 _ rfl; have f_1 := (HF5.out.box).2 1 _ rfl; have f_2 := (HF5.out.box).2 2 _ rfl
  go_wp2_with (go_at_call 11; refine (law21_num _ _).mono ?_; rintro e w' ⟨rfl, rfl⟩)
  clear fl ff f_0 f_1 f_2
  go_loopw [7, 8, 9] (fun s7 s8 s9 wr => ∃ (t : Nat) (fA : Option Addr) (fc : Nat) (mA : Option Addr) (mc : Nat), (t : Int) ≤ 3 * n ∧ s7 = .slice mA 1 mc ∧ s8 = .int .i64 (atI id n t) ∧ s9 = .int .i64 (t : Int) ∧ Hid (MsgsR wr mA 1 [fMk 7 id (peerI id n (t : Int)) [3, 9]]) ∧ Hid (Blk wr gf 24 [.int .i64 id, .int .i64 n, .slice fA 2 fc]) ∧ Hid (RowsR wr fA 2 (rR 0 (t : Int))) ∧ Below w.heap.size w wr) (fun _ _ s9 _ => 100 - (intOf s9).toNat)
  case atStart => exact ⟨0, fA, fc, mA, mc, by simp; omega, rfl, rfl, rfl, HMR, HF5, HR5, hbw5⟩
  case round =>
    clear HMR HF5 HR5 hbw5
    obtain ⟨t, fA, fc, mA, mc, ht, rfl, rfl, rfl, HMR, HF, HR, hbw⟩ := hrel
    (obtain ⟨wk, hwk⟩ : ∃ x, x = wr := ⟨_, rfl⟩); subst hwk
    by_cases hlt : (t : Int) < 3 * n
    · skip
      have hq1 : decide ((t : Int) < 3 * n) = true := by simpa using hlt
      obtain ⟨pr, hpr⟩ : ∃ x, peerI id n (t : Int) = x := ⟨_, rfl⟩
      have hpp := peer_pos (t := (t : Int)) h1 h2 hn2 hn16
      have hpn := peer_ne HFN.out h1 h2 t
      obtain ⟨⟨a1, a2⟩, ⟨b1, b2⟩, c1, c2⟩ := at_next HFN.out h1 h2 t
      have haz0 : 0 ≤ atI id n t := by cases t with | zero => (show 0 ≤ id; omega) | succ t => (have := (peer_pos (t := (t : Int)) h1 h2 hn2 hn16).1; show 0 ≤ peerI id n (t : Int); omega)
      rw [hpr] at HMR hpp hpn c1 c2
      simp only [Int.emod_add_emod] at b1 b2 c1
      obtain ⟨az, haz⟩ : ∃ x, atI id n t = x := ⟨_, rfl⟩
      rw [haz] at a1 a2 b1 b2 c1 c2 haz0 ⊢
      have HPR := Lib.hid hpr
      have HC1 := Lib.hid c1
      have HC2 := Lib.hid c2
      have hpr1 := hpp.1
      have hpr2 := hpp.2
      have HPN := Lib.hid hpn
      have ht48 : (t : Int) ≤ 48 := by omega
      have hn0 : n ≠ 0 := by omega
      have hnz : (n == 0) = false := by simp; omega
      clear hpr haz c1 c2 hpp hpn
      go_upto_if 70 with fail
      go_cut [8] from 68 to 74 (fun s8 wx => s8 = .int .i64 pr ∧ wk = wx)
      case first =>
        by_cases he : az % n + 1 = id
        · have e1 : (az % n + 1 == id) = true := by simp [he]
          have e2 := HC1.out he
          have a5 : 0 ≤ az % n + 1 := by omega
          have HE2 := Lib.hid e2
          clear he e2
          go_wp2_with fail
          go_meet
          exact ⟨by rw [HE2.out], rfl⟩
        · have e1 : (az % n + 1 == id) = false := by simp [he]
          have e2 := HC2.out he
          have HE2 := Lib.hid e2
          clear he e2
          go_wp2_with fail
          go_meet
          exact ⟨by rw [HE2.out], rfl⟩
      case rest =>
      obtain ⟨hs8, hwx⟩ := hcut
      subst hs8
      subst hwx
      clear a1 a2 b1 b2 haz0 hn0 hnz HC1 HC2
      obtain ⟨mb, mo, rfl, hmb, hmc⟩ := HMR.out.2.2 (by omega)
      obtain ⟨⟨⟨bA, bn, bc⟩, ⟨⟨xA, xn, xc⟩, ⟨yA, yn, yc⟩⟩, ⟨⟨⟨cA, cn, cd⟩, ⟨dA, dn, dc⟩⟩, ⟨sA, sn, sc⟩⟩, ⟨eA, en, ec⟩⟩, hP, hin⟩ := hmc 0 (by omega)
      have hds : IntsR wk eA en [3, 9] := hin.ds
      obtain rfl : en = 2 := hds.1.symm
      have HRG : Hid (wk.rangeAt mb mo [.int .i64 7, .int .i64 id, .int .i64 pr, .int .i64 0, .int .i64 0, .int .i64 0, .slice bA bn bc, .int .i64 0, .int .i64 0, .slice xA xn xc, .slice yA yn yc, .int .i64 0, .int .i64 0, .slice cA cn cd, .slice dA dn dc, .int .i64 0, .slice sA sn sc, .slice eA 2 ec]) := Lib.hid (fun r u hu => by have h9 := hP r u hu; rwa [Nat.zero_mul, Nat.add_zero] at h9)
      have HIN : Hid (MsgR wk ⟨⟨bA, bn, bc⟩, ⟨⟨xA, xn, xc⟩, ⟨yA, yn, yc⟩⟩, ⟨⟨⟨cA, cn, cd⟩, ⟨dA, dn, dc⟩⟩, ⟨sA, sn, sc⟩⟩, ⟨eA, 2, ec⟩⟩ (fMk 7 id pr [3, 9])) := Lib.hid hin
      have HDS := Lib.hid hds
      clear hmc hP hin hds HMR
      go_upto_region 16 with fail
      skip
      refine wp_region_list ?_
      simp only [List.append_eq, List.append, List.cons_append, List.nil_append, List.toList_toArray]
      refine wpList_plain rfl (fun K hK => ?_)
      go_simp
      refine hK _ _ ?_
      clear hK K
      (try simp only [Act.put, List.setIfInBounds_toArray, List.set_cons_zero, List.set_cons_succ])
      refine wpList_plain rfl (fun K hK => ?_)
      go_simp
      refine hK _ _ ?_
      clear hK K
      (try simp only [Act.put, List.setIfInBounds_toArray, List.set_cons_zero, List.set_cons_succ])
      refine wpList_plain rfl (fun K hK => ?_)
      go_simp
      refine hK _ _ ?_
      clear hK K
      (try simp only [Act.put, List.setIfInBounds_toArray, List.set_cons_zero, List.set_cons_succ])
      refine wpList_plain rfl (fun K hK => ?_)
      go_simp
      refine hK _ _ ?_
      clear hK K
      (try simp only [Act.put, List.setIfInBounds_toArray, List.set_cons_zero, List.set_cons_succ])
      refine wpList_takeG (by kernel_rfl) (fun K hK => ?_)
      go_simp
      refine hK _ _ ?_
      clear hK K
      (try simp only [Act.put, List.setIfInBounds_toArray, List.set_cons_zero, List.set_cons_succ])
      refine wpList_takeG (by kernel_rfl) (fun K hK => ?_)
      go_simp
      refine hK _ _ ?_
      clear hK K
      (try simp only [Act.put, List.setIfInBounds_toArray, List.set_cons_zero, List.set_cons_succ])
      refine wpList_takeG (by kernel_rfl) (fun K hK => ?_)
      go_simp
      refine hK _ _ ?_
      clear hK K
      (try simp only [Act.put, List.setIfInBounds_toArray, List.set_cons_zero, List.set_cons_succ])
      refine wpList_takeG (by kernel_rfl) (fun K hK => ?_)
      have r2 := HRG.out 2 _ rfl
      go_simp
      refine hK _ _ ?_
      clear hK K
      clear r2
      (try simp only [Act.put, List.setIfInBounds_toArray, List.set_cons_zero, List.set_cons_succ])
      refine wpList_takeG (by kernel_rfl) (fun K hK => ?_)
      go_simp
      refine hK _ _ ?_
      clear hK K
      (try simp only [Act.put, List.setIfInBounds_toArray, List.set_cons_zero, List.set_cons_succ])
      refine wpList_takeG (by kernel_rfl) (fun K hK => ?_)
      go_simp
      refine hK _ _ ?_
      clear hK K
      (try simp only [Act.put, List.setIfInBounds_toArray, List.set_cons_zero, List.set_cons_succ])
      refine wpList_plain rfl (fun K hK => ?_)
      go_simp
      refine hK _ _ ?_
      clear hK K
      (try simp only [Act.put, List.setIfInBounds_toArray, List.set_cons_zero, List.set_cons_succ])
      refine wpList_plain rfl (fun K hK => ?_)
      go_simp
      refine hK _ _ ?_
      clear hK K
      (try simp only [Act.put, List.setIfInBounds_toArray, List.set_cons_zero, List.set_cons_succ])
      refine wpList_takeG (by kernel_rfl) (fun K hK => ?_)
      go_simp
      refine hK _ _ ?_
      clear hK K
      (try simp only [Act.put, List.setIfInBounds_toArray, List.set_cons_zero, List.set_cons_succ])
      refine wpList_takeG (by kernel_rfl) (fun K hK => ?_)
      go_simp
      refine hK _ _ ?_
      clear hK K
      (try simp only [Act.put, List.setIfInBounds_toArray, List.set_cons_zero, List.set_cons_succ])
      refine wpList_takeG (by kernel_rfl) (fun K hK => ?_)
      go_simp
      refine hK _ _ ?_
      clear hK K
      (try simp only [Act.put, List.setIfInBounds_toArray, List.set_cons_zero, List.set_cons_succ])
      refine wpList_takeG (by kernel_rfl) (fun K hK => ?_)
      have r1 := HRG.out 1 _ rfl
      go_simp
      refine hK _ _ ?_
      clear hK K
      clear r1
      (try simp only [Act.put, List.setIfInBounds_toArray, List.set_cons_zero, List.set_cons_succ])
      refine wpList_takeG (by kernel_rfl) (fun K hK => ?_)
      go_simp
      refine hK _ _ ?_
      clear hK K
      (try simp only [Act.put, List.setIfInBounds_toArray, List.set_cons_zero, List.set_cons_succ])
      refine wpList_takeG (by kernel_rfl) (fun K hK => ?_)
      go_simp
      refine hK _ _ ?_
      clear hK K
      (try simp only [Act.put, List.setIfInBounds_toArray, List.set_cons_zero, List.set_cons_succ])
      refine wpList_plain rfl (fun K hK => ?_)
      go_simp
      refine hK _ _ ?_
      clear hK K
      (try simp only [Act.put, List.setIfInBounds_toArray, List.set_cons_zero, List.set_cons_succ])
      refine wpList_plain rfl (fun K hK => ?_)
      go_simp
      refine hK _ _ ?_
      clear hK K
      (try simp only [Act.put, List.setIfInBounds_toArray, List.set_cons_zero, List.set_cons_succ])
      refine wpList_takeG (by kernel_rfl) (fun K hK => ?_)
      go_simp
      refine hK _ _ ?_
      clear hK K
      (try simp only [Act.put, List.setIfInBounds_toArray, List.set_cons_zero, List.set_cons_succ])
      refine wpList_takeG (by kernel_rfl) (fun K hK => ?_)
      go_simp
      refine hK _ _ ?_
      clear hK K
      (try simp only [Act.put, List.setIfInBounds_toArray, List.set_cons_zero, List.set_cons_succ])
      refine wpList_takeG (by kernel_rfl) (fun K hK => ?_)
      go_simp
      refine hK _ _ ?_
      clear hK K
      (try simp only [Act.put, List.setIfInBounds_toArray, List.set_cons_zero, List.set_cons_succ])
      refine wpList_takeG (by kernel_rfl) (fun K hK => ?_)
      have r17 := HRG.out 17 _ rfl
      go_simp
      refine hK _ _ ?_
      clear hK K
      clear r17
      (try simp only [Act.put, List.setIfInBounds_toArray, List.set_cons_zero, List.set_cons_succ])
      refine wpList_takeG (by kernel_rfl) (fun K hK => ?_)
      go_simp
      refine hK _ _ ?_
      clear hK K
      (try simp only [Act.put, List.setIfInBounds_toArray, List.set_cons_zero, List.set_cons_succ])
      obtain ⟨gb, hgb⟩ : ∃ g, g = wk.heap.size := ⟨_, rfl⟩
      have hI39 : IntsR (wk.alloc (.cells #[.int .i64 3, .int .i64 9] 3)) (some ⟨gb, 0, none⟩) 2 [3, 9] := ints_39 wk gb hgb
      have hba : Below wk.heap.size wk (wk.alloc (.cells #[.int .i64 3, .int .i64 9] 3)) := bel_alloc (Below.refl _ _)
      rw [← hgb]
      generalize wk.alloc (.cells #[.int .i64 3, .int .i64 9] 3) = wa at *
      clear hgb
      refine wpList_takeG (by kernel_rfl) (fun K hK => ?_)
      go_simp
      refine (ref0_EqNumbers_same _ _ _ [3, 9] _ _ _ _ (HDS.out.up hba) hI39).mono ?_
      rintro e w5 ⟨rfl, hb5⟩
      dsimp only
      refine hK _ _ ?_
      clear hK K
      (try simp only [Act.put, List.setIfInBounds_toArray, List.set_cons_zero, List.set_cons_succ])
      have hb05 := bel_trans hba hb5
      clear hI39 hba hb5
      refine wpList_takeG (by kernel_rfl) (fun K hK => ?_)
      go_simp
      refine hK _ _ ?_
      clear hK K
      (try simp only [Act.put, List.setIfInBounds_toArray, List.set_cons_zero, List.set_cons_succ])
      refine wpList_plain rfl (fun K hK => ?_)
      go_simp
      refine hK _ _ ?_
      clear hK K
      (try simp only [Act.put, List.setIfInBounds_toArray, List.set_cons_zero, List.set_cons_succ])
      refine wpList_plain rfl (fun K hK => ?_)
      go_simp
      refine hK _ _ ?_
      clear hK K
      (try simp only [Act.put, List.setIfInBounds_toArray, List.set_cons_zero, List.set_cons_succ])
      refine wpList_takeG (by kernel_rfl) (fun K hK => ?_)
      go_simp
      refine hK _ _ ?_
      clear hK K
      (try simp only [Act.put, List.setIfInBounds_toArray, List.set_cons_zero, List.set_cons_succ])
      refine wpList_takeG (by kernel_rfl) (fun K hK => ?_)
      go_simp
      refine hK _ _ ?_
      clear hK K
      (try simp only [Act.put, List.setIfInBounds_toArray, List.set_cons_zero, List.set_cons_succ])
      refine wpList_load_midG (by kernel_rfl) 44 _ rfl mb mo (by simp [Act.eval, Act.put]) [.int .i64 7, .int .i64 id, .int .i64 pr, .int .i64 0, .int .i64 0, .int .i64 0, .slice bA bn bc, .int .i64 0, .int .i64 0, .slice xA xn xc, .slice yA yn yc, .int .i64 0, .int .i64 0, .slice cA cn cd, .slice dA dn dc, .int .i64 0, .slice sA sn sc, .slice eA 2 ec] _ (fun r u hu => ((bcell hb05).1 mb (mo + r) hmb).trans (HRG.out r u hu)) Try.underlying44 (by rfl) (by kernel_rfl) ?_
      (try simp only [Act.put, List.setIfInBounds_toArray, List.set_cons_zero, List.set_cons_succ, List.toList_toArray])
      refine wpList_takeG (by kernel_rfl) (fun K hK => ?_)
      go_simp
      refine hK _ _ ?_
      clear hK K
      (try simp only [Act.put, List.setIfInBounds_toArray, List.set_cons_zero, List.set_cons_succ])
      refine wpList_takeG (by kernel_rfl) (fun K hK => ?_)
      go_simp
      refine (ref4_Message_f ⟨⟨bA, bn, bc⟩, ⟨⟨xA, xn, xc⟩, ⟨yA, yn, yc⟩⟩, ⟨⟨⟨cA, cn, cd⟩, ⟨dA, dn, dc⟩⟩, ⟨sA, sn, sc⟩⟩, ⟨eA, 2, ec⟩⟩ id pr n [3, 9] _ (HIN.out.up hb05) HS.out h1 h2 hpr1 hpr2 (fun e => HPN.out e.symm) (by decide) (by decide) HB39.out HR39.out).mono ?_
      rintro e w6 ⟨rfl, hb56⟩
      dsimp only
      refine hK _ _ ?_
      clear hK K
      (try simp only [Act.put, List.setIfInBounds_toArray, List.set_cons_zero, List.set_cons_succ])
      have hb6 := bel_trans hb05 hb56
      clear hb05 hb56
      refine wpList_takeG (by kernel_rfl) (fun K hK => ?_)
      go_simp
      refine hK _ _ ?_
      clear hK K
      (try simp only [Act.put, List.setIfInBounds_toArray, List.set_cons_zero, List.set_cons_succ])
      refine wpList_plain rfl (fun K hK => ?_)
      go_simp
      refine hK _ _ ?_
      clear hK K
      (try simp only [Act.put, List.setIfInBounds_toArray, List.set_cons_zero, List.set_cons_succ])
      refine wpList_nil ?_
      have HF6 := Lib.hid (HF.out.up hb6)
      have HR6 := Lib.hid (HR.out.up hb6)
      have hbw6 := bel_trans hbw hb6
      obtain ⟨wu, hwu⟩ : ∃ x, x = w6 := ⟨_, rfl⟩
      subst hwu
      clear HF HR HRG HIN HDS hb6 hmb hbw
      go_wp2_with fail
      go_loopw [7, 10] (fun s7 s10 wr => ∃ (k : Nat) (fA : Option Addr) (fc : Nat), k ≤ 3 ∧ s10 = .int .i64 (k : Int) ∧ Hid (k < 3 → s7 = .slice none 0 0) ∧ Hid (k = 3 → ∃ (mA : Option Addr) (mc : Nat), s7 = .slice mA 1 mc ∧ MsgsR wr mA 1 [fMk 7 id (peerI id n ((t : Int) + 1)) [3, 9]]) ∧ Hid (Blk wr gf 24 [.int .i64 id, .int .i64 n, .slice fA 2 fc]) ∧ Hid (RowsR wr fA 2 (stR k (t : Int))) ∧ Below w.heap.size w wr) (fun _ s10 _ => 3 - (intOf s10).toNat)
      case atStart => exact ⟨0, fA, fc, by omega, rfl, Lib.hid (fun _ => rfl), Lib.hid (fun h => absurd h (by omega)), HF6, HR6, hbw6⟩
      case round =>
        clear HF6 HR6 hbw6
        obtain ⟨k, fA, fc, hk, rfl, HS7, HS3, HF, HR, hbw⟩ := hrel
        (obtain ⟨wi, hwi⟩ : ∃ x, x = wr := ⟨_, rfl⟩); subst hwi
        by_cases hk3 : k < 3
        · skip
          by_cases hk2 : k < 2
          · skip
            have s7e := HS7.out (by omega)
            subst s7e
            have hk01 : (k : Int) = 0 ∨ (k : Int) = 1 := by omega
            have HTK := Lib.hid (tick_rR (a := (k : Int)) (t := (t : Int)) hk01)
            have HFL := Lib.hid (fL_nil (id := id) hn2)
            have HRN := HR
            rw [show stR k (t : Int) = rR (k : Int) (t : Int) by unfold stR; rw [if_neg (by omega)]] at HRN
            clear HR
            have HR := HRN
            have HMY := Lib.hid (may_rR (a := (k : Int)) (t := (t : Int)) HS.out h1 h2 (by omega) (by omega))
            have q3 : decide ((k : Int) < 3) = true := by simp; omega
            have q2 : decide ((k : Int) < 2) = true := by simp; omega
            clear hk01
            have fl := HF.out.lt; have ff := HF.out.frozen; have f_0 := (HF.out.box).2 0 _ rfl; have f_1 := (HF.out.box).2 1 _ rfl; have f_2 := (HF.out.box).2 2 _ rfl
            go_upto_region 23 with (go_at_call 18; refine (fetch_Tick_ok id n fA 2 fc (rR (k : Int) (t : Int)) _ HR.out HMY.out).mono ?_; rintro e w7 ⟨vr, vl, rfl, hown7, hm7, hb7⟩; rw [HTK.out.1] at hown7; rw [HTK.out.2] at hm7; (obtain ⟨B7, hB7, hown7, hm7⟩ : ∃ B, gf < B ∧ OwnQ w7 B vr (rR ((k : Int) + 1) (t : Int)) ∧ OwnMs w7 B vl (fL id n ([])) := ⟨_, by have h9 := HF.out.lt; omega, hown7, hm7⟩); rw [HFL.out] at hm7; (obtain ⟨xA, xc, rfl, -⟩ := nmQ (n := 2) hown7 rfl (by omega)); clear fl ff f_0 f_1 f_2)
            refine wp_two (fun W8 hW8 => ?_)
            obtain ⟨gx, hgx⟩ : ∃ g, g = w7.heap.size := ⟨_, rfl⟩
            have h8W : Below w7.heap.size w7 W8 := by rw [hW8]; exact bel_alloc (Below.refl _ _)
            have HX8 : Hid (Blk W8 gx 24 [.int .i64 id, .int .i64 n, .slice xA 2 xc]) := Lib.hid (by rw [hW8, hgx]; exact Blk.new w7 24 [.int .i64 id, .int .i64 n, .slice xA 2 xc])
            have HF8 := Lib.hid ((HF.out.up hb7).up h8W)
            have HO8 := Lib.hid (hown7.up h8W)
            have HM8 := Lib.hid (hm7.up h8W)
            have hbw8 : Below w.heap.size w W8 := bel_trans (bel_trans hbw hb7) h8W
            rw [← hgx]
            clear hW8 hgx h8W hown7 hm7 hb7 HF HR HRN hbw HTK HFL HMY
            obtain ⟨oA, oc, eo, -, -, -⟩ := HM8.out.msgs fBig0
            rw [show ([] : List MsgD).length = 0 from rfl] at eo
            subst eo
            have fl := HF8.out.lt; have ff := HF8.out.frozen; have f_0 := (HF8.out.box).2 0 _ rfl; have f_1 := (HF8.out.box).2 1 _ rfl; have f_2 := (HF8.out.box).2 2 _ rfl
            have xl := HX8.out.lt; have xf := HX8.out.frozen; have x_0 := (HX8.out.box).2 0 _ rfl; have x_1 := (HX8.out.box).2 1 _ rfl; have x_2 := (HX8.out.box).2 2 _ rfl
            go_upto_region 26 with (go_at_call 11; refine (law21_num _ _).mono ?_; rintro e w' ⟨rfl, rfl⟩)
            clear fl ff f_0 f_1 f_2 xl xf x_0 x_1 x_2
            refine wp_two (fun W9 hW9 => ?_)
            have HF9 : Hid (Blk W9 gf 24 [.int .i64 id, .int .i64 n, .slice xA 2 xc]) := Lib.hid (by rw [hW9]; exact HF8.out.putJ _ _ _)
            have HR9 : Hid (RowsR W9 xA 2 (rR ((k : Int) + 1) (t : Int))) := Lib.hid (by rw [hW9]; exact rowsJ (((HO8.out.set3 hB7 _).set3 hB7 _).set3 hB7 _) rfl (by omega))
            have hbw9 : Below w.heap.size w W9 := by rw [hW9]; exact bel_set3 (bel_set3 (bel_set3 hbw8 hgfw) hgfw) hgfw
            clear hW9 HF8 HO8 HM8 HX8 hbw8
            have HR9' : Hid (RowsR W9 xA 2 (stR (k + 1) (t : Int))) := Lib.hid (by have h9 := HR9.out; unfold stR; rw [if_neg (by omega)]; rw [show ((k + 1 : Nat) : Int) = (k : Int) + 1 by omega]; exact h9)
            clear HR9
            go_wp2_with (at_builtin; refine wpList_app0M rfl (.tmp 134) (.tmp 135) rfl rfl _ _ rfl ?_)
            (first | (go_round; (case rel => exact ⟨k + 1, xA, xc, by omega, by go_num, Lib.hid (fun _ => rfl), Lib.hid (fun h => absurd h (by omega)), HF9, HR9', hbw9⟩); (case measure => (simp [intOf] <;> omega))) | (go_roundw; (case rel => exact ⟨k + 1, xA, xc, by omega, by go_num, Lib.hid (fun _ => rfl), Lib.hid (fun h => absurd h (by omega)), HF9, HR9', hbw9⟩); (case measure => (simp [intOf] <;> omega))) | (refine ⟨?_, by simp [intOf] <;> omega⟩; (repeat apply Exists.intro); refine ⟨?rel, ?fr⟩; (case fr => ((repeat' apply And.intro) <;> rfl)); (case rel => exact ⟨k + 1, xA, xc, by omega, by go_num, Lib.hid (fun _ => rfl), Lib.hid (fun h => absurd h (by omega)), HF9, HR9', hbw9⟩)))
          · skip
            obtain rfl : k = 2 := by omega
            have s7e := HS7.out (by omega)
            subst s7e
            have HTK := Lib.hid (tick_rR2 (t := (t : Int)) (by omega))
            have HFL := Lib.hid (fL_rR (id := id) (n := n) 0 ((t : Int) + 1) h1 h2 hn2 hn16)
            have HRN : Hid (RowsR wi fA 2 (rR 2 (t : Int))) := HR
            clear HR
            have HR := HRN
            have HMY := Lib.hid (may_rR (a := 2) (t := (t : Int)) HS.out h1 h2 (by omega) (by omega))
            have fl := HF.out.lt; have ff := HF.out.frozen; have f_0 := (HF.out.box).2 0 _ rfl; have f_1 := (HF.out.box).2 1 _ rfl; have f_2 := (HF.out.box).2 2 _ rfl
            go_upto_region 23 with (go_at_call 18; refine (fetch_Tick_ok id n fA 2 fc (rR 2 (t : Int)) _ HR.out HMY.out).mono ?_; rintro e w7 ⟨vr, vl, rfl, hown7, hm7, hb7⟩; rw [HTK.out.1] at hown7; rw [HTK.out.2] at hm7; (obtain ⟨B7, hB7, hown7, hm7⟩ : ∃ B, gf < B ∧ OwnQ w7 B vr (rR 0 ((t : Int) + 1)) ∧ OwnMs w7 B vl (fL id n (rR 0 ((t : Int) + 1))) := ⟨_, by have h9 := HF.out.lt; omega, hown7, hm7⟩); rw [HFL.out] at hm7; (obtain ⟨xA, xc, rfl, -⟩ := nmQ (n := 2) hown7 rfl (by omega)); clear fl ff f_0 f_1 f_2)
            refine wp_two (fun W8 hW8 => ?_)
            obtain ⟨gx, hgx⟩ : ∃ g, g = w7.heap.size := ⟨_, rfl⟩
            have h8W : Below w7.heap.size w7 W8 := by rw [hW8]; exact bel_alloc (Below.refl _ _)
            have HX8 : Hid (Blk W8 gx 24 [.int .i64 id, .int .i64 n, .slice xA 2 xc]) := Lib.hid (by rw [hW8, hgx]; exact Blk.new w7 24 [.int .i64 id, .int .i64 n, .slice xA 2 xc])
            have HF8 := Lib.hid ((HF.out.up hb7).up h8W)
            have HO8 := Lib.hid (hown7.up h8W)
            have HM8 := Lib.hid (hm7.up h8W)
            have hbw8 : Below w.heap.size w W8 := bel_trans (bel_trans hbw hb7) h8W
            rw [← hgx]
            clear hW8 hgx h8W hown7 hm7 hb7 HF HR HRN hbw HTK HFL HMY
            obtain ⟨oA, oc, eo, -, -, -⟩ := HM8.out.msgs (fBig1 id _)
            rw [show ([fMk 7 id (peerI id n ((t : Int) + 1)) [3, 9]] : List MsgD).length = 1 from rfl] at eo
            subst eo
            have fl := HF8.out.lt; have ff := HF8.out.frozen; have f_0 := (HF8.out.box).2 0 _ rfl; have f_1 := (HF8.out.box).2 1 _ rfl; have f_2 := (HF8.out.box).2 2 _ rfl
            have xl := HX8.out.lt; have xf := HX8.out.frozen; have x_0 := (HX8.out.box).2 0 _ rfl; have x_1 := (HX8.out.box).2 1 _ rfl; have x_2 := (HX8.out.box).2 2 _ rfl
            go_upto_region 26 with (go_at_call 11; refine (law21_num _ _).mono ?_; rintro e w' ⟨rfl, rfl⟩)
            clear fl ff f_0 f_1 f_2 xl xf x_0 x_1 x_2
            refine wp_two (fun W9 hW9 => ?_)
            have HF9 : Hid (Blk W9 gf 24 [.int .i64 id, .int .i64 n, .slice xA 2 xc]) := Lib.hid (by rw [hW9]; exact HF8.out.putJ _ _ _)
            have HR9 : Hid (RowsR W9 xA 2 (rR 0 ((t : Int) + 1))) := Lib.hid (by rw [hW9]; exact rowsJ (((HO8.out.set3 hB7 _).set3 hB7 _).set3 hB7 _) rfl (by omega))
            have hbw9 : Below w.heap.size w W9 := by rw [hW9]; exact bel_set3 (bel_set3 (bel_set3 hbw8 hgfw) hgfw) hgfw
            have HM9 : Hid (OwnMs W9 B7 (.slice oA 1 oc) [fMk 7 id (peerI id n ((t : Int) + 1)) [3, 9]]) := Lib.hid (by rw [hW9]; exact ((HM8.out.low hB7).low hB7).low hB7)
            clear hW9 HF8 HO8 HM8 HX8 hbw8
            have HMR9 : Hid (MsgsR W9 oA 1 [fMk 7 id (peerI id n ((t : Int) + 1)) [3, 9]]) := Lib.hid (by obtain ⟨A', c', e', h', -, -⟩ := HM9.out.msgs (fBig1 id _); rw [show ([fMk 7 id (peerI id n ((t : Int) + 1)) [3, 9]] : List MsgD).length = 1 from rfl] at e' h'; injection e' with e1 e2 e3; subst e1; exact h')
            clear HM9
            have HR9' : Hid (RowsR W9 xA 2 (stR 3 (t : Int))) := Lib.hid (by have h9 := HR9.out; unfold stR; rw [if_pos rfl]; exact h9)
            clear HR9
            go_wp2_with (at_builtin; refine wpList_appOut rfl (.tmp 134) (.tmp 135) rfl rfl rfl _ _ _ rfl HMR9.out ?_; intro A' c' w10 hm10 hb10)
            (first | (go_round; (case rel => exact ⟨3, xA, xc, by omega, by go_num, Lib.hid (fun h => absurd h (by omega)), Lib.hid (fun _ => ⟨_, _, rfl, hm10⟩), Lib.hid (HF9.out.up hb10), Lib.hid (HR9'.out.up hb10), bel_trans hbw9 hb10⟩); (case measure => (simp [intOf] <;> omega))) | (go_roundw; (case rel => exact ⟨3, xA, xc, by omega, by go_num, Lib.hid (fun h => absurd h (by omega)), Lib.hid (fun _ => ⟨_, _, rfl, hm10⟩), Lib.hid (HF9.out.up hb10), Lib.hid (HR9'.out.up hb10), bel_trans hbw9 hb10⟩); (case measure => (simp [intOf] <;> omega))) | (refine ⟨?_, by simp [intOf] <;> omega⟩; (repeat apply Exists.intro); refine ⟨?rel, ?fr⟩; (case fr => ((repeat' apply And.intro) <;> rfl)); (case rel => exact ⟨3, xA, xc, by omega, by go_num, Lib.hid (fun h => absurd h (by omega)), Lib.hid (fun _ => ⟨_, _, rfl, hm10⟩), Lib.hid (HF9.out.up hb10), Lib.hid (HR9'.out.up hb10), bel_trans hbw9 hb10⟩)))
        · obtain rfl : k = 3 := by omega
          obtain ⟨mA, mc, s7e, hm3⟩ := HS3.out rfl
          subst s7e
          have HM3 := Lib.hid hm3
          have HR3 : Hid (RowsR wi fA 2 (rR 0 (((t + 1 : Nat) : Int)))) := Lib.hid (by have h9 := HR.out; unfold stR at h9; rw [if_pos rfl] at h9; rw [show ((t + 1 : Nat) : Int) = (t : Int) + 1 by omega]; exact h9)
          have HM4 : Hid (MsgsR wi mA 1 [fMk 7 id (peerI id n ((t + 1 : Nat) : Int)) [3, 9]]) := Lib.hid (by rw [show ((t + 1 : Nat) : Int) = (t : Int) + 1 by omega]; exact hm3)
          clear hm3 HM3 HR HS7 HS3
          go_wp2_with fail
          (first | (go_round; (case rel => exact ⟨t + 1, fA, fc, mA, mc, by omega, rfl, by rw [show atI id n (t + 1) = peerI id n (t : Int) from rfl, HPR.out], by go_num, HM4, HF, HR3, hbw⟩); (case measure => (simp [intOf] <;> omega))) | (go_roundw; (case rel => exact ⟨t + 1, fA, fc, mA, mc, by omega, rfl, by rw [show atI id n (t + 1) = peerI id n (t : Int) from rfl, HPR.out], by go_num, HM4, HF, HR3, hbw⟩); (case measure => (simp [intOf] <;> omega))) | (refine ⟨?_, by simp [intOf] <;> omega⟩; (repeat apply Exists.intro); refine ⟨?rel, ?fr⟩; (case fr => ((repeat' apply And.intro) <;> rfl)); (case rel => exact ⟨t + 1, fA, fc, mA, mc, by omega, rfl, by rw [show atI id n (t + 1) = peerI id n (t : Int) from rfl, HPR.out], by go_num, HM4, HF, HR3, hbw⟩)))
    · skip
      have hq1 : decide ((t : Int) < 3 * n) = false := by simpa using hlt
      have HY := Lib.hid (here_rR (t : Int))
      have HMY := Lib.hid (may_rR (a := 0) (t := (t : Int)) HS.out h1 h2 (by omega) (by omega))
      have HM9 := Lib.hid (may_r9 (t := (t : Int)) HS.out h1 h2 (by omega))
      have HN1 := Lib.hid (here_r9 (t : Int))
      have HN2 := Lib.hid (here_r89 (t : Int))
      have fl := HF.out.lt; have ff := HF.out.frozen; have f_0 := (HF.out.box).2 0 _ rfl; have f_1 := (HF.out.box).2 1 _ rfl; have f_2 := (HF.out.box).2 2 _ rfl
      go_upto_region 28 with (go_at_call 19; refine (fetch_Got_ok id n 7 3 fA 2 fc (rR 0 (t : Int)) _ HR.out HMY.out HY.out).mono ?_; rintro e w7 ⟨vr, rfl, hown7, hb7⟩; rw [del_rR] at hown7; (obtain ⟨B7, hB7, hown7⟩ : ∃ B, gf < B ∧ OwnQ w7 B vr [⟨7, 9, 0, (t : Int)⟩] := ⟨_, by have h9 := HF.out.lt; omega, hown7⟩); (obtain ⟨xA, xc, rfl, -⟩ := nmQ (n := 1) hown7 rfl (by omega)); clear fl ff f_0 f_1 f_2; have HF7 := Lib.hid (HF.out.up hb7); have fl := HF7.out.lt; have ff := HF7.out.frozen; have f_0 := (HF7.out.box).2 0 _ rfl; have f_1 := (HF7.out.box).2 1 _ rfl; have f_2 := (HF7.out.box).2 2 _ rfl)
      clear fl ff f_0 f_1 f_2
      refine wp_two (fun W8 hW8 => ?_)
      have HF8 : Hid (Blk W8 gf 24 [.int .i64 id, .int .i64 n, .slice xA 1 xc]) := Lib.hid (by rw [hW8]; exact HF7.out.putJ _ _ _)
      have HR8 : Hid (RowsR W8 xA 1 [⟨7, 9, 0, (t : Int)⟩]) := Lib.hid (by rw [hW8]; exact rowsJ (((hown7.set3 hB7 _).set3 hB7 _).set3 hB7 _) rfl (by omega))
      have hbw8 : Below w.heap.size w W8 := by rw [hW8]; exact bel_set3 (bel_set3 (bel_set3 (bel_trans hbw hb7) hgfw) hgfw) hgfw
      clear hW8 hown7 hb7 HF HF7 HR HMR hbw HY HMY
      have fl := HF8.out.lt; have ff := HF8.out.frozen; have f_0 := (HF8.out.box).2 0 _ rfl; have f_1 := (HF8.out.box).2 1 _ rfl; have f_2 := (HF8.out.box).2 2 _ rfl
      go_upto_region 29 with (go_at_call 19; refine (fetch_Got_none id n 7 3 xA 1 xc [⟨7, 9, 0, (t : Int)⟩] _ HR8.out HM9.out HN1.out).mono ?_; rintro e w9 ⟨rfl, hb9⟩; clear fl ff f_0 f_1 f_2)
      refine wp_two (fun W10 hW10 => ?_)
      have hb10 : Below W8.heap.size W8 W10 := by rw [hW10]; exact bel_trans hb9 (bel_alloc (Below.refl _ _))
      clear hW10 hb9
      have HF10 := Lib.hid (HF8.out.up hb10)
      have HR10 := Lib.hid (HR8.out.up hb10)
      have hbw10 := bel_trans hbw8 hb10
      clear HF8 HR8 hbw8 hb10
      have fl := HF10.out.lt; have ff := HF10.out.frozen; have f_0 := (HF10.out.box).2 0 _ rfl; have f_1 := (HF10.out.box).2 1 _ rfl; have f_2 := (HF10.out.box).2 2 _ rfl
      go_upto_region 30 with (go_at_call 19; refine (fetch_Got_none id n 8 9 xA 1 xc [⟨7, 9, 0, (t : Int)⟩] _ HR10.out HM9.out HN2.out).mono ?_; rintro e w11 ⟨rfl, hb11⟩; clear fl ff f_0 f_1 f_2)
      refine wp_two (fun W12 hW12 => ?_)
      have hb12 : Below W10.heap.size W10 W12 := by rw [hW12]; exact bel_trans hb11 (bel_alloc (Below.refl _ _))
      clear hW12 hb11
      have HF12 := Lib.hid (HF10.out.up hb12)
      have HR12 := Lib.hid (HR10.out.up hb12)
      have hbw12 := bel_trans hbw10 hb12
      clear HF10 HR10 hbw10 hb12 HM9 HN1 HN2
      have fl := HF12.out.lt; have ff := HF12.out.frozen; have f_0 := (HF12.out.box).2 0 _ rfl; have f_1 := (HF12.out.box).2 1 _ rfl; have f_2 := (HF12.out.box).2 2 _ rfl
      obtain ⟨xb, xo, rfl, hxb, hxc⟩ := HR12.out.at (by omega)
      have d1 : W12.cell? ⟨xb, xo + 1, none⟩ = some (.int .i64 9) := by have h9 := (hxc 0 (by omega)).2.1; rwa [Nat.zero_mul, Nat.add_zero] at h9
      clear hxc
      go_wp2_with (first | (go_at_call 11; refine (law21_num _ _).mono ?_; rintro e w' ⟨rfl, rfl⟩) | (go_at_call 14; refine (law21_wakes _).mono ?_; rintro e w19 ⟨rfl, hb19⟩))
      go_ret
      exact ⟨rfl, bel_trans hbw12 hb19⟩
end Go.Proofs.Ytnngeaibdnnpoaa
