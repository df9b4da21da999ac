/- Fetch: fetch.messages. -/
import Derived.Test.YtnngeaibdnnpoaaSkHm
import Derived.Deep.RegionHeld3
namespace Go.Proofs.Ytnngeaibdnnpoaa
open Go.RowKit
set_option linter.unusedSimpArgs false
set_option linter.unusedVariables false

def MsJ (id nodes : Int) (fA : Option Addr) (fn fc : Nat) (A : Option Addr) (n c : Nat) (rows : List FRowD) (w : World) (a' : Act) (w' : World) : Prop :=
  ∃ (s : Nat) (lv : Value) (u3 u5 u8 u9 u10 u11 u12 u13 u14 u15 u16 u17 u18 u19 u20 u21 u22 u23 u24 u25 u26 u27 u28 u29 u30 u31 u32 u33 u34 u35 u36 u37 u38 u39 u40 u41 u42 u43 u44 u45 u46 u47 u48 u49 u50 u51 u52 u53 u54 u55 u56 u57 u58 u59 u60 u61 u62 u63 u64 u65 u66 u67 u68 : Value), a' = { tmps := #[.agg #[.int .i64 id, .int .i64 nodes, .slice fA fn fc], .slice A n c, .pointer (some ⟨w.heap.size, 0, none⟩), u3, lv, u5, .int .i64 (((s / 2 : Nat) : Int) + 1), .int .i64 (7 + ((s % 2 : Nat) : Int)), u8, u9, u10, u11, u12, u13, u14, u15, u16, u17, u18, u19, u20, u21, u22, u23, u24, u25, u26, u27, u28, u29, u30, u31, u32, u33, u34, u35, u36, u37, u38, u39, u40, u41, u42, u43, u44, u45, u46, u47, u48, u49, u50, u51, u52, u53, u54, u55, u56, u57, u58, u59, u60, u61, u62, u63, u64, u65, u66, u67, u68], defers := [] } ∧ s < 2 * nodes.toNat ∧ 2 ≤ nodes ∧ OwnMs w' (w.heap.size + 1) lv (fN id nodes rows s) ∧ BoxR w' w.heap.size [.int .i64 id, .int .i64 nodes, .slice fA fn fc] ∧ Below w.heap.size w w'
theorem MsJ.mk {id nodes : Int} {fA : Option Addr} {fn fc : Nat} {A : Option Addr} {n c : Nat} {rows : List FRowD} {w : World} {ix iy : Int} {lv : Value} {u3 u5 u8 u9 u10 u11 u12 u13 u14 u15 u16 u17 u18 u19 u20 u21 u22 u23 u24 u25 u26 u27 u28 u29 u30 u31 u32 u33 u34 u35 u36 u37 u38 u39 u40 u41 u42 u43 u44 u45 u46 u47 u48 u49 u50 u51 u52 u53 u54 u55 u56 u57 u58 u59 u60 u61 u62 u63 u64 u65 u66 u67 u68 : Value} {w' : World} (s : Nat) (hs : s < 2 * nodes.toNat) (hn2 : 2 ≤ nodes) (hO : OwnMs w' (w.heap.size + 1) lv (fN id nodes rows s)) (hB : BoxR w' w.heap.size [.int .i64 id, .int .i64 nodes, .slice fA fn fc]) (hb : Below w.heap.size w w') (hix : ix = ((s / 2 : Nat) : Int) + 1) (hiy : iy = 7 + ((s % 2 : Nat) : Int)) :
    MsJ id nodes fA fn fc A n c rows w { tmps := #[.agg #[.int .i64 id, .int .i64 nodes, .slice fA fn fc], .slice A n c, .pointer (some ⟨w.heap.size, 0, none⟩), u3, lv, u5, .int .i64 ix, .int .i64 iy, u8, u9, u10, u11, u12, u13, u14, u15, u16, u17, u18, u19, u20, u21, u22, u23, u24, u25, u26, u27, u28, u29, u30, u31, u32, u33, u34, u35, u36, u37, u38, u39, u40, u41, u42, u43, u44, u45, u46, u47, u48, u49, u50, u51, u52, u53, u54, u55, u56, u57, u58, u59, u60, u61, u62, u63, u64, u65, u66, u67, u68], defers := [] } w' := by
  subst hix; subst hiy
  exact ⟨s, lv, _, _, _, _, _, _, _, _, _, _, _, _, _, _, _, _, _, _, _, _, _, _, _, _, _, _, _, _, _, _, _, _, _, _, _, _, _, _, _, _, _, _, _, _, _, _, _, _, _, _, _, _, _, _, _, _, _, _, _, _, _, _, _, rfl, hs, hn2, hO, hB, hb⟩
set_option maxRecDepth 100000 in
set_option maxHeartbeats 8000000 in
theorem fetch_messages (id nodes : Int) (fA : Option Addr) (fn fc : Nat) (A : Option Addr) (n c : Nat) (rows : List FRowD) (w : World) (hl : RowsR w A n rows) (hn : n ≤ 64) (h1 : 1 ≤ id) (h2 : id ≤ nodes) (h4 : nodes ≤ 16) (hr : ∀ j, j < n → 0 ≤ (qth rows j).tr ∧ (qth rows j).tr ≤ 1099511627776) :
    Calls Try.prog 31 #[.agg #[.int .i64 id, .int .i64 nodes, .slice fA fn fc], .slice A n c] w fun e w' => ∃ v, e = .returned v ∧ OwnMs w' (w.heap.size + 1) v (fL id nodes rows) ∧ Below w.heap.size w w' := by
  have HL := Lib.hid hl
  have HR := Lib.hid hr
  have HN := Lib.hid hl.1
  clear hl hr
  go_enter Try.func31, Try.ntmps31
  go_wp2_with fail
  have hb0 : Below w.heap.size w (w.alloc (.cells #[.int .i64 id, .int .i64 nodes, .slice fA fn fc] 24)) := bel_alloc (Below.refl _ _)
  have HB0 := Lib.hid (BoxR.new w [.int .i64 id, .int .i64 nodes, .slice fA fn fc] 24)
  refine wp_scope_back 0 (MsJ id nodes fA fn fc A n c rows w) (fun a' _ => 100 - (2 * (intOf (a'.tmps.getD 6 undef)).toNat + (intOf (a'.tmps.getD 7 undef)).toNat)) rfl ?_ ?_
  · intro hpass
    by_cases hn1 : nodes = 1
    · have q1 : (nodes == 1) = true := by simp [hn1]
      have HN1 := Lib.hid hn1
      clear hn1
      go_wp2_with fail
      simp only [Exit.jump]
      go_ret
      exact ⟨_, rfl, by unfold fL; rw [if_pos HN1.out]; exact OwnMs.nil _ _, hb0⟩
    · have q1 : (nodes == 1) = false := by simp [hn1]
      go_wp2_with fail
      rename_i K hK
      apply wp_label
      apply hK
      exact hpass _ _ (MsJ.mk 0 (by omega) (by omega) (OwnMs.nil _ _) HB0.out hb0 (by simp) (by simp))
  · clear HB0 hb0
    rintro a' ws ⟨s, lv, u3, u5, u8, u9, u10, u11, u12, u13, u14, u15, u16, u17, u18, u19, u20, u21, u22, u23, u24, u25, u26, u27, u28, u29, u30, u31, u32, u33, u34, u35, u36, u37, u38, u39, u40, u41, u42, u43, u44, u45, u46, u47, u48, u49, u50, u51, u52, u53, u54, u55, u56, u57, u58, u59, u60, u61, u62, u63, u64, u65, u66, u67, u68, rfl, hs, hn2, hO, hB, hbw⟩
    obtain ⟨tz, htz⟩ : ∃ z, ((s / 2 : Nat) : Int) + 1 = z := ⟨_, rfl⟩
    obtain ⟨kz, hkz⟩ : ∃ z, 7 + ((s % 2 : Nat) : Int) = z := ⟨_, rfl⟩
    rw [htz, hkz]
    skip
    have ht1 : 1 ≤ tz := by omega
    have htn : tz ≤ nodes := by omega
    have hk8 : kz = 7 ∨ kz = 8 := by omega
    have HT := Lib.hid (And.intro htz hkz)
    have HK8 := Lib.hid hk8
    have hs32 : s < 32 := by omega
    clear htz hkz hk8
    have HO := Lib.hid hO
    have HBX := Lib.hid hB
    clear hO
    have xl := hB.1
    have x_0 := (hB).2 0 _ rfl; have x_1 := (hB).2 1 _ rfl; have x_2 := (hB).2 2 _ rfl
    clear hB
    go_wp2_with fail
    clear xl x_0 x_1 x_2
    go_loopw [5, 17] (fun s5 jx wr => ∃ j : Nat, j ≤ n ∧ jx = .int .i64 j ∧ Hid (OwnI wr ws.heap.size s5 (dsel id nodes kz tz (rows.take j))) ∧ Below ws.heap.size ws wr) (fun _ jx _ => n - (intOf jx).toNat)
    case atStart => exact ⟨0, Nat.zero_le _, rfl, Lib.hid (by simpa [dsel] using OwnI.nil ws ws.heap.size), Below.refl _ _⟩
    case round =>
      obtain ⟨j, hj, rfl, HP, hb⟩ := hrel
      (obtain ⟨wj, hwj⟩ : ∃ x, x = wr := ⟨_, rfl⟩); subst hwj
      have hbj := bel_trans hbw hb
      have hX := HBX.out.up hb
      have xl := hX.1
      have x_0 := (hX).2 0 _ rfl; have x_1 := (hX).2 1 _ rfl; have x_2 := (hX).2 2 _ rfl
      clear hX
      by_cases hlt : j < n
      · skip
        obtain ⟨b, off, rfl, hbl, hc⟩ := (HL.out.up hbj).at (by omega)
        obtain ⟨c0, c1, c2, c3⟩ := hc j hlt
        clear hc
        have hrt := HR.out j hlt
        obtain ⟨rk, hrk⟩ : ∃ z, (qth rows j).ki = z := ⟨_, rfl⟩
        obtain ⟨rd, hrd⟩ : ∃ z, (qth rows j).di = z := ⟨_, rfl⟩
        obtain ⟨rt, hrt2⟩ : ∃ z, (qth rows j).tr = z := ⟨_, rfl⟩
        rw [hrk] at c0
        rw [hrd] at c1
        rw [hrt2] at c3 hrt
        have HRT := Lib.hid hrt
        have hsn := dsel_snoc id nodes kz tz rows j (by rw [HN.out]; exact hlt)
        rw [hrk, hrd, hrt2] at hsn
        have HSN := Lib.hid hsn
        clear hsn hrk hrd hrt2 hrt
        obtain ⟨y, hy⟩ : ∃ z, peerI id nodes rt = z := ⟨_, rfl⟩
        have HY := Lib.hid hy
        clear hy
        by_cases e1 : rk = kz
        · have d1 : (rk == kz) = true := by simp [e1]
          have E1 := Lib.hid e1
          clear e1
          by_cases e2 : y = tz
          · have d2 : (y == tz) = true := by simp [e2]
            have E2 := Lib.hid e2
            clear e2
            go_wp2_with (first | (go_at_call 62; refine (fetch_whom id nodes rt fA fn fc y _ h1 h2 hn2 h4 HRT.out.1 HRT.out.2 HY.out).mono ?_; rintro e w9 ⟨rfl, hb9⟩; have hz_w9 : w.heap.size + 1 ≤ w9.heap.size := (by have hq := (hb9).size; (try simp at hq); omega); have hc0_w9 := fun o => (bcell hb9).1 (wj.heap.size) o (by first | (simp; done) | (simp; omega) | omega); have hbj9 : Below wj.heap.size wj w9 := (by (repeat (first | (with_reducible exact Below.refl _ _) | (with_reducible assumption) | (with_reducible apply bel_alloc) | (with_reducible apply bel_drew) | (with_reducible apply bel_drewN) | (with_reducible refine bel_trans ?_ (by with_reducible assumption)) | (with_reducible refine bel_trans ?_ (HF.out _)) | ((with_reducible refine bel_set3 ?_ ?_); rotate_left; omega))))) | (at_builtin; refine wpList_app1 rfl (.tmp 33) (.tmp 36) rfl ws.heap.size _ _ rfl (HP.out.up (bel_trans hbj9 (bel_alloc (Below.refl _ _)))) _ rd rfl (cell0_alloc _ _ _) (by have h9 := dsel_len id nodes kz tz (rows.take j); have h8 := List.length_take_le j rows; omega) (le_alloc (Nat.le_trans hb.size hbj9.size)) ?_; intro v1 w1 hown1 hg1 hb1 hat1))
            (first | (go_round; (case rel => exact ⟨j + 1, by omega, by go_num, Lib.hid (by rw [HSN.out, if_pos ⟨E1.out, by rw [HY.out]; exact E2.out⟩]; exact hown1), Below.trans (bel_trans hb (bel_trans hbj9 (bel_alloc (Below.refl _ _)))) hb1⟩); (case measure => (simp [intOf] <;> omega))) | (go_roundw; (case rel => exact ⟨j + 1, by omega, by go_num, Lib.hid (by rw [HSN.out, if_pos ⟨E1.out, by rw [HY.out]; exact E2.out⟩]; exact hown1), Below.trans (bel_trans hb (bel_trans hbj9 (bel_alloc (Below.refl _ _)))) hb1⟩); (case measure => (simp [intOf] <;> omega))) | (refine ⟨?_, by simp [intOf] <;> omega⟩; (repeat apply Exists.intro); refine ⟨?rel, ?fr⟩; (case fr => ((repeat' apply And.intro) <;> rfl)); (case rel => exact ⟨j + 1, by omega, by go_num, Lib.hid (by rw [HSN.out, if_pos ⟨E1.out, by rw [HY.out]; exact E2.out⟩]; exact hown1), Below.trans (bel_trans hb (bel_trans hbj9 (bel_alloc (Below.refl _ _)))) hb1⟩)))
          · have d2 : (y == tz) = false := by simp [e2]
            have E2 := Lib.hid e2
            clear e2
            go_wp2_with (go_at_call 62; refine (fetch_whom id nodes rt fA fn fc y _ h1 h2 hn2 h4 HRT.out.1 HRT.out.2 HY.out).mono ?_; rintro e w9 ⟨rfl, hb9⟩; have hz_w9 : w.heap.size + 1 ≤ w9.heap.size := (by have hq := (hb9).size; (try simp at hq); omega); have hc0_w9 := fun o => (bcell hb9).1 (wj.heap.size) o (by first | (simp; done) | (simp; omega) | omega); have hbj9 : Below wj.heap.size wj w9 := (by (repeat (first | (with_reducible exact Below.refl _ _) | (with_reducible assumption) | (with_reducible apply bel_alloc) | (with_reducible apply bel_drew) | (with_reducible apply bel_drewN) | (with_reducible refine bel_trans ?_ (by with_reducible assumption)) | (with_reducible refine bel_trans ?_ (HF.out _)) | ((with_reducible refine bel_set3 ?_ ?_); rotate_left; omega)))))
            (first | (go_round; (case rel => exact ⟨j + 1, by omega, by go_num, Lib.hid (by rw [HSN.out, if_neg (fun h => E2.out (by rw [← HY.out]; exact h.2)), List.append_nil]; exact HP.out.up hbj9), bel_trans hb hbj9⟩); (case measure => (simp [intOf] <;> omega))) | (go_roundw; (case rel => exact ⟨j + 1, by omega, by go_num, Lib.hid (by rw [HSN.out, if_neg (fun h => E2.out (by rw [← HY.out]; exact h.2)), List.append_nil]; exact HP.out.up hbj9), bel_trans hb hbj9⟩); (case measure => (simp [intOf] <;> omega))) | (refine ⟨?_, by simp [intOf] <;> omega⟩; (repeat apply Exists.intro); refine ⟨?rel, ?fr⟩; (case fr => ((repeat' apply And.intro) <;> rfl)); (case rel => exact ⟨j + 1, by omega, by go_num, Lib.hid (by rw [HSN.out, if_neg (fun h => E2.out (by rw [← HY.out]; exact h.2)), List.append_nil]; exact HP.out.up hbj9), bel_trans hb hbj9⟩)))
        · have d1 : (rk == kz) = false := by simp [e1]
          have E1 := Lib.hid e1
          clear e1
          go_wp2_with fail
          (first | (go_round; (case rel => exact ⟨j + 1, by omega, by go_num, Lib.hid (by rw [HSN.out, if_neg (fun h => E1.out h.1), List.append_nil]; exact HP.out.up (by (repeat (first | (with_reducible exact Below.refl _ _) | (with_reducible assumption) | (with_reducible apply bel_alloc) | (with_reducible apply bel_drew) | (with_reducible apply bel_drewN) | (with_reducible refine bel_trans ?_ (by with_reducible assumption)) | (with_reducible refine bel_trans ?_ (HF.out _)) | ((with_reducible refine bel_set3 ?_ ?_); rotate_left; omega))))), by (repeat (first | (with_reducible exact Below.refl _ _) | (with_reducible assumption) | (with_reducible apply bel_alloc) | (with_reducible apply bel_drew) | (with_reducible apply bel_drewN) | (with_reducible refine bel_trans ?_ (by with_reducible assumption)) | (with_reducible refine bel_trans ?_ (HF.out _)) | ((with_reducible refine bel_set3 ?_ ?_); rotate_left; omega)))⟩); (case measure => (simp [intOf] <;> omega))) | (go_roundw; (case rel => exact ⟨j + 1, by omega, by go_num, Lib.hid (by rw [HSN.out, if_neg (fun h => E1.out h.1), List.append_nil]; exact HP.out.up (by (repeat (first | (with_reducible exact Below.refl _ _) | (with_reducible assumption) | (with_reducible apply bel_alloc) | (with_reducible apply bel_drew) | (with_reducible apply bel_drewN) | (with_reducible refine bel_trans ?_ (by with_reducible assumption)) | (with_reducible refine bel_trans ?_ (HF.out _)) | ((with_reducible refine bel_set3 ?_ ?_); rotate_left; omega))))), by (repeat (first | (with_reducible exact Below.refl _ _) | (with_reducible assumption) | (with_reducible apply bel_alloc) | (with_reducible apply bel_drew) | (with_reducible apply bel_drewN) | (with_reducible refine bel_trans ?_ (by with_reducible assumption)) | (with_reducible refine bel_trans ?_ (HF.out _)) | ((with_reducible refine bel_set3 ?_ ?_); rotate_left; omega)))⟩); (case measure => (simp [intOf] <;> omega))) | (refine ⟨?_, by simp [intOf] <;> omega⟩; (repeat apply Exists.intro); refine ⟨?rel, ?fr⟩; (case fr => ((repeat' apply And.intro) <;> rfl)); (case rel => exact ⟨j + 1, by omega, by go_num, Lib.hid (by rw [HSN.out, if_neg (fun h => E1.out h.1), List.append_nil]; exact HP.out.up (by (repeat (first | (with_reducible exact Below.refl _ _) | (with_reducible assumption) | (with_reducible apply bel_alloc) | (with_reducible apply bel_drew) | (with_reducible apply bel_drewN) | (with_reducible refine bel_trans ?_ (by with_reducible assumption)) | (with_reducible refine bel_trans ?_ (HF.out _)) | ((with_reducible refine bel_set3 ?_ ?_); rotate_left; omega))))), by (repeat (first | (with_reducible exact Below.refl _ _) | (with_reducible assumption) | (with_reducible apply bel_alloc) | (with_reducible apply bel_drew) | (with_reducible apply bel_drewN) | (with_reducible refine bel_trans ?_ (by with_reducible assumption)) | (with_reducible refine bel_trans ?_ (HF.out _)) | ((with_reducible refine bel_set3 ?_ ?_); rotate_left; omega)))⟩)))
      · skip
        obtain rfl : n = j := by omega
        have hp := HP.out
        rw [List.take_of_length_le (by rw [HN.out]; exact Nat.le_refl _)] at hp
        have hDl := dsel_len id nodes kz tz rows
        rw [HN.out] at hDl
        obtain ⟨D, hD⟩ : ∃ D, dsel id nodes kz tz rows = D := ⟨_, rfl⟩
        rw [hD] at hp hDl
        obtain ⟨m, hm⟩ : ∃ m, D.length = m := ⟨_, rfl⟩
        have hFS : fS id nodes rows kz tz = chM kz id tz D ((m + 15) / 16) := by unfold fS; rw [hD, hm]
        have HFS := Lib.hid hFS
        rw [hm] at hDl
        clear hD hFS HP
        have hp2 := hp
        unfold OwnI at hp2
        rw [hm] at hp2
        obtain ⟨pA, pc, rfl, hrv, -, hpc, -⟩ := own_row hp2 (by omega)
        have HPD : Hid (wj.ownsRow 0 3 1 (.slice pA m pc) m (D.map (Value.int .i64))) := Lib.hid (own_mono hp2 (Nat.zero_le _))
        clear hp2
        obtain ⟨pA', pc', e9, hpi⟩ := nmI hp hm (by omega)
        injection e9 with e91 e92 e93
        subst e91
        clear e92 e93 hp hrv
        have HPI0 := Lib.hid hpi
        clear hpi
        have HM := Lib.hid hm
        clear hm
        obtain ⟨pb, po, hpA⟩ : ∃ pb po : Nat, 0 < m → pA = some ⟨pb, po, none⟩ := by
          by_cases hm0 : 0 < m
          · obtain ⟨b9, o9, e9, -⟩ := HPI0.out.2.2 hm0
            exact ⟨b9, o9, fun _ => e9⟩
          · exact ⟨0, 0, fun h => absurd h hm0⟩
        have HPA := Lib.hid hpA
        clear hpA
        obtain ⟨K9, hK9⟩ : ∃ K, (m + 15) / 16 = K := ⟨_, rfl⟩
        have hK5 : K9 ≤ 4 := by omega
        have HK9 := Lib.hid hK9
        clear hK9
        have hm64 : m ≤ 64 := Nat.le_trans hDl hn
        clear hDl
        go_wp2_with (first | (go_at_call 64; refine (slices_Chunk16 _ _ _ _).mono ?_; rintro e w8 ⟨rfl, rfl⟩) | (go_at_call 63; refine (collect_chunk pb po m pc wj.heap.size (wj.heap.size + 1) pA HPA.out hpc (by omega) _ (by simp; omega) (by simp) (by simp) (by simp)).mono ?_; rintro e w9 ⟨v9, rfl, hrow9, hb9⟩; rw [HK9.out] at hrow9; obtain ⟨cA, cc, rfl, -, -, -, -⟩ := own_row hrow9 (by omega)))
        have hbj9 : Below wj.heap.size wj w9 := by (repeat (first | (with_reducible exact Below.refl _ _) | (with_reducible assumption) | (with_reducible apply bel_alloc) | (with_reducible apply bel_drew) | (with_reducible apply bel_drewN) | (with_reducible refine bel_trans ?_ (by with_reducible assumption)) | (with_reducible refine bel_trans ?_ (HF.out _)) | ((with_reducible refine bel_set3 ?_ ?_); rotate_left; omega)))
        have HCR := Lib.hid (own_mono hrow9 (Nat.zero_le _))
        have HPD9 := Lib.hid (own_up HPD.out hbj9)
        have HO9 := Lib.hid (HO.out.up (bel_trans hb hbj9))
        have HXB9 := Lib.hid (HBX.out.up (bel_trans hb hbj9))
        have hbw9 := bel_trans hbj hbj9
        clear hrow9 hb9 hbj9 HPD HO HBX hbj hb xl x_0 x_1 x_2 hbw
        go_loopw [4, 43] (fun s4 jx wr => ∃ j : Nat, j ≤ K9 ∧ jx = .int .i64 j ∧ Hid (OwnMs wr (w.heap.size + 1) s4 (fN id nodes rows s ++ chM kz id tz D j)) ∧ Hid (wr.ownsRow 0 31 1 (.slice cA K9 cc) K9 ((pcs pb po m K9).map encL)) ∧ Hid (wr.ownsRow 0 3 1 (.slice pA m pc) m (D.map (Value.int .i64))) ∧ Hid (BoxR wr w.heap.size [.int .i64 id, .int .i64 nodes, .slice fA fn fc]) ∧ Below w.heap.size w wr) (fun _ jx _ => K9 - (intOf jx).toNat)
        case atStart => exact ⟨0, Nat.zero_le _, rfl, Lib.hid (by simpa [chM] using HO9.out), HCR, HPD9, HXB9, hbw9⟩
        case round =>
          clear HO9 HCR HPD9 HXB9 hbw9
          obtain ⟨j, hj, rfl, HOM, HCR, HPD, HXB, hbwm⟩ := hrel
          (obtain ⟨wm, hwm⟩ : ∃ x, x = wr := ⟨_, rfl⟩); subst hwm
          have xl := HXB.out.1
          have x_0 := (HXB.out).2 0 _ rfl; have x_1 := (HXB.out).2 1 _ rfl; have x_2 := (HXB.out).2 2 _ rfl
          by_cases hlt : j < K9
          · skip
            have hjm : j * 16 < m := by have := HK9.out; omega
            have hpe := HPA.out (by omega)
            subst hpe
            obtain ⟨g9, o9, c9, e9, hg9, hcc⟩ := row_cell HCR.out (by omega) (by omega)
            injection e9 with e91 e92 e93
            subst e91
            clear e92 e93
            have c0 := hcc j hlt
            clear hcc
            have HPI : Hid (IntsR wm (some ⟨pb, po + j * 16, none⟩) (min 16 (m - j * 16)) ((D.drop (j * 16)).take 16)) := Lib.hid (IntsR.piece (by obtain ⟨A', c', e', h'⟩ := nmI (show OwnI wm 0 (.slice (some ⟨pb, po, none⟩) m pc) D from by have h9 := HPD.out; rw [← HM.out] at h9 ⊢; exact h9) HM.out (by omega); injection e' with e1 e2 e3; subst e1; exact h') hjm)
            obtain ⟨e16, he16⟩ : ∃ e, min 16 (m - j * 16) = e := ⟨_, rfl⟩
            rw [he16] at c0 HPI
            have he17 : e16 ≤ 16 := by omega
            clear he16
            obtain ⟨ps, hO⟩ := HOM.out
            have hwm1 : w.heap.size + 1 ≤ wm.heap.size := xl
            have HLN : Hid ((fN id nodes rows s ++ chM kz id tz D j).length ≤ 1000) := Lib.hid (by have h9 := fN_len id nodes rows (by rw [HN.out]; exact hn) s; rw [List.length_append]; simp [chM]; omega)
            have hS10 : ∀ {X Y : World}, Below wm.heap.size wm X → Below (w.heap.size + 1) X Y → Y.cell? ⟨w.heap.size, 0, none⟩ = some (.int .i64 id) := fun hX hY => (hY.cell (p := ⟨w.heap.size, 0, none⟩) (Nat.lt_succ_self _)).trans ((HXB.out.up hX).2 0 _ rfl)
            have BX10 : ∀ {X Y : World}, BoxR X w.heap.size [.int .i64 id, .int .i64 nodes, .slice fA fn fc] → Below (w.heap.size + 1) X Y → BoxR Y w.heap.size [.int .i64 id, .int .i64 nodes, .slice fA fn fc] := fun hX hY => ⟨Nat.lt_of_lt_of_le hX.1 hY.size, fun r u hu => (hY.cell (p := ⟨w.heap.size, r, none⟩) (Nat.lt_succ_self _)).trans (hX.2 r u hu)⟩
            go_upto_region 15 with fail
            obtain ⟨S, hSd⟩ : ∃ S : World → Prop, S = fun Q => Q.cell? ⟨w.heap.size, 0, none⟩ = some (.int .i64 id) := ⟨_, rfl⟩
            have hS1 : ∀ Q, S Q → Q.cell? ⟨w.heap.size, 0, none⟩ = some (.int .i64 id) := fun Q h => by rw [hSd] at h; exact h
            have hS2 : ∀ Q, Q.cell? ⟨w.heap.size, 0, none⟩ = some (.int .i64 id) → S Q := fun Q h => by rw [hSd]; exact h
            have hS : ∀ Q, Below wm.heap.size wm Q → S Q := fun Q hQ => by rw [hSd]; exact (HXB.out.up hQ).2 0 _ rfl
            clear hSd x_0 x_1 x_2 xl
            refine wp_region_held_drew (S := S) (by kernel_rfl) (hS _ (bel_drew (Below.refl _ _))) (fun hHeld => ?_)
            have hbd : Below wm.heap.size wm wm.drew := bel_drew (Below.refl _ _)
            generalize wm.drew = Z at *
            (refine wpAnyH_tk 0 (some 47) (v := ?_) rfl rfl ?_ ?_; rotate_left; (focus (intro wq hSw; clear hSw; go_simp; all_goals (with_reducible rfl))); simp only [Act.put, List.setIfInBounds_toArray, List.set_cons_zero, List.set_cons_succ])
            (refine wpAnyH_tk 1 (some 48) (v := ?_) rfl rfl ?_ ?_; rotate_left; (focus (intro wq hSw; clear hSw; go_simp; all_goals (with_reducible rfl))); simp only [Act.put, List.setIfInBounds_toArray, List.set_cons_zero, List.set_cons_succ])
            (refine wpAnyH_tk 2 (some 49) (v := ?_) rfl rfl ?_ ?_; rotate_left; (focus (intro wq hSw; clear hSw; go_simp; all_goals (with_reducible rfl))); simp only [Act.put, List.setIfInBounds_toArray, List.set_cons_zero, List.set_cons_succ])
            (refine wpAnyH_tk 3 (some 50) (v := ?_) rfl rfl ?_ ?_; rotate_left; (focus (intro wq hSw; have q1 := hS1 wq hSw; clear hSw; go_simp; all_goals (with_reducible rfl))); simp only [Act.put, List.setIfInBounds_toArray, List.set_cons_zero, List.set_cons_succ])
            (refine wpAnyH_tk 4 (some 51) (v := ?_) rfl rfl ?_ ?_; rotate_left; (focus (intro wq hSw; clear hSw; go_simp; all_goals (with_reducible rfl))); simp only [Act.put, List.setIfInBounds_toArray, List.set_cons_zero, List.set_cons_succ])
            (refine wpAnyH_tk 5 (some 52) (v := ?_) rfl rfl ?_ ?_; rotate_left; (focus (intro wq hSw; clear hSw; go_simp; all_goals (with_reducible rfl))); simp only [Act.put, List.setIfInBounds_toArray, List.set_cons_zero, List.set_cons_succ])
            refine wpAnyH_ready (rs := [6]) (by kernel_rfl) (by simp) ?_
            refine AllReadyH.cons (o := _) rfl (fun K hK => ?_) AllReadyH.nil
            go_simp
            (go_at_call 65; refine (clone_Ints _ _ _ _ _ (HPI.out.up hbd) (by omega)).mono ?_; rintro e w7 ⟨sl, rfl, ho7, hb7⟩)
            have hbb := bel_trans hbd hb7
            have hsz7 := hbd.size
            refine hK.out _ _ (hS _ hbb) (fun hHeld => ?_)
            clear hK K
            (try simp only [Act.put, List.setIfInBounds_toArray, List.set_cons_zero, List.set_cons_succ])
            (refine wpAnyH_tk 7 (some 54) (v := ?_) rfl rfl ?_ ?_; rotate_left; (focus (intro wq hSw; clear hSw; go_simp; all_goals (with_reducible rfl))); simp only [Act.put, List.setIfInBounds_toArray, List.set_cons_zero, List.set_cons_succ])
            refine wpAnyH_ready (rs := [8]) (by kernel_rfl) (by simp) ?_
            refine AllReadyH.cons (o := _) rfl (fun K hK => ?_) AllReadyH.nil
            go_simp
            obtain ⟨g4, hg4⟩ : ∃ g, g = w7.heap.size := ⟨_, rfl⟩
            obtain ⟨ZB, hZB⟩ : ∃ Zr : World, Zr = w7.alloc (.cells #[.int .i64 kz, .int .i64 id, .int .i64 tz, .int .i64 0, .int .i64 0, .int .i64 0, .slice none 0 0, .int .i64 0, .int .i64 0, .slice none 0 0, .slice none 0 0, .int .i64 0, .int .i64 0, .slice none 0 0, .slice none 0 0, .int .i64 0, .slice none 0 0, .slice sl.A sl.n sl.c] 44) := ⟨_, rfl⟩
            rw [← hg4, ← hZB]
            have hza : Blk ZB g4 44 [.int .i64 kz, .int .i64 id, .int .i64 tz, .int .i64 0, .int .i64 0, .int .i64 0, .slice none 0 0, .int .i64 0, .int .i64 0, .slice none 0 0, .slice none 0 0, .int .i64 0, .int .i64 0, .slice none 0 0, .slice none 0 0, .int .i64 0, .slice none 0 0, .slice sl.A sl.n sl.c] := by rw [hZB, hg4]; exact Blk.new _ 44 [.int .i64 kz, .int .i64 id, .int .i64 tz, .int .i64 0, .int .i64 0, .int .i64 0, .slice none 0 0, .int .i64 0, .int .i64 0, .slice none 0 0, .slice none 0 0, .int .i64 0, .int .i64 0, .slice none 0 0, .slice none 0 0, .int .i64 0, .slice none 0 0, .slice sl.A sl.n sl.c]
            have hbz : Below w7.heap.size w7 ZB := by rw [hZB]; exact bel_alloc (Below.refl _ _)
            have hbbz := bel_trans hbb hbz
            clear hg4 hZB
            refine hK.out _ _ (hS _ hbbz) (fun hHeld => ?_)
            clear hK K
            (try simp only [Act.put, List.setIfInBounds_toArray, List.set_cons_zero, List.set_cons_succ])
            refine wpAnyH_ready (rs := [9]) (by kernel_rfl) (by simp) ?_
            refine AllReadyH.cons (o := _) rfl (fun K hK => ?_) AllReadyH.nil
            have hownZ := hO.up hbbz
            refine step_appM rfl (.tmp 47) (.tmp 55) rfl rfl (w.heap.size + 1) _ ps (fN id nodes rows s ++ chM kz id tz D j) (by simp [Act.eval, Act.put]) hownZ g4 (fMk kz id tz ((D.drop (j * 16)).take 16)) (fMp sl) (by simp [Act.eval, Act.put]) hza.box (fOwn kz id tz ((ho7.up hbz).mono (by omega))) (by have h9 := HLN.out; omega) (Nat.le_trans hwm1 hbbz.size) ?_
            intro v10 w10 hown10 hg10 hb10
            show K (Act.put _ (some 56) _) _
            refine hK.out _ _ (hS2 _ (hS10 hbbz hb10)) (fun hHeld => ?_)
            clear hK K
            (try simp only [Act.put, List.setIfInBounds_toArray, List.set_cons_zero, List.set_cons_succ])
            (refine wpAnyH_tk 10 (some 4) (v := ?_) rfl rfl ?_ ?_; rotate_left; (focus (intro wq hSw; clear hSw; go_simp; all_goals (with_reducible rfl))); simp only [Act.put, List.setIfInBounds_toArray, List.set_cons_zero, List.set_cons_succ])
            refine wpAnyH_done (by kernel_rfl) ?_ _
            go_wp2_with fail
            have hOR := hownZ.1
            (first | (go_round; (case rel => exact ⟨j + 1, by omega, by go_num, Lib.hid ⟨_, by rw [chM_succ, ← List.append_assoc]; exact hown10⟩, Lib.hid (own_farT (own_up HCR.out hbbz) hOR (by decide) hg10), Lib.hid (own_farT (own_up HPD.out hbbz) hOR (by decide) hg10), Lib.hid (BX10 (HXB.out.up hbbz) hb10), Below.trans (bel_trans hbwm hbbz) (hb10.mono (Nat.le_succ _))⟩); (case measure => (simp [intOf] <;> omega))) | (go_roundw; (case rel => exact ⟨j + 1, by omega, by go_num, Lib.hid ⟨_, by rw [chM_succ, ← List.append_assoc]; exact hown10⟩, Lib.hid (own_farT (own_up HCR.out hbbz) hOR (by decide) hg10), Lib.hid (own_farT (own_up HPD.out hbbz) hOR (by decide) hg10), Lib.hid (BX10 (HXB.out.up hbbz) hb10), Below.trans (bel_trans hbwm hbbz) (hb10.mono (Nat.le_succ _))⟩); (case measure => (simp [intOf] <;> omega))) | (refine ⟨?_, by simp [intOf] <;> omega⟩; (repeat apply Exists.intro); refine ⟨?rel, ?fr⟩; (case fr => ((repeat' apply And.intro) <;> rfl)); (case rel => exact ⟨j + 1, by omega, by go_num, Lib.hid ⟨_, by rw [chM_succ, ← List.append_assoc]; exact hown10⟩, Lib.hid (own_farT (own_up HCR.out hbbz) hOR (by decide) hg10), Lib.hid (own_farT (own_up HPD.out hbbz) hOR (by decide) hg10), Lib.hid (BX10 (HXB.out.up hbbz) hb10), Below.trans (bel_trans hbwm hbbz) (hb10.mono (Nat.le_succ _))⟩)))
          · skip
            obtain rfl : K9 = j := by omega
            rw [← HK9.out] at HOM
            rcases HK8.out with e7 | e7
            · subst e7
              go_wp2_with fail
              apply wp_goto
              refine ⟨rfl, MsJ.mk (s + 1) (by have := HT.out; omega) hn2 (by rw [fN, HT.out.1, HT.out.2, HFS.out]; exact HOM.out) HXB.out hbwm (by have := HT.out; omega) (by have := HT.out; omega), ?_⟩
              simp [intOf]; omega
            · subst e7
              by_cases hlast : tz + 1 ≤ nodes
              · have q5 : decide (tz + 1 ≤ nodes) = true := by simp; omega
                go_wp2_with fail
                apply wp_goto
                refine ⟨rfl, MsJ.mk (s + 1) (by have := HT.out; omega) hn2 (by rw [fN, HT.out.1, HT.out.2, HFS.out]; exact HOM.out) HXB.out hbwm (by have := HT.out; omega) (by have := HT.out; omega), ?_⟩
                simp [intOf]; omega
              · have q5 : decide (tz + 1 ≤ nodes) = false := by simp; omega
                go_wp2_with fail
                simp only [Exit.jump]
                go_ret
                exact ⟨_, rfl, by unfold fL; rw [if_neg (by omega), show 2 * nodes.toNat = s + 1 by have := HT.out; omega]; exact (by rw [fN, HT.out.1, HT.out.2, HFS.out]; exact HOM.out), hbwm⟩
end Go.Proofs.Ytnngeaibdnnpoaa
