/- Fetch: droverref21.Tick. -/
import Derived.Test.YtnngeaibdnnpoaaSkHu
import Derived.Test.YtnngeaibdnnpoaaSkHo
namespace Go.Proofs.Ytnngeaibdnnpoaa
open Go.RowKit
set_option linter.unusedSimpArgs false
set_option linter.unusedVariables false

theorem own_ne_blk {w : World} {B g : Nat} {v : Value} {l : List FRowD} {t : TypeId} {cs : List Value} (h : OwnQ w B v l) (hb : Blk w g t cs) (hne : 55 ≠ t) : v.ownBlock ≠ some g := fun e => by
  rcases h.2 with ⟨e1, _⟩ | ⟨g', cap, cur, e1, _, hg, _⟩
  · rw [e1] at e; cases e
  · rw [e1] at e
    have e2 : g' = g := by simpa [Value.ownBlock] using e
    subst e2
    have h9 := hg.symm.trans hb
    injection h9 with h9
    injection h9 with _ h9 _
    exact hne h9
set_option maxRecDepth 100000 in
set_option maxHeartbeats 8000000 in
theorem ref21_Tick (id nodes : Int) (A : Option Addr) (n c : Nat) (rows : List FRowD) (w : World) (hl : RowsR w A n rows) (hM : mayF ⟨id, nodes, rows⟩ = true) :
    Calls Try.prog 49 #[.agg #[.int .i64 id, .int .i64 nodes, .slice A n c]] w fun e w' => ∃ vr vl, e = .returned (.tuple #[.agg #[.int .i64 id, .int .i64 nodes, vr], vl]) ∧ OwnQ w' (w.heap.size + 2) vr (tickQ rows) ∧ OwnMs w' (w.heap.size + 2) vl (fL id nodes (dueL rows)) ∧ Below w.heap.size w w' := by
  have hm := mayF_iff.1 hM
  have h1 : 1 ≤ id := hm.2.1
  have h2 : id ≤ nodes := hm.2.2.1
  have h4 : nodes ≤ 16 := (isS_bd hm.1).2
  have hn : n ≤ 64 := by rw [← hl.1]; exact hm.2.2.2.1
  have HBD : Hid (∀ j, j < n → (0 ≤ (qth rows j).ag ∧ (qth rows j).ag ≤ 1099511627776) ∧ (0 ≤ (qth rows j).tr ∧ (qth rows j).tr ≤ 1099511627776)) := Lib.hid (fun j hj => by
    have h9 := rowS_iff.1 (hm.2.2.2.2 j (by rw [hl.1]; exact hj)).1
    exact ⟨numB_iff.1 h9.2.2.1, numB_iff.1 h9.2.2.2⟩)
  have HL := Lib.hid hl
  have HN := Lib.hid hl.1
  clear hl hM hm
  go_enter Try.func49, Try.ntmps49
  go_upto_region 1 with fail
  refine wp_two (fun W0 hW0 => ?_)
  have hb0 : Below w.heap.size w W0 := by rw [hW0]; (repeat (first | (with_reducible exact Below.refl _ _) | (with_reducible assumption) | (with_reducible apply bel_alloc) | (with_reducible apply bel_drew) | (with_reducible apply bel_drewN) | (with_reducible refine bel_trans ?_ (by with_reducible assumption)) | (with_reducible refine bel_trans ?_ (HF.out _)) | (with_reducible refine bel_set ?_ (by simp) _) | (with_reducible refine bel_set ?_ (by simp; omega) _) | (with_reducible refine bel_set ?_ (by omega) _)))
  have hs0 : W0.heap.size = w.heap.size + 2 := by rw [hW0]; simp
  have HF0 : Hid (Blk W0 w.heap.size 24 [.int .i64 id, .int .i64 nodes, .slice A n c] ∧ Blk W0 (w.heap.size + 1) 24 [.int .i64 0, .int .i64 0, .slice none 0 0]) := Lib.hid (by
    rw [hW0]
    have h1 : Blk (w.alloc (.cells #[.int .i64 id, .int .i64 nodes, .slice A n c] 24)) w.heap.size 24 [.int .i64 id, .int .i64 nodes, .slice A n c] := Blk.new _ 24 [.int .i64 id, .int .i64 nodes, .slice A n c]
    have h2 := h1.up (bel_alloc (Below.refl _ _) : Below _ _ ((w.alloc (.cells #[.int .i64 id, .int .i64 nodes, .slice A n c] 24)).alloc (.cells #[.int .i64 0, .int .i64 0, .slice none 0 0] 24)))
    have h3 := Blk.new (w.alloc (.cells #[.int .i64 id, .int .i64 nodes, .slice A n c] 24)) 24 [.int .i64 0, .int .i64 0, .slice none 0 0]
    exact ⟨h2, by simpa using h3⟩)
  clear hW0
  have HF := Lib.hid HF0.out.1
  have HG := Lib.hid HF0.out.2
  clear HF0
  have xl := HF.out.lt
  have xf := HF.out.frozen
  have x_0 := (HF.out.box).2 0 _ rfl; have x_1 := (HF.out.box).2 1 _ rfl; have x_2 := (HF.out.box).2 2 _ rfl
  have gl := HG.out.lt
  have gf := HG.out.frozen
  have g_0 := (HG.out.box).2 0 _ rfl; have g_1 := (HG.out.box).2 1 _ rfl; have g_2 := (HG.out.box).2 2 _ rfl
  obtain ⟨B, hB⟩ : ∃ B, w.heap.size + 2 = B := ⟨_, rfl⟩
  go_upto_region 2 with (go_at_call 21; refine (ref0_CopyFetch id nodes A n c rows _ (HL.out.up hb0) (by omega)).mono ?_; rintro e w1 ⟨v1, rfl, hown1, hb1⟩; obtain ⟨rA, rc, rfl, -⟩ := nmQ hown1 HN.out (by omega); clear xl xf x_0 x_1 x_2 gl gf g_0 g_1 g_2; have HF1 := Lib.hid (HF.out.up hb1); have HG1 := Lib.hid (HG.out.up hb1); have xl := HF1.out.lt; have xf := HF1.out.frozen; have x_0 := (HF1.out.box).2 0 _ rfl; have x_1 := (HF1.out.box).2 1 _ rfl; have x_2 := (HF1.out.box).2 2 _ rfl; have gl := HG1.out.lt; have gf := HG1.out.frozen; have g_0 := (HG1.out.box).2 0 _ rfl; have g_1 := (HG1.out.box).2 1 _ rfl; have g_2 := (HG1.out.box).2 2 _ rfl)
  have hB1 : B ≤ w1.heap.size := by have := hb1.size; omega
  have hwl : w.heap.size < B := by omega
  obtain ⟨gx, hgx⟩ : ∃ g, g = w1.heap.size := ⟨_, rfl⟩
  refine wp_two (fun W1 hW1 => ?_)
  have HX2 : Hid (Blk W1 gx 24 [.int .i64 id, .int .i64 nodes, .slice rA n rc]) := Lib.hid (by rw [hW1, hgx]; exact Blk.new w1 24 [.int .i64 id, .int .i64 nodes, .slice rA n rc])
  have hbn : Below w1.heap.size w1 W1 := by rw [hW1]; exact bel_alloc (Below.refl _ _)
  have HG2 := Lib.hid (HG1.out.up hbn)
  have HR2 : Hid (OwnQ W1 B (.slice rA n rc) rows) := Lib.hid ((hown1.mono (by omega)).up hbn)
  have HGX : Hid (∀ g, rA = some ⟨g, 0, none⟩ → g < gx) := Lib.hid (fun g e => by rw [hgx]; exact (own_lt hown1 g (by rw [e]; rfl)).2)
  have hb2 : Below w.heap.size w W1 := bel_trans (bel_trans hb0 hb1) hbn
  have hB2 : B ≤ W1.heap.size := Nat.le_trans hB1 hbn.size
  have hBx : B ≤ gx := by omega
  rw [← hgx]
  clear hW1 xl xf x_0 x_1 x_2 gl gf g_0 g_1 g_2 hown1 hb1 hb0 hs0 hbn hgx
  go_wp2_with fail
  go_loopw [5, 6] (fun s4 jx wr => ∃ j : Nat, j ≤ n ∧ jx = .int .i64 j ∧ Hid (OwnQ wr B s4 (dueL (rows.take j))) ∧ Hid (OwnQ wr B (.slice rA n rc) (midQ rows j)) ∧ Hid (ApQ s4 (.slice rA n rc)) ∧ Hid (Blk wr gx 24 [.int .i64 id, .int .i64 nodes, .slice rA n rc]) ∧ Below B W1 wr) (fun _ jx _ => n - (intOf jx).toNat)
  case atStart => exact ⟨0, Nat.zero_le _, rfl, Lib.hid (OwnQ.nil _ _), Lib.hid (by simpa [midQ, tickQ] using HR2.out), Lib.hid (fun g e => by cases e), HX2, Below.refl _ _⟩
  case round =>
    clear HR2
    obtain ⟨j, hj, rfl, HO4, HR, HAP, HXK, hbw⟩ := hrel
    (obtain ⟨wk, hwk⟩ : ∃ x, x = wr := ⟨_, rfl⟩); subst hwk
    skip
    have xl := HXK.out.lt
    have x_0 := (HXK.out.box).2 0 _ rfl; have x_1 := (HXK.out.box).2 1 _ rfl; have x_2 := (HXK.out.box).2 2 _ rfl
    have hBk : B ≤ wk.heap.size := Nat.le_trans hB2 hbw.size
    by_cases hlt : j < n
    · skip
      have hjl : j < rows.length := by rw [HN.out]; exact hlt
      have hml : (midQ rows j).length = n := by rw [midQ_len _ _ (by omega), HN.out]
      have HML := Lib.hid hml
      have HMA := Lib.hid (midQ_at rows j hjl)
      have HMS := Lib.hid (midQ_succ rows j hjl)
      have HDS := Lib.hid (dueL_snoc rows j hjl)
      clear hml
      obtain ⟨g, rfl, hgB, hgl⟩ := OwnQ.opened HR.out (by omega) (by omega)
      have hgne : gx ≠ g := by (have h9 := HGX.out g rfl); omega
      have HAN : Hid (∀ v, ApQ v (.slice (some ⟨g, 0, none⟩) n rc) → v.ownBlock ≠ some g) := Lib.hid (fun v h e => h g e rfl)
      obtain ⟨b9, o9, e9, -, hc⟩ := RowsR.at (show RowsR wk (some ⟨g, 0, none⟩) n (midQ rows j) from by obtain ⟨A', c', e', h'⟩ := nmQ HR.out HML.out (by omega); injection e' with e1 e2 e3; subst e1; exact h') (by omega)
      injection e9 with e9
      injection e9 with e91 e92 _
      subst e91; subst e92
      obtain ⟨c0, c1, c2, c3⟩ := hc j hlt
      rw [HMA.out] at c0 c1 c2 c3
      rw [Nat.zero_add] at c0 c1 c2 c3
      clear hc
      have hbd := HBD.out j hlt
      obtain ⟨⟨rk, rd, rg, rt⟩, hq⟩ : ∃ r, qth rows j = r := ⟨_, rfl⟩
      rw [hq] at c0 c1 c2 c3 hbd HMS HDS HMA
      dsimp only at c0 c1 c2 c3 hbd
      obtain ⟨⟨hg0, hg1⟩, ht0, ht1⟩ := hbd
      clear hq
      have f2 : wk.frozen? ⟨g, j * 4 + 2, none⟩ = false := OwnQ.froz HR.out _
      have f3 : wk.frozen? ⟨g, j * 4 + 3, none⟩ = false := OwnQ.froz HR.out _
      by_cases hdu : 2 ≤ rg
      case neg =>
        have HND : Hid (dueB ⟨rk, rd, rg, rt⟩ = false) := Lib.hid (by unfold dueB lim; simp; omega)
        have q3 : decide ((3 : Int) ≤ rg + 1) = false := by simp; omega
        have em : min (rg + 1) 1099511627776 = rg + 1 := by omega
        go_wp2_with fail
        have HX := OwnQ.put (x := ⟨rk, rd, rg + 1, rt⟩) (r := 2) (v := .int .i64 (rg + 1)) HR.out HML.out (by rw [HML.out]; exact hlt) (by omega) (by rw [HMA.out]; rfl)
        have HE : Hid ((midQ rows j).set j ⟨rk, rd, rg + 1, rt⟩ = midQ rows (j + 1)) := Lib.hid (by rw [← HMS.out]; (have hlim : lim (rg + 1) = rg + 1 := if_pos (by omega)); unfold tk1; rw [HND.out]; simp [hlim])
        (first | (go_round; (case rel => exact ⟨j + 1, by omega, by go_num, Lib.hid (by rw [HDS.out, if_neg (by rw [HND.out]; decide), List.append_nil]; exact HO4.out.setAp (HAN.out _ HAP.out)), Lib.hid (by rw [← HE.out]; exact HX), HAP, Lib.hid (HXK.out.far (p := ⟨g, j * 4 + 2, none⟩) hgne _), belB_put hbw hgB⟩); (case measure => (simp [intOf] <;> omega))) | (go_roundw; (case rel => exact ⟨j + 1, by omega, by go_num, Lib.hid (by rw [HDS.out, if_neg (by rw [HND.out]; decide), List.append_nil]; exact HO4.out.setAp (HAN.out _ HAP.out)), Lib.hid (by rw [← HE.out]; exact HX), HAP, Lib.hid (HXK.out.far (p := ⟨g, j * 4 + 2, none⟩) hgne _), belB_put hbw hgB⟩); (case measure => (simp [intOf] <;> omega))) | (refine ⟨?_, by simp [intOf] <;> omega⟩; (repeat apply Exists.intro); refine ⟨?rel, ?fr⟩; (case fr => ((repeat' apply And.intro) <;> rfl)); (case rel => exact ⟨j + 1, by omega, by go_num, Lib.hid (by rw [HDS.out, if_neg (by rw [HND.out]; decide), List.append_nil]; exact HO4.out.setAp (HAN.out _ HAP.out)), Lib.hid (by rw [← HE.out]; exact HX), HAP, Lib.hid (HXK.out.far (p := ⟨g, j * 4 + 2, none⟩) hgne _), belB_put hbw hgB⟩)))
      case pos =>
      by_cases hgm : rg + 1 < 1099511627776
      case pos =>
        have q3 : decide ((3 : Int) ≤ rg + 1) = true := by simp; omega
        by_cases htm : rt + 1 < 1099511627776
        · skip
          have HDU : Hid (dueB ⟨rk, rd, rg, rt⟩ = true) := Lib.hid (by unfold dueB lim; simp; (try split) <;> omega)
          have HTK : Hid (tk1 ⟨rk, rd, rg, rt⟩ = ⟨rk, rd, 0, rt + 1⟩) := Lib.hid (by (have hlim : lim (rt + 1) = rt + 1 := by (unfold lim; first | exact if_pos (by omega) | exact if_neg (by omega))); unfold tk1; rw [HDU.out]; simp [hlim])
          have em : min (rg + 1) 1099511627776 = rg + 1 := by omega
          have et : min (rt + 1) 1099511627776 = rt + 1 := by omega
          go_upto_region 11 with fail
          clear em et
          refine wp_two (fun WD hWD => ?_)
          have HX1 := OwnQ.put (x := ⟨rk, rd, rg + 1, rt⟩) (r := 2) (v := .int .i64 (rg + 1)) HR.out HML.out (by rw [HML.out]; exact hlt) (by omega) (by rw [HMA.out]; rfl)
          have HX2 := OwnQ.put (j := j) (x := ⟨rk, rd, 0, rt⟩) (r := 2) (v := .int .i64 0) HX1 (by rw [List.length_set]; exact HML.out) (by rw [List.length_set, HML.out]; exact hlt) (by omega) (by rw [show qth ((midQ rows j).set j ⟨rk, rd, rg + 1, rt⟩) j = ⟨rk, rd, rg + 1, rt⟩ by simp [qth, HML.out, hlt]]; rfl)
          have HX3 := OwnQ.put (j := j) (x := ⟨rk, rd, 0, rt + 1⟩) (r := 3) (v := .int .i64 (rt + 1)) HX2 (by rw [List.length_set, List.length_set]; exact HML.out) (by rw [List.length_set, List.length_set, HML.out]; exact hlt) (by omega) (by rw [show qth (((midQ rows j).set j ⟨rk, rd, rg + 1, rt⟩).set j ⟨rk, rd, 0, rt⟩) j = ⟨rk, rd, 0, rt⟩ by simp [qth, HML.out, hlt]]; rfl)
          have HE : Hid ((((midQ rows j).set j ⟨rk, rd, rg + 1, rt⟩).set j ⟨rk, rd, 0, rt⟩).set j ⟨rk, rd, 0, rt + 1⟩ = midQ rows (j + 1)) := Lib.hid (by rw [← HMS.out, HTK.out, List.set_set, List.set_set])
          have HRD : Hid (OwnQ WD B (.slice (some ⟨g, 0, none⟩) n rc) (midQ rows (j + 1))) := Lib.hid (by rw [hWD, ← HE.out]; exact HX3)
          have HOD : Hid (OwnQ WD B _ (dueL (rows.take j))) := Lib.hid (by rw [hWD]; exact ((HO4.out.setAp (HAN.out _ HAP.out)).setAp (HAN.out _ HAP.out)).setAp (HAN.out _ HAP.out))
          have HXD : Hid (Blk WD gx 24 [.int .i64 id, .int .i64 nodes, .slice (some ⟨g, 0, none⟩) n rc]) := Lib.hid (by rw [hWD]; exact ((HXK.out.far (p := ⟨g, j * 4 + 2, none⟩) hgne _).far (p := ⟨g, j * 4 + 2, none⟩) hgne _).far (p := ⟨g, j * 4 + 3, none⟩) hgne _)
          have hbD : Below B W1 WD := by rw [hWD]; exact belB_put (belB_put (belB_put hbw hgB) hgB) hgB
          have hBD : B ≤ WD.heap.size := by rw [hWD]; simpa using hBk
          have hgD : g < WD.heap.size := by rw [hWD]; simpa using hgl
          have d0 : WD.cell? ⟨g, j * 4, none⟩ = some (.int .i64 rk) ∧ WD.cell? ⟨g, j * 4 + 1, none⟩ = some (.int .i64 rd) ∧ WD.cell? ⟨g, j * 4 + 2, none⟩ = some (.int .i64 0) ∧ WD.cell? ⟨g, j * 4 + 3, none⟩ = some (.int .i64 (rt + 1)) := by
            obtain ⟨b9, o9, e9, -, hc⟩ := RowsR.at (show RowsR WD (some ⟨g, 0, none⟩) n (midQ rows (j + 1)) from by obtain ⟨A', c', e', h'⟩ := nmQ HRD.out (by rw [midQ_len _ _ (by rw [HN.out]; omega), HN.out]) (by omega); injection e' with e1 e2 e3; subst e1; exact h') (by omega)
            injection e9 with e9
            injection e9 with e91 e92 _
            subst e91; subst e92
            have h9 := hc j hlt
            rw [show qth (midQ rows (j + 1)) j = ⟨rk, rd, 0, rt + 1⟩ by rw [← HMS.out, HTK.out]; simp [qth, HML.out, hlt]] at h9
            rw [Nat.zero_add] at h9
            exact h9
          obtain ⟨d0, d1, d2, d3⟩ := d0
          clear hWD HX1 HX2 HX3 c0 c1 c2 c3 f2 f3 hgl hBk xl x_0 x_1 x_2
          go_wp2_with (at_builtin; refine wpList_appQ rfl (.tmp 47) (.tmp 51) rfl rfl B _ (dueL (rows.take j)) rfl (HOD.out.up (bel_alloc (Below.refl _ _))) WD.heap.size 0 1 1 [⟨rk, rd, 0, rt + 1⟩] rfl rfl (box_Q (BoxR.new WD (encQ ⟨rk, rd, 0, rt + 1⟩) 55)) (by have h9 := dueL_len (rows.take j); have h8 := List.length_take_le j rows; omega) (le_alloc hBD) ?_; intro v7 w7 hown7 hg7 hb7 hat7)
          have HR7 := Lib.hid ((HRD.out.up (bel_alloc (Below.refl _ _) : Below _ _ (WD.alloc (.cells #[.int .i64 rk, .int .i64 rd, .int .i64 0, .int .i64 (rt + 1)] 55)))).apart hg7 HAP.out.symm)
          have HX7 : Hid (Blk w7 gx 24 [.int .i64 id, .int .i64 nodes, .slice (some ⟨g, 0, none⟩) n rc]) := Lib.hid (Blk.apart (B := 0) (HXD.out.up (bel_alloc (Below.refl _ _))) hg7 (own_ne_blk HOD.out HXD.out (by decide)))
          have HAP7 : Hid (ApQ v7 (.slice (some ⟨g, 0, none⟩) n rc)) := Lib.hid (fun g9 e e2 => hat7.elim (fun h => HAP.out g9 (h.symm.trans e) e2) (fun h => by rw [h] at e; injection e with e; (have h5 : g = g9 := by (injection e2)); rw [World.size_alloc] at e; omega))
          (first | (go_round; (case rel => exact ⟨j + 1, by omega, by go_num, Lib.hid (by rw [HDS.out, if_pos HDU.out, HTK.out]; exact hown7), HR7, HAP7, HX7, hbD.trans (Below.trans ((bel_alloc (Below.refl _ _)).mono hBD) hb7)⟩); (case measure => (simp [intOf] <;> omega))) | (go_roundw; (case rel => exact ⟨j + 1, by omega, by go_num, Lib.hid (by rw [HDS.out, if_pos HDU.out, HTK.out]; exact hown7), HR7, HAP7, HX7, hbD.trans (Below.trans ((bel_alloc (Below.refl _ _)).mono hBD) hb7)⟩); (case measure => (simp [intOf] <;> omega))) | (refine ⟨?_, by simp [intOf] <;> omega⟩; (repeat apply Exists.intro); refine ⟨?rel, ?fr⟩; (case fr => ((repeat' apply And.intro) <;> rfl)); (case rel => exact ⟨j + 1, by omega, by go_num, Lib.hid (by rw [HDS.out, if_pos HDU.out, HTK.out]; exact hown7), HR7, HAP7, HX7, hbD.trans (Below.trans ((bel_alloc (Below.refl _ _)).mono hBD) hb7)⟩)))
        · skip
          have HDU : Hid (dueB ⟨rk, rd, rg, rt⟩ = true) := Lib.hid (by unfold dueB lim; simp; (try split) <;> omega)
          have HTK : Hid (tk1 ⟨rk, rd, rg, rt⟩ = ⟨rk, rd, 0, 1099511627776⟩) := Lib.hid (by (have hlim : lim (rt + 1) = 1099511627776 := by (unfold lim; first | exact if_pos (by omega) | exact if_neg (by omega))); unfold tk1; rw [HDU.out]; simp [hlim])
          have em : min (rg + 1) 1099511627776 = rg + 1 := by omega
          have et : min (rt + 1) 1099511627776 = 1099511627776 := by omega
          go_upto_region 11 with fail
          clear em et
          refine wp_two (fun WD hWD => ?_)
          have HX1 := OwnQ.put (x := ⟨rk, rd, rg + 1, rt⟩) (r := 2) (v := .int .i64 (rg + 1)) HR.out HML.out (by rw [HML.out]; exact hlt) (by omega) (by rw [HMA.out]; rfl)
          have HX2 := OwnQ.put (j := j) (x := ⟨rk, rd, 0, rt⟩) (r := 2) (v := .int .i64 0) HX1 (by rw [List.length_set]; exact HML.out) (by rw [List.length_set, HML.out]; exact hlt) (by omega) (by rw [show qth ((midQ rows j).set j ⟨rk, rd, rg + 1, rt⟩) j = ⟨rk, rd, rg + 1, rt⟩ by simp [qth, HML.out, hlt]]; rfl)
          have HX3 := OwnQ.put (j := j) (x := ⟨rk, rd, 0, 1099511627776⟩) (r := 3) (v := .int .i64 (1099511627776)) HX2 (by rw [List.length_set, List.length_set]; exact HML.out) (by rw [List.length_set, List.length_set, HML.out]; exact hlt) (by omega) (by rw [show qth (((midQ rows j).set j ⟨rk, rd, rg + 1, rt⟩).set j ⟨rk, rd, 0, rt⟩) j = ⟨rk, rd, 0, rt⟩ by simp [qth, HML.out, hlt]]; rfl)
          have HE : Hid ((((midQ rows j).set j ⟨rk, rd, rg + 1, rt⟩).set j ⟨rk, rd, 0, rt⟩).set j ⟨rk, rd, 0, 1099511627776⟩ = midQ rows (j + 1)) := Lib.hid (by rw [← HMS.out, HTK.out, List.set_set, List.set_set])
          have HRD : Hid (OwnQ WD B (.slice (some ⟨g, 0, none⟩) n rc) (midQ rows (j + 1))) := Lib.hid (by rw [hWD, ← HE.out]; exact HX3)
          have HOD : Hid (OwnQ WD B _ (dueL (rows.take j))) := Lib.hid (by rw [hWD]; exact ((HO4.out.setAp (HAN.out _ HAP.out)).setAp (HAN.out _ HAP.out)).setAp (HAN.out _ HAP.out))
          have HXD : Hid (Blk WD gx 24 [.int .i64 id, .int .i64 nodes, .slice (some ⟨g, 0, none⟩) n rc]) := Lib.hid (by rw [hWD]; exact ((HXK.out.far (p := ⟨g, j * 4 + 2, none⟩) hgne _).far (p := ⟨g, j * 4 + 2, none⟩) hgne _).far (p := ⟨g, j * 4 + 3, none⟩) hgne _)
          have hbD : Below B W1 WD := by rw [hWD]; exact belB_put (belB_put (belB_put hbw hgB) hgB) hgB
          have hBD : B ≤ WD.heap.size := by rw [hWD]; simpa using hBk
          have hgD : g < WD.heap.size := by rw [hWD]; simpa using hgl
          have d0 : WD.cell? ⟨g, j * 4, none⟩ = some (.int .i64 rk) ∧ WD.cell? ⟨g, j * 4 + 1, none⟩ = some (.int .i64 rd) ∧ WD.cell? ⟨g, j * 4 + 2, none⟩ = some (.int .i64 0) ∧ WD.cell? ⟨g, j * 4 + 3, none⟩ = some (.int .i64 (1099511627776)) := by
            obtain ⟨b9, o9, e9, -, hc⟩ := RowsR.at (show RowsR WD (some ⟨g, 0, none⟩) n (midQ rows (j + 1)) from by obtain ⟨A', c', e', h'⟩ := nmQ HRD.out (by rw [midQ_len _ _ (by rw [HN.out]; omega), HN.out]) (by omega); injection e' with e1 e2 e3; subst e1; exact h') (by omega)
            injection e9 with e9
            injection e9 with e91 e92 _
            subst e91; subst e92
            have h9 := hc j hlt
            rw [show qth (midQ rows (j + 1)) j = ⟨rk, rd, 0, 1099511627776⟩ by rw [← HMS.out, HTK.out]; simp [qth, HML.out, hlt]] at h9
            rw [Nat.zero_add] at h9
            exact h9
          obtain ⟨d0, d1, d2, d3⟩ := d0
          clear hWD HX1 HX2 HX3 c0 c1 c2 c3 f2 f3 hgl hBk xl x_0 x_1 x_2
          go_wp2_with (at_builtin; refine wpList_appQ rfl (.tmp 47) (.tmp 51) rfl rfl B _ (dueL (rows.take j)) rfl (HOD.out.up (bel_alloc (Below.refl _ _))) WD.heap.size 0 1 1 [⟨rk, rd, 0, 1099511627776⟩] rfl rfl (box_Q (BoxR.new WD (encQ ⟨rk, rd, 0, 1099511627776⟩) 55)) (by have h9 := dueL_len (rows.take j); have h8 := List.length_take_le j rows; omega) (le_alloc hBD) ?_; intro v7 w7 hown7 hg7 hb7 hat7)
          have HR7 := Lib.hid ((HRD.out.up (bel_alloc (Below.refl _ _) : Below _ _ (WD.alloc (.cells #[.int .i64 rk, .int .i64 rd, .int .i64 0, .int .i64 (1099511627776)] 55)))).apart hg7 HAP.out.symm)
          have HX7 : Hid (Blk w7 gx 24 [.int .i64 id, .int .i64 nodes, .slice (some ⟨g, 0, none⟩) n rc]) := Lib.hid (Blk.apart (B := 0) (HXD.out.up (bel_alloc (Below.refl _ _))) hg7 (own_ne_blk HOD.out HXD.out (by decide)))
          have HAP7 : Hid (ApQ v7 (.slice (some ⟨g, 0, none⟩) n rc)) := Lib.hid (fun g9 e e2 => hat7.elim (fun h => HAP.out g9 (h.symm.trans e) e2) (fun h => by rw [h] at e; injection e with e; (have h5 : g = g9 := by (injection e2)); rw [World.size_alloc] at e; omega))
          (first | (go_round; (case rel => exact ⟨j + 1, by omega, by go_num, Lib.hid (by rw [HDS.out, if_pos HDU.out, HTK.out]; exact hown7), HR7, HAP7, HX7, hbD.trans (Below.trans ((bel_alloc (Below.refl _ _)).mono hBD) hb7)⟩); (case measure => (simp [intOf] <;> omega))) | (go_roundw; (case rel => exact ⟨j + 1, by omega, by go_num, Lib.hid (by rw [HDS.out, if_pos HDU.out, HTK.out]; exact hown7), HR7, HAP7, HX7, hbD.trans (Below.trans ((bel_alloc (Below.refl _ _)).mono hBD) hb7)⟩); (case measure => (simp [intOf] <;> omega))) | (refine ⟨?_, by simp [intOf] <;> omega⟩; (repeat apply Exists.intro); refine ⟨?rel, ?fr⟩; (case fr => ((repeat' apply And.intro) <;> rfl)); (case rel => exact ⟨j + 1, by omega, by go_num, Lib.hid (by rw [HDS.out, if_pos HDU.out, HTK.out]; exact hown7), HR7, HAP7, HX7, hbD.trans (Below.trans ((bel_alloc (Below.refl _ _)).mono hBD) hb7)⟩)))
      case neg =>
        by_cases htm : rt + 1 < 1099511627776
        · skip
          have HDU : Hid (dueB ⟨rk, rd, rg, rt⟩ = true) := Lib.hid (by unfold dueB lim; simp; (try split) <;> omega)
          have HTK : Hid (tk1 ⟨rk, rd, rg, rt⟩ = ⟨rk, rd, 0, rt + 1⟩) := Lib.hid (by (have hlim : lim (rt + 1) = rt + 1 := by (unfold lim; first | exact if_pos (by omega) | exact if_neg (by omega))); unfold tk1; rw [HDU.out]; simp [hlim])
          have em : min (rg + 1) 1099511627776 = 1099511627776 := by omega
          have et : min (rt + 1) 1099511627776 = rt + 1 := by omega
          go_upto_region 11 with fail
          clear em et
          refine wp_two (fun WD hWD => ?_)
          have HX1 := OwnQ.put (x := ⟨rk, rd, 1099511627776, rt⟩) (r := 2) (v := .int .i64 (1099511627776)) HR.out HML.out (by rw [HML.out]; exact hlt) (by omega) (by rw [HMA.out]; rfl)
          have HX2 := OwnQ.put (j := j) (x := ⟨rk, rd, 0, rt⟩) (r := 2) (v := .int .i64 0) HX1 (by rw [List.length_set]; exact HML.out) (by rw [List.length_set, HML.out]; exact hlt) (by omega) (by rw [show qth ((midQ rows j).set j ⟨rk, rd, 1099511627776, rt⟩) j = ⟨rk, rd, 1099511627776, rt⟩ by simp [qth, HML.out, hlt]]; rfl)
          have HX3 := OwnQ.put (j := j) (x := ⟨rk, rd, 0, rt + 1⟩) (r := 3) (v := .int .i64 (rt + 1)) HX2 (by rw [List.length_set, List.length_set]; exact HML.out) (by rw [List.length_set, List.length_set, HML.out]; exact hlt) (by omega) (by rw [show qth (((midQ rows j).set j ⟨rk, rd, 1099511627776, rt⟩).set j ⟨rk, rd, 0, rt⟩) j = ⟨rk, rd, 0, rt⟩ by simp [qth, HML.out, hlt]]; rfl)
          have HE : Hid ((((midQ rows j).set j ⟨rk, rd, 1099511627776, rt⟩).set j ⟨rk, rd, 0, rt⟩).set j ⟨rk, rd, 0, rt + 1⟩ = midQ rows (j + 1)) := Lib.hid (by rw [← HMS.out, HTK.out, List.set_set, List.set_set])
          have HRD : Hid (OwnQ WD B (.slice (some ⟨g, 0, none⟩) n rc) (midQ rows (j + 1))) := Lib.hid (by rw [hWD, ← HE.out]; exact HX3)
          have HOD : Hid (OwnQ WD B _ (dueL (rows.take j))) := Lib.hid (by rw [hWD]; exact ((HO4.out.setAp (HAN.out _ HAP.out)).setAp (HAN.out _ HAP.out)).setAp (HAN.out _ HAP.out))
          have HXD : Hid (Blk WD gx 24 [.int .i64 id, .int .i64 nodes, .slice (some ⟨g, 0, none⟩) n rc]) := Lib.hid (by rw [hWD]; exact ((HXK.out.far (p := ⟨g, j * 4 + 2, none⟩) hgne _).far (p := ⟨g, j * 4 + 2, none⟩) hgne _).far (p := ⟨g, j * 4 + 3, none⟩) hgne _)
          have hbD : Below B W1 WD := by rw [hWD]; exact belB_put (belB_put (belB_put hbw hgB) hgB) hgB
          have hBD : B ≤ WD.heap.size := by rw [hWD]; simpa using hBk
          have hgD : g < WD.heap.size := by rw [hWD]; simpa using hgl
          have d0 : WD.cell? ⟨g, j * 4, none⟩ = some (.int .i64 rk) ∧ WD.cell? ⟨g, j * 4 + 1, none⟩ = some (.int .i64 rd) ∧ WD.cell? ⟨g, j * 4 + 2, none⟩ = some (.int .i64 0) ∧ WD.cell? ⟨g, j * 4 + 3, none⟩ = some (.int .i64 (rt + 1)) := by
            obtain ⟨b9, o9, e9, -, hc⟩ := RowsR.at (show RowsR WD (some ⟨g, 0, none⟩) n (midQ rows (j + 1)) from by obtain ⟨A', c', e', h'⟩ := nmQ HRD.out (by rw [midQ_len _ _ (by rw [HN.out]; omega), HN.out]) (by omega); injection e' with e1 e2 e3; subst e1; exact h') (by omega)
            injection e9 with e9
            injection e9 with e91 e92 _
            subst e91; subst e92
            have h9 := hc j hlt
            rw [show qth (midQ rows (j + 1)) j = ⟨rk, rd, 0, rt + 1⟩ by rw [← HMS.out, HTK.out]; simp [qth, HML.out, hlt]] at h9
            rw [Nat.zero_add] at h9
            exact h9
          obtain ⟨d0, d1, d2, d3⟩ := d0
          clear hWD HX1 HX2 HX3 c0 c1 c2 c3 f2 f3 hgl hBk xl x_0 x_1 x_2
          go_wp2_with (at_builtin; refine wpList_appQ rfl (.tmp 47) (.tmp 51) rfl rfl B _ (dueL (rows.take j)) rfl (HOD.out.up (bel_alloc (Below.refl _ _))) WD.heap.size 0 1 1 [⟨rk, rd, 0, rt + 1⟩] rfl rfl (box_Q (BoxR.new WD (encQ ⟨rk, rd, 0, rt + 1⟩) 55)) (by have h9 := dueL_len (rows.take j); have h8 := List.length_take_le j rows; omega) (le_alloc hBD) ?_; intro v7 w7 hown7 hg7 hb7 hat7)
          have HR7 := Lib.hid ((HRD.out.up (bel_alloc (Below.refl _ _) : Below _ _ (WD.alloc (.cells #[.int .i64 rk, .int .i64 rd, .int .i64 0, .int .i64 (rt + 1)] 55)))).apart hg7 HAP.out.symm)
          have HX7 : Hid (Blk w7 gx 24 [.int .i64 id, .int .i64 nodes, .slice (some ⟨g, 0, none⟩) n rc]) := Lib.hid (Blk.apart (B := 0) (HXD.out.up (bel_alloc (Below.refl _ _))) hg7 (own_ne_blk HOD.out HXD.out (by decide)))
          have HAP7 : Hid (ApQ v7 (.slice (some ⟨g, 0, none⟩) n rc)) := Lib.hid (fun g9 e e2 => hat7.elim (fun h => HAP.out g9 (h.symm.trans e) e2) (fun h => by rw [h] at e; injection e with e; (have h5 : g = g9 := by (injection e2)); rw [World.size_alloc] at e; omega))
          (first | (go_round; (case rel => exact ⟨j + 1, by omega, by go_num, Lib.hid (by rw [HDS.out, if_pos HDU.out, HTK.out]; exact hown7), HR7, HAP7, HX7, hbD.trans (Below.trans ((bel_alloc (Below.refl _ _)).mono hBD) hb7)⟩); (case measure => (simp [intOf] <;> omega))) | (go_roundw; (case rel => exact ⟨j + 1, by omega, by go_num, Lib.hid (by rw [HDS.out, if_pos HDU.out, HTK.out]; exact hown7), HR7, HAP7, HX7, hbD.trans (Below.trans ((bel_alloc (Below.refl _ _)).mono hBD) hb7)⟩); (case measure => (simp [intOf] <;> omega))) | (refine ⟨?_, by simp [intOf] <;> omega⟩; (repeat apply Exists.intro); refine ⟨?rel, ?fr⟩; (case fr => ((repeat' apply And.intro) <;> rfl)); (case rel => exact ⟨j + 1, by omega, by go_num, Lib.hid (by rw [HDS.out, if_pos HDU.out, HTK.out]; exact hown7), HR7, HAP7, HX7, hbD.trans (Below.trans ((bel_alloc (Below.refl _ _)).mono hBD) hb7)⟩)))
        · skip
          have HDU : Hid (dueB ⟨rk, rd, rg, rt⟩ = true) := Lib.hid (by unfold dueB lim; simp; (try split) <;> omega)
          have HTK : Hid (tk1 ⟨rk, rd, rg, rt⟩ = ⟨rk, rd, 0, 1099511627776⟩) := Lib.hid (by (have hlim : lim (rt + 1) = 1099511627776 := by (unfold lim; first | exact if_pos (by omega) | exact if_neg (by omega))); unfold tk1; rw [HDU.out]; simp [hlim])
          have em : min (rg + 1) 1099511627776 = 1099511627776 := by omega
          have et : min (rt + 1) 1099511627776 = 1099511627776 := by omega
          go_upto_region 11 with fail
          clear em et
          refine wp_two (fun WD hWD => ?_)
          have HX1 := OwnQ.put (x := ⟨rk, rd, 1099511627776, rt⟩) (r := 2) (v := .int .i64 (1099511627776)) HR.out HML.out (by rw [HML.out]; exact hlt) (by omega) (by rw [HMA.out]; rfl)
          have HX2 := OwnQ.put (j := j) (x := ⟨rk, rd, 0, rt⟩) (r := 2) (v := .int .i64 0) HX1 (by rw [List.length_set]; exact HML.out) (by rw [List.length_set, HML.out]; exact hlt) (by omega) (by rw [show qth ((midQ rows j).set j ⟨rk, rd, 1099511627776, rt⟩) j = ⟨rk, rd, 1099511627776, rt⟩ by simp [qth, HML.out, hlt]]; rfl)
          have HX3 := OwnQ.put (j := j) (x := ⟨rk, rd, 0, 1099511627776⟩) (r := 3) (v := .int .i64 (1099511627776)) HX2 (by rw [List.length_set, List.length_set]; exact HML.out) (by rw [List.length_set, List.length_set, HML.out]; exact hlt) (by omega) (by rw [show qth (((midQ rows j).set j ⟨rk, rd, 1099511627776, rt⟩).set j ⟨rk, rd, 0, rt⟩) j = ⟨rk, rd, 0, rt⟩ by simp [qth, HML.out, hlt]]; rfl)
          have HE : Hid ((((midQ rows j).set j ⟨rk, rd, 1099511627776, rt⟩).set j ⟨rk, rd, 0, rt⟩).set j ⟨rk, rd, 0, 1099511627776⟩ = midQ rows (j + 1)) := Lib.hid (by rw [← HMS.out, HTK.out, List.set_set, List.set_set])
          have HRD : Hid (OwnQ WD B (.slice (some ⟨g, 0, none⟩) n rc) (midQ rows (j + 1))) := Lib.hid (by rw [hWD, ← HE.out]; exact HX3)
          have HOD : Hid (OwnQ WD B _ (dueL (rows.take j))) := Lib.hid (by rw [hWD]; exact ((HO4.out.setAp (HAN.out _ HAP.out)).setAp (HAN.out _ HAP.out)).setAp (HAN.out _ HAP.out))
          have HXD : Hid (Blk WD gx 24 [.int .i64 id, .int .i64 nodes, .slice (some ⟨g, 0, none⟩) n rc]) := Lib.hid (by rw [hWD]; exact ((HXK.out.far (p := ⟨g, j * 4 + 2, none⟩) hgne _).far (p := ⟨g, j * 4 + 2, none⟩) hgne _).far (p := ⟨g, j * 4 + 3, none⟩) hgne _)
          have hbD : Below B W1 WD := by rw [hWD]; exact belB_put (belB_put (belB_put hbw hgB) hgB) hgB
          have hBD : B ≤ WD.heap.size := by rw [hWD]; simpa using hBk
          have hgD : g < WD.heap.size := by rw [hWD]; simpa using hgl
          have d0 : WD.cell? ⟨g, j * 4, none⟩ = some (.int .i64 rk) ∧ WD.cell? ⟨g, j * 4 + 1, none⟩ = some (.int .i64 rd) ∧ WD.cell? ⟨g, j * 4 + 2, none⟩ = some (.int .i64 0) ∧ WD.cell? ⟨g, j * 4 + 3, none⟩ = some (.int .i64 (1099511627776)) := by
            obtain ⟨b9, o9, e9, -, hc⟩ := RowsR.at (show RowsR WD (some ⟨g, 0, none⟩) n (midQ rows (j + 1)) from by obtain ⟨A', c', e', h'⟩ := nmQ HRD.out (by rw [midQ_len _ _ (by rw [HN.out]; omega), HN.out]) (by omega); injection e' with e1 e2 e3; subst e1; exact h') (by omega)
            injection e9 with e9
            injection e9 with e91 e92 _
            subst e91; subst e92
            have h9 := hc j hlt
            rw [show qth (midQ rows (j + 1)) j = ⟨rk, rd, 0, 1099511627776⟩ by rw [← HMS.out, HTK.out]; simp [qth, HML.out, hlt]] at h9
            rw [Nat.zero_add] at h9
            exact h9
          obtain ⟨d0, d1, d2, d3⟩ := d0
          clear hWD HX1 HX2 HX3 c0 c1 c2 c3 f2 f3 hgl hBk xl x_0 x_1 x_2
          go_wp2_with (at_builtin; refine wpList_appQ rfl (.tmp 47) (.tmp 51) rfl rfl B _ (dueL (rows.take j)) rfl (HOD.out.up (bel_alloc (Below.refl _ _))) WD.heap.size 0 1 1 [⟨rk, rd, 0, 1099511627776⟩] rfl rfl (box_Q (BoxR.new WD (encQ ⟨rk, rd, 0, 1099511627776⟩) 55)) (by have h9 := dueL_len (rows.take j); have h8 := List.length_take_le j rows; omega) (le_alloc hBD) ?_; intro v7 w7 hown7 hg7 hb7 hat7)
          have HR7 := Lib.hid ((HRD.out.up (bel_alloc (Below.refl _ _) : Below _ _ (WD.alloc (.cells #[.int .i64 rk, .int .i64 rd, .int .i64 0, .int .i64 (1099511627776)] 55)))).apart hg7 HAP.out.symm)
          have HX7 : Hid (Blk w7 gx 24 [.int .i64 id, .int .i64 nodes, .slice (some ⟨g, 0, none⟩) n rc]) := Lib.hid (Blk.apart (B := 0) (HXD.out.up (bel_alloc (Below.refl _ _))) hg7 (own_ne_blk HOD.out HXD.out (by decide)))
          have HAP7 : Hid (ApQ v7 (.slice (some ⟨g, 0, none⟩) n rc)) := Lib.hid (fun g9 e e2 => hat7.elim (fun h => HAP.out g9 (h.symm.trans e) e2) (fun h => by rw [h] at e; injection e with e; (have h5 : g = g9 := by (injection e2)); rw [World.size_alloc] at e; omega))
          (first | (go_round; (case rel => exact ⟨j + 1, by omega, by go_num, Lib.hid (by rw [HDS.out, if_pos HDU.out, HTK.out]; exact hown7), HR7, HAP7, HX7, hbD.trans (Below.trans ((bel_alloc (Below.refl _ _)).mono hBD) hb7)⟩); (case measure => (simp [intOf] <;> omega))) | (go_roundw; (case rel => exact ⟨j + 1, by omega, by go_num, Lib.hid (by rw [HDS.out, if_pos HDU.out, HTK.out]; exact hown7), HR7, HAP7, HX7, hbD.trans (Below.trans ((bel_alloc (Below.refl _ _)).mono hBD) hb7)⟩); (case measure => (simp [intOf] <;> omega))) | (refine ⟨?_, by simp [intOf] <;> omega⟩; (repeat apply Exists.intro); refine ⟨?rel, ?fr⟩; (case fr => ((repeat' apply And.intro) <;> rfl)); (case rel => exact ⟨j + 1, by omega, by go_num, Lib.hid (by rw [HDS.out, if_pos HDU.out, HTK.out]; exact hown7), HR7, HAP7, HX7, hbD.trans (Below.trans ((bel_alloc (Below.refl _ _)).mono hBD) hb7)⟩)))
    · skip
      obtain rfl : n = j := by omega
      have HT9 : Hid (midQ rows n = tickQ rows) := Lib.hid (by rw [← HN.out]; exact midQ_end rows)
      have HD9 : Hid (rows.take n = rows) := Lib.hid (List.take_of_length_le (by rw [HN.out]; exact Nat.le_refl _))
      rw [HT9.out] at HR
      rw [HD9.out] at HO4
      have hdt := due_tr (l := rows) (fun i hi => (HBD.out i (by rw [← HN.out]; exact hi)).2)
      have hdl := dueL_len rows
      rw [HN.out] at hdl
      obtain ⟨F, hF⟩ : ∃ F, dueL rows = F := ⟨_, rfl⟩
      have HF9 := Lib.hid hF
      rw [hF] at HO4 hdt hdl
      obtain ⟨fn, hfn⟩ : ∃ m, F.length = m := ⟨_, rfl⟩
      have hfn64 : fn ≤ 64 := by omega
      rw [hfn] at hdt
      have HTF := Lib.hid hdt
      clear hF hdt hdl
      obtain ⟨fA, fc, rfl, hfr⟩ := nmQ (l := F) HO4.out hfn (by omega)
      clear hfn
      subst hB
      obtain ⟨rn, hrn⟩ : ∃ m, m = n := ⟨_, rfl⟩
      subst hrn
      obtain ⟨W4, hW4⟩ : ∃ W, W = wk := ⟨_, rfl⟩
      subst hW4
      have HF4 := HXK
      have HG4 : Hid (Blk W4 (w.heap.size + 1) 24 [.int .i64 0, .int .i64 0, .slice none 0 0]) := Lib.hid ((hbw.block _ (by omega)).trans HG2.out)
      have HFR := Lib.hid hfr
      have HR4 := HR
      have hb4 : Below w.heap.size w W4 := hb2.trans (hbw.mono (by omega))
      have hw4 := hBk
      clear hfr
      go_upto_region 12 with fail
      clear xl x_0 x_1 x_2
      go_cut [3] from 53 to 56 (fun s3 wx => Hid (Blk wx (w.heap.size + 1) 24 [.int .i64 id, .int .i64 nodes, .slice rA rn rc]) ∧ Hid (OwnQ wx (w.heap.size + 2) (.slice rA rn rc) (tickQ rows)) ∧ Hid (OwnMs wx (w.heap.size + 2) s3 (fL id nodes F)) ∧ Below w.heap.size w wx)
      case first =>
        obtain ⟨S, hSd⟩ : ∃ S : World → Prop, S = fun Q => Q.rangeAt gx 0 [.int .i64 id, .int .i64 nodes, .slice rA rn rc] := ⟨_, rfl⟩
        have hS1 : ∀ Q, S Q → Q.rangeAt gx 0 [.int .i64 id, .int .i64 nodes, .slice rA rn rc] := fun Q h => by rw [hSd] at h; exact h
        have hS : ∀ Q, Below W4.heap.size W4 Q → S Q := fun Q hQ => by rw [hSd]; exact Blk.rngQ (HF4.out.up hQ)
        have hS2 : ∀ Q, Blk Q gx 24 [.int .i64 id, .int .i64 nodes, .slice rA rn rc] → S Q := fun Q h => by rw [hSd]; exact Blk.rngQ h
        clear hSd
        refine wp_region_held_drew (S := S) (by kernel_rfl) (hS _ (bel_drew (Below.refl _ _))) (fun hHeld => ?_)
        have hbd : Below W4.heap.size W4 W4.drew := bel_drew (Below.refl _ _)
        generalize W4.drew = Z at *
        refine wpAnyH_takeD (i := 0) (d := (some 53)) (v := .agg ([.int .i64 id, .int .i64 nodes, .slice rA rn rc]).toArray) rfl rfl (by kernel_rfl) (by kernel_rfl) (by kernel_rfl) (fun _ _ _ h => h) (yieldsIf_load_mid (by rfl) 24 _ rfl gx 0 (by simp [Act.eval, Act.put]) ([.int .i64 id, .int .i64 nodes, .slice rA rn rc]) _ (hS1) Try.underlying24 (by rfl) (by kernel_rfl)) (by assumption) ?_
        simp only [Act.put, List.setIfInBounds_toArray, List.set_cons_zero, List.set_cons_succ]
        refine wpAnyH_takeD (i := 1) (d := (some 54)) (v := .agg ([.int .i64 id, .int .i64 nodes, .slice rA rn rc]).toArray) rfl rfl (by kernel_rfl) (by kernel_rfl) (by kernel_rfl) (fun _ _ _ h => h) (yieldsIf_load_mid (by rfl) 24 _ rfl gx 0 (by simp [Act.eval, Act.put]) ([.int .i64 id, .int .i64 nodes, .slice rA rn rc]) _ (hS1) Try.underlying24 (by rfl) (by kernel_rfl)) (by assumption) ?_
        simp only [Act.put, List.setIfInBounds_toArray, List.set_cons_zero, List.set_cons_succ]
        (refine wpAnyH_tk 2 (some 55) (v := ?_) rfl rfl ?_ ?_; rotate_left; (focus (intro wq hSw; clear hSw; go_simp; all_goals (with_reducible rfl))); simp only [Act.put, List.setIfInBounds_toArray, List.set_cons_zero, List.set_cons_succ])
        refine wpAnyH_ready (rs := [3]) (by kernel_rfl) (by simp) ?_
        refine AllReadyH.cons (o := _) rfl (fun K hK => ?_) AllReadyH.nil
        go_simp
        (go_at_call 77; refine (ref21_asks id nodes rA rn rc fA fn fc F _ (HFR.out.up hbd) hfn64 h1 h2 h4 HTF.out).mono ?_; rintro e w5 ⟨vl, rfl, hm5, hb5⟩)
        have hbb := bel_trans hbd hb5
        have hsd := hbd.size
        refine hK.out _ _ (hS _ hbb) (fun hHeld => ?_)
        clear hK K
        (try simp only [Act.put, List.setIfInBounds_toArray, List.set_cons_zero, List.set_cons_succ])
        refine wpAnyH_ready (rs := [4]) (by kernel_rfl) (by simp) ?_
        refine AllReadyH.cons (o := _) rfl (fun K hK => ?_) AllReadyH.nil
        have hG5 := HG4.out.up hbb
        have gl := hG5.lt
        have gf := hG5.frozen
        have g_0 := (hG5.box).2 0 _ rfl; have g_1 := (hG5.box).2 1 _ rfl; have g_2 := (hG5.box).2 2 _ rfl
        go_simp
        clear gl gf g_0 g_1 g_2
        refine hK.out _ _ (hS2 _ (((HF4.out.up hbb).far (p := ⟨w.heap.size + 1, 0, none⟩) (by show gx ≠ w.heap.size + 1; omega) _).far (p := ⟨w.heap.size + 1, 1, none⟩) (by show gx ≠ w.heap.size + 1; omega) _ |>.far (p := ⟨w.heap.size + 1, 2, none⟩) (by show gx ≠ w.heap.size + 1; omega) _)) (fun hHeld => ?_)
        clear hK K
        (try simp only [Act.put, List.setIfInBounds_toArray, List.set_cons_zero, List.set_cons_succ])
        (refine wpAnyH_tk 5 (some 3) (v := ?_) rfl rfl ?_ ?_; rotate_left; (focus (intro wq hSw; clear hSw; go_simp; all_goals (with_reducible rfl))); simp only [Act.put, List.setIfInBounds_toArray, List.set_cons_zero, List.set_cons_succ])
        refine wpAnyH_done (by kernel_rfl) ?_ _
        go_wp2_with fail
        go_meet
        exact ⟨Lib.hid (((hG5.set_ 0 _).set_ 1 _).set_ 2 _), Lib.hid (OwnQ.set3 (OwnQ.set3 (OwnQ.set3 (HR4.out.up hbb) (by omega) _) (by omega) _) (by omega) _), Lib.hid (OwnMs.low (OwnMs.low (OwnMs.low (hm5.mono (by omega)) (by omega)) (by omega)) (by omega)), bel_set3 (bel_set3 (bel_set3 (bel_trans hb4 hbb) (by omega)) (by omega)) (by omega)⟩
      case rest =>
      obtain ⟨HG9, HR9, HM9, hb9⟩ := hcut
      have gl := HG9.out.lt
      have gf := HG9.out.frozen
      have g_0 := (HG9.out.box).2 0 _ rfl; have g_1 := (HG9.out.box).2 1 _ rfl; have g_2 := (HG9.out.box).2 2 _ rfl
      go_wp2_with fail
      refine bodyPost_ret (v := .tuple #[.agg #[.int .i64 id, .int .i64 nodes, .slice rA rn rc], _]) (by simp [results, Try.results49, go_sem, g_0, g_1, g_2] <;> rfl) rfl ⟨_, _, rfl, HR9.out, by rw [HF9.out]; exact HM9.out, hb9⟩
end Go.Proofs.Ytnngeaibdnnpoaa
