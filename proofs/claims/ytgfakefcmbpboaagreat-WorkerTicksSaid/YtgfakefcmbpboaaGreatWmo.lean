/- A tick, at the page: droverref13.Tick. -/
import Derived.Test.YtgfakefcmbpboaaGreatWmi
namespace Go.Proofs.YtgfakefcmbpboaaGreat
open Go.RowKit
set_option linter.unusedSimpArgs false
set_option linter.unusedVariables false

theorem inS_ltB (l : List Int) (x : Int) (y : Bool) (h : memS l x = y) : decide (inS l x < 0) = !y := by
  subst h
  unfold memS
  by_cases hm : x ∈ l
  · have : ¬ inS l x < 0 := fun q => inS_neg.1 q hm
    simp [hm, this]
  · have : inS l x < 0 := inS_neg.2 hm
    simp [hm, this]
noncomputable def tickEnd : Code := cAfter 5 (Tryz.f54.body.getD .skip)
set_option maxRecDepth 100000 in
set_option maxHeartbeats 16000000 in
theorem tick_rest {K0 K1 : Act → World → Prop} (P : WorkP) (D : WorkD) (w w1 W : World) (gw gs : Nat) (a2 c2 : Int) (oA tA eA rA : Option Addr) (on oc tn tc en ec rn rc : Nat) {u0 u2 u4 u5 u6 u7 u8 u9 u10 u11 u12 u13 u14 u15 u16 u17 u18 u19 u20 u21 u22 u23 u24 u25 u26 u27 u28 u29 u30 u31 u32 u33 u34 u35 u36 u37 u38 u39 u40 u41 u42 u43 u44 u45 u46 u47 u48 u49 u50 u51 u52 u53 u54 u55 u56 u57 u58 u59 u60 u61 u62 u63 u64 u65 u66 u67 u68 u69 u70 u71 u72 u73 u74 u75 u76 u77 u78 u79 u80 u81 u82 u83 u84 u85 u86 u87 u88 u89 u90 u91 u92 u93 u94 u95 u96 u97 u98 u99 u100 u101 u102 u103 u104 u105 u106 u107 u108 : Value}
    (hK0 : ∀ a' w', Code.wp Tryz.prog (cSnd tickEnd) (bodyPost Tryz.prog Tryz.f54 (fun e w' => ∃ gs P' A n c ps, e = .returned (.pointer (some ⟨gs, 0, none⟩)) ∧ Blk w' gs 70 [.int .i64 ({ D with clock := c2, age := a2 } : WorkD).id, .int .i64 ({ D with clock := c2, age := a2 } : WorkD).nodes, .int .i64 ({ D with clock := c2, age := a2 } : WorkD).next, .slice P'.op.A P'.op.n P'.op.c, .int .i64 ({ D with clock := c2, age := a2 } : WorkD).age, .int .i64 ({ D with clock := c2, age := a2 } : WorkD).clock, .slice P'.wa.A P'.wa.n P'.wa.c, .slice P'.he.A P'.he.n P'.he.c, .slice P'.re.A P'.re.n P'.re.c, .slice A n c] ∧ WorkO w' w.heap.size P' ({ D with clock := c2, age := a2 } : WorkD) ∧ OwnT dMsg w' w.heap.size (.slice A n c) ps (waitsL D D.wa.length) ∧ w.heap.size ≤ gs ∧ Below w.heap.size w w')) a' w' → K0 a' w')
    (hK1 : ∀ a' w', Code.wp Tryz.prog (cSnd (cFst tickEnd)) (Exit.then K0 (bodyPost Tryz.prog Tryz.f54 (fun e w' => ∃ gs P' A n c ps, e = .returned (.pointer (some ⟨gs, 0, none⟩)) ∧ Blk w' gs 70 [.int .i64 ({ D with clock := c2, age := a2 } : WorkD).id, .int .i64 ({ D with clock := c2, age := a2 } : WorkD).nodes, .int .i64 ({ D with clock := c2, age := a2 } : WorkD).next, .slice P'.op.A P'.op.n P'.op.c, .int .i64 ({ D with clock := c2, age := a2 } : WorkD).age, .int .i64 ({ D with clock := c2, age := a2 } : WorkD).clock, .slice P'.wa.A P'.wa.n P'.wa.c, .slice P'.he.A P'.he.n P'.he.c, .slice P'.re.A P'.re.n P'.re.c, .slice A n c] ∧ WorkO w' w.heap.size P' ({ D with clock := c2, age := a2 } : WorkD) ∧ OwnT dMsg w' w.heap.size (.slice A n c) ps (waitsL D D.wa.length) ∧ w.heap.size ≤ gs ∧ Below w.heap.size w w'))) a' w' → K1 a' w')
    (ho : WorkO w1 w.heap.size ⟨⟨oA, on, oc⟩, ⟨tA, tn, tc⟩, ⟨eA, en, ec⟩, ⟨rA, rn, rc⟩⟩ D) (hm : mayW D = true) (hs : BigD D) (htn : D.wa.length ≤ 1000000) (hb1 : Below w.heap.size w w1) (hbW : Below w1.heap.size w1 W) (hgw0 : w.heap.size ≤ gw) (hgw1 : gw < w1.heap.size) (hgs0 : w1.heap.size ≤ gs)
    (hw : Blk W gw 27 [.int .i64 D.id, .int .i64 D.nodes, .int .i64 D.next, .slice P.op.A P.op.n P.op.c, .int .i64 D.age, .int .i64 D.clock, .slice P.wa.A P.wa.n P.wa.c, .slice P.he.A P.he.n P.he.c, .slice P.re.A P.re.n P.re.c]) (hg : Blk W gs 70 [.int .i64 D.id, .int .i64 D.nodes, .int .i64 D.next, .slice oA on oc, .int .i64 a2, .int .i64 c2, .slice tA tn tc, .slice eA en ec, .slice rA rn rc, .slice none 0 0]) :
    Code.wp Tryz.prog (cFst (cFst tickEnd)) (Exit.then K1 (Exit.then K0 (bodyPost Tryz.prog Tryz.f54 (fun e w' => ∃ gs P' A n c ps, e = .returned (.pointer (some ⟨gs, 0, none⟩)) ∧ Blk w' gs 70 [.int .i64 ({ D with clock := c2, age := a2 } : WorkD).id, .int .i64 ({ D with clock := c2, age := a2 } : WorkD).nodes, .int .i64 ({ D with clock := c2, age := a2 } : WorkD).next, .slice P'.op.A P'.op.n P'.op.c, .int .i64 ({ D with clock := c2, age := a2 } : WorkD).age, .int .i64 ({ D with clock := c2, age := a2 } : WorkD).clock, .slice P'.wa.A P'.wa.n P'.wa.c, .slice P'.he.A P'.he.n P'.he.c, .slice P'.re.A P'.re.n P'.re.c, .slice A n c] ∧ WorkO w' w.heap.size P' ({ D with clock := c2, age := a2 } : WorkD) ∧ OwnT dMsg w' w.heap.size (.slice A n c) ps (waitsL D D.wa.length) ∧ w.heap.size ≤ gs ∧ Below w.heap.size w w')))) { tmps := #[u0, .pointer (some ⟨gw, 0, none⟩), u2, .pointer (some ⟨gs, 0, none⟩), u4, u5, u6, u7, u8, u9, u10, u11, u12, u13, u14, u15, u16, u17, u18, u19, u20, u21, u22, u23, u24, u25, u26, u27, u28, u29, u30, u31, u32, u33, u34, u35, u36, u37, u38, u39, u40, u41, u42, u43, u44, u45, u46, u47, u48, u49, u50, u51, u52, u53, u54, u55, u56, u57, u58, u59, u60, u61, u62, u63, u64, u65, u66, u67, u68, u69, u70, u71, u72, u73, u74, u75, u76, u77, u78, u79, u80, u81, u82, u83, u84, u85, u86, u87, u88, u89, u90, u91, u92, u93, u94, u95, u96, u97, u98, u99, u100, u101, u102, u103, u104, u105, u106, u107, u108], defers := [] } W := by
  have h := ho.work hs
  have HOW := Lib.hid ho
  have H := Lib.hid h
  have hM := mayW_iff.1 hm
  have hn1 : 1 ≤ D.nodes := (isS_bd hM.1).1
  have hn16 : D.nodes ≤ 16 := (isS_bd hM.1).2
  have HSO : Hid (SortedH D.he) := Lib.hid (hdB_iff.1 hM.2.2.2.2.2.2.2.2.2.2.1).sorted
  have HBIG := Lib.hid hs.he
  have HTN : Hid (D.wa.length = tn) := Lib.hid h.wa.1
  have htn6 : tn ≤ 1000000 := by have e1 := h.wa.1; dsimp only at e1; omega
  have HK0 := Lib.hid hK0
  have HK1 := Lib.hid hK1
  have HGW := Lib.hid hw
  have HG0 := Lib.hid hg
  have hgsW := hg.lt
  have hwsz := hb1.size
  clear ho h hm hM hs htn hK0 hK1 hw hg
  dsimp only [tickEnd, cAfter, cSnd, cFst, Tryz.f54, Option.getD]
  go_wp2_with fail
  show K1 _ _
  apply HK1.out
  dsimp only [tickEnd, cAfter, cSnd, cFst, Tryz.f54, Option.getD]
  go_wp2_with fail
  go_loopw [4] (fun iv wr => ∃ (k : Nat) (uA : Option Addr) (un uc : Nat) (ps : List MsgP), k ≤ tn ∧ iv = .int .i64 k ∧ Hid (Blk wr gs 70 [.int .i64 D.id, .int .i64 D.nodes, .int .i64 D.next, .slice oA on oc, .int .i64 a2, .int .i64 c2, .slice tA tn tc, .slice eA en ec, .slice rA rn rc, .slice uA un uc]) ∧ Hid (OwnT dMsg wr W.heap.size (.slice uA un uc) ps (waitsL D k)) ∧ But W.heap.size gs W wr) (fun iv _ => tn - (intOf iv).toNat)
  case atStart => exact ⟨0, none, 0, 0, [], Nat.zero_le _, rfl, HG0, Lib.hid (OwnT.nil _ _), But.refl _ _ _⟩
  case round =>
    obtain ⟨k, uA, un, uc, ps, hk, rfl, HGS, HO, hbut⟩ := hrel
    (obtain ⟨wk, hwk⟩ : ∃ x, x = wr := ⟨_, rfl⟩); subst hwk
    have hszk := hbut.size
    have hbw0 : Below w1.heap.size w1 wk := hbW.trans ((hbut.below (Nat.le_of_lt hgsW)).mono hgs0)
    have lgk := HGS.out.lt
    have s_0 := (HGS.out.box).2 0 _ rfl; have s_1 := (HGS.out.box).2 1 _ rfl; have s_2 := (HGS.out.box).2 2 _ rfl; have s_3 := (HGS.out.box).2 3 _ rfl; have s_4 := (HGS.out.box).2 4 _ rfl; have s_5 := (HGS.out.box).2 5 _ rfl; have s_6 := (HGS.out.box).2 6 _ rfl; have s_7 := (HGS.out.box).2 7 _ rfl; have s_8 := (HGS.out.box).2 8 _ rfl; have s_9 := (HGS.out.box).2 9 _ rfl
    by_cases hlt : k < tn
    · obtain ⟨b, off, e1, hb, hc⟩ := H.out.wa.2.2 (by show 0 < tn; omega)
      dsimp only at e1
      subst e1
      obtain ⟨nA, nn, nc, ⟨w0, w1'⟩, hNT⟩ := hc k hlt
      have HNT := Lib.hid hNT
      have q0 := (hbw0.cell (p := ⟨b, off + k * 2, none⟩) hb).trans w0
      have q1 := (hbw0.cell (p := ⟨b, off + k * 2 + 1, none⟩) hb).trans w1'
      have hbl : b < wk.heap.size := Nat.lt_of_lt_of_le hb hbw0.size
      obtain ⟨lo, hlo⟩ : ∃ x, kposH D.he (wth D.wa k).di = x := ⟨_, rfl⟩
      obtain ⟨y, hy⟩ : ∃ x, khasH D.he (wth D.wa k).di = x := ⟨_, rfl⟩
      have HLO := Lib.hid hlo
      have HY := Lib.hid hy
      have hlk : (k : Int) < (tn : Int) := by omega
      clear hc hNT hlo hy
      go_upto_region 11 with fail
      have hb9 : Below wk.heap.size wk (wk.alloc (.cells #[.int .i64 (wth D.wa k).di, .slice nA nn nc] 56)) := by (repeat (first | (with_reducible exact Below.refl _ _) | (with_reducible assumption) | (with_reducible apply bel_alloc) | (with_reducible apply bel_drew) | (with_reducible apply bel_drewN) | (with_reducible refine bel_trans ?_ (by with_reducible assumption)) | (with_reducible refine bel_trans ?_ (HF.out _)) | (with_reducible refine bel_set ?_ (by simp) _) | (with_reducible refine bel_set ?_ (by simp; omega) _) | (with_reducible refine bel_set ?_ (by omega) _)))
      have HG9 : Hid (Blk (wk.alloc (.cells #[.int .i64 (wth D.wa k).di, .slice nA nn nc] 56)) wk.heap.size 56 [.int .i64 (wth D.wa k).di, .slice nA nn nc]) := Lib.hid (Blk.new wk 56 [.int .i64 (wth D.wa k).di, .slice nA nn nc])
      obtain ⟨g9, hg9⟩ : ∃ g, g = wk.heap.size := ⟨_, rfl⟩
      obtain ⟨w9, hw9⟩ : ∃ Z, Z = wk.alloc (.cells #[.int .i64 (wth D.wa k).di, .slice nA nn nc] 56) := ⟨_, rfl⟩
      rw [← hw9, ← hg9] at HG9 ⊢
      rw [← hw9] at hb9
      have hg9s : gs < g9 := by rw [hg9]; exact lgk
      clear hw9 hg9 w0 w1' q0 q1 hbl s_0 s_1 s_2 s_3 s_4 s_5 s_6 s_7 s_8 s_9
      have HGS9 := Lib.hid (HGS.out.up hb9)
      have HO9 := Lib.hid (HO.out.up hb9)
      have hbut9 := hbut.trans (But.of_below (hb9.mono hszk))
      have l9 := HG9.out.lt
      have x_0 := HG9.out.box.2 0 _ rfl
      have hb1x : Below w1.heap.size w1 w9 := hbw0.trans (hb9.mono hbw0.size)
      cases y
      · have hF : findI D.he (wth D.wa k).di = -1 := by unfold findI; rw [if_neg (by rw [HY.out]; simp)]
        have HF := Lib.hid hF
        have hs : waitsL D (k + 1) = waitsL D k := by rw [waitsL_succ, if_neg (by rw [HY.out]; simp), List.append_nil]
        have HS := Lib.hid hs
        clear hF hs
        go_wp2_with (go_at_call 83; refine (ref13_find gs _ _ _ _ _ _ _ _ _ eA en ec D.he (wth D.wa k).di _ HGS9.out (H.out.he.up hb1x) HSO.out).mono ?_; rintro e w' ⟨rfl, rfl⟩)
        rw [HF.out]
        clear x_0 l9
        go_loop [7] (fun nv => nv = .int .i64 1) (fun _ => 0)
        case atStart => rfl
        case round =>
          obtain rfl := hrel
          have HWm := But.blkk hbut9 HGW.out HGW.out.lt (by omega)
          have lwm := HWm.lt
          have w_1 := HWm.box.2 1 _ rfl
          have hle : decide (1 ≤ D.nodes) = true := by simp only [decide_eq_true_eq]; omega
          clear HWm
          go_wp2_with fail
          (first | (go_round; (case rel => exact ⟨k + 1, uA, un, uc, ps, by omega, by go_num, HGS9, by (rw [HS.out]; exact HO9), hbut9⟩); (case measure => (simp [intOf] <;> omega))) | (go_roundw; (case rel => exact ⟨k + 1, uA, un, uc, ps, by omega, by go_num, HGS9, by (rw [HS.out]; exact HO9), hbut9⟩); (case measure => (simp [intOf] <;> omega))) | (refine ⟨?_, by simp [intOf] <;> omega⟩; (repeat apply Exists.intro); refine ⟨?rel, ?fr⟩; (case fr => ((repeat' apply And.intro) <;> rfl)); (case rel => exact ⟨k + 1, uA, un, uc, ps, by omega, by go_num, HGS9, by (rw [HS.out]; exact HO9), hbut9⟩)))
      · obtain ⟨hlo1, hlo2⟩ := khasH_lt HLO.out HY.out
        have hlen1 : lo < en := by have e1 := H.out.he.1; dsimp only at e1; omega
        obtain ⟨b2, o2, e2, hb2, hc2⟩ := H.out.he.2.2 (by show 0 < en; omega)
        dsimp only at e2
        subst e2
        obtain ⟨bA, bn, bc, ⟨f0, f1, f2, f3⟩, hTX⟩ := hc2 lo hlen1
        have hbn : bn ≤ 800000000 := by rw [← hTX.1]; exact HBIG.out.2 _ (getD_mem hlo1)
        have HBN : Hid ((hth D.he lo).b.tx.length = bn) := Lib.hid hTX.1
        have HF : Hid (w1.cell? ⟨b2, o2 + lo * 4 + 1, none⟩ = some (.int .i64 (hth D.he lo).b.au) ∧ w1.cell? ⟨b2, o2 + lo * 4 + 2, none⟩ = some (.int .i64 (hth D.he lo).b.n) ∧ w1.cell? ⟨b2, o2 + lo * 4 + 3, none⟩ = some (.slice bA bn bc)) := Lib.hid ⟨f1, f2, f3⟩
        have HTX := Lib.hid hTX
        have hF : findI D.he (wth D.wa k).di = (lo : Int) := by unfold findI; rw [if_pos HY.out, HLO.out]
        have HFI := Lib.hid hF
        have hs : waitsL D (k + 1) = waitsL D k ++ askL D.id (wth D.wa k).di (hth D.he lo).b (wth D.wa k).ak D.nodes.toNat := by rw [waitsL_succ, if_pos HY.out, HLO.out]
        have HS := Lib.hid hs
        clear hF hs hTX hc2 f0 f1 f2 f3
        go_wp2_with (go_at_call 83; refine (ref13_find gs _ _ _ _ _ _ _ _ _ (some ⟨b2, o2, none⟩) en ec D.he (wth D.wa k).di _ HGS9.out (H.out.he.up hb1x) HSO.out).mono ?_; rintro e w' ⟨rfl, rfl⟩)
        rw [HFI.out]
        clear x_0 l9
        go_loopw [7] (fun nv wr => ∃ (m : Nat) (uA : Option Addr) (un uc : Nat) (ps : List MsgP), nv = .int .i64 ((m : Int) + 1) ∧ (m : Int) ≤ D.nodes ∧ Hid (Blk wr gs 70 [.int .i64 D.id, .int .i64 D.nodes, .int .i64 D.next, .slice oA on oc, .int .i64 a2, .int .i64 c2, .slice (some ⟨b, off, none⟩) tn tc, .slice (some ⟨b2, o2, none⟩) en ec, .slice rA rn rc, .slice uA un uc]) ∧ Hid (Blk wr g9 56 [.int .i64 (wth D.wa k).di, .slice nA nn nc]) ∧ Hid (OwnT dMsg wr W.heap.size (.slice uA un uc) ps (waitsL D k ++ askL D.id (wth D.wa k).di (hth D.he lo).b (wth D.wa k).ak m)) ∧ But W.heap.size gs W wr) (fun nv _ => 18 - (intOf nv).toNat)
        case atStart => exact ⟨0, uA, un, uc, ps, by go_num, by omega, HGS9, HG9, by (rw [show askL D.id (wth D.wa k).di (hth D.he lo).b (wth D.wa k).ak 0 = [] from rfl, List.append_nil]; exact HO9), hbut9⟩
        case round =>
          clear HGS9 HO9 HG9 hbut9 hbut hb9 hszk hbw0 HGS HO uA un uc ps
          obtain ⟨m, uA, un, uc, ps, rfl, hm16, HGS, HG9, HO, hbutm⟩ := hrel
          (obtain ⟨wm, hwm⟩ : ∃ x, x = wr := ⟨_, rfl⟩); subst hwm
          have hszm := hbutm.size
          have hbX : ∀ X, But W.heap.size gs wm X → Below w1.heap.size w1 X := fun X hX => hbW.trans (((hbutm.trans hX).below (Nat.le_of_lt hgsW)).mono hgs0)
          have HWm := But.blkk hbutm HGW.out HGW.out.lt (by omega)
          have lwm := HWm.lt
          have w_0 := HWm.box.2 0 _ rfl
          have w_1 := HWm.box.2 1 _ rfl
          have l9m := HG9.out.lt
          have x_0 := HG9.out.box.2 0 _ rfl
          have x_1 := HG9.out.box.2 1 _ rfl
          clear HWm
          have hge : decide (0 ≤ (lo : Int)) = true := by simp only [decide_eq_true_eq]; omega
          by_cases hmn : (m : Int) < D.nodes
          · have hle : decide ((m : Int) + 1 ≤ D.nodes) = true := by simp only [decide_eq_true_eq]; omega
            by_cases hid : (m : Int) + 1 = D.id
            · have hs2 : askL D.id (wth D.wa k).di (hth D.he lo).b (wth D.wa k).ak (m + 1) = askL D.id (wth D.wa k).di (hth D.he lo).b (wth D.wa k).ak m ++ [] := by rw [askL, if_neg (fun h => h.1 hid)]
              have HS2 := Lib.hid hs2
              have hne : (((m : Int) + 1) != D.id) = false := by simp [hid]
              clear hid hs2
              go_wp2_with fail
              (first | (go_round; (case rel => exact ⟨m + 1, uA, un, uc, ps, by go_num, by omega, HGS, HG9, by (rw [HS2.out, List.append_nil]; exact HO), hbutm⟩); (case measure => (simp [intOf] <;> omega))) | (go_roundw; (case rel => exact ⟨m + 1, uA, un, uc, ps, by go_num, by omega, HGS, HG9, by (rw [HS2.out, List.append_nil]; exact HO), hbutm⟩); (case measure => (simp [intOf] <;> omega))) | (refine ⟨?_, by simp [intOf] <;> omega⟩; (repeat apply Exists.intro); refine ⟨?rel, ?fr⟩; (case fr => ((repeat' apply And.intro) <;> rfl)); (case rel => exact ⟨m + 1, uA, un, uc, ps, by go_num, by omega, HGS, HG9, by (rw [HS2.out, List.append_nil]; exact HO), hbutm⟩)))
            · have hne : (((m : Int) + 1) != D.id) = true := by simp [hid]
              obtain ⟨y2, hy2⟩ : ∃ q, memS (wth D.wa k).ak ((m : Int) + 1) = q := ⟨_, rfl⟩
              have hI := inS_ltB (wth D.wa k).ak ((m : Int) + 1) y2 hy2
              have HID := Lib.hid hid
              have HY2 := Lib.hid hy2
              clear hid hy2
              cases y2
              · have hs2 : askL D.id (wth D.wa k).di (hth D.he lo).b (wth D.wa k).ak (m + 1) = askL D.id (wth D.wa k).di (hth D.he lo).b (wth D.wa k).ak m ++ [askM D.id (wth D.wa k).di (hth D.he lo).b ((m : Int) + 1)] := by rw [askL, if_pos ⟨HID.out, HY2.out⟩]
                have HS2 := Lib.hid hs2
                have hlen : (waitsL D k ++ askL D.id (wth D.wa k).di (hth D.he lo).b (wth D.wa k).ak m).length ≤ 800000000 := by
                  have h1 := waitsL_len D k hn16
                  have h2 := askL_len D.id (wth D.wa k).di (hth D.he lo).b (wth D.wa k).ak m
                  rw [List.length_append]; omega
                clear hs2
                obtain ⟨S, hSd⟩ : ∃ S : World → Prop, S = fun Q => But W.heap.size gs wm Q ∧ Q.cell? ⟨gs, 7, none⟩ = some (.slice (some ⟨b2, o2, none⟩) en ec) ∧ Q.cell? ⟨g9, 0, none⟩ = some (.int .i64 (wth D.wa k).di) := ⟨_, rfl⟩
                have hS7 : ∀ Q, S Q → Q.cell? ⟨gs, 7, none⟩ = some (.slice (some ⟨b2, o2, none⟩) en ec) := fun Q h => by rw [hSd] at h; exact h.2.1
                have hS9 : ∀ Q, S Q → Q.cell? ⟨g9, 0, none⟩ = some (.int .i64 (wth D.wa k).di) := fun Q h => by rw [hSd] at h; exact h.2.2
                have hS8 : ∀ Q, S Q → Q.rangeAt b2 (o2 + lo * 4 + 1) [.int .i64 (hth D.he lo).b.au, .int .i64 (hth D.he lo).b.n, .slice bA bn bc] := fun Q h => by
                  rw [hSd] at h
                  have hq := hbX Q h.1
                  intro j u hu
                  have hj : j < 3 := (List.getElem?_eq_some_iff.1 hu).1
                  have hcell : ∀ o v, w1.cell? ⟨b2, o, none⟩ = some v → Q.cell? ⟨b2, o, none⟩ = some v := fun o v hv => (hq.cell (p := ⟨b2, o, none⟩) hb2).trans hv
                  match j, hj, hu with
                  | 0, _, hu => injection hu with hu; subst hu; exact hcell _ _ HF.out.1
                  | 1, _, hu => injection hu with hu; subst hu; exact hcell _ _ HF.out.2.1
                  | 2, _, hu => injection hu with hu; subst hu; exact hcell _ _ HF.out.2.2
                have hSG : ∀ Q A n c, But W.heap.size gs wm Q → Blk Q gs 70 [.int .i64 D.id, .int .i64 D.nodes, .int .i64 D.next, .slice oA on oc, .int .i64 a2, .int .i64 c2, .slice (some ⟨b, off, none⟩) tn tc, .slice (some ⟨b2, o2, none⟩) en ec, .slice rA rn rc, .slice A n c] → Blk Q g9 56 [.int .i64 (wth D.wa k).di, .slice nA nn nc] → S Q := fun Q A n c hQ hG h9 => by rw [hSd]; exact ⟨hQ, hG.box.2 7 _ rfl, h9.box.2 0 _ rfl⟩
                have hS : ∀ Q, Below wm.heap.size wm Q → S Q := fun Q hQ => hSG Q _ _ _ (But.of_below (hQ.mono hszm)) (HGS.out.up hQ) (HG9.out.up hQ)
                clear hSd
                go_upto_region 16 with (go_at_call 70; refine (ref0_In nA nn nc (wth D.wa k).ak ((m : Int) + 1) _ (HNT.out.up (hbX _ (But.refl _ _ _)))).mono ?_; rintro e w' ⟨rfl, rfl⟩)
                clear w_0 w_1 x_0 x_1 lwm l9m
                refine wp_region_held_drew (S := S) (by kernel_rfl) (hS _ (bel_drew (Below.refl _ _))) (fun hHeld => ?_)
                have hbd : Below wm.heap.size wm wm.drew := bel_drew (Below.refl _ _)
                have hZ := hHeld
                generalize wm.drew = Z at *
                (refine wpAnyH_takeD (i := 0) (d := (some 92)) (v := ?_) rfl rfl (by kernel_rfl) (by kernel_rfl) (by kernel_rfl) (fun _ _ _ h => h) (Or.inl ⟨by rfl, ?_⟩) (by assumption) ?_; rotate_left; (focus (intro wq hSw; clear hSw; go_simp; all_goals (with_reducible rfl))); simp only [Act.put, List.setIfInBounds_toArray, List.set_cons_zero, List.set_cons_succ])
                (refine wpAnyH_takeD (i := 1) (d := (some 93)) (v := ?_) rfl rfl (by kernel_rfl) (by kernel_rfl) (by kernel_rfl) (fun _ _ _ h => h) (Or.inl ⟨by rfl, ?_⟩) (by assumption) ?_; rotate_left; (focus (intro wq hSw; clear hSw; go_simp; all_goals (with_reducible rfl))); simp only [Act.put, List.setIfInBounds_toArray, List.set_cons_zero, List.set_cons_succ])
                (refine wpAnyH_takeD (i := 2) (d := (some 94)) (v := ?_) rfl rfl (by kernel_rfl) (by kernel_rfl) (by kernel_rfl) (fun _ _ _ h => h) (Or.inl ⟨by rfl, ?_⟩) (by assumption) ?_; rotate_left; (focus (intro wq hSw; clear hSw; go_simp; all_goals (with_reducible rfl))); simp only [Act.put, List.setIfInBounds_toArray, List.set_cons_zero, List.set_cons_succ])
                (refine wpAnyH_takeD (i := 3) (d := (some 95)) (v := ?_) rfl rfl (by kernel_rfl) (by kernel_rfl) (by kernel_rfl) (fun _ _ _ h => h) (Or.inl ⟨by rfl, ?_⟩) (by assumption) ?_; rotate_left; (focus (intro wq hSw; have q1 := hS9 wq hSw; clear hSw; go_simp; all_goals (with_reducible rfl))); simp only [Act.put, List.setIfInBounds_toArray, List.set_cons_zero, List.set_cons_succ])
                (refine wpAnyH_takeD (i := 4) (d := (some 96)) (v := ?_) rfl rfl (by kernel_rfl) (by kernel_rfl) (by kernel_rfl) (fun _ _ _ h => h) (Or.inl ⟨by rfl, ?_⟩) (by assumption) ?_; rotate_left; (focus (intro wq hSw; clear hSw; go_simp; all_goals (with_reducible rfl))); simp only [Act.put, List.setIfInBounds_toArray, List.set_cons_zero, List.set_cons_succ])
                (refine wpAnyH_takeD (i := 5) (d := (some 97)) (v := ?_) rfl rfl (by kernel_rfl) (by kernel_rfl) (by kernel_rfl) (fun _ _ _ h => h) (Or.inl ⟨by rfl, ?_⟩) (by assumption) ?_; rotate_left; (focus (intro wq hSw; clear hSw; go_simp; all_goals (with_reducible rfl))); simp only [Act.put, List.setIfInBounds_toArray, List.set_cons_zero, List.set_cons_succ])
                (refine wpAnyH_takeD (i := 6) (d := (some 98)) (v := ?_) rfl rfl (by kernel_rfl) (by kernel_rfl) (by kernel_rfl) (fun _ _ _ h => h) (Or.inl ⟨by rfl, ?_⟩) (by assumption) ?_; rotate_left; (focus (intro wq hSw; clear hSw; go_simp; all_goals (with_reducible rfl))); simp only [Act.put, List.setIfInBounds_toArray, List.set_cons_zero, List.set_cons_succ])
                (refine wpAnyH_takeD (i := 7) (d := (some 99)) (v := ?_) rfl rfl (by kernel_rfl) (by kernel_rfl) (by kernel_rfl) (fun _ _ _ h => h) (Or.inl ⟨by rfl, ?_⟩) (by assumption) ?_; rotate_left; (focus (intro wq hSw; clear hSw; go_simp; all_goals (with_reducible rfl))); simp only [Act.put, List.setIfInBounds_toArray, List.set_cons_zero, List.set_cons_succ])
                (refine wpAnyH_takeD (i := 8) (d := (some 100)) (v := ?_) rfl rfl (by kernel_rfl) (by kernel_rfl) (by kernel_rfl) (fun _ _ _ h => h) (Or.inl ⟨by rfl, ?_⟩) (by assumption) ?_; rotate_left; (focus (intro wq hSw; have q1 := hS7 wq hSw; clear hSw; go_simp; all_goals (with_reducible rfl))); simp only [Act.put, List.setIfInBounds_toArray, List.set_cons_zero, List.set_cons_succ])
                (refine wpAnyH_takeD (i := 9) (d := (some 101)) (v := ?_) rfl rfl (by kernel_rfl) (by kernel_rfl) (by kernel_rfl) (fun _ _ _ h => h) (Or.inl ⟨by rfl, ?_⟩) (by assumption) ?_; rotate_left; (focus (intro wq hSw; clear hSw; go_simp; all_goals (with_reducible rfl))); simp only [Act.put, List.setIfInBounds_toArray, List.set_cons_zero, List.set_cons_succ])
                (refine wpAnyH_takeD (i := 10) (d := (some 102)) (v := ?_) rfl rfl (by kernel_rfl) (by kernel_rfl) (by kernel_rfl) (fun _ _ _ h => h) (Or.inl ⟨by rfl, ?_⟩) (by assumption) ?_; rotate_left; (focus (intro wq hSw; clear hSw; go_simp; all_goals (with_reducible rfl))); simp only [Act.put, List.setIfInBounds_toArray, List.set_cons_zero, List.set_cons_succ])
                (refine wpAnyH_takeD (i := 11) (d := (some 103)) (v := ?_) rfl rfl (by kernel_rfl) (by kernel_rfl) (by kernel_rfl) (fun _ _ _ h => h) (Or.inl ⟨by rfl, ?_⟩) (by assumption) ?_; rotate_left; (focus (intro wq hSw; clear hSw; go_simp; all_goals (with_reducible rfl))); simp only [Act.put, List.setIfInBounds_toArray, List.set_cons_zero, List.set_cons_succ])
                refine wpAnyH_takeD (i := 12) (d := (some 104)) (v := .agg ([.int .i64 (hth D.he lo).b.au, .int .i64 (hth D.he lo).b.n, .slice bA bn bc]).toArray) rfl rfl (by kernel_rfl) (by kernel_rfl) (by kernel_rfl) (fun _ _ _ h => h) (yieldsIf_load_mid (by rfl) 43 _ rfl b2 (o2 + lo * 4 + 1) (by simp [Act.eval, Act.put]) ([.int .i64 (hth D.he lo).b.au, .int .i64 (hth D.he lo).b.n, .slice bA bn bc]) _ (hS8) Tryz.underlying43 (by rfl) (by kernel_rfl)) (by assumption) ?_
                simp only [Act.put, List.setIfInBounds_toArray, List.set_cons_zero, List.set_cons_succ]
                refine wpAnyH_ready (rs := [13]) (by kernel_rfl) (by simp) ?_
                refine AllReadyH.cons (o := _) rfl (fun K hK => ?_) AllReadyH.nil
                go_simp
                (go_at_call 86; refine (ref0_CopyBatchO (hth D.he lo).b bA bn bc _ (HTX.out.up (hbX _ (But.of_below (hbd.mono hszm)))) hbn).mono ?_; rintro e w7 ⟨v7, rfl, ho7, hb7⟩; obtain ⟨A7, c7, rfl, -⟩ := ho7.txs (by rw [HBN.out]; omega); rw [HBN.out] at ho7 ⊢)
                have hbd7 := bel_trans hbd hb7
                have hszm7 := Nat.le_trans hszm hbd7.size
                have hM7 : OwnM w7 W.heap.size (⟨⟨A7, bn, c7⟩, ⟨⟨none, 0, 0⟩, ⟨none, 0, 0⟩⟩, ⟨⟨⟨none, 0, 0⟩, ⟨none, 0, 0⟩⟩, ⟨none, 0, 0⟩⟩, ⟨none, 0, 0⟩⟩ : MsgP) (⟨1, 0, (m : Int) + 1, (wth D.wa k).di, (hth D.he lo).b, ⟨0, 0, [], []⟩, ⟨⟨0, 0, [], []⟩, 0, []⟩, []⟩ : MsgD) := ⟨ho7.mono (Nat.le_trans hszm hbd.size), OwnI.nil _ _, OwnI.nil _ _, OwnI.nil _ _, OwnI.nil _ _, OwnI.nil _ _, OwnI.nil _ _⟩
                have HM7 := Lib.hid hM7
                clear hM7 ho7
                refine hK.out _ _ (hS _ hbd7) (fun hHeld => ?_)
                clear hK K
                (try simp only [Act.put, List.setIfInBounds_toArray, List.set_cons_zero, List.set_cons_succ])
                (refine wpAnyH_takeD (i := 14) (d := (some 106)) (v := ?_) rfl rfl (by kernel_rfl) (by kernel_rfl) (by kernel_rfl) (fun _ _ _ h => h) (Or.inl ⟨by rfl, ?_⟩) (by assumption) ?_; rotate_left; (focus (intro wq hSw; clear hSw; go_simp; all_goals (with_reducible rfl))); simp only [Act.put, List.setIfInBounds_toArray, List.set_cons_zero, List.set_cons_succ])
                refine wpAnyH_ready (rs := [15]) (by kernel_rfl) (by simp) ?_
                refine AllReadyH.cons (o := _) rfl (fun K hK => ?_) AllReadyH.nil
                go_simp
                (go_at_call 85; refine (ref13_tells gs W.heap.size D.id (.int .i64 D.nodes) (.int .i64 D.next) (.slice oA on oc) (.int .i64 a2) (.int .i64 c2) (.slice (some ⟨b, off, none⟩) tn tc) (.slice (some ⟨b2, o2, none⟩) en ec) (.slice rA rn rc) uA un uc ps (waitsL D k ++ askL D.id (wth D.wa k).di (hth D.he lo).b (wth D.wa k).ak m) (⟨⟨A7, bn, c7⟩, ⟨⟨none, 0, 0⟩, ⟨none, 0, 0⟩⟩, ⟨⟨⟨none, 0, 0⟩, ⟨none, 0, 0⟩⟩, ⟨none, 0, 0⟩⟩, ⟨none, 0, 0⟩⟩ : MsgP) (⟨1, 0, (m : Int) + 1, (wth D.wa k).di, (hth D.he lo).b, ⟨0, 0, [], []⟩, ⟨⟨0, 0, [], []⟩, 0, []⟩, []⟩ : MsgD) _ (HGS.out.up hbd7) hgsW hszm7 (HO.out.up hbd7) hlen HM7.out).mono ?_; rintro e w8 ⟨X, A8, n8, c8, rfl, rfl, hbX8, hkX, hoX⟩)
                have hkw := (KeepM.of_below hbd7).trans hkX
                have hGX := (hkw _ _ _ (by decide) HGS.out).set_ 9 (.slice A8 n8 c8)
                have h9X := (hkw _ _ _ (by decide) HG9.out).far (p := ⟨gs, 9, none⟩) (by show g9 ≠ gs; omega) (.slice A8 n8 c8)
                have hbt8 := ((But.of_below (g := gs) (hbd7.mono hszm)).trans (But.of_below hbX8)).setg (o := 9) (u := .slice A8 n8 c8)
                refine hK.out _ _ (hSG _ _ _ _ hbt8 hGX h9X) (fun hHeld => ?_)
                clear hK K
                (try simp only [Act.put, List.setIfInBounds_toArray, List.set_cons_zero, List.set_cons_succ])
                refine wpAnyH_done (by kernel_rfl) ?_ _
                have hoX2 : OwnT dMsg (X.setCell ⟨gs, 9, none⟩ (.slice A8 n8 c8)) W.heap.size (.slice A8 n8 c8) (ps ++ [(⟨⟨A7, bn, c7⟩, ⟨⟨none, 0, 0⟩, ⟨none, 0, 0⟩⟩, ⟨⟨⟨none, 0, 0⟩, ⟨none, 0, 0⟩⟩, ⟨none, 0, 0⟩⟩, ⟨none, 0, 0⟩⟩ : MsgP)]) (waitsL D k ++ askL D.id (wth D.wa k).di (hth D.he lo).b (wth D.wa k).ak (m + 1)) := by (rw [HS2.out, ← List.append_assoc]; exact hoX.low hgsW)
                have HOX := Lib.hid hoX2
                have HGX := Lib.hid hGX
                have H9X := Lib.hid h9X
                have hbutX := hbutm.trans hbt8
                clear hoX hoX2 hGX h9X hbt8 hkw hkX hbX8 hS hS7 hS8 hS9 hSG hHeld hZ hbd7 hbd hb7 HM7 hszm7
                go_wp2_with fail
                (first | (go_round; (case rel => exact ⟨m + 1, A8, n8, c8, _, by go_num, by omega, HGX, H9X, HOX, hbutX⟩); (case measure => (simp [intOf] <;> omega))) | (go_roundw; (case rel => exact ⟨m + 1, A8, n8, c8, _, by go_num, by omega, HGX, H9X, HOX, hbutX⟩); (case measure => (simp [intOf] <;> omega))) | (refine ⟨?_, by simp [intOf] <;> omega⟩; (repeat apply Exists.intro); refine ⟨?rel, ?fr⟩; (case fr => ((repeat' apply And.intro) <;> rfl)); (case rel => exact ⟨m + 1, A8, n8, c8, _, by go_num, by omega, HGX, H9X, HOX, hbutX⟩)))
              · have hs2 : askL D.id (wth D.wa k).di (hth D.he lo).b (wth D.wa k).ak (m + 1) = askL D.id (wth D.wa k).di (hth D.he lo).b (wth D.wa k).ak m ++ [] := by rw [askL, if_neg (fun h => by rw [HY2.out] at h; cases h.2)]
                have HS2 := Lib.hid hs2
                clear hs2
                go_wp2_with (go_at_call 70; refine (ref0_In nA nn nc (wth D.wa k).ak ((m : Int) + 1) _ (HNT.out.up (hbX _ (But.refl _ _ _)))).mono ?_; rintro e w' ⟨rfl, rfl⟩)
                (first | (go_round; (case rel => exact ⟨m + 1, uA, un, uc, ps, by go_num, by omega, HGS, HG9, by (rw [HS2.out, List.append_nil]; exact HO), hbutm⟩); (case measure => (simp [intOf] <;> omega))) | (go_roundw; (case rel => exact ⟨m + 1, uA, un, uc, ps, by go_num, by omega, HGS, HG9, by (rw [HS2.out, List.append_nil]; exact HO), hbutm⟩); (case measure => (simp [intOf] <;> omega))) | (refine ⟨?_, by simp [intOf] <;> omega⟩; (repeat apply Exists.intro); refine ⟨?rel, ?fr⟩; (case fr => ((repeat' apply And.intro) <;> rfl)); (case rel => exact ⟨m + 1, uA, un, uc, ps, by go_num, by omega, HGS, HG9, by (rw [HS2.out, List.append_nil]; exact HO), hbutm⟩)))
          · have hle : decide ((m : Int) + 1 ≤ D.nodes) = false := by simp only [decide_eq_false_iff_not]; omega
            have hmt : D.nodes.toNat = m := by omega
            have HMT := Lib.hid hmt
            clear hmt
            go_wp2_with fail
            (first | (go_round; (case rel => exact ⟨k + 1, uA, un, uc, ps, by omega, by go_num, HGS, by (rw [HS.out, HMT.out]; exact HO), hbutm⟩); (case measure => (simp [intOf] <;> omega))) | (go_roundw; (case rel => exact ⟨k + 1, uA, un, uc, ps, by omega, by go_num, HGS, by (rw [HS.out, HMT.out]; exact HO), hbutm⟩); (case measure => (simp [intOf] <;> omega))) | (refine ⟨?_, by simp [intOf] <;> omega⟩; (repeat apply Exists.intro); refine ⟨?rel, ?fr⟩; (case fr => ((repeat' apply And.intro) <;> rfl)); (case rel => exact ⟨k + 1, uA, un, uc, ps, by omega, by go_num, HGS, by (rw [HS.out, HMT.out]; exact HO), hbutm⟩)))
    · have ekn : tn = k := by omega
      subst ekn
      have hd1 : decide ((tn : Int) < (tn : Int)) = false := by simp
      go_wp2_with fail
      show K0 _ _
      apply HK0.out
      dsimp only [tickEnd, cAfter, cSnd, cFst, Tryz.f54, Option.getD]
      clear s_0 s_1 s_2 s_3 s_4 s_5 s_6 s_7 s_8 s_9
      go_wp2_with fail
      go_ret
      exact ⟨gs, ⟨⟨oA, on, oc⟩, ⟨tA, tn, tc⟩, ⟨eA, en, ec⟩, ⟨rA, rn, rc⟩⟩, uA, un, uc, ps, rfl, HGS.out, ⟨(HOW.out.up hbw0).op, (HOW.out.up hbw0).wa, (HOW.out.up hbw0).he, (HOW.out.up hbw0).re⟩, by (rw [HTN.out]; exact HO.out.mono (Nat.le_trans hwsz (Nat.le_trans hgs0 (Nat.le_of_lt hgsW)))), Nat.le_trans hwsz hgs0, hb1.trans (hbw0.mono hwsz)⟩
end Go.Proofs.YtgfakefcmbpboaaGreat
