/- What is told, at the page: Step.tells; where a digest is held: Step.find. -/
import Derived.Test.YtgfakefcmbpboaaSxWy
import Derived.Test.YtgfakefcmbpboaaSxWsf
namespace Go.Proofs.Ytgfakefcmbpboaa
open Go.RowKit
set_option linter.unusedSimpArgs false
set_option linter.unusedVariables false

end Go.Proofs.Ytgfakefcmbpboaa
namespace Go.Proofs.Ytgfakefcmbpboaa
open Go.RowKit
set_option linter.unusedSimpArgs false
set_option linter.unusedVariables false

/-- What the first k that wait ask. -/
noncomputable def waitsL (D : WorkD) : Nat → List MsgD
  | 0 => []
  | k + 1 => waitsL D k ++ if khasH D.he (wth D.wa k).di = true then askL D.id (wth D.wa k).di (hth D.he (kposH D.he (wth D.wa k).di)).b (wth D.wa k).ak D.nodes.toNat else []
noncomputable def tickL (D : WorkD) : List MsgD := if min (D.clock + 1) 1099511627776 % 3 = 0 then waitsL D D.wa.length else []
theorem waitsL_len (D : WorkD) (k : Nat) (hn : D.nodes ≤ 16) : (waitsL D k).length ≤ k * 16 := by
  induction k with
  | zero => simp [waitsL]
  | succ k ih =>
    unfold waitsL
    rw [List.length_append]
    split
    · have := askL_len D.id (wth D.wa k).di (hth D.he (kposH D.he (wth D.wa k).di)).b (wth D.wa k).ak D.nodes.toNat
      omega
    · simp; omega
theorem waitsL_succ (D : WorkD) (k : Nat) : waitsL D (k + 1) = waitsL D k ++ if khasH D.he (wth D.wa k).di = true then askL D.id (wth D.wa k).di (hth D.he (kposH D.he (wth D.wa k).di)).b (wth D.wa k).ak D.nodes.toNat else [] := rfl
theorem But.blkk {B g k : Nat} {w w' : World} {t : TypeId} {cs : List Value} (h : But B g w w') (hb : Blk w k t cs) (hk : k < B) (hne : k ≠ g) : Blk w' k t cs := hb.of_heap (h.block k hk hne)
theorem OwnT.lows {α β : Type} [Inhabited α] [Inhabited β] {T : DeepT α β} {w : World} {B g : Nat} {v : Value} {ps : List β} {l : List α} (h : OwnT T w B v ps l) (hp : g < B) (a0 a1 a2 a3 a4 a5 a6 a7 a8 : Value) : OwnT T (((((((((w.setCell ⟨g, 0, none⟩ a0).setCell ⟨g, 1, none⟩ a1).setCell ⟨g, 2, none⟩ a2).setCell ⟨g, 3, none⟩ a3).setCell ⟨g, 4, none⟩ a4).setCell ⟨g, 5, none⟩ a5).setCell ⟨g, 6, none⟩ a6).setCell ⟨g, 7, none⟩ a7).setCell ⟨g, 8, none⟩ a8) B v ps l := ((((((((h.low hp).low hp).low hp).low hp).low hp).low hp).low hp).low hp).low hp
noncomputable def beatEnd : Code := cAfter 5 (Try.f28.body.getD .skip)
set_option maxRecDepth 100000 in
set_option maxHeartbeats 16000000 in
theorem beat_rest {K0 K1 : Act → World → Prop} (D : WorkD) (w W : World) (gr gs : Nat) (a2 c2 : Int) (oA tA eA rA : Option Addr) (on oc tn tc en ec rn rc : Nat) {u0 u1 u3 u5 u6 u7 u8 u9 u10 u11 u12 u13 u14 u15 u16 u17 u18 u19 u20 u21 u22 u23 u24 u25 u26 u27 u28 u29 u30 u31 u32 u33 u34 u35 u36 u37 u38 u39 u40 u41 u42 u43 u44 u45 u46 u47 u48 u49 u50 u51 u52 u53 u54 u55 u56 u57 u58 u59 u60 u61 u62 u63 u64 u65 u66 u67 u68 u69 u70 u71 u72 u73 u74 u75 u76 u77 u78 u79 u80 u81 u82 u83 u84 u85 u86 u87 u88 u89 u90 u91 u92 u93 u94 u95 u96 u97 : Value}
    (hK0 : ∀ a' w', Code.wp Try.prog (cSnd beatEnd) (bodyPost Try.prog Try.f28 (fun e w' => ∃ A n c ps, e = .returned (.tuple #[.agg #[.int .i64 D.id, .int .i64 D.nodes, .int .i64 D.next, .slice oA on oc, .int .i64 a2, .int .i64 c2, .slice tA tn tc, .slice eA en ec, .slice rA rn rc], .slice A n c]) ∧ OwnT dMsg w' w.heap.size (.slice A n c) ps (waitsL D D.wa.length) ∧ Below w.heap.size w w')) a' w' → K0 a' w')
    (hK1 : ∀ a' w', Code.wp Try.prog (cSnd (cFst beatEnd)) (Exit.then K0 (bodyPost Try.prog Try.f28 (fun e w' => ∃ A n c ps, e = .returned (.tuple #[.agg #[.int .i64 D.id, .int .i64 D.nodes, .int .i64 D.next, .slice oA on oc, .int .i64 a2, .int .i64 c2, .slice tA tn tc, .slice eA en ec, .slice rA rn rc], .slice A n c]) ∧ OwnT dMsg w' w.heap.size (.slice A n c) ps (waitsL D D.wa.length) ∧ Below w.heap.size w w'))) a' w' → K1 a' w')
    (h : WorkR w ⟨⟨oA, on, oc⟩, ⟨tA, tn, tc⟩, ⟨eA, en, ec⟩, ⟨rA, rn, rc⟩⟩ D) (hm : mayW D = true) (hs : BigD D) (htn : D.wa.length ≤ 1000000) (hbW : Below w.heap.size w W) (hgr0 : w.heap.size ≤ gr) (hgr : gr < gs)
    (hr : Blk W gr 27 [.int .i64 0, .int .i64 0, .int .i64 0, .slice none 0 0, .int .i64 0, .int .i64 0, .slice none 0 0, .slice none 0 0, .slice none 0 0]) (hg : Blk W gs 97 [.int .i64 D.id, .int .i64 D.nodes, .int .i64 D.next, .slice oA on oc, .int .i64 a2, .int .i64 c2, .slice tA tn tc, .slice eA en ec, .slice rA rn rc, .slice none 0 0]) :
    Code.wp Try.prog (cFst (cFst beatEnd)) (Exit.then K1 (Exit.then K0 (bodyPost Try.prog Try.f28 (fun e w' => ∃ A n c ps, e = .returned (.tuple #[.agg #[.int .i64 D.id, .int .i64 D.nodes, .int .i64 D.next, .slice oA on oc, .int .i64 a2, .int .i64 c2, .slice tA tn tc, .slice eA en ec, .slice rA rn rc], .slice A n c]) ∧ OwnT dMsg w' w.heap.size (.slice A n c) ps (waitsL D D.wa.length) ∧ Below w.heap.size w w')))) { tmps := #[u0, u1, .pointer (some ⟨gr, 0, none⟩), u3, .pointer (some ⟨gs, 0, none⟩), u5, u6, u7, u8, u9, u10, u11, u12, u13, u14, u15, u16, u17, u18, u19, u20, u21, u22, u23, u24, u25, u26, u27, u28, u29, u30, u31, u32, u33, u34, u35, u36, u37, u38, u39, u40, u41, u42, u43, u44, u45, u46, u47, u48, u49, u50, u51, u52, u53, u54, u55, u56, u57, u58, u59, u60, u61, u62, u63, u64, u65, u66, u67, u68, u69, u70, u71, u72, u73, u74, u75, u76, u77, u78, u79, u80, u81, u82, u83, u84, u85, u86, u87, u88, u89, u90, u91, u92, u93, u94, u95, u96, u97], defers := [] } W := by
  have H := Lib.hid h
  have hM := mayW_iff.1 hm
  have hn1 : 1 ≤ D.nodes := (isS_bd hM.1).1
  have hn16 : D.nodes ≤ 16 := (isS_bd hM.1).2
  have HSO : Hid (SortedH D.he) := Lib.hid (hdB_iff.1 hM.2.2.2.2.2.2.2.2.2.2.1).sorted
  have hen9 : en ≤ 1000000000 := by have e1 := h.he.1; have e2 := hs.he.1; dsimp only at e1; omega
  have HBIG := Lib.hid hs.he
  have HTN : Hid (D.wa.length = tn) := Lib.hid h.wa.1
  have htn6 : tn ≤ 1000000 := by have e1 := h.wa.1; dsimp only at e1; omega
  have HK0 := Lib.hid hK0
  have HK1 := Lib.hid hK1
  have HR := Lib.hid hr
  have HG0 := Lib.hid hg
  have hgs0 : w.heap.size ≤ gs := by omega
  have hgsW := hg.lt
  have hgrW := hr.lt
  have b6 := hg.box.2 6 _ rfl
  clear h hm hM hs htn hK0 hK1 hr hg
  dsimp only [beatEnd, cAfter, cSnd, cFst, Try.f28, Option.getD]
  go_wp2_with fail
  show K1 _ _
  apply HK1.out
  dsimp only [beatEnd, cAfter, cSnd, cFst, Try.f28, Option.getD]
  clear b6
  go_wp2_with fail
  go_loopw [58] (fun iv wr => ∃ (k : Nat) (uA : Option Addr) (un uc : Nat) (ps : List MsgP), k ≤ tn ∧ iv = .int .i64 k ∧ Hid (Blk wr gs 97 [.int .i64 D.id, .int .i64 D.nodes, .int .i64 D.next, .slice oA on oc, .int .i64 a2, .int .i64 c2, .slice tA tn tc, .slice eA en ec, .slice rA rn rc, .slice uA un uc]) ∧ Hid (OwnT dMsg wr W.heap.size (.slice uA un uc) ps (waitsL D k)) ∧ But W.heap.size gs W wr) (fun iv _ => tn - (intOf iv).toNat)
  case atStart => exact ⟨0, none, 0, 0, [], Nat.zero_le _, rfl, HG0, Lib.hid (OwnT.nil _ _), But.refl _ _ _⟩
  case round =>
    obtain ⟨k, uA, un, uc, ps, hk, rfl, HGS, HO, hbut⟩ := hrel
    (obtain ⟨wk, hwk⟩ : ∃ x, x = wr := ⟨_, rfl⟩); subst hwk
    have hszk := hbut.size
    have hbw0 : Below w.heap.size w wk := hbW.trans ((hbut.below (Nat.le_of_lt hgsW)).mono hgs0)
    by_cases hlt : k < tn
    · obtain ⟨b, off, e1, hb, hc⟩ := H.out.wa.2.2 (by show 0 < tn; omega)
      dsimp only at e1
      subst e1
      obtain ⟨nA, nn, nc, ⟨w0, w1⟩, hNT⟩ := hc k hlt
      have HNT := Lib.hid hNT
      have q0 := (hbw0.cell (p := ⟨b, off + k * 2, none⟩) hb).trans w0
      have q1 := (hbw0.cell (p := ⟨b, off + k * 2 + 1, none⟩) hb).trans w1
      have hbl : b < wk.heap.size := Nat.lt_of_lt_of_le hb hbw0.size
      obtain ⟨lo, hlo⟩ : ∃ x, kposH D.he (wth D.wa k).di = x := ⟨_, rfl⟩
      obtain ⟨y, hy⟩ : ∃ x, khasH D.he (wth D.wa k).di = x := ⟨_, rfl⟩
      have HLO := Lib.hid hlo
      have HY := Lib.hid hy
      have hlk : (k : Int) < (tn : Int) := by omega
      clear hc hNT hlo hy
      go_upto_region 10 with fail
      have hb9 : Below wk.heap.size wk (wk.alloc (.cells #[.int .i64 (wth D.wa k).di, .slice nA nn nc] 84)) := belA
      have HG9 : Hid (Blk (wk.alloc (.cells #[.int .i64 (wth D.wa k).di, .slice nA nn nc] 84)) wk.heap.size 84 [.int .i64 (wth D.wa k).di, .slice nA nn nc]) := Lib.hid (Blk.new wk 84 [.int .i64 (wth D.wa k).di, .slice nA nn nc])
      obtain ⟨g9, hg9⟩ : ∃ g, g = wk.heap.size := ⟨_, rfl⟩
      obtain ⟨w9, hw9⟩ : ∃ Z, Z = wk.alloc (.cells #[.int .i64 (wth D.wa k).di, .slice nA nn nc] 84) := ⟨_, rfl⟩
      rw [← hw9, ← hg9] at HG9 ⊢
      rw [← hw9] at hb9
      clear hw9 hg9 w0 w1 q0 q1 hbl
      have hbw2 : ∀ X, Below w9.heap.size w9 X → Below w.heap.size w X := fun X hX => hbw0.trans ((bel_trans hb9 hX).mono hbw0.size)
      obtain ⟨S, hSd⟩ : ∃ S : World → Prop, S = fun Q => Q.cell? ⟨gs, 7, none⟩ = some (.slice eA en ec) ∧ Q.cell? ⟨g9, 0, none⟩ = some (.int .i64 (wth D.wa k).di) := ⟨_, rfl⟩
      have hS7 : ∀ Q, S Q → Q.cell? ⟨gs, 7, none⟩ = some (.slice eA en ec) := fun Q h => by rw [hSd] at h; exact h.1
      have hS6 : ∀ Q, S Q → Q.cell? ⟨g9, 0, none⟩ = some (.int .i64 (wth D.wa k).di) := fun Q h => by rw [hSd] at h; exact h.2
      have hS : ∀ Q, Below w9.heap.size w9 Q → S Q := fun Q hQ => by rw [hSd]; exact ⟨(HGS.out.up (bel_trans hb9 hQ)).box.2 7 _ rfl, (HG9.out.up hQ).box.2 0 _ rfl⟩
      clear hSd
      refine wp_region_held_drew (S := S) (by kernel_rfl) (hS _ (bel_drew (Below.refl _ _))) (fun hHeld => ?_)
      have hbd : Below w9.heap.size w9 w9.drew := bel_drew (Below.refl _ _)
      have hZ := hHeld
      generalize w9.drew = Z0 at *
      (refine wpAnyH_tk 0 (some 63) (v := ?_) rfl rfl ?_ ?_; rotate_left; (focus (intro wq hSw; clear hSw; go_simp; all_goals (with_reducible rfl))); simp only [Act.put, lzT, lzZ, lzS])
      (refine wpAnyH_tk 1 (some 64) (v := ?_) rfl rfl ?_ ?_; rotate_left; (focus (intro wq hSw; clear hSw; go_simp; all_goals (with_reducible rfl))); simp only [Act.put, lzT, lzZ, lzS])
      (refine wpAnyH_tk 2 (some 65) (v := ?_) rfl rfl ?_ ?_; rotate_left; (focus (intro wq hSw; clear hSw; go_simp; all_goals (with_reducible rfl))); simp only [Act.put, lzT, lzZ, lzS])
      (refine wpAnyH_tk 3 (some 66) (v := ?_) rfl rfl ?_ ?_; rotate_left; (focus (intro wq hSw; clear hSw; go_simp; all_goals (with_reducible rfl))); simp only [Act.put, lzT, lzZ, lzS])
      (refine wpAnyH_tk 4 (some 67) (v := ?_) rfl rfl ?_ ?_; rotate_left; (focus (intro wq hSw; have q1 := hS7 wq hSw; clear hSw; go_simp; all_goals (with_reducible rfl))); simp only [Act.put, lzT, lzZ, lzS])
      (refine wpAnyH_tk 5 (some 68) (v := ?_) rfl rfl ?_ ?_; rotate_left; (focus (intro wq hSw; clear hSw; go_simp; all_goals (with_reducible rfl))); simp only [Act.put, lzT, lzZ, lzS])
      (refine wpAnyH_tk 6 (some 69) (v := ?_) rfl rfl ?_ ?_; rotate_left; (focus (intro wq hSw; have q1 := hS6 wq hSw; clear hSw; go_simp; all_goals (with_reducible rfl))); simp only [Act.put, lzT, lzZ, lzS])
      refine wpAnyH_ready (rs := [7]) (by kernel_rfl) (by simp) ?_
      refine AllReadyH.cons (o := _) rfl (fun K hK => ?_) AllReadyH.nil
      go_simp
      (go_at_call 50; refine (worker_At eA en ec D.he (wth D.wa k).di lo y _ (H.out.he.up (hbw2 _ hbd)) HSO.out hen9 HLO.out HY.out).mono ?_; rintro e w5 ⟨rfl, hb5⟩)
      refine hK.out _ _ (hS _ (bel_trans hbd hb5)) (fun hHeld => ?_)
      clear hK K
      (try simp only [Act.put, lzT, lzZ, lzS])
      (refine wpAnyH_tk 8 (some 62) (v := ?_) rfl rfl ?_ ?_; rotate_left; (focus (intro wq hSw; clear hSw; go_simp; all_goals (with_reducible rfl))); simp only [Act.put, lzT, lzZ, lzS])
      (refine wpAnyH_tk 9 (some 71) (v := ?_) rfl rfl ?_ ?_; rotate_left; (focus (intro wq hSw; clear hSw; go_simp; all_goals (with_reducible rfl))); simp only [Act.put, lzT, lzZ, lzS])
      (refine wpAnyH_tk 10 (some 72) (v := ?_) rfl rfl ?_ ?_; rotate_left; (focus (intro wq hSw; clear hSw; go_simp; all_goals (with_reducible rfl))); simp only [Act.put, lzT, lzZ, lzS])
      (refine wpAnyH_tk 11 (some 7) (v := ?_) rfl rfl ?_ ?_; rotate_left; (focus (intro wq hSw; clear hSw; go_simp; all_goals (with_reducible rfl))); simp only [Act.put, lzT, lzZ, lzS])
      (refine wpAnyH_tk 12 (some 8) (v := ?_) rfl rfl ?_ ?_; rotate_left; (focus (intro wq hSw; clear hSw; go_simp; all_goals (with_reducible rfl))); simp only [Act.put, lzT, lzZ, lzS])
      refine wpAnyH_done (by kernel_rfl) ?_ _
      have hbz := bel_trans hbd hb5
      clear hS hS6 hS7 hHeld hZ hb5 hbd
      cases y
      · have hs : waitsL D (k + 1) = waitsL D k := by rw [waitsL_succ, if_neg (by rw [HY.out]; simp), List.append_nil]
        have HS := Lib.hid hs
        clear hs
        go_wp2_with fail
        (first | (go_round; (case rel => exact ⟨k + 1, uA, un, uc, ps, by omega, by go_num, Lib.hid (HGS.out.up (bel_trans hb9 hbz)), by (rw [HS.out]; exact Lib.hid (HO.out.up (bel_trans hb9 hbz))), hbut.trans (But.of_below ((bel_trans hb9 hbz).mono hszk))⟩); (case measure => (simp [intOf] <;> omega))) | (go_roundw; (case rel => exact ⟨k + 1, uA, un, uc, ps, by omega, by go_num, Lib.hid (HGS.out.up (bel_trans hb9 hbz)), by (rw [HS.out]; exact Lib.hid (HO.out.up (bel_trans hb9 hbz))), hbut.trans (But.of_below ((bel_trans hb9 hbz).mono hszk))⟩); (case measure => (simp [intOf] <;> omega))) | (refine ⟨?_, by simp [intOf] <;> omega⟩; (repeat apply Exists.intro); refine ⟨?rel, ?fr⟩; (case fr => ((repeat' apply And.intro) <;> rfl)); (case rel => exact ⟨k + 1, uA, un, uc, ps, by omega, by go_num, Lib.hid (HGS.out.up (bel_trans hb9 hbz)), by (rw [HS.out]; exact Lib.hid (HO.out.up (bel_trans hb9 hbz))), hbut.trans (But.of_below ((bel_trans hb9 hbz).mono hszk))⟩)))
      · obtain ⟨hlo1, hlo2⟩ := khasH_lt HLO.out HY.out
        have hlen1 : lo < en := by have e1 := H.out.he.1; dsimp only at e1; omega
        obtain ⟨b2, o2, e2, hb2, hc2⟩ := H.out.he.2.2 (by show 0 < en; omega)
        dsimp only at e2
        subst e2
        obtain ⟨bA, bn, bc, ⟨f0, f1, f2, f3⟩, hTX⟩ := hc2 lo hlen1
        have hbn : bn ≤ 800000000 := by rw [← hTX.1]; exact HBIG.out.2 _ (getD_mem hlo1)
        have hlen := waitsL_len D k (hn16)
        have hlen : (waitsL D k).length ≤ 700000000 := by omega
        have hs : waitsL D (k + 1) = waitsL D k ++ askL D.id (wth D.wa k).di (hth D.he lo).b (wth D.wa k).ak D.nodes.toNat := by rw [waitsL_succ, if_pos HY.out, HLO.out]
        have HS := Lib.hid hs
        have HTX := Lib.hid hTX
        have HG9 : Hid (Blk w5 g9 84 [.int .i64 (wth D.wa k).di, .slice nA nn nc]) := Lib.hid (HG9.out.up hbz)
        have HGS := Lib.hid (HGS.out.up (bel_trans hb9 hbz))
        have HO := Lib.hid (HO.out.up (bel_trans hb9 hbz))
        have hbut5 := hbut.trans (But.of_below ((bel_trans hb9 hbz).mono hszk))
        have hszk5 := hbut5.size
        have hbX : ∀ X, But W.heap.size gs w5 X → Below w.heap.size w X := fun X hX => hbW.trans (((hbut5.trans hX).below (Nat.le_of_lt hgsW)).mono hgs0)
        have HCB : Hid (∀ X, But W.heap.size gs w5 X → X.cell? ⟨gs, 7, none⟩ = some (.slice (some ⟨b2, o2, none⟩) en ec) → Blk X gs 97 [.int .i64 D.id, .int .i64 D.nodes, .int .i64 D.next, .slice oA on oc, .int .i64 a2, .int .i64 c2, .slice (some ⟨b, off, none⟩) tn tc, .slice (some ⟨b2, o2, none⟩) en ec, .slice rA rn rc, .slice uA un uc] → True) := Lib.hid (fun _ _ _ _ => trivial)
        clear hs hTX hc2 HCB hbut hszk hbz hb9 hbw2
        obtain ⟨S, hSd⟩ : ∃ S : World → Prop, S = fun Q => But W.heap.size gs w5 Q ∧ Q.cell? ⟨gs, 7, none⟩ = some (.slice (some ⟨b2, o2, none⟩) en ec) := ⟨_, rfl⟩
        have hS7 : ∀ Q, S Q → Q.cell? ⟨gs, 7, none⟩ = some (.slice (some ⟨b2, o2, none⟩) en ec) := fun Q h => by rw [hSd] at h; exact h.2
        have hS8 : ∀ Q, S Q → Q.rangeAt b2 (o2 + lo * 4 + 1) [.int .i64 (hth D.he lo).b.au, .int .i64 (hth D.he lo).b.n, .slice bA bn bc] := fun Q h => by
          rw [hSd] at h
          have hq := hbX Q h.1
          intro j u hu
          have hj : j < 3 := (List.getElem?_eq_some_iff.1 hu).1
          have hcell : ∀ o v, w.cell? ⟨b2, o, none⟩ = some v → Q.cell? ⟨b2, o, none⟩ = some v := fun o v hv => (hq.cell (p := ⟨b2, o, none⟩) hb2).trans hv
          match j, hj, hu with
          | 0, _, hu => injection hu with hu; subst hu; exact hcell _ _ f1
          | 1, _, hu => injection hu with hu; subst hu; exact hcell _ _ f2
          | 2, _, hu => injection hu with hu; subst hu; exact hcell _ _ f3
        have hSG : ∀ Q, But W.heap.size gs w5 Q → ∀ A n c, Blk Q gs 97 [.int .i64 D.id, .int .i64 D.nodes, .int .i64 D.next, .slice oA on oc, .int .i64 a2, .int .i64 c2, .slice (some ⟨b, off, none⟩) tn tc, .slice (some ⟨b2, o2, none⟩) en ec, .slice rA rn rc, .slice A n c] → S Q := fun Q hQ A n c hG => by rw [hSd]; exact ⟨hQ, hG.box.2 7 _ rfl⟩
        have hS : ∀ Q, Below w5.heap.size w5 Q → S Q := fun Q hQ => hSG Q (But.of_below (hQ.mono hszk5)) _ _ _ (HGS.out.up hQ)
        clear hSd f0 f1 f2 f3
        go_upto_region 12 with fail
        refine wp_region_held_drew (S := S) (by kernel_rfl) (hS _ (bel_drew (Below.refl _ _))) (fun hHeld => ?_)
        have hbd : Below w5.heap.size w5 w5.drew := bel_drew (Below.refl _ _)
        have hZ := hHeld
        generalize w5.drew = Z at *
        (refine wpAnyH_tk 0 (some 74) (v := ?_) rfl rfl ?_ ?_; rotate_left; (focus (intro wq hSw; clear hSw; go_simp; all_goals (with_reducible rfl))); simp only [Act.put, lzT, lzZ, lzS])
        (refine wpAnyH_tk 1 (some 75) (v := ?_) rfl rfl ?_ ?_; rotate_left; (focus (intro wq hSw; clear hSw; go_simp; all_goals (with_reducible rfl))); simp only [Act.put, lzT, lzZ, lzS])
        (refine wpAnyH_tk 3 (some 77) (v := ?_) rfl rfl ?_ ?_; rotate_left; (focus (intro wq hSw; clear hSw; go_simp; all_goals (with_reducible rfl))); simp only [Act.put, lzT, lzZ, lzS])
        (refine wpAnyH_tk 4 (some 78) (v := ?_) rfl rfl ?_ ?_; rotate_left; (focus (intro wq hSw; clear hSw; go_simp; all_goals (with_reducible rfl))); simp only [Act.put, lzT, lzZ, lzS])
        (refine wpAnyH_tk 5 (some 79) (v := ?_) rfl rfl ?_ ?_; rotate_left; (focus (intro wq hSw; clear hSw; go_simp; all_goals (with_reducible rfl))); simp only [Act.put, lzT, lzZ, lzS])
        (refine wpAnyH_tk 6 (some 80) (v := ?_) rfl rfl ?_ ?_; rotate_left; (focus (intro wq hSw; clear hSw; go_simp; all_goals (with_reducible rfl))); simp only [Act.put, lzT, lzZ, lzS])
        (refine wpAnyH_tk 7 (some 81) (v := ?_) rfl rfl ?_ ?_; rotate_left; (focus (intro wq hSw; have q1 := hS7 wq hSw; clear hSw; go_simp; all_goals (with_reducible rfl))); simp only [Act.put, lzT, lzZ, lzS])
        (refine wpAnyH_tk 8 (some 82) (v := ?_) rfl rfl ?_ ?_; rotate_left; (focus (intro wq hSw; clear hSw; go_simp; all_goals (with_reducible rfl))); simp only [Act.put, lzT, lzZ, lzS])
        (refine wpAnyH_tk 9 (some 83) (v := ?_) rfl rfl ?_ ?_; rotate_left; (focus (intro wq hSw; clear hSw; go_simp; all_goals (with_reducible rfl))); simp only [Act.put, lzT, lzZ, lzS])
        (refine wpAnyH_tk 10 (some 84) (v := ?_) rfl rfl ?_ ?_; rotate_left; (focus (intro wq hSw; clear hSw; go_simp; all_goals (with_reducible rfl))); simp only [Act.put, lzT, lzZ, lzS])
        refine wpAnyH_takeD (i := 11) (d := (some 85)) (v := .agg ([.int .i64 (hth D.he lo).b.au, .int .i64 (hth D.he lo).b.n, .slice bA bn bc]).toArray) rfl rfl (by kernel_rfl) (by kernel_rfl) (by kernel_rfl) (fun _ _ _ h => h) (yieldsIf_load_mid (by rfl) 40 _ rfl b2 (o2 + lo * 4 + 1) (by simp [Act.eval, Act.put]) ([.int .i64 (hth D.he lo).b.au, .int .i64 (hth D.he lo).b.n, .slice bA bn bc]) _ (hS8) Try.underlying40 (by rfl) (by kernel_rfl)) (by assumption) ?_
        simp only [Act.put, lzT, lzZ, lzS]
        (refine wpAnyH_tk 12 (some 86) (v := ?_) rfl rfl ?_ ?_; rotate_left; (focus (intro wq hSw; clear hSw; go_simp; all_goals (with_reducible rfl))); simp only [Act.put, lzT, lzZ, lzS])
        refine wpAnyH_ready (rs := [2, 13]) (by kernel_rfl) (by simp) ?_
        refine AllReadyH.cons (o := _) rfl (fun K hK => ?_) (AllReadyH.cons (o := _) rfl (fun K hK => ?_) AllReadyH.nil)
        · skip
          have q9 := (HG9.out.up hbd).box.2 0 _ rfl
          have q8 := (HG9.out.up hbd).lt
          go_simp
          clear q9 q8
          refine hK.out _ _ (hS _ hbd) (fun hHeld => ?_)
          clear hK K
          (try simp only [Act.put, lzT, lzZ, lzS])
          refine wpAnyH_ready (rs := [13]) (by kernel_rfl) (by simp) ?_
          refine AllReadyH.cons (o := _) rfl (fun K hK => ?_) AllReadyH.nil
          have q9 := (HG9.out.up hbd).box.2 1 _ rfl
          have q8 := (HG9.out.up hbd).lt
          go_simp
          clear q9 q8
          refine hK.out _ _ (hS _ hbd) (fun hHeld => ?_)
          clear hK K
          (try simp only [Act.put, lzT, lzZ, lzS])
          refine wpAnyH_ready (rs := [14]) (by kernel_rfl) (by simp) ?_
          refine AllReadyH.cons (o := _) rfl (fun K hK => ?_) AllReadyH.nil
          go_simp
          (go_at_call 54; refine (step_ask gs W.heap.size D.id D.nodes (wth D.wa k).di (.int .i64 D.next) (.slice oA on oc) (.int .i64 a2) (.int .i64 c2) (.slice (some ⟨b, off, none⟩) tn tc) (.slice (some ⟨b2, o2, none⟩) en ec) (.slice rA rn rc) (hth D.he lo).b bA nA uA bn bc nn nc un uc (wth D.wa k).ak ps (waitsL D k) _ (HGS.out.up hbd) hgsW (Nat.le_trans hszk5 hbd.size) (HO.out.up hbd) hlen hn1 hn16 hbn (fun X hX => HTX.out.up (hbX _ (But.trans (But.of_below (hbd.mono hszk5)) hX))) (fun X hX => HNT.out.up (hbX _ (But.trans (But.of_below (hbd.mono hszk5)) hX)))).mono ?_; rintro e w6 ⟨A6, n6, c6, ps6, rfl, hBt6, hG6, hO6⟩)
          refine hK.out _ _ (hSG _ (But.trans (But.of_below (hbd.mono hszk5)) hBt6) _ _ _ hG6) (fun hHeld => ?_)
          clear hK K
          (try simp only [Act.put, lzT, lzZ, lzS])
          refine wpAnyH_done (by kernel_rfl) ?_ _
          have hbut6 := hbut5.trans (But.trans (But.of_below (hbd.mono hszk5)) hBt6)
          have HG6 := Lib.hid hG6
          have HO6 := Lib.hid hO6
          clear hS hS7 hS8 hSG hHeld hZ hG6 hO6 hbd
          go_wp2_with fail
          (first | (go_round; (case rel => exact ⟨k + 1, A6, n6, c6, ps6, by omega, by go_num, HG6, by (rw [HS.out]; exact HO6), hbut6⟩); (case measure => (simp [intOf] <;> omega))) | (go_roundw; (case rel => exact ⟨k + 1, A6, n6, c6, ps6, by omega, by go_num, HG6, by (rw [HS.out]; exact HO6), hbut6⟩); (case measure => (simp [intOf] <;> omega))) | (refine ⟨?_, by simp [intOf] <;> omega⟩; (repeat apply Exists.intro); refine ⟨?rel, ?fr⟩; (case fr => ((repeat' apply And.intro) <;> rfl)); (case rel => exact ⟨k + 1, A6, n6, c6, ps6, by omega, by go_num, HG6, by (rw [HS.out]; exact HO6), hbut6⟩)))
        · skip
          have q9 := (HG9.out.up hbd).box.2 1 _ rfl
          have q8 := (HG9.out.up hbd).lt
          go_simp
          clear q9 q8
          refine hK.out _ _ (hS _ hbd) (fun hHeld => ?_)
          clear hK K
          (try simp only [Act.put, lzT, lzZ, lzS])
          refine wpAnyH_ready (rs := [2]) (by kernel_rfl) (by simp) ?_
          refine AllReadyH.cons (o := _) rfl (fun K hK => ?_) AllReadyH.nil
          have q9 := (HG9.out.up hbd).box.2 0 _ rfl
          have q8 := (HG9.out.up hbd).lt
          go_simp
          clear q9 q8
          refine hK.out _ _ (hS _ hbd) (fun hHeld => ?_)
          clear hK K
          (try simp only [Act.put, lzT, lzZ, lzS])
          refine wpAnyH_ready (rs := [14]) (by kernel_rfl) (by simp) ?_
          refine AllReadyH.cons (o := _) rfl (fun K hK => ?_) AllReadyH.nil
          go_simp
          (go_at_call 54; refine (step_ask gs W.heap.size D.id D.nodes (wth D.wa k).di (.int .i64 D.next) (.slice oA on oc) (.int .i64 a2) (.int .i64 c2) (.slice (some ⟨b, off, none⟩) tn tc) (.slice (some ⟨b2, o2, none⟩) en ec) (.slice rA rn rc) (hth D.he lo).b bA nA uA bn bc nn nc un uc (wth D.wa k).ak ps (waitsL D k) _ (HGS.out.up hbd) hgsW (Nat.le_trans hszk5 hbd.size) (HO.out.up hbd) hlen hn1 hn16 hbn (fun X hX => HTX.out.up (hbX _ (But.trans (But.of_below (hbd.mono hszk5)) hX))) (fun X hX => HNT.out.up (hbX _ (But.trans (But.of_below (hbd.mono hszk5)) hX)))).mono ?_; rintro e w6 ⟨A6, n6, c6, ps6, rfl, hBt6, hG6, hO6⟩)
          refine hK.out _ _ (hSG _ (But.trans (But.of_below (hbd.mono hszk5)) hBt6) _ _ _ hG6) (fun hHeld => ?_)
          clear hK K
          (try simp only [Act.put, lzT, lzZ, lzS])
          refine wpAnyH_done (by kernel_rfl) ?_ _
          have hbut6 := hbut5.trans (But.trans (But.of_below (hbd.mono hszk5)) hBt6)
          have HG6 := Lib.hid hG6
          have HO6 := Lib.hid hO6
          clear hS hS7 hS8 hSG hHeld hZ hG6 hO6 hbd
          go_wp2_with fail
          (first | (go_round; (case rel => exact ⟨k + 1, A6, n6, c6, ps6, by omega, by go_num, HG6, by (rw [HS.out]; exact HO6), hbut6⟩); (case measure => (simp [intOf] <;> omega))) | (go_roundw; (case rel => exact ⟨k + 1, A6, n6, c6, ps6, by omega, by go_num, HG6, by (rw [HS.out]; exact HO6), hbut6⟩); (case measure => (simp [intOf] <;> omega))) | (refine ⟨?_, by simp [intOf] <;> omega⟩; (repeat apply Exists.intro); refine ⟨?rel, ?fr⟩; (case fr => ((repeat' apply And.intro) <;> rfl)); (case rel => exact ⟨k + 1, A6, n6, c6, ps6, by omega, by go_num, HG6, by (rw [HS.out]; exact HO6), hbut6⟩)))
    · have ekn : tn = k := by omega
      subst ekn
      go_wp2_with fail
      show K0 _ _
      apply HK0.out
      dsimp only [beatEnd, cAfter, cSnd, cFst, Try.f28, Option.getD]
      go_upto_region 14 with fail
      have hrk : Blk wk gr 27 [.int .i64 0, .int .i64 0, .int .i64 0, .slice none 0 0, .int .i64 0, .int .i64 0, .slice none 0 0, .slice none 0 0, .slice none 0 0] := But.blkk hbut HR.out hgrW (by omega)
      obtain ⟨S, hSd⟩ : ∃ S : World → Prop, S = fun Q => Blk Q gs 97 [.int .i64 D.id, .int .i64 D.nodes, .int .i64 D.next, .slice oA on oc, .int .i64 a2, .int .i64 c2, .slice tA tn tc, .slice eA en ec, .slice rA rn rc, .slice uA un uc] := ⟨_, rfl⟩
      have hS1 : ∀ Q, S Q → Q.rangeAt gs 0 [.int .i64 D.id, .int .i64 D.nodes, .int .i64 D.next, .slice oA on oc, .int .i64 a2, .int .i64 c2, .slice tA tn tc, .slice eA en ec, .slice rA rn rc] := fun Q h => by
        rw [hSd] at h
        intro j u hu
        rw [Nat.zero_add]
        exact box_app (l := [.int .i64 D.id, .int .i64 D.nodes, .int .i64 D.next, .slice oA on oc, .int .i64 a2, .int .i64 c2, .slice tA tn tc, .slice eA en ec, .slice rA rn rc]) (m := [.slice uA un uc]) h.box hu
      have hS2 : ∀ Q, S Q → Q.cell? ⟨gs, 9, none⟩ = some (.slice uA un uc) := fun Q h => by rw [hSd] at h; exact h.box.2 9 _ rfl
      have hSr : ∀ Q, S Q → ∀ (a0 a1 a2 a3 a4 a5 a6 a7 a8 : Value), S (((((((((Q.setCell ⟨gr, 0, none⟩ a0).setCell ⟨gr, 1, none⟩ a1).setCell ⟨gr, 2, none⟩ a2).setCell ⟨gr, 3, none⟩ a3).setCell ⟨gr, 4, none⟩ a4).setCell ⟨gr, 5, none⟩ a5).setCell ⟨gr, 6, none⟩ a6).setCell ⟨gr, 7, none⟩ a7).setCell ⟨gr, 8, none⟩ a8) := fun Q h a0 a1 a2 a3 a4 a5 a6 a7 a8 => by rw [hSd] at h ⊢; exact h.sets9 (by omega) a0 a1 a2 a3 a4 a5 a6 a7 a8
      have hS0 : S wk.drew := by rw [hSd]; exact HGS.out.up (bel_drew (Below.refl _ _))
      have hbd : Below wk.heap.size wk wk.drew := bel_drew (Below.refl _ _)
      have HR14 := Lib.hid (hrk.up hbd)
      have HO14 := Lib.hid (HO.out.up hbd)
      have hb14 := hbw0.trans (hbd.mono hbw0.size)
      clear hSd hrk
      refine wp_region_held_drew (S := S) (by kernel_rfl) hS0 (fun hHeld => ?_)
      have hZ := hHeld
      generalize wk.drew = Z at *
      (refine wpAnyH_tk 0 (some 90) (v := ?_) rfl rfl ?_ ?_; rotate_left; (focus (intro wq hSw; clear hSw; go_simp; all_goals (with_reducible rfl))); simp only [Act.put, lzT, lzZ, lzS])
      (refine wpAnyH_tk 1 (some 91) (v := ?_) rfl rfl ?_ ?_; rotate_left; (focus (intro wq hSw; clear hSw; go_simp; all_goals (with_reducible rfl))); simp only [Act.put, lzT, lzZ, lzS])
      (refine wpAnyH_tk 2 (some 92) (v := ?_) rfl rfl ?_ ?_; rotate_left; (focus (intro wq hSw; clear hSw; go_simp; all_goals (with_reducible rfl))); simp only [Act.put, lzT, lzZ, lzS])
      refine wpAnyH_takeD (i := 3) (d := (some 93)) (v := .agg ([.int .i64 D.id, .int .i64 D.nodes, .int .i64 D.next, .slice oA on oc, .int .i64 a2, .int .i64 c2, .slice tA tn tc, .slice eA en ec, .slice rA rn rc]).toArray) rfl rfl (by kernel_rfl) (by kernel_rfl) (by kernel_rfl) (fun _ _ _ h => h) (yieldsIf_load_mid (by rfl) 27 _ rfl gs 0 (by simp [Act.eval, Act.put]) ([.int .i64 D.id, .int .i64 D.nodes, .int .i64 D.next, .slice oA on oc, .int .i64 a2, .int .i64 c2, .slice tA tn tc, .slice eA en ec, .slice rA rn rc]) _ (hS1) Try.underlying27 (by rfl) (by kernel_rfl)) (by assumption) ?_
      simp only [Act.put, lzT, lzZ, lzS]
      (refine wpAnyH_tk 4 (some 94) (v := ?_) rfl rfl ?_ ?_; rotate_left; (focus (intro wq hSw; clear hSw; go_simp; all_goals (with_reducible rfl))); simp only [Act.put, lzT, lzZ, lzS])
      (refine wpAnyH_tk 5 (some 95) (v := ?_) rfl rfl ?_ ?_; rotate_left; (focus (intro wq hSw; clear hSw; go_simp; all_goals (with_reducible rfl))); simp only [Act.put, lzT, lzZ, lzS])
      (refine wpAnyH_tk 6 (some 96) (v := ?_) rfl rfl ?_ ?_; rotate_left; (focus (intro wq hSw; clear hSw; go_simp; all_goals (with_reducible rfl))); simp only [Act.put, lzT, lzZ, lzS])
      (refine wpAnyH_tk 7 (some 97) (v := ?_) rfl rfl ?_ ?_; rotate_left; (focus (intro wq hSw; have q1 := hS2 wq hSw; clear hSw; go_simp; all_goals (with_reducible rfl))); simp only [Act.put, lzT, lzZ, lzS])
      refine wpAnyH_ready (rs := [8]) (by kernel_rfl) (by simp) ?_
      refine AllReadyH.cons (o := _) rfl (fun K hK => ?_) AllReadyH.nil
      have hR := HR14.out
      have qf := hR.frozen
      have ql := hR.lt
      have h9 := hR.box
      have q0 := h9.2 0 _ rfl
      have q1 := h9.2 1 _ rfl
      have q2 := h9.2 2 _ rfl
      have q3 := h9.2 3 _ rfl
      have q4 := h9.2 4 _ rfl
      have q5 := h9.2 5 _ rfl
      have q6 := h9.2 6 _ rfl
      have q7 := h9.2 7 _ rfl
      have q8 := h9.2 8 _ rfl
      clear h9 hR
      go_simp
      clear qf ql q0 q1 q2 q3 q4 q5 q6 q7 q8
      refine hK.out _ _ (hSr _ hZ (.int .i64 D.id) (.int .i64 D.nodes) (.int .i64 D.next) (.slice oA on oc) (.int .i64 a2) (.int .i64 c2) (.slice tA tn tc) (.slice eA en ec) (.slice rA rn rc)) (fun hHeld => ?_)
      clear hK K
      (try simp only [Act.put, lzT, lzZ, lzS])
      (refine wpAnyH_tk 9 (some 3) (v := ?_) rfl rfl ?_ ?_; rotate_left; (focus (intro wq hSw; clear hSw; go_simp; all_goals (with_reducible rfl))); simp only [Act.put, lzT, lzZ, lzS])
      refine wpAnyH_done (by kernel_rfl) ?_ _
      have hR9 := set9 HR14.out rfl (.int .i64 D.id) (.int .i64 D.nodes) (.int .i64 D.next) (.slice oA on oc) (.int .i64 a2) (.int .i64 c2) (.slice tA tn tc) (.slice eA en ec) (.slice rA rn rc)
      have r_0 := (hR9.box).2 0 _ rfl; have r_1 := (hR9.box).2 1 _ rfl; have r_2 := (hR9.box).2 2 _ rfl; have r_3 := (hR9.box).2 3 _ rfl; have r_4 := (hR9.box).2 4 _ rfl; have r_5 := (hR9.box).2 5 _ rfl; have r_6 := (hR9.box).2 6 _ rfl; have r_7 := (hR9.box).2 7 _ rfl; have r_8 := (hR9.box).2 8 _ rfl
      have ho9 : OwnT dMsg (((((((((Z.setCell ⟨gr, 0, none⟩ (.int .i64 D.id)).setCell ⟨gr, 1, none⟩ (.int .i64 D.nodes)).setCell ⟨gr, 2, none⟩ (.int .i64 D.next)).setCell ⟨gr, 3, none⟩ (.slice oA on oc)).setCell ⟨gr, 4, none⟩ (.int .i64 a2)).setCell ⟨gr, 5, none⟩ (.int .i64 c2)).setCell ⟨gr, 6, none⟩ (.slice tA tn tc)).setCell ⟨gr, 7, none⟩ (.slice eA en ec)).setCell ⟨gr, 8, none⟩ (.slice rA rn rc)) w.heap.size (.slice uA un uc) ps (waitsL D tn) := (HO14.out.lows hgrW (.int .i64 D.id) (.int .i64 D.nodes) (.int .i64 D.next) (.slice oA on oc) (.int .i64 a2) (.int .i64 c2) (.slice tA tn tc) (.slice eA en ec) (.slice rA rn rc)).mono (Nat.le_trans hgr0 (Nat.le_of_lt hgrW))
      have HO9 := Lib.hid ho9
      have hb9 := belw_sets9 (g := gr) hb14 hgr0 (.int .i64 D.id) (.int .i64 D.nodes) (.int .i64 D.next) (.slice oA on oc) (.int .i64 a2) (.int .i64 c2) (.slice tA tn tc) (.slice eA en ec) (.slice rA rn rc)
      have HB9 := Lib.hid hb9
      clear hR9 ho9 hb9
      go_wp2_with fail
      exact bodyPost_ret (v := .tuple #[.agg #[.int .i64 D.id, .int .i64 D.nodes, .int .i64 D.next, .slice oA on oc, .int .i64 a2, .int .i64 c2, .slice tA tn tc, .slice eA en ec, .slice rA rn rc], .slice uA un uc]) (by simp [results, Try.results28, go_sem, r_0, r_1, r_2, r_3, r_4, r_5, r_6, r_7, r_8]) rfl ⟨_, _, _, ps, rfl, by (rw [HTN.out]; exact HO9.out), HB9.out⟩
end Go.Proofs.Ytgfakefcmbpboaa
