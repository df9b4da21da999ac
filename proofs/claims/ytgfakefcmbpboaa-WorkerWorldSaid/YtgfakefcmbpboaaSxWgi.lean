/- worker.Got: its end; kinds 1, 3. -/
import Derived.Test.YtgfakefcmbpboaaSxWgg
import Derived.Test.YtgfakefcmbpboaaSxWsc
import Derived.Test.YtgfakefcmbpboaaSxWj
namespace Go.Proofs.Ytgfakefcmbpboaa
open Go.RowKit
set_option linter.unusedSimpArgs false
set_option linter.unusedVariables false

noncomputable def gotEnd : Code := cAfter 4 (Try.f27.body.getD .skip)
set_option maxRecDepth 100000 in
set_option maxHeartbeats 8000000 in
theorem got_tail {K : Act → World → Prop} {Ψ : Ending → World → Prop} (gr gs : Nat) (id nodes next age clock : Int) (oA tA eA rA uA : Option Addr) (on oc tn tc en ec rn rc un uc : Nat) (W : World) {u0 u1 u2 u3 u5 u7 u8 u9 u10 u11 u12 u13 u14 u15 u16 u17 u18 u19 u20 u21 u22 u23 u24 u25 u26 u27 u28 u29 u30 u31 u32 u33 u34 u35 u36 u37 u38 u39 u40 u41 u42 u43 u44 u45 u46 u47 u48 u49 u50 u51 u52 u53 u54 u55 u56 u57 u58 u59 u60 u61 u62 u63 u64 u65 u66 u67 u68 u69 u70 u71 u72 u73 u74 u75 u76 u77 u78 u79 u80 u81 u82 u83 u84 u85 u86 u87 u88 u89 u90 u91 u92 u93 u94 u95 u96 u97 u98 u99 u100 u101 u102 u103 u104 u105 u106 u107 u108 u109 u110 u111 u112 u113 u114 : Value}
    (hK : ∀ a' w', Code.wp Try.prog (cSnd gotEnd) (bodyPost Try.prog Try.f27 Ψ) a' w' → K a' w') (hne : gs ≠ gr) (hg : Blk W gs 97 [.int .i64 id, .int .i64 nodes, .int .i64 next, .slice oA on oc, .int .i64 age, .int .i64 clock, .slice tA tn tc, .slice eA en ec, .slice rA rn rc, .slice uA un uc]) (hr : Blk W gr 27 [.int .i64 0, .int .i64 0, .int .i64 0, .slice none 0 0, .int .i64 0, .int .i64 0, .slice none 0 0, .slice none 0 0, .slice none 0 0])
    (hΨ : ∀ W', TKeep 27 W W' → (∀ n, n ≤ gr → Below n W W') → Ψ (.returned (.tuple #[.agg #[.int .i64 id, .int .i64 nodes, .int .i64 next, .slice oA on oc, .int .i64 age, .int .i64 clock, .slice tA tn tc, .slice eA en ec, .slice rA rn rc], .slice uA un uc])) W') :
    Code.wp Try.prog (cFst gotEnd) (Exit.then K (bodyPost Try.prog Try.f27 Ψ)) { tmps := #[u0, u1, u2, u3, .pointer (some ⟨gr, 0, none⟩), u5, .pointer (some ⟨gs, 0, none⟩), u7, u8, u9, u10, u11, u12, u13, u14, u15, u16, u17, u18, u19, u20, u21, u22, u23, u24, u25, u26, u27, u28, u29, u30, u31, u32, u33, u34, u35, u36, u37, u38, u39, u40, u41, u42, u43, u44, u45, u46, u47, u48, u49, u50, u51, u52, u53, u54, u55, u56, u57, u58, u59, u60, u61, u62, u63, u64, u65, u66, u67, u68, u69, u70, u71, u72, u73, u74, u75, u76, u77, u78, u79, u80, u81, u82, u83, u84, u85, u86, u87, u88, u89, u90, u91, u92, u93, u94, u95, u96, u97, u98, u99, u100, u101, u102, u103, u104, u105, u106, u107, u108, u109, u110, u111, u112, u113, u114], defers := [] } W := by
  have HK := Lib.hid hK
  have HG := Lib.hid hg
  have HR := Lib.hid hr
  have HΨ := Lib.hid hΨ
  clear hK hg hr hΨ
  dsimp only [gotEnd, cAfter, cSnd, cFst, Try.f27, Option.getD]
  obtain ⟨S, hSd⟩ : ∃ S : World → Prop, S = fun Q => Blk Q gs 97 [.int .i64 id, .int .i64 nodes, .int .i64 next, .slice oA on oc, .int .i64 age, .int .i64 clock, .slice tA tn tc, .slice eA en ec, .slice rA rn rc, .slice uA un uc] := ⟨_, rfl⟩
  have hS1 : ∀ Q, S Q → Q.rangeAt gs 0 [.int .i64 id, .int .i64 nodes, .int .i64 next, .slice oA on oc, .int .i64 age, .int .i64 clock, .slice tA tn tc, .slice eA en ec, .slice rA rn rc] := fun Q h => by rw [hSd] at h; exact fun j v hv => by have h9 : Blk Q gs 97 ([.int .i64 id, .int .i64 nodes, .int .i64 next, .slice oA on oc, .int .i64 age, .int .i64 clock, .slice tA tn tc, .slice eA en ec, .slice rA rn rc] ++ [.slice uA un uc]) := h; have := h9.box.2 j v ((List.getElem?_append_left ((List.getElem?_eq_some_iff.1 hv).1)).trans hv); rwa [Nat.zero_add]
  have hS3 : ∀ Q, S Q → Q.cell? ⟨gs, 9, none⟩ = some (.slice uA un uc) := fun Q h => by rw [hSd] at h; exact Blk.box h |>.2 9 _ rfl
  have hS5 : ∀ Q, S Q → ∀ b0 b1 b2 b3 b4 b5 b6 b7 b8 : Value, S (((((((((Q.setCell ⟨gr, 0, none⟩ b0).setCell ⟨gr, 1, none⟩ b1).setCell ⟨gr, 2, none⟩ b2).setCell ⟨gr, 3, none⟩ b3).setCell ⟨gr, 4, none⟩ b4).setCell ⟨gr, 5, none⟩ b5).setCell ⟨gr, 6, none⟩ b6).setCell ⟨gr, 7, none⟩ b7).setCell ⟨gr, 8, none⟩ b8) := fun Q h b0 b1 b2 b3 b4 b5 b6 b7 b8 => by rw [hSd] at h ⊢; exact Blk.sets9 h hne b0 b1 b2 b3 b4 b5 b6 b7 b8
  have hZ0 : S W.drew := by rw [hSd]; exact HG.out.up (bel_drew (Below.refl _ _))
  clear hSd
  have hbd : Below W.heap.size W W.drew := bel_drew (Below.refl _ _)
  refine wp_region_held_drew (S := S) (by kernel_rfl) hZ0 (fun hHeld => ?_)
  have hZ := hHeld
  generalize W.drew = Z at *

  (refine wpAnyH_tk 0 (some 107) (v := ?_) rfl rfl ?_ ?_; rotate_left; (focus (intro wq hSw; clear hSw; go_simp; all_goals (with_reducible rfl))); simp only [Act.put, lzT, lzZ, lzS])
  (refine wpAnyH_tk 1 (some 108) (v := ?_) rfl rfl ?_ ?_; rotate_left; (focus (intro wq hSw; clear hSw; go_simp; all_goals (with_reducible rfl))); simp only [Act.put, lzT, lzZ, lzS])
  (refine wpAnyH_tk 2 (some 109) (v := ?_) rfl rfl ?_ ?_; rotate_left; (focus (intro wq hSw; clear hSw; go_simp; all_goals (with_reducible rfl))); simp only [Act.put, lzT, lzZ, lzS])
  refine wpAnyH_takeD (i := 3) (d := (some 110)) (v := .agg ([.int .i64 id, .int .i64 nodes, .int .i64 next, .slice oA on oc, .int .i64 age, .int .i64 clock, .slice tA tn tc, .slice eA en ec, .slice rA rn rc]).toArray) rfl rfl (by kernel_rfl) (by kernel_rfl) (by kernel_rfl) (fun _ _ _ h => h) (yieldsIf_load_mid (by rfl) 27 _ rfl gs 0 (by simp [Act.eval, Act.put]) ([.int .i64 id, .int .i64 nodes, .int .i64 next, .slice oA on oc, .int .i64 age, .int .i64 clock, .slice tA tn tc, .slice eA en ec, .slice rA rn rc]) _ (hS1) Try.underlying27 (by rfl) (by kernel_rfl)) (by assumption) ?_
  simp only [Act.put, lzT, lzZ, lzS]
  (refine wpAnyH_tk 4 (some 111) (v := ?_) rfl rfl ?_ ?_; rotate_left; (focus (intro wq hSw; clear hSw; go_simp; all_goals (with_reducible rfl))); simp only [Act.put, lzT, lzZ, lzS])
  (refine wpAnyH_tk 5 (some 112) (v := ?_) rfl rfl ?_ ?_; rotate_left; (focus (intro wq hSw; clear hSw; go_simp; all_goals (with_reducible rfl))); simp only [Act.put, lzT, lzZ, lzS])
  (refine wpAnyH_tk 6 (some 113) (v := ?_) rfl rfl ?_ ?_; rotate_left; (focus (intro wq hSw; clear hSw; go_simp; all_goals (with_reducible rfl))); simp only [Act.put, lzT, lzZ, lzS])
  (refine wpAnyH_tk 7 (some 114) (v := ?_) rfl rfl ?_ ?_; rotate_left; (focus (intro wq hSw; have q9 := hS3 wq hSw; clear hSw; go_simp; all_goals (with_reducible rfl))); simp only [Act.put, lzT, lzZ, lzS])
  refine wpAnyH_ready (rs := [8]) (by kernel_rfl) (by simp) ?_
  refine AllReadyH.cons (o := _) rfl (fun K hK => ?_) AllReadyH.nil
  have hVz := HR.out.up hbd
  have qf := hVz.frozen
  have ql := hVz.lt
  have h9 := hVz.box
  have q0 := h9.2 0 _ rfl
  have q1 := h9.2 1 _ rfl
  have q2 := h9.2 2 _ rfl
  have q3 := h9.2 3 _ rfl
  have q4 := h9.2 4 _ rfl
  have q5 := h9.2 5 _ rfl
  have q6 := h9.2 6 _ rfl
  have q7 := h9.2 7 _ rfl
  have q8 := h9.2 8 _ rfl
  clear h9
  go_simp
  clear qf ql q0 q1 q2 q3 q4 q5 q6 q7 q8
  have hW9 := set9 hVz rfl (.int .i64 id) (.int .i64 nodes) (.int .i64 next) (.slice oA on oc) (.int .i64 age) (.int .i64 clock) (.slice tA tn tc) (.slice eA en ec) (.slice rA rn rc)
  have htz := TKeep.sets9 hVz (.int .i64 id) (.int .i64 nodes) (.int .i64 next) (.slice oA on oc) (.int .i64 age) (.int .i64 clock) (.slice tA tn tc) (.slice eA en ec) (.slice rA rn rc)
  refine hK.out _ _ (hS5 _ hZ (.int .i64 id) (.int .i64 nodes) (.int .i64 next) (.slice oA on oc) (.int .i64 age) (.int .i64 clock) (.slice tA tn tc) (.slice eA en ec) (.slice rA rn rc)) (fun hHeld => ?_)
  clear hK K
  (try simp only [Act.put, lzT, lzZ, lzS])
  (refine wpAnyH_tk 9 (some 5) (v := ?_) rfl rfl ?_ ?_; rotate_left; (focus (intro wq hSw; clear hSw; go_simp; all_goals (with_reducible rfl))); simp only [Act.put, lzT, lzZ, lzS])
  refine wpAnyH_done (by kernel_rfl) ?_ _
  have hbz : ∀ n, n ≤ gr → Below n W (((((((((Z.setCell ⟨gr, 0, none⟩ (.int .i64 id)).setCell ⟨gr, 1, none⟩ (.int .i64 nodes)).setCell ⟨gr, 2, none⟩ (.int .i64 next)).setCell ⟨gr, 3, none⟩ (.slice oA on oc)).setCell ⟨gr, 4, none⟩ (.int .i64 age)).setCell ⟨gr, 5, none⟩ (.int .i64 clock)).setCell ⟨gr, 6, none⟩ (.slice tA tn tc)).setCell ⟨gr, 7, none⟩ (.slice eA en ec)).setCell ⟨gr, 8, none⟩ (.slice rA rn rc)) := fun n hn => belw_sets9 (hbd.mono (by have := HR.out.lt; omega)) hn (.int .i64 id) (.int .i64 nodes) (.int .i64 next) (.slice oA on oc) (.int .i64 age) (.int .i64 clock) (.slice tA tn tc) (.slice eA en ec) (.slice rA rn rc)
  have htz2 := (TKeep.of_below hbd).trans htz
  obtain ⟨Y, hY⟩ : ∃ Y, Y = (((((((((Z.setCell ⟨gr, 0, none⟩ (.int .i64 id)).setCell ⟨gr, 1, none⟩ (.int .i64 nodes)).setCell ⟨gr, 2, none⟩ (.int .i64 next)).setCell ⟨gr, 3, none⟩ (.slice oA on oc)).setCell ⟨gr, 4, none⟩ (.int .i64 age)).setCell ⟨gr, 5, none⟩ (.int .i64 clock)).setCell ⟨gr, 6, none⟩ (.slice tA tn tc)).setCell ⟨gr, 7, none⟩ (.slice eA en ec)).setCell ⟨gr, 8, none⟩ (.slice rA rn rc)) := ⟨_, rfl⟩
  rw [← hY] at hW9 htz2 hbz ⊢
  clear hY htz hZ hHeld hS1 hS3 hS5 hZ0
  show K _ _
  apply HK.out
  clear HK
  dsimp only [gotEnd, cAfter, cSnd, cFst, Try.f27, Option.getD]
  have r_0 := (hW9.box).2 0 _ rfl; have r_1 := (hW9.box).2 1 _ rfl; have r_2 := (hW9.box).2 2 _ rfl; have r_3 := (hW9.box).2 3 _ rfl; have r_4 := (hW9.box).2 4 _ rfl; have r_5 := (hW9.box).2 5 _ rfl; have r_6 := (hW9.box).2 6 _ rfl; have r_7 := (hW9.box).2 7 _ rfl; have r_8 := (hW9.box).2 8 _ rfl
  go_wp2_with fail
  exact bodyPost_ret (v := .tuple #[.agg #[.int .i64 id, .int .i64 nodes, .int .i64 next, .slice oA on oc, .int .i64 age, .int .i64 clock, .slice tA tn tc, .slice eA en ec, .slice rA rn rc], .slice uA un uc]) (by simp [results, Try.results27, go_sem, r_0, r_1, r_2, r_3, r_4, r_5, r_6, r_7, r_8]) rfl (HΨ.out Y htz2 hbz)
end Go.Proofs.Ytgfakefcmbpboaa
namespace Go.Proofs.Ytgfakefcmbpboaa
open Go.RowKit
set_option linter.unusedSimpArgs false
set_option linter.unusedVariables false

theorem OwnT.tkM {T : TypeId} {w w' : World} {B : Nat} {v : Value} {ps : List MsgP} {l : List MsgD} (h : OwnT dMsg w B v ps l) (hk : TKeep T w w') (hT : TWork T) : OwnT dMsg w' B v ps l := ⟨own_tkw h.1 hk hT (by decide) (by decide), h.2.1, fun j hj => OwnM.tk (h.2.2 j hj) hk hT⟩
/-- A batch is held that was not, if there is room. -/
noncomputable def heldD (D : WorkD) (M : MsgD) : WorkD := if khasH D.he M.di = false ∧ D.he.length < 1024 then holdD D M.di M.b else D
def tellM (id fr di : Int) : MsgD := ⟨2, id, fr, di, ⟨0, 0, []⟩, ⟨0, 0, [], []⟩, ⟨⟨0, 0, [], []⟩, 0, []⟩, []⟩
noncomputable def heldL (D : WorkD) (M : MsgD) : List MsgD := if M.ki = 1 ∧ (khasH D.he M.di = true ∨ D.he.length < 1024) then [tellM D.id M.fr M.di] else []
set_option maxRecDepth 100000 in
set_option maxHeartbeats 8000000 in
theorem worker_Got13 (P : WorkP) (D : WorkD) (Pm : MsgP) (M : MsgD) (B : Nat) (w : World) (hO : WorkO w B P D) (hs : BigD D) (hB : B ≤ w.heap.size) (hm : mayW D = true) (hp : TxsR w Pm.b.A Pm.b.n M.b.tx) (hbn : Pm.b.n ≤ 800000000) (hk : M.ki = 1 ∨ M.ki = 3) :
    Calls Try.prog 27 #[P.val D, M18 Pm M] w fun e w' => ∃ P' A n c, e = .returned (.tuple #[P'.val (heldD D M), .slice A n c]) ∧ WorkO w' B P' (heldD D M) ∧ OwnMs w' w.heap.size (.slice A n c) (heldL D M) ∧ Below w.heap.size w w' := by
  obtain ⟨⟨oA, on, oc⟩, ⟨tA, tn, tc⟩, ⟨eA, en, ec⟩, ⟨rA, rn, rc⟩⟩ := P
  obtain ⟨⟨bA, bn, bc⟩, ⟨⟨xA, xn, xc⟩, ⟨yA, yn, yc⟩⟩, ⟨⟨⟨cA, cn, cd⟩, ⟨dA, dn, dc⟩⟩, ⟨sA, sn, sc⟩⟩, ⟨zA, zn, zc⟩⟩ := Pm
  obtain ⟨ki, fr, tt, di, b, hd, cc, ds⟩ := M
  dsimp only at hp hbn hk
  have HM := Lib.hid (mayW_iff.1 hm)
  have HW := Lib.hid (hO.work hs)
  have HO := Lib.hid hO
  have HS := Lib.hid hs
  have HTX := Lib.hid hp
  obtain ⟨lo, hlo⟩ : ∃ lo, kposH D.he di = lo := ⟨_, rfl⟩
  obtain ⟨yh, hyh⟩ : ∃ y, khasH D.he di = y := ⟨_, rfl⟩
  have HLO := Lib.hid hlo
  have HYH := Lib.hid hyh
  have HEN : Hid (D.he.length = en) := Lib.hid HW.out.he.1
  have hen : en ≤ 1024 := by rw [← HEN.out]; exact HM.out.2.2.2.2.2.2.2.1
  have HSO : Hid (SortedH D.he) := Lib.hid (hdB_iff.1 HM.out.2.2.2.2.2.2.2.2.2.2.1).sorted
  have hD : heldD D ⟨ki, fr, tt, di, b, hd, cc, ds⟩ = if yh = false ∧ en < 1024 then holdD D di b else D := by unfold heldD; rw [hyh, HEN.out]
  have hL : heldL D ⟨ki, fr, tt, di, b, hd, cc, ds⟩ = if ki = 1 ∧ (yh = true ∨ en < 1024) then [tellM D.id fr di] else [] := by unfold heldL; rw [hyh, HEN.out]
  rw [hD, hL]
  obtain ⟨D1, hD1⟩ : ∃ z, (if yh = false ∧ en < 1024 then holdD D di b else D) = z := ⟨_, rfl⟩
  obtain ⟨L1, hL1⟩ : ∃ z, (if ki = 1 ∧ (yh = true ∨ en < 1024) then [tellM D.id fr di] else []) = z := ⟨_, rfl⟩
  rw [hD1, hL1]
  have HD1 := Lib.hid hD1
  have HL1 := Lib.hid hL1
  clear hD1 hL1
  clear hO hs hm hp hlo hyh hD hL
  show Calls Try.prog 27 #[.agg #[.int .i64 D.id, .int .i64 D.nodes, .int .i64 D.next, .slice oA on oc, .int .i64 D.age, .int .i64 D.clock, .slice tA tn tc, .slice eA en ec, .slice rA rn rc], .agg #[.int .i64 ki, .int .i64 fr, .int .i64 tt, .int .i64 di, .int .i64 b.au, .int .i64 b.n, .slice bA bn bc, .int .i64 hd.au, .int .i64 hd.ro, .slice xA xn xc, .slice yA yn yc, .int .i64 cc.h.au, .int .i64 cc.h.ro, .slice cA cn cd, .slice dA dn dc, .int .i64 cc.di, .slice sA sn sc, .slice zA zn zc]] w _
  go_enter Try.func27, Try.ntmps27
  go_upto_region 2 with fail
  refine wp_world (fun W hW => ?_)
  have HBM : Hid (Blk W (w.heap.size + 1) 54 [.int .i64 ki, .int .i64 fr, .int .i64 tt, .int .i64 di, .int .i64 b.au, .int .i64 b.n, .slice bA bn bc, .int .i64 hd.au, .int .i64 hd.ro, .slice xA xn xc, .slice yA yn yc, .int .i64 cc.h.au, .int .i64 cc.h.ro, .slice cA cn cd, .slice dA dn dc, .int .i64 cc.di, .slice sA sn sc, .slice zA zn zc]) := Lib.hid (by rw [hW]; exact ((Blk.new1 w 27 54 [.int .i64 D.id, .int .i64 D.nodes, .int .i64 D.next, .slice oA on oc, .int .i64 D.age, .int .i64 D.clock, .slice tA tn tc, .slice eA en ec, .slice rA rn rc] [.int .i64 ki, .int .i64 fr, .int .i64 tt, .int .i64 di, .int .i64 b.au, .int .i64 b.n, .slice bA bn bc, .int .i64 hd.au, .int .i64 hd.ro, .slice xA xn xc, .slice yA yn yc, .int .i64 cc.h.au, .int .i64 cc.h.ro, .slice cA cn cd, .slice dA dn dc, .int .i64 cc.di, .slice sA sn sc, .slice zA zn zc]).up (bel_alloc (Below.refl _ _))).up (bel_alloc (Below.refl _ _)))
  have HR : Hid (Blk W (w.heap.size + 1 + 1) 27 [.int .i64 0, .int .i64 0, .int .i64 0, .slice none 0 0, .int .i64 0, .int .i64 0, .slice none 0 0, .slice none 0 0, .slice none 0 0]) := Lib.hid (by
    rw [hW]
    have h9 := Blk.new1 (w.alloc (.cells #[.int .i64 D.id, .int .i64 D.nodes, .int .i64 D.next, .slice oA on oc, .int .i64 D.age, .int .i64 D.clock, .slice tA tn tc, .slice eA en ec, .slice rA rn rc] 27)) 54 27 [.int .i64 ki, .int .i64 fr, .int .i64 tt, .int .i64 di, .int .i64 b.au, .int .i64 b.n, .slice bA bn bc, .int .i64 hd.au, .int .i64 hd.ro, .slice xA xn xc, .slice yA yn yc, .int .i64 cc.h.au, .int .i64 cc.h.ro, .slice cA cn cd, .slice dA dn dc, .int .i64 cc.di, .slice sA sn sc, .slice zA zn zc] [.int .i64 0, .int .i64 0, .int .i64 0, .slice none 0 0, .int .i64 0, .int .i64 0, .slice none 0 0, .slice none 0 0, .slice none 0 0]
    rw [show (w.alloc (.cells #[.int .i64 D.id, .int .i64 D.nodes, .int .i64 D.next, .slice oA on oc, .int .i64 D.age, .int .i64 D.clock, .slice tA tn tc, .slice eA en ec, .slice rA rn rc] 27)).heap.size = w.heap.size + 1 by simp] at h9
    exact h9.up (bel_alloc (Below.refl _ _)))
  have HG : Hid (Blk W (w.heap.size + 1 + 1 + 1) 97 [.int .i64 D.id, .int .i64 D.nodes, .int .i64 D.next, .slice oA on oc, .int .i64 D.age, .int .i64 D.clock, .slice tA tn tc, .slice eA en ec, .slice rA rn rc, .slice none 0 0]) := Lib.hid (by
    rw [hW]
    have h9 := Blk.new1 ((w.alloc (.cells #[.int .i64 D.id, .int .i64 D.nodes, .int .i64 D.next, .slice oA on oc, .int .i64 D.age, .int .i64 D.clock, .slice tA tn tc, .slice eA en ec, .slice rA rn rc] 27)).alloc (.cells #[.int .i64 ki, .int .i64 fr, .int .i64 tt, .int .i64 di, .int .i64 b.au, .int .i64 b.n, .slice bA bn bc, .int .i64 hd.au, .int .i64 hd.ro, .slice xA xn xc, .slice yA yn yc, .int .i64 cc.h.au, .int .i64 cc.h.ro, .slice cA cn cd, .slice dA dn dc, .int .i64 cc.di, .slice sA sn sc, .slice zA zn zc] 54)) 27 97 [.int .i64 0, .int .i64 0, .int .i64 0, .slice none 0 0, .int .i64 0, .int .i64 0, .slice none 0 0, .slice none 0 0, .slice none 0 0] [.int .i64 D.id, .int .i64 D.nodes, .int .i64 D.next, .slice oA on oc, .int .i64 D.age, .int .i64 D.clock, .slice tA tn tc, .slice eA en ec, .slice rA rn rc, .slice none 0 0]
    rwa [show ((w.alloc (.cells #[.int .i64 D.id, .int .i64 D.nodes, .int .i64 D.next, .slice oA on oc, .int .i64 D.age, .int .i64 D.clock, .slice tA tn tc, .slice eA en ec, .slice rA rn rc] 27)).alloc (.cells #[.int .i64 ki, .int .i64 fr, .int .i64 tt, .int .i64 di, .int .i64 b.au, .int .i64 b.n, .slice bA bn bc, .int .i64 hd.au, .int .i64 hd.ro, .slice xA xn xc, .slice yA yn yc, .int .i64 cc.h.au, .int .i64 cc.h.ro, .slice cA cn cd, .slice dA dn dc, .int .i64 cc.di, .slice sA sn sc, .slice zA zn zc] 54)).heap.size = w.heap.size + 1 + 1 by simp] at h9)
  have hbW : Below w.heap.size w W := by rw [hW]; exact bel_alloc (bel_alloc (bel_alloc (bel_alloc (Below.refl _ _))))
  clear hW
  obtain ⟨gs, hgs⟩ : ∃ g, g = w.heap.size + 1 + 1 + 1 := ⟨_, rfl⟩
  obtain ⟨gr, hgr⟩ : ∃ g, g = w.heap.size + 1 + 1 := ⟨_, rfl⟩
  obtain ⟨gm, hgm⟩ : ∃ g, g = w.heap.size + 1 := ⟨_, rfl⟩
  rw [← hgs] at HG
  rw [← hgr] at HR
  rw [← hgm] at HBM
  have hgs3 : gs = w.heap.size + 3 := by rw [hgs]
  have hgr3 : gr = w.heap.size + 2 := by rw [hgr]
  try rw [← hgs]
  try rw [← hgr]
  try rw [← hgm]
  try rw [← hgs3]
  try rw [← hgr3]
  have hgmr : gm < gr := by omega
  have hgrs : gr < gs := by omega
  have hgwm : w.heap.size < gm := by omega
  clear hgs hgr hgm hgs3 hgr3
  obtain ⟨S, hSd⟩ : ∃ S : World → Prop, S = fun Q => Q.cell? ⟨gs, 7, none⟩ = some (.slice eA en ec) ∧ Q.cell? ⟨gm, 3, none⟩ = some (.int .i64 di) := ⟨_, rfl⟩
  have hS1 : ∀ Q, S Q → Q.cell? ⟨gs, 7, none⟩ = some (.slice eA en ec) := fun Q h => by rw [hSd] at h; exact h.1
  have hS2 : ∀ Q, S Q → Q.cell? ⟨gm, 3, none⟩ = some (.int .i64 di) := fun Q h => by rw [hSd] at h; exact h.2
  have hS : ∀ Q, Below W.heap.size W Q → S Q := fun Q hQ => by rw [hSd]; exact ⟨(HG.out.up hQ).box.2 7 _ rfl, (HBM.out.up hQ).box.2 3 _ rfl⟩
  clear hSd
  refine wp_region_held_drew (S := S) (by kernel_rfl) (hS _ (bel_drew (Below.refl _ _))) (fun hHeld => ?_)
  have hbd : Below W.heap.size W W.drew := bel_drew (Below.refl _ _)
  have hZ := hHeld
  generalize W.drew = Z at *
  (refine wpAnyH_tk 0 (some 17) (v := ?_) rfl rfl ?_ ?_; rotate_left; (focus (intro wq hSw; clear hSw; go_simp; all_goals (with_reducible rfl))); simp only [Act.put, lzT, lzZ, lzS])
  (refine wpAnyH_tk 1 (some 18) (v := ?_) rfl rfl ?_ ?_; rotate_left; (focus (intro wq hSw; clear hSw; go_simp; all_goals (with_reducible rfl))); simp only [Act.put, lzT, lzZ, lzS])
  (refine wpAnyH_tk 2 (some 19) (v := ?_) rfl rfl ?_ ?_; rotate_left; (focus (intro wq hSw; clear hSw; go_simp; all_goals (with_reducible rfl))); simp only [Act.put, lzT, lzZ, lzS])
  (refine wpAnyH_tk 3 (some 20) (v := ?_) rfl rfl ?_ ?_; rotate_left; (focus (intro wq hSw; clear hSw; go_simp; all_goals (with_reducible rfl))); simp only [Act.put, lzT, lzZ, lzS])
  (refine wpAnyH_tk 4 (some 21) (v := ?_) rfl rfl ?_ ?_; rotate_left; (focus (intro wq hSw; have q1 := hS1 wq hSw; clear hSw; go_simp; all_goals (with_reducible rfl))); simp only [Act.put, lzT, lzZ, lzS])
  (refine wpAnyH_tk 5 (some 22) (v := ?_) rfl rfl ?_ ?_; rotate_left; (focus (intro wq hSw; clear hSw; go_simp; all_goals (with_reducible rfl))); simp only [Act.put, lzT, lzZ, lzS])
  (refine wpAnyH_tk 6 (some 23) (v := ?_) rfl rfl ?_ ?_; rotate_left; (focus (intro wq hSw; have q1 := hS2 wq hSw; clear hSw; go_simp; all_goals (with_reducible rfl))); simp only [Act.put, lzT, lzZ, lzS])
  refine wpAnyH_ready (rs := [7]) (by kernel_rfl) (by simp) ?_
  refine AllReadyH.cons (o := _) rfl (fun K hK => ?_) AllReadyH.nil
  go_simp
  (go_at_call 50; refine (worker_At eA en ec D.he di lo yh _ (HW.out.he.up (bel_trans hbW hbd)) HSO.out (by omega) HLO.out HYH.out).mono ?_; rintro e w5 ⟨rfl, hb5⟩)
  refine hK.out _ _ (hS _ (bel_trans hbd hb5)) (fun hHeld => ?_)
  clear hK K
  (try simp only [Act.put, lzT, lzZ, lzS])
  (refine wpAnyH_tk 8 (some 16) (v := ?_) rfl rfl ?_ ?_; rotate_left; (focus (intro wq hSw; clear hSw; go_simp; all_goals (with_reducible rfl))); simp only [Act.put, lzT, lzZ, lzS])
  (refine wpAnyH_tk 9 (some 25) (v := ?_) rfl rfl ?_ ?_; rotate_left; (focus (intro wq hSw; clear hSw; go_simp; all_goals (with_reducible rfl))); simp only [Act.put, lzT, lzZ, lzS])
  (refine wpAnyH_tk 10 (some 26) (v := ?_) rfl rfl ?_ ?_; rotate_left; (focus (intro wq hSw; clear hSw; go_simp; all_goals (with_reducible rfl))); simp only [Act.put, lzT, lzZ, lzS])
  (refine wpAnyH_tk 11 (some 7) (v := ?_) rfl rfl ?_ ?_; rotate_left; (focus (intro wq hSw; clear hSw; go_simp; all_goals (with_reducible rfl))); simp only [Act.put, lzT, lzZ, lzS])
  (refine wpAnyH_tk 12 (some 8) (v := ?_) rfl rfl ?_ ?_; rotate_left; (focus (intro wq hSw; clear hSw; go_simp; all_goals (with_reducible rfl))); simp only [Act.put, lzT, lzZ, lzS])
  refine wpAnyH_done (by kernel_rfl) ?_ _
  obtain ⟨X, hX⟩ : ∃ X, X = w5 := ⟨_, rfl⟩
  rw [← hX] at hb5 ⊢
  have hbX := bel_trans hbW (bel_trans hbd hb5)
  have HGX := Lib.hid (HG.out.up (bel_trans hbd hb5))
  have HMX := Lib.hid (HBM.out.up (bel_trans hbd hb5))
  have HRX := Lib.hid (HR.out.up (bel_trans hbd hb5))
  have hBX : B ≤ X.heap.size := Nat.le_trans hB hbX.size
  clear hX hb5 hbd hHeld hZ HG HBM HR hbW hS hS1 hS2
  rcases hk with hk | hk
  · subst hk
    cases yh
    · by_cases hr : en < 1024
      · have hr2 : decide ((en : Int) < 1024) = true := by simp; omega
        obtain rfl : holdD D di b = D1 := by rw [← HD1.out]; exact Eq.symm (if_pos ⟨rfl, hr⟩)
        obtain rfl : [tellM D.id fr di] = L1 := by rw [← HL1.out]; exact Eq.symm (if_pos ⟨rfl, .inr hr⟩)
        have g7 := HGX.out.box.2 7 _ rfl
        have m0 := HMX.out.box.2 0 _ rfl
        have hgl := HGX.out.lt
        have m3 := HMX.out.box.2 3 _ rfl
        have m4 := HMX.out.box.2 4 _ rfl
        have m5 := HMX.out.box.2 5 _ rfl
        have m6 := HMX.out.box.2 6 _ rfl
        go_upto_region 15 with (go_at_call 51; refine (step_hold gs B oA tA eA rA none bA on oc tn tc en ec rn rc 0 0 bn bc D di b X HGX.out hBX (HO.out.up hbX).he HS.out.he HSO.out (HTX.out.up hbX) hbn).mono ?_; rintro e wh ⟨Xh, A3, n3, c3, rfl, rfl, hbh, hhe⟩)
        clear g7 m0 m3 m4 m5 m6 hgl
        have hGh := HGX.out.up hbh
        refine wp_world (fun Y hY => ?_)
        have HGY : Hid (Blk Y gs 97 [.int .i64 D.id, .int .i64 D.nodes, .int .i64 D.next, .slice oA on oc, .int .i64 D.age, .int .i64 D.clock, .slice tA tn tc, .slice A3 n3 c3, .slice rA rn rc, .slice none 0 0]) := Lib.hid (by rw [hY]; exact hGh.set_ 7 (.slice A3 n3 c3))
        have htY : TKeep 97 X Y := by rw [hY]; exact (TKeep.of_below hbh).trans (TKeep.setg hGh)
        have HHY : Hid (OwnHs Y B (.slice A3 n3 c3) (insAt D.he (kposH D.he di) ⟨di, b⟩)) := Lib.hid (by rw [hY]; exact hhe.tk (TKeep.setg hGh) twStep)
        have HMY := Lib.hid (HMX.out.tk htY (by decide))
        have HRY := Lib.hid (HRX.out.tk htY (by decide))
        have hbY : Below w.heap.size w Y := by rw [hY]; exact (bel_trans hbX hbh).setCell (p := ⟨gs, 7, none⟩) (by show w.heap.size ≤ gs; omega) _
        have HOX := HO.out.up hbX
        have HOY : Hid (WorkO Y B ⟨⟨oA, on, oc⟩, ⟨tA, tn, tc⟩, ⟨A3, n3, c3⟩, ⟨rA, rn, rc⟩⟩ (holdD D di b)) := Lib.hid (let h9 := HOX.tk htY twStep; ⟨h9.op, h9.wa, HHY.out, h9.re⟩)
        clear hY hbh hhe hGh htY HHY HOX HGX HMX HRX hbX hBX
        have m0 := HMY.out.box.2 0 _ rfl
        have hgl := HGY.out.lt
        have m1 := HMY.out.box.2 1 _ rfl
        have m3 := HMY.out.box.2 3 _ rfl
        go_upto_region 21 with (go_at_call 59; refine (step_say gs Y.heap.size D.id fr _ _ _ _ _ _ _ _ none 0 0 [] [] ⟨⟨none, 0, 0⟩, ⟨⟨none, 0, 0⟩, ⟨none, 0, 0⟩⟩, ⟨⟨⟨none, 0, 0⟩, ⟨none, 0, 0⟩⟩, ⟨none, 0, 0⟩⟩, ⟨none, 0, 0⟩⟩ ⟨2, 0, 0, di, ⟨0, 0, []⟩, ⟨0, 0, [], []⟩, ⟨⟨0, 0, [], []⟩, 0, []⟩, []⟩ Y HGY.out hgl (Nat.le_refl _) (OwnT.nil _ _) (by simp) ⟨OwnX.nil _ _, OwnI.nil _ _, OwnI.nil _ _, OwnI.nil _ _, OwnI.nil _ _, OwnI.nil _ _, OwnI.nil _ _⟩).mono ?_; rintro e wz ⟨Xz, A9, n9, c9, rfl, rfl, hbz, -, hOz⟩)
        have hGz := HGY.out.up hbz
        have HGZ := Lib.hid (hGz.set_ 9 (.slice A9 n9 c9))
        have htZ := (TKeep.of_below hbz).trans (TKeep.setg (o := 9) (u := .slice A9 n9 c9) hGz)
        have HRZ := Lib.hid (HRY.out.tk htZ (by decide))
        have hbZ : Below w.heap.size w _ := (bel_trans hbY hbz).setCell (p := ⟨gs, 9, none⟩) (by show w.heap.size ≤ gs; omega) (.slice A9 n9 c9)
        have HOZ := Lib.hid (HOY.out.tk htZ twStep)
        have HMZ : Hid (OwnMs _ w.heap.size (.slice A9 n9 c9) [tellM D.id fr di]) := Lib.hid ⟨_, (hOz.tkM (TKeep.setg (o := 9) (u := .slice A9 n9 c9) hGz) twStep).mono hbY.size⟩
        rename_i K hK
        exact got_tail gr gs D.id D.nodes D.next D.age D.clock oA tA A3 rA A9 on oc tn tc n3 c3 rn rc n9 c9 _ hK (by omega) HGZ.out HRZ.out (fun W' ht hbn' => ⟨⟨⟨oA, on, oc⟩, ⟨tA, tn, tc⟩, ⟨A3, n3, c3⟩, ⟨rA, rn, rc⟩⟩, A9, n9, c9, rfl, HOZ.out.tk ht twWork, HMZ.out.tk ht twWork, hbZ.trans (hbn' _ (by omega))⟩)
      · have hr2 : decide ((en : Int) < 1024) = false := by simp; omega
        obtain rfl : D = D1 := by rw [← HD1.out]; exact Eq.symm (if_neg (fun g => hr g.2))
        obtain rfl : [] = L1 := by rw [← HL1.out]; exact Eq.symm (if_neg (fun g => g.2.elim (fun g2 => by cases g2) hr))
        have g7 := HGX.out.box.2 7 _ rfl
        have m0 := HMX.out.box.2 0 _ rfl
        have hgl := HGX.out.lt
        go_upto_region 21 with fail
        rename_i K hK
        exact got_tail gr gs D.id D.nodes D.next D.age D.clock oA tA eA rA none on oc tn tc en ec rn rc 0 0 _ hK (by omega) HGX.out HRX.out (fun W' ht hbn' => ⟨⟨⟨oA, on, oc⟩, ⟨tA, tn, tc⟩, ⟨eA, en, ec⟩, ⟨rA, rn, rc⟩⟩, none, 0, 0, rfl, (Lib.hid (HO.out.up hbX)).out.tk ht twWork, OwnMs.nil _ _, hbX.trans (hbn' _ (by omega))⟩)
    · have hr2 := 0
      obtain rfl : D = D1 := by rw [← HD1.out]; exact Eq.symm (if_neg (fun g => by cases g.1))
      obtain rfl : [tellM D.id fr di] = L1 := by rw [← HL1.out]; exact Eq.symm (if_pos ⟨rfl, .inl rfl⟩)
      have g7 := HGX.out.box.2 7 _ rfl
      have m0 := HMX.out.box.2 0 _ rfl
      have hgl := HGX.out.lt
      have m1 := HMX.out.box.2 1 _ rfl
      have m3 := HMX.out.box.2 3 _ rfl
      go_upto_region 21 with (go_at_call 59; refine (step_say gs X.heap.size D.id fr _ _ _ _ _ _ _ _ none 0 0 [] [] ⟨⟨none, 0, 0⟩, ⟨⟨none, 0, 0⟩, ⟨none, 0, 0⟩⟩, ⟨⟨⟨none, 0, 0⟩, ⟨none, 0, 0⟩⟩, ⟨none, 0, 0⟩⟩, ⟨none, 0, 0⟩⟩ ⟨2, 0, 0, di, ⟨0, 0, []⟩, ⟨0, 0, [], []⟩, ⟨⟨0, 0, [], []⟩, 0, []⟩, []⟩ X HGX.out hgl (Nat.le_refl _) (OwnT.nil _ _) (by simp) ⟨OwnX.nil _ _, OwnI.nil _ _, OwnI.nil _ _, OwnI.nil _ _, OwnI.nil _ _, OwnI.nil _ _, OwnI.nil _ _⟩).mono ?_; rintro e wz ⟨Xz, A9, n9, c9, rfl, rfl, hbz, -, hOz⟩)
      have hGz := HGX.out.up hbz
      have HGZ := Lib.hid (hGz.set_ 9 (.slice A9 n9 c9))
      have htZ := (TKeep.of_below hbz).trans (TKeep.setg (o := 9) (u := .slice A9 n9 c9) hGz)
      have HRZ := Lib.hid (HRX.out.tk htZ (by decide))
      have hbZ : Below w.heap.size w _ := (bel_trans hbX hbz).setCell (p := ⟨gs, 9, none⟩) (by show w.heap.size ≤ gs; omega) (.slice A9 n9 c9)
      have HOZ := Lib.hid ((Lib.hid (HO.out.up hbX)).out.tk htZ twStep)
      have HMZ : Hid (OwnMs _ w.heap.size (.slice A9 n9 c9) [tellM D.id fr di]) := Lib.hid ⟨_, (hOz.tkM (TKeep.setg (o := 9) (u := .slice A9 n9 c9) hGz) twStep).mono hbX.size⟩
      rename_i K hK
      exact got_tail gr gs D.id D.nodes D.next D.age D.clock oA tA eA rA A9 on oc tn tc en ec rn rc n9 c9 _ hK (by omega) HGZ.out HRZ.out (fun W' ht hbn' => ⟨⟨⟨oA, on, oc⟩, ⟨tA, tn, tc⟩, ⟨eA, en, ec⟩, ⟨rA, rn, rc⟩⟩, A9, n9, c9, rfl, HOZ.out.tk ht twWork, HMZ.out.tk ht twWork, hbZ.trans (hbn' _ (by omega))⟩)
  · subst hk
    cases yh
    · by_cases hr : en < 1024
      · have hr2 : decide ((en : Int) < 1024) = true := by simp; omega
        obtain rfl : holdD D di b = D1 := by rw [← HD1.out]; exact Eq.symm (if_pos ⟨rfl, hr⟩)
        obtain rfl : [] = L1 := by rw [← HL1.out]; exact Eq.symm (if_neg (by simp))
        have g7 := HGX.out.box.2 7 _ rfl
        have m0 := HMX.out.box.2 0 _ rfl
        have hgl := HGX.out.lt
        have m3 := HMX.out.box.2 3 _ rfl
        have m4 := HMX.out.box.2 4 _ rfl
        have m5 := HMX.out.box.2 5 _ rfl
        have m6 := HMX.out.box.2 6 _ rfl
        go_upto_region 15 with (go_at_call 51; refine (step_hold gs B oA tA eA rA none bA on oc tn tc en ec rn rc 0 0 bn bc D di b X HGX.out hBX (HO.out.up hbX).he HS.out.he HSO.out (HTX.out.up hbX) hbn).mono ?_; rintro e wh ⟨Xh, A3, n3, c3, rfl, rfl, hbh, hhe⟩)
        clear g7 m0 m3 m4 m5 m6 hgl
        have hGh := HGX.out.up hbh
        refine wp_world (fun Y hY => ?_)
        have HGY : Hid (Blk Y gs 97 [.int .i64 D.id, .int .i64 D.nodes, .int .i64 D.next, .slice oA on oc, .int .i64 D.age, .int .i64 D.clock, .slice tA tn tc, .slice A3 n3 c3, .slice rA rn rc, .slice none 0 0]) := Lib.hid (by rw [hY]; exact hGh.set_ 7 (.slice A3 n3 c3))
        have htY : TKeep 97 X Y := by rw [hY]; exact (TKeep.of_below hbh).trans (TKeep.setg hGh)
        have HHY : Hid (OwnHs Y B (.slice A3 n3 c3) (insAt D.he (kposH D.he di) ⟨di, b⟩)) := Lib.hid (by rw [hY]; exact hhe.tk (TKeep.setg hGh) twStep)
        have HMY := Lib.hid (HMX.out.tk htY (by decide))
        have HRY := Lib.hid (HRX.out.tk htY (by decide))
        have hbY : Below w.heap.size w Y := by rw [hY]; exact (bel_trans hbX hbh).setCell (p := ⟨gs, 7, none⟩) (by show w.heap.size ≤ gs; omega) _
        have HOX := HO.out.up hbX
        have HOY : Hid (WorkO Y B ⟨⟨oA, on, oc⟩, ⟨tA, tn, tc⟩, ⟨A3, n3, c3⟩, ⟨rA, rn, rc⟩⟩ (holdD D di b)) := Lib.hid (let h9 := HOX.tk htY twStep; ⟨h9.op, h9.wa, HHY.out, h9.re⟩)
        clear hY hbh hhe hGh htY HHY HOX HGX HMX HRX hbX hBX
        have m0 := HMY.out.box.2 0 _ rfl
        have hgl := HGY.out.lt
        go_upto_region 21 with fail
        rename_i K hK
        exact got_tail gr gs D.id D.nodes D.next D.age D.clock oA tA A3 rA none on oc tn tc n3 c3 rn rc 0 0 _ hK (by omega) HGY.out HRY.out (fun W' ht hbn' => ⟨⟨⟨oA, on, oc⟩, ⟨tA, tn, tc⟩, ⟨A3, n3, c3⟩, ⟨rA, rn, rc⟩⟩, none, 0, 0, rfl, HOY.out.tk ht twWork, OwnMs.nil _ _, hbY.trans (hbn' _ (by omega))⟩)
      · have hr2 : decide ((en : Int) < 1024) = false := by simp; omega
        obtain rfl : D = D1 := by rw [← HD1.out]; exact Eq.symm (if_neg (fun g => hr g.2))
        obtain rfl : [] = L1 := by rw [← HL1.out]; exact Eq.symm (if_neg (fun g => g.2.elim (fun g2 => by cases g2) hr))
        have g7 := HGX.out.box.2 7 _ rfl
        have m0 := HMX.out.box.2 0 _ rfl
        have hgl := HGX.out.lt
        go_upto_region 21 with fail
        rename_i K hK
        exact got_tail gr gs D.id D.nodes D.next D.age D.clock oA tA eA rA none on oc tn tc en ec rn rc 0 0 _ hK (by omega) HGX.out HRX.out (fun W' ht hbn' => ⟨⟨⟨oA, on, oc⟩, ⟨tA, tn, tc⟩, ⟨eA, en, ec⟩, ⟨rA, rn, rc⟩⟩, none, 0, 0, rfl, (Lib.hid (HO.out.up hbX)).out.tk ht twWork, OwnMs.nil _ _, hbX.trans (hbn' _ (by omega))⟩)
    · have hr2 := 0
      obtain rfl : D = D1 := by rw [← HD1.out]; exact Eq.symm (if_neg (fun g => by cases g.1))
      obtain rfl : [] = L1 := by rw [← HL1.out]; exact Eq.symm (if_neg (fun g => by cases g.1))
      have g7 := HGX.out.box.2 7 _ rfl
      have m0 := HMX.out.box.2 0 _ rfl
      have hgl := HGX.out.lt
      go_upto_region 21 with fail
      rename_i K hK
      exact got_tail gr gs D.id D.nodes D.next D.age D.clock oA tA eA rA none on oc tn tc en ec rn rc 0 0 _ hK (by omega) HGX.out HRX.out (fun W' ht hbn' => ⟨⟨⟨oA, on, oc⟩, ⟨tA, tn, tc⟩, ⟨eA, en, ec⟩, ⟨rA, rn, rc⟩⟩, none, 0, 0, rfl, (Lib.hid (HO.out.up hbX)).out.tk ht twWork, OwnMs.nil _ _, hbX.trans (hbn' _ (by omega))⟩)
end Go.Proofs.Ytgfakefcmbpboaa
