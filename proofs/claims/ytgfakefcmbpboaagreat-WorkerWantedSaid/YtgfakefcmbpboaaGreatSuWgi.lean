/- worker.Got: its end; kinds 1, 3. -/
import Derived.Test.YtgfakefcmbpboaaGreatSuWgg
import Derived.Test.YtgfakefcmbpboaaGreatSuWsc
import Derived.Test.YtgfakefcmbpboaaGreatSuWj
namespace Go.Proofs.YtgfakefcmbpboaaGreat
set_option linter.all false
set_option maxRecDepth 100000
open Go.RowKit

noncomputable def gotEnd : Code := cAfter 4 (Tryz.f96.body.getD .skip)
set_option maxHeartbeats 8000000 in
theorem got_tail {K : Act → World → Prop} {Ψ : Ending → World → Prop} (gr gs : Nat) (id nodes next age clock : Int) (oA tA eA rA uA : Option Addr) (on oc tn tc en ec rn rc un uc : Nat) (W : World) {u0 u1 u2 u3 u5 u7 u8 u9 u10 u11 u12 u13 u14 u15 u16 u17 u18 u19 u20 u21 u22 u23 u24 u25 u26 u27 u28 u29 u30 u31 u32 u33 u34 u35 u36 u37 u38 u39 u40 u41 u42 u43 u44 u45 u46 u47 u48 u49 u50 u51 u52 u53 u54 u55 u56 u57 u58 u59 u60 u61 u62 u63 u64 u65 u66 u67 u68 u69 u70 u71 u72 u73 u74 u75 u76 u77 u78 u79 u80 u81 u82 u83 u84 u85 u86 u87 u88 u89 u90 u91 u92 u93 u94 u95 u96 u97 u98 u99 u100 u101 u102 u103 u104 u105 u106 u107 u108 u109 u110 u111 u112 u113 u114 : Value}
    (hK : ∀ a' w', Code.wp Tryz.prog (cSnd gotEnd) (bodyPost Tryz.prog Tryz.f96 Ψ) a' w' → K a' w') (hne : gs ≠ gr) (hg : Blk W gs 142 [.int .i64 id, .int .i64 nodes, .int .i64 next, .slice oA on oc, .int .i64 age, .int .i64 clock, .slice tA tn tc, .slice eA en ec, .slice rA rn rc, .slice uA un uc]) (hr : Blk W gr 27 [.int .i64 0, .int .i64 0, .int .i64 0, .slice none 0 0, .int .i64 0, .int .i64 0, .slice none 0 0, .slice none 0 0, .slice none 0 0])
    (hΨ : ∀ W', TKeep 27 W W' → (∀ n, n ≤ gr → Below n W W') → Ψ (.returned (.tuple #[.agg #[.int .i64 id, .int .i64 nodes, .int .i64 next, .slice oA on oc, .int .i64 age, .int .i64 clock, .slice tA tn tc, .slice eA en ec, .slice rA rn rc], .slice uA un uc])) W') :
    Code.wp Tryz.prog (cFst gotEnd) (Exit.then K (bodyPost Tryz.prog Tryz.f96 Ψ)) { tmps := #[u0, u1, u2, u3, .pointer (some ⟨gr, 0, none⟩), u5, .pointer (some ⟨gs, 0, none⟩), u7, u8, u9, u10, u11, u12, u13, u14, u15, u16, u17, u18, u19, u20, u21, u22, u23, u24, u25, u26, u27, u28, u29, u30, u31, u32, u33, u34, u35, u36, u37, u38, u39, u40, u41, u42, u43, u44, u45, u46, u47, u48, u49, u50, u51, u52, u53, u54, u55, u56, u57, u58, u59, u60, u61, u62, u63, u64, u65, u66, u67, u68, u69, u70, u71, u72, u73, u74, u75, u76, u77, u78, u79, u80, u81, u82, u83, u84, u85, u86, u87, u88, u89, u90, u91, u92, u93, u94, u95, u96, u97, u98, u99, u100, u101, u102, u103, u104, u105, u106, u107, u108, u109, u110, u111, u112, u113, u114], defers := [] } W := by
  have HK := ħ hK
  have HG := ħ hg
  have HR := ħ hr
  have HΨ := ħ hΨ
  clear hK hg hr hΨ
  dsimp only [gotEnd, cAfter, cSnd, cFst, Tryz.f96, Option.getD]
  obtain ⟨S, hSd⟩ : ∃ S : World → Prop, S = fun Q => Blk Q gs 142 [.int .i64 id, .int .i64 nodes, .int .i64 next, .slice oA on oc, .int .i64 age, .int .i64 clock, .slice tA tn tc, .slice eA en ec, .slice rA rn rc, .slice uA un uc] := ⟨_, rfl⟩
  have hS1 : ∀ Q, S Q → Q.rangeAt gs 0 [.int .i64 id, .int .i64 nodes, .int .i64 next, .slice oA on oc, .int .i64 age, .int .i64 clock, .slice tA tn tc, .slice eA en ec, .slice rA rn rc] := fun Q h => by rw [hSd] at h; exact fun j v hv => by have h9 : Blk Q gs 142 ([.int .i64 id, .int .i64 nodes, .int .i64 next, .slice oA on oc, .int .i64 age, .int .i64 clock, .slice tA tn tc, .slice eA en ec, .slice rA rn rc] ++ [.slice uA un uc]) := h; have := h9.box.2 j v ((List.getElem?_append_left ((List.getElem?_eq_some_iff.1 hv).1)).trans hv); rwa [Nat.zero_add]
  have hS3 : ∀ Q, S Q → Q.cell? ⟨gs, 9, none⟩ = some (.slice uA un uc) := fun Q h => by rw [hSd] at h; exact Blk.box h |>.2 9 _ rfl
  have hS5 : ∀ Q, S Q → ∀ b0 b1 b2 b3 b4 b5 b6 b7 b8 : Value, S (((((((((Q.setCell ⟨gr, 0, none⟩ b0).setCell ⟨gr, 1, none⟩ b1).setCell ⟨gr, 2, none⟩ b2).setCell ⟨gr, 3, none⟩ b3).setCell ⟨gr, 4, none⟩ b4).setCell ⟨gr, 5, none⟩ b5).setCell ⟨gr, 6, none⟩ b6).setCell ⟨gr, 7, none⟩ b7).setCell ⟨gr, 8, none⟩ b8) := fun Q h b0 b1 b2 b3 b4 b5 b6 b7 b8 => by rw [hSd] at h ⊢; exact Blk.sets9 h hne b0 b1 b2 b3 b4 b5 b6 b7 b8
  have hZ0 : S W.drew := by rw [hSd]; exact HG.out.up (bel_drew (Below.refl _ _))
  clear hSd
  have hbd : Below W.heap.size W W.drew := bel_drew (Below.refl _ _)
  refine wp_region_held_drew (S := S) (by kernel_rfl) hZ0 (fun hHeld => ?_)
  have hZ := hHeld
  generalize W.drew = Z at *

  (refine wpAnyH_tk 0 (some 107) (v := ?_) rfl rfl ?_ ?_; rotate_left; (focus (intro wq hSw; clear hSw; go_simp; all_goals (with_reducible rfl))); simp only [lz])
  (refine wpAnyH_tk 1 (some 108) (v := ?_) rfl rfl ?_ ?_; rotate_left; (focus (intro wq hSw; clear hSw; go_simp; all_goals (with_reducible rfl))); simp only [lz])
  (refine wpAnyH_tk 2 (some 109) (v := ?_) rfl rfl ?_ ?_; rotate_left; (focus (intro wq hSw; clear hSw; go_simp; all_goals (with_reducible rfl))); simp only [lz])
  refine wpAnyH_takeD (i := 3) (d := (some 110)) (v := .agg ([.int .i64 id, .int .i64 nodes, .int .i64 next, .slice oA on oc, .int .i64 age, .int .i64 clock, .slice tA tn tc, .slice eA en ec, .slice rA rn rc]).toArray) rfl rfl (by kernel_rfl) (by kernel_rfl) (by kernel_rfl) (fun _ _ _ h => h) (yieldsIf_load_mid (by rfl) 27 _ rfl gs 0 (by simp [Act.eval, Act.put]) ([.int .i64 id, .int .i64 nodes, .int .i64 next, .slice oA on oc, .int .i64 age, .int .i64 clock, .slice tA tn tc, .slice eA en ec, .slice rA rn rc]) _ (hS1) Tryz.underlying27 (by rfl) (by kernel_rfl)) (by assumption) ?_
  simp only [lz]
  (refine wpAnyH_tk 4 (some 111) (v := ?_) rfl rfl ?_ ?_; rotate_left; (focus (intro wq hSw; clear hSw; go_simp; all_goals (with_reducible rfl))); simp only [lz])
  (refine wpAnyH_tk 5 (some 112) (v := ?_) rfl rfl ?_ ?_; rotate_left; (focus (intro wq hSw; clear hSw; go_simp; all_goals (with_reducible rfl))); simp only [lz])
  (refine wpAnyH_tk 6 (some 113) (v := ?_) rfl rfl ?_ ?_; rotate_left; (focus (intro wq hSw; clear hSw; go_simp; all_goals (with_reducible rfl))); simp only [lz])
  (refine wpAnyH_tk 7 (some 114) (v := ?_) rfl rfl ?_ ?_; rotate_left; (focus (intro wq hSw; have q9 := hS3 wq hSw; clear hSw; go_simp; all_goals (with_reducible rfl))); simp only [lz])
  refine rd1 8 rfl fun K hK => ?_
  have hVz := HR.out.up hbd
  have qf := hVz.frozen
  have ql := hVz.lt
  have h9 := hVz.box
  have q0 := h9.2 0 _ rfl
  have q1 := h9.2 1 _ rfl
  have q2 := h9.2 2 _ rfl
  have q3 := h9.2 3 _ rfl
  have q4 := h9.2 4 _ rfl
  have q5 := h9.2 5 _ rfl
  have q6 := h9.2 6 _ rfl
  have q7 := h9.2 7 _ rfl
  have q8 := h9.2 8 _ rfl
  clear h9
  go_simp
  clear qf ql q0 q1 q2 q3 q4 q5 q6 q7 q8
  have hW9 := set9 hVz rfl (.int .i64 id) (.int .i64 nodes) (.int .i64 next) (.slice oA on oc) (.int .i64 age) (.int .i64 clock) (.slice tA tn tc) (.slice eA en ec) (.slice rA rn rc)
  have htz := TKeep.sets9 hVz (.int .i64 id) (.int .i64 nodes) (.int .i64 next) (.slice oA on oc) (.int .i64 age) (.int .i64 clock) (.slice tA tn tc) (.slice eA en ec) (.slice rA rn rc)
  refine hK.out _ _ (hS5 _ hZ (.int .i64 id) (.int .i64 nodes) (.int .i64 next) (.slice oA on oc) (.int .i64 age) (.int .i64 clock) (.slice tA tn tc) (.slice eA en ec) (.slice rA rn rc)) (fun hHeld => ?_)
  clear hK K
  (try simp only [lz])
  (refine wpAnyH_tk 9 (some 5) (v := ?_) rfl rfl ?_ ?_; rotate_left; (focus (intro wq hSw; clear hSw; go_simp; all_goals (with_reducible rfl))); simp only [lz])
  refine wpAnyH_done (by kernel_rfl) ?_ _
  have hbz : ∀ n, n ≤ gr → Below n W (((((((((Z.setCell ⟨gr, 0, none⟩ (.int .i64 id)).setCell ⟨gr, 1, none⟩ (.int .i64 nodes)).setCell ⟨gr, 2, none⟩ (.int .i64 next)).setCell ⟨gr, 3, none⟩ (.slice oA on oc)).setCell ⟨gr, 4, none⟩ (.int .i64 age)).setCell ⟨gr, 5, none⟩ (.int .i64 clock)).setCell ⟨gr, 6, none⟩ (.slice tA tn tc)).setCell ⟨gr, 7, none⟩ (.slice eA en ec)).setCell ⟨gr, 8, none⟩ (.slice rA rn rc)) := fun n hn => belw_sets9 (hbd.mono (by have := HR.out.lt; omega)) hn (.int .i64 id) (.int .i64 nodes) (.int .i64 next) (.slice oA on oc) (.int .i64 age) (.int .i64 clock) (.slice tA tn tc) (.slice eA en ec) (.slice rA rn rc)
  have htz2 := (TKeep.of_below hbd).trans htz
  obtain ⟨Y, hY⟩ : ∃ Y, Y = (((((((((Z.setCell ⟨gr, 0, none⟩ (.int .i64 id)).setCell ⟨gr, 1, none⟩ (.int .i64 nodes)).setCell ⟨gr, 2, none⟩ (.int .i64 next)).setCell ⟨gr, 3, none⟩ (.slice oA on oc)).setCell ⟨gr, 4, none⟩ (.int .i64 age)).setCell ⟨gr, 5, none⟩ (.int .i64 clock)).setCell ⟨gr, 6, none⟩ (.slice tA tn tc)).setCell ⟨gr, 7, none⟩ (.slice eA en ec)).setCell ⟨gr, 8, none⟩ (.slice rA rn rc)) := ⟨_, rfl⟩
  rw [← hY] at hW9 htz2 hbz ⊢
  clear hY htz hZ hHeld hS1 hS3 hS5 hZ0
  show K _ _
  apply HK.out
  clear HK
  dsimp only [gotEnd, cAfter, cSnd, cFst, Tryz.f96, Option.getD]
  have r_0 := (hW9.box).2 0 _ rfl; have r_1 := (hW9.box).2 1 _ rfl; have r_2 := (hW9.box).2 2 _ rfl; have r_3 := (hW9.box).2 3 _ rfl; have r_4 := (hW9.box).2 4 _ rfl; have r_5 := (hW9.box).2 5 _ rfl; have r_6 := (hW9.box).2 6 _ rfl; have r_7 := (hW9.box).2 7 _ rfl; have r_8 := (hW9.box).2 8 _ rfl
  go_wp2_with fail
  exact bodyPost_ret (v := .tuple #[.agg #[.int .i64 id, .int .i64 nodes, .int .i64 next, .slice oA on oc, .int .i64 age, .int .i64 clock, .slice tA tn tc, .slice eA en ec, .slice rA rn rc], .slice uA un uc]) (by simp [results, Tryz.results96, go_sem, r_0, r_1, r_2, r_3, r_4, r_5, r_6, r_7, r_8]) rfl (HΨ.out Y htz2 hbz)
open Go.RowKit

theorem OwnT.tkM {T : TypeId} {w w' : World} {B : Nat} {v : Value} {ps : List MsgP} {l : List MsgD} (h : OwnT dMsg w B v ps l) (hk : TKeep T w w') (hT : TWork T) : OwnT dMsg w' B v ps l := ⟨own_tkw h.1 hk hT (by decide) (by decide), h.2.1, fun j hj => OwnM.tk (h.2.2 j hj) hk hT⟩
end Go.Proofs.YtgfakefcmbpboaaGreat
