/- message.only: kinds 1, 3, 7, 8. -/
import Derived.Test.YtgfakefcmbpboaaSxWec
import Derived.Deep.RegionHeld3
namespace Go.Proofs.Ytgfakefcmbpboaa
open Go.RowKit
set_option linter.unusedSimpArgs false
set_option linter.unusedVariables false

noncomputable def onlyEnd : Code := cAfter 3 (Try.f56.body.getD .skip)
set_option maxRecDepth 100000 in
set_option maxHeartbeats 8000000 in
theorem only_tail {K : Act → World → Prop} (N : Nat) (v0 v1 v2 v3 v4 v5 v6 v7 v8 v9 v10 v11 v12 v13 v14 v15 v16 v17 : Value) (y : Bool) (w V : World) (h1 : ∀ u ∈ [v0, v1, v2, v3, v4, v5, v6, v7, v8, v9, v10, v11, v12, v13, v14, v15, v16, v17], u.oneCell' = true) {u0 u1 u2 u3 u6 u7 u8 u9 u10 u11 u12 u13 u14 u15 u16 u17 u18 u19 u20 u21 u22 u23 u24 u25 u26 u27 u28 u29 u30 u31 u32 u33 u34 u35 u36 u37 u38 u39 u40 u41 u42 u43 u44 u45 u46 u47 u48 u49 u50 u51 u52 u53 u54 u55 u56 u57 u58 u59 u60 u61 u62 u63 u64 u65 u66 u67 u68 u69 u70 u71 u72 u73 u74 u75 u76 u77 u78 u79 u80 u81 u82 u83 u84 u85 u86 u87 u88 u89 u90 u91 u92 u93 u94 u95 u96 u97 u98 u99 u100 u101 u102 u103 u104 : Value}
    (hK : ∀ a' w', Code.wp Try.prog (cSnd onlyEnd) (bodyPost Try.prog Try.f56 (fun e w' => e = .returned (.tuple #[.agg #[v0, v1, v2, v3, v4, v5, v6, v7, v8, v9, v10, v11, v12, v13, v14, v15, v16, v17], .bool y]) ∧ Below w.heap.size w w')) a' w' → K a' w') (hN : w.heap.size ≤ N) (hb2 : Below w.heap.size w V) (hX : Blk V N 54 [v0, v1, v2, v3, v4, v5, v6, v7, v8, v9, v10, v11, v12, v13, v14, v15, v16, v17]) :
    Code.wp Try.prog (cFst onlyEnd) (Exit.then K (bodyPost Try.prog Try.f56 (fun e w' => e = .returned (.tuple #[.agg #[v0, v1, v2, v3, v4, v5, v6, v7, v8, v9, v10, v11, v12, v13, v14, v15, v16, v17], .bool y]) ∧ Below w.heap.size w w'))) { tmps := #[u0, u1, u2, u3, .pointer (some ⟨N, 0, none⟩), .bool y, u6, u7, u8, u9, u10, u11, u12, u13, u14, u15, u16, u17, u18, u19, u20, u21, u22, u23, u24, u25, u26, u27, u28, u29, u30, u31, u32, u33, u34, u35, u36, u37, u38, u39, u40, u41, u42, u43, u44, u45, u46, u47, u48, u49, u50, u51, u52, u53, u54, u55, u56, u57, u58, u59, u60, u61, u62, u63, u64, u65, u66, u67, u68, u69, u70, u71, u72, u73, u74, u75, u76, u77, u78, u79, u80, u81, u82, u83, u84, u85, u86, u87, u88, u89, u90, u91, u92, u93, u94, u95, u96, u97, u98, u99, u100, u101, u102, u103, u104], defers := [] } V := by
  have HVX := Lib.hid hX
  have HK := Lib.hid hK
  clear hX hK
  dsimp only [onlyEnd, cAfter, cSnd, cFst, Try.f56, Option.getD]
  refine wp_region_list ?_
  simp only [List.toList_toArray]
  refine wpList_load_mid rfl 54 _ rfl N 0 (by simp [Act.eval, Act.put]) [v0, v1, v2, v3, v4, v5, v6, v7, v8, v9, v10, v11, v12, v13, v14, v15, v16, v17] _ HVX.out.rng Try.underlying54 (by rfl) (by kernel_rfl) ?_
  (try simp only [Act.put, lzT, lzZ, lzS])
  refine wpList_plain rfl (fun K hK => ?_)
  go_simp
  refine hK _ _ ?_
  clear hK K
  (try simp only [Act.put, lzT, lzZ, lzS])
  refine wpList_store_mid rfl 54 _ _ rfl N 0 ([v0, v1, v2, v3, v4, v5, v6, v7, v8, v9, v10, v11, v12, v13, v14, v15, v16, v17]).toArray (by simp [Act.eval, Act.put]) (by simp [Act.eval, Act.put]) HVX.out.thr (by kernel_rfl) (all_oneCell_toArray h1) ?_
  (try simp only [Act.put, lzT, lzZ, lzS])
  refine wpList_plain rfl (fun K hK => ?_)
  go_simp
  refine hK _ _ ?_
  clear hK K
  (try simp only [Act.put, lzT, lzZ, lzS])
  refine wpList_nil ?_
  have hrg : (V.setCells N 0 [v0, v1, v2, v3, v4, v5, v6, v7, v8, v9, v10, v11, v12, v13, v14, v15, v16, v17]).rangeAt N 0 [v0, v1, v2, v3, v4, v5, v6, v7, v8, v9, v10, v11, v12, v13, v14, v15, v16, v17] := World.rangeAt_setCells_same V N 0 [v0, v1, v2, v3, v4, v5, v6, v7, v8, v9, v10, v11, v12, v13, v14, v15, v16, v17] HVX.out.thr
  have hb3 : Below w.heap.size w (V.setCells N 0 [v0, v1, v2, v3, v4, v5, v6, v7, v8, v9, v10, v11, v12, v13, v14, v15, v16, v17]) := bel_setCells (by omega) _ _ _ hb2
  try simp only [List.toList_toArray]
  obtain ⟨U, hU⟩ : ∃ U, U = V.setCells N 0 [v0, v1, v2, v3, v4, v5, v6, v7, v8, v9, v10, v11, v12, v13, v14, v15, v16, v17] := ⟨_, rfl⟩
  rw [← hU] at hrg hb3 ⊢
  clear hU HVX hb2 h1
  show K _ _
  apply HK.out
  clear HK
  dsimp only [onlyEnd, cAfter, cSnd, cFst, Try.f56, Option.getD]

  have c0 : U.cell? ⟨N, 0, none⟩ = _ := hrg 0 _ rfl
  have c1 : U.cell? ⟨N, 1, none⟩ = _ := hrg 1 _ rfl
  have c2 : U.cell? ⟨N, 2, none⟩ = _ := hrg 2 _ rfl
  have c3 : U.cell? ⟨N, 3, none⟩ = _ := hrg 3 _ rfl
  have c4 : U.cell? ⟨N, 4, none⟩ = _ := hrg 4 _ rfl
  have c5 : U.cell? ⟨N, 5, none⟩ = _ := hrg 5 _ rfl
  have c6 : U.cell? ⟨N, 6, none⟩ = _ := hrg 6 _ rfl
  have c7 : U.cell? ⟨N, 7, none⟩ = _ := hrg 7 _ rfl
  have c8 : U.cell? ⟨N, 8, none⟩ = _ := hrg 8 _ rfl
  have c9 : U.cell? ⟨N, 9, none⟩ = _ := hrg 9 _ rfl
  have c10 : U.cell? ⟨N, 10, none⟩ = _ := hrg 10 _ rfl
  have c11 : U.cell? ⟨N, 11, none⟩ = _ := hrg 11 _ rfl
  have c12 : U.cell? ⟨N, 12, none⟩ = _ := hrg 12 _ rfl
  have c13 : U.cell? ⟨N, 13, none⟩ = _ := hrg 13 _ rfl
  have c14 : U.cell? ⟨N, 14, none⟩ = _ := hrg 14 _ rfl
  have c15 : U.cell? ⟨N, 15, none⟩ = _ := hrg 15 _ rfl
  have c16 : U.cell? ⟨N, 16, none⟩ = _ := hrg 16 _ rfl
  have c17 : U.cell? ⟨N, 17, none⟩ = _ := hrg 17 _ rfl
  go_wp2_with fail
  exact bodyPost_ret (v := .tuple #[.agg #[v0, v1, v2, v3, v4, v5, v6, v7, v8, v9, v10, v11, v12, v13, v14, v15, v16, v17], .bool y]) (by simp [results, Try.results56, go_sem, c0, c1, c2, c3, c4, c5, c6, c7, c8, c9, c10, c11, c12, c13, c14, c15, c16, c17]) rfl ⟨rfl, hb3⟩
end Go.Proofs.Ytgfakefcmbpboaa
