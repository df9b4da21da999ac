/- WorkerWanted: the statement: whatever argument is given, WorkerWanted returns true and changes nothing. No conditions. -/
import Derived.Test.YtgfakefcmbpboaaGreatSuWgt
import Derived.Deep.RegionLaw
import Derived.Deep.RegionWith
import Derived.Deep.Cut
import Derived.Deep.CutRange
import Derived.Deep.RegionHeld3
namespace Go.Proofs.YtgfakefcmbpboaaGreat
set_option linter.all false
set_option maxRecDepth 100000

section
open Go.RowKit
end
section
open Go.RowKit Go.ChangeShapes Go.WideShapes Go.ChangeAt
section
variable {H : Type} {enc : TypeId × Value → H} {w : World} {base : Nat} {spare : Nat → Bool} {held : Bool}
end
end
section
open Go.RowKit
end
section
open Go.RowKit
end
section
open Go.RowKit
end
section
open Go.RowKit
theorem khasH_lt {l : List HeldD} {key : Int} {lo : Nat} (hlo : kposH l key = lo) (h : khasH l key = true) : lo < l.length ∧ (hth l lo).di = key := by
 subst hlo; exact dec_iff.1 h
theorem khasH_iff {l : List HeldD} (hs : SortedH l) {key : Int} : khasH l key = true ↔ ∃ j, j < l.length ∧ (hth l j).di = key := by
 constructor
 ·intro h; exact ⟨_, (dec_iff.1 h)⟩
 ·rintro ⟨j, hj, e⟩
  refine dec_iff.2 ?_
  have hpos : kposH l key = j := cnt_eq _ l j (by omega) (fun t ht => by have := hs t j ht hj; rw [e] at this; exact this) (fun _ => by show ltI (hth l j).di key = false; rw [e]; simp [ltI])
  rw [hpos]; exact ⟨hj, e⟩
end
open Go.RowKit

theorem TxsR.nil (w : World) (A : Option Addr) : TxsR w A 0 [] := ⟨rfl, by simp [flat], by omega, fun h => absurd h (by omega)⟩
open Go.RowKit

noncomputable def onlyEnd : Code := cAfter 3 (Tryz.f130.body.getD .skip)
set_option maxHeartbeats 8000000 in
theorem only_tail {K : Act → World → Prop} (N : Nat) (v0 v1 v2 v3 v4 v5 v6 v7 v8 v9 v10 v11 v12 v13 v14 v15 v16 v17 : Value) (y : Bool) (w V : World) (h1 : ∀ u ∈ [v0, v1, v2, v3, v4, v5, v6, v7, v8, v9, v10, v11, v12, v13, v14, v15, v16, v17], u.oneCell' = true) {u0 u1 u2 u3 u6 u7 u8 u9 u10 u11 u12 u13 u14 u15 u16 u17 u18 u19 u20 u21 u22 u23 u24 u25 u26 u27 u28 u29 u30 u31 u32 u33 u34 u35 u36 u37 u38 u39 u40 u41 u42 u43 u44 u45 u46 u47 u48 u49 u50 u51 u52 u53 u54 u55 u56 u57 u58 u59 u60 u61 u62 u63 u64 u65 u66 u67 u68 u69 u70 u71 u72 u73 u74 u75 u76 u77 u78 u79 u80 u81 u82 u83 u84 u85 u86 u87 u88 u89 u90 u91 u92 u93 u94 u95 u96 u97 u98 u99 u100 u101 u102 u103 u104 : Value}
  (hK : ∀ a' w', Code.wp Tryz.prog (cSnd onlyEnd) (bodyPost Tryz.prog Tryz.f130 (fun e w' => e = .returned (.tuple #[.agg #[v0, v1, v2, v3, v4, v5, v6, v7, v8, v9, v10, v11, v12, v13, v14, v15, v16, v17], .bool y]) ∧ Below w.heap.size w w')) a' w' → K a' w') (hN : w.heap.size ≤ N) (hb2 : Below w.heap.size w V) (hX : Blk V N 49 [v0, v1, v2, v3, v4, v5, v6, v7, v8, v9, v10, v11, v12, v13, v14, v15, v16, v17]) :
  Code.wp Tryz.prog (cFst onlyEnd) (Exit.then K (bodyPost Tryz.prog Tryz.f130 (fun e w' => e = .returned (.tuple #[.agg #[v0, v1, v2, v3, v4, v5, v6, v7, v8, v9, v10, v11, v12, v13, v14, v15, v16, v17], .bool y]) ∧ Below w.heap.size w w'))) { tmps := #[u0, u1, u2, u3, .pointer (some ⟨N, 0, none⟩), .bool y, u6, u7, u8, u9, u10, u11, u12, u13, u14, u15, u16, u17, u18, u19, u20, u21, u22, u23, u24, u25, u26, u27, u28, u29, u30, u31, u32, u33, u34, u35, u36, u37, u38, u39, u40, u41, u42, u43, u44, u45, u46, u47, u48, u49, u50, u51, u52, u53, u54, u55, u56, u57, u58, u59, u60, u61, u62, u63, u64, u65, u66, u67, u68, u69, u70, u71, u72, u73, u74, u75, u76, u77, u78, u79, u80, u81, u82, u83, u84, u85, u86, u87, u88, u89, u90, u91, u92, u93, u94, u95, u96, u97, u98, u99, u100, u101, u102, u103, u104], defers := [] } V := by
 have HVX := ħ hX
 have HK := ħ hK
 clear hX hK
 dsimp only [onlyEnd, cAfter, cSnd, cFst, Tryz.f130, Option.getD]
 refine wp_region_list ?_
 simp only [List.toList_toArray]
 refine wpList_load_mid rfl 49 _ rfl N 0 (by simp [Act.eval, Act.put]) [v0, v1, v2, v3, v4, v5, v6, v7, v8, v9, v10, v11, v12, v13, v14, v15, v16, v17] _ HVX.out.rng Tryz.underlying49 (by rfl) (by kernel_rfl) ?_
 (try simp only [lz])
 refine wpList_plain rfl (fun K hK => ?_)
 go_simp
 refine hK _ _ ?_
 clear hK K
 (try simp only [lz])
 refine wpList_store_mid rfl 49 _ _ rfl N 0 ([v0, v1, v2, v3, v4, v5, v6, v7, v8, v9, v10, v11, v12, v13, v14, v15, v16, v17]).toArray (by simp [Act.eval, Act.put]) (by simp [Act.eval, Act.put]) HVX.out.thr (by kernel_rfl) (all_oneCell_toArray h1) ?_
 (try simp only [lz])
 refine wpList_plain rfl (fun K hK => ?_)
 go_simp
 refine hK _ _ ?_
 clear hK K
 (try simp only [lz])
 refine wpList_nil ?_
 have hrg : (V.setCells N 0 [v0, v1, v2, v3, v4, v5, v6, v7, v8, v9, v10, v11, v12, v13, v14, v15, v16, v17]).rangeAt N 0 [v0, v1, v2, v3, v4, v5, v6, v7, v8, v9, v10, v11, v12, v13, v14, v15, v16, v17] := World.rangeAt_setCells_same V N 0 [v0, v1, v2, v3, v4, v5, v6, v7, v8, v9, v10, v11, v12, v13, v14, v15, v16, v17] HVX.out.thr
 have hb3 : Below w.heap.size w (V.setCells N 0 [v0, v1, v2, v3, v4, v5, v6, v7, v8, v9, v10, v11, v12, v13, v14, v15, v16, v17]) := bel_setCells (by omega) _ _ _ hb2
 try simp only [List.toList_toArray]
 obtain ⟨U, hU⟩ : ∃ U, U = V.setCells N 0 [v0, v1, v2, v3, v4, v5, v6, v7, v8, v9, v10, v11, v12, v13, v14, v15, v16, v17] := ⟨_, rfl⟩
 rw [← hU] at hrg hb3 ⊢
 clear hU HVX hb2 h1
 show K _ _
 apply HK.out
 clear HK
 dsimp only [onlyEnd, cAfter, cSnd, cFst, Tryz.f130, Option.getD]

 have c0 : U.cell? ⟨N, 0, none⟩ = _ := hrg 0 _ rfl
 have c1 : U.cell? ⟨N, 1, none⟩ = _ := hrg 1 _ rfl
 have c2 : U.cell? ⟨N, 2, none⟩ = _ := hrg 2 _ rfl
 have c3 : U.cell? ⟨N, 3, none⟩ = _ := hrg 3 _ rfl
 have c4 : U.cell? ⟨N, 4, none⟩ = _ := hrg 4 _ rfl
 have c5 : U.cell? ⟨N, 5, none⟩ = _ := hrg 5 _ rfl
 have c6 : U.cell? ⟨N, 6, none⟩ = _ := hrg 6 _ rfl
 have c7 : U.cell? ⟨N, 7, none⟩ = _ := hrg 7 _ rfl
 have c8 : U.cell? ⟨N, 8, none⟩ = _ := hrg 8 _ rfl
 have c9 : U.cell? ⟨N, 9, none⟩ = _ := hrg 9 _ rfl
 have c10 : U.cell? ⟨N, 10, none⟩ = _ := hrg 10 _ rfl
 have c11 : U.cell? ⟨N, 11, none⟩ = _ := hrg 11 _ rfl
 have c12 : U.cell? ⟨N, 12, none⟩ = _ := hrg 12 _ rfl
 have c13 : U.cell? ⟨N, 13, none⟩ = _ := hrg 13 _ rfl
 have c14 : U.cell? ⟨N, 14, none⟩ = _ := hrg 14 _ rfl
 have c15 : U.cell? ⟨N, 15, none⟩ = _ := hrg 15 _ rfl
 have c16 : U.cell? ⟨N, 16, none⟩ = _ := hrg 16 _ rfl
 have c17 : U.cell? ⟨N, 17, none⟩ = _ := hrg 17 _ rfl
 go_wp2_with fail
 exact bodyPost_ret (v := .tuple #[.agg #[v0, v1, v2, v3, v4, v5, v6, v7, v8, v9, v10, v11, v12, v13, v14, v15, v16, v17], .bool y]) (by simp [results, Tryz.results130, go_sem, c0, c1, c2, c3, c4, c5, c6, c7, c8, c9, c10, c11, c12, c13, c14, c15, c16, c17]) rfl ⟨rfl, hb3⟩
theorem comm_DigestsY (A : Option Addr) (n c : Nat) (l : List Int) (y : Bool) (w : World) (hl : IntsR w A n l) (hy : crisS l 1 65536 = y) : Calls Tryz.prog 152 #[.slice A n c] w fun e w' => e = .returned (.bool y) ∧ w = w' := by
 have HL := ħ hl
 have HY := ħ hy
 clear hl hy
 go_enter Tryz.func152, Tryz.ntmps152
 go_wp2_with (go_at_call 111; (with_reducible refine (comm_Rising A n c l 1 65536 y _ HL.out HY.out).mono ?_); rintro e w' ⟨rfl, rfl⟩)
 go_ret
 exact ⟨rfl, rfl⟩
set_option maxHeartbeats 8000000 in
theorem message_only7 (P : MsgP) (M : MsgD) (n : Int) (y : Bool) (w : World) (hk : M.ki = 7) (hd : IntsR w P.ds.A P.ds.n M.ds) (hy : dec (1 ≤ M.ds.length ∧ M.ds.length ≤ 16 ∧ crisS M.ds 1 65536 = true) = y) :
  Calls Tryz.prog 130 #[M18 P M, .int .i64 n] w fun e w' => e = .returned (.tuple #[M18 ⟨⟨none, 0, 0⟩, ⟨⟨none, 0, 0⟩, ⟨none, 0, 0⟩⟩, ⟨⟨⟨none, 0, 0⟩, ⟨none, 0, 0⟩⟩, ⟨none, 0, 0⟩⟩, P.ds⟩ ⟨M.ki, M.fr, M.tt, 0, bat0, hea0, cer0, M.ds⟩, .bool y]) ∧ Below w.heap.size w w' := by
 obtain ⟨⟨bA, bn, bc⟩, ⟨⟨xA, xn, xc⟩, ⟨yA, yn, yc⟩⟩, ⟨⟨⟨cA, cn, cd⟩, ⟨dA, dn, dc⟩⟩, ⟨sA, sn, sc⟩⟩, ⟨eA, en, ec⟩⟩ := P
 obtain ⟨ki, fr, tt, di, b, hd, cc, ds⟩ := M
 dsimp only at hk hd hy
 subst hk
 obtain ⟨yc2, hyc⟩ : ∃ z, crisS ds 1 65536 = z := ⟨_, rfl⟩
 have HC := ħ hyc
 rw [hyc, show ds.length = en from hd.1] at hy
 have HY : Hid (y = (decide (1 ≤ en) && decide (en ≤ 16) && yc2)) := ħ (by rw [← hy]; rw [Bool.eq_iff_iff, dec_iff]; simp [and_assoc])
 have HD := ħ hd
 clear hy hyc hd
 show Calls Tryz.prog 130 #[.agg #[.int .i64 7, .int .i64 fr, .int .i64 tt, .int .i64 di, .int .i64 b.au, .int .i64 b.n, .slice bA bn bc, .int .i64 hd.au, .int .i64 hd.ro, .slice xA xn xc, .slice yA yn yc, .int .i64 cc.h.au, .int .i64 cc.h.ro, .slice cA cn cd, .slice dA dn dc, .int .i64 cc.di, .slice sA sn sc, .slice eA en ec], .int .i64 n] w fun e w' => e = .returned (.tuple #[.agg #[.int .i64 7, .int .i64 fr, .int .i64 tt, .int .i64 0, .int .i64 0, .int .i64 0, .slice none 0 0, .int .i64 0, .int .i64 0, .slice none 0 0, .slice none 0 0, .int .i64 0, .int .i64 0, .slice none 0 0, .slice none 0 0, .int .i64 0, .slice none 0 0, .slice eA en ec], .bool y]) ∧ Below w.heap.size w w'
 go_enter Tryz.func130, Tryz.ntmps130
 go_upto_region 2 with fail
 refine wp_world (fun W hW => ?_)
 have HBM : Hid (Blk W w.heap.size 49 [.int .i64 7, .int .i64 fr, .int .i64 tt, .int .i64 di, .int .i64 b.au, .int .i64 b.n, .slice bA bn bc, .int .i64 hd.au, .int .i64 hd.ro, .slice xA xn xc, .slice yA yn yc, .int .i64 cc.h.au, .int .i64 cc.h.ro, .slice cA cn cd, .slice dA dn dc, .int .i64 cc.di, .slice sA sn sc, .slice eA en ec]) := ħ (by rw [hW]; exact (Blk.new w 49 [.int .i64 7, .int .i64 fr, .int .i64 tt, .int .i64 di, .int .i64 b.au, .int .i64 b.n, .slice bA bn bc, .int .i64 hd.au, .int .i64 hd.ro, .slice xA xn xc, .slice yA yn yc, .int .i64 cc.h.au, .int .i64 cc.h.ro, .slice cA cn cd, .slice dA dn dc, .int .i64 cc.di, .slice sA sn sc, .slice eA en ec]).up (bel_alloc (Below.refl _ _)))
 have HBX : Hid (Blk W (w.heap.size + 1) 49 [.int .i64 7, .int .i64 fr, .int .i64 tt, .int .i64 0, .int .i64 0, .int .i64 0, .slice none 0 0, .int .i64 0, .int .i64 0, .slice none 0 0, .slice none 0 0, .int .i64 0, .int .i64 0, .slice none 0 0, .slice none 0 0, .int .i64 0, .slice none 0 0, .slice none 0 0]) := ħ (by rw [hW]; exact Blk.new1 w 49 49 [.int .i64 7, .int .i64 fr, .int .i64 tt, .int .i64 di, .int .i64 b.au, .int .i64 b.n, .slice bA bn bc, .int .i64 hd.au, .int .i64 hd.ro, .slice xA xn xc, .slice yA yn yc, .int .i64 cc.h.au, .int .i64 cc.h.ro, .slice cA cn cd, .slice dA dn dc, .int .i64 cc.di, .slice sA sn sc, .slice eA en ec] [.int .i64 7, .int .i64 fr, .int .i64 tt, .int .i64 0, .int .i64 0, .int .i64 0, .slice none 0 0, .int .i64 0, .int .i64 0, .slice none 0 0, .slice none 0 0, .int .i64 0, .int .i64 0, .slice none 0 0, .slice none 0 0, .int .i64 0, .slice none 0 0, .slice none 0 0])
 have hb0 : Below w.heap.size w W := by rw [hW]; exact bel_alloc (bel_alloc (Below.refl _ _))
 clear hW
 have hsz : w.heap.size + 1 < W.heap.size := HBX.out.lt
 have m0 := HBM.out.box.2 0 _ rfl
 have m17 := HBM.out.box.2 17 _ rfl
 have x17 := HBX.out.box.2 17 _ rfl
 have f17 : W.frozen? ⟨w.heap.size + 1, 17, none⟩ = false := HBX.out.frozen 17
 go_upto_region 20 with fail
 refine wp_world (fun V hV => ?_)
 have HVM : Hid (Blk V w.heap.size 49 [.int .i64 7, .int .i64 fr, .int .i64 tt, .int .i64 di, .int .i64 b.au, .int .i64 b.n, .slice bA bn bc, .int .i64 hd.au, .int .i64 hd.ro, .slice xA xn xc, .slice yA yn yc, .int .i64 cc.h.au, .int .i64 cc.h.ro, .slice cA cn cd, .slice dA dn dc, .int .i64 cc.di, .slice sA sn sc, .slice eA en ec]) := ħ (by rw [hV]; exact HBM.out.far (by simp) _)
 have HVX : Hid (Blk V (w.heap.size + 1) 49 [.int .i64 7, .int .i64 fr, .int .i64 tt, .int .i64 0, .int .i64 0, .int .i64 0, .slice none 0 0, .int .i64 0, .int .i64 0, .slice none 0 0, .slice none 0 0, .int .i64 0, .int .i64 0, .slice none 0 0, .slice none 0 0, .int .i64 0, .slice none 0 0, .slice eA en ec]) := ħ (by rw [hV]; exact HBX.out.set_ 17 _)
 have hb2 : Below w.heap.size w V := by rw [hV]; exact hb0.setCell (p := ⟨w.heap.size + 1, 17, none⟩) (by simp) _
 clear hV m0 m17 x17 f17 HBM HBX hsz hb0
 have m17 := HVM.out.box.2 17 _ rfl
 by_cases h1 : 1 ≤ en
 ·by_cases h2 : en ≤ 16
  ·have hy2 : y = yc2 := by have e := HY.out; rw [e]; simp [h1, h2]
   subst hy2
   have d1 : decide ((1 : Int) ≤ (en : Int)) = true := by simp; omega
   have d2 : decide ((en : Int) ≤ 16) = true := by simp; omega
   clear HY
   go_upto_region 21 with (go_at_call 152; (with_reducible refine (comm_DigestsY eA en ec ds y _ (HD.out.up hb2) HC.out).mono ?_); rintro e w' ⟨rfl, rfl⟩)
   rename_i K hK
   exact only_tail (w.heap.size + 1) (.int .i64 7) (.int .i64 fr) (.int .i64 tt) (.int .i64 0) (.int .i64 0) (.int .i64 0) (.slice none 0 0) (.int .i64 0) (.int .i64 0) (.slice none 0 0) (.slice none 0 0) (.int .i64 0) (.int .i64 0) (.slice none 0 0) (.slice none 0 0) (.int .i64 0) (.slice none 0 0) (.slice eA en ec) y w V (by intro u hu; simp only [List.mem_cons, List.not_mem_nil, or_false] at hu; rcases hu with rfl | rfl | rfl | rfl | rfl | rfl | rfl | rfl | rfl | rfl | rfl | rfl | rfl | rfl | rfl | rfl | rfl | rfl <;> rfl) hK (by omega) hb2 HVX.out
  ·have hy2 : y = false := by have e := HY.out; rw [e]; simp [h2]
   subst hy2
   have d1 : decide ((1 : Int) ≤ (en : Int)) = true := by simp; omega
   have d2 : decide ((en : Int) ≤ 16) = false := by simp; omega
   clear HY
   go_upto_region 21 with fail
   rename_i K hK
   exact only_tail (w.heap.size + 1) (.int .i64 7) (.int .i64 fr) (.int .i64 tt) (.int .i64 0) (.int .i64 0) (.int .i64 0) (.slice none 0 0) (.int .i64 0) (.int .i64 0) (.slice none 0 0) (.slice none 0 0) (.int .i64 0) (.int .i64 0) (.slice none 0 0) (.slice none 0 0) (.int .i64 0) (.slice none 0 0) (.slice eA en ec) false w V (by intro u hu; simp only [List.mem_cons, List.not_mem_nil, or_false] at hu; rcases hu with rfl | rfl | rfl | rfl | rfl | rfl | rfl | rfl | rfl | rfl | rfl | rfl | rfl | rfl | rfl | rfl | rfl | rfl <;> rfl) hK (by omega) hb2 HVX.out
 ·have hy2 : y = false := by have e := HY.out; rw [e]; simp [h1]
  subst hy2
  have d1 : decide ((1 : Int) ≤ (en : Int)) = false := by simp; omega
  clear HY
  go_upto_region 21 with fail
  rename_i K hK
  exact only_tail (w.heap.size + 1) (.int .i64 7) (.int .i64 fr) (.int .i64 tt) (.int .i64 0) (.int .i64 0) (.int .i64 0) (.slice none 0 0) (.int .i64 0) (.int .i64 0) (.slice none 0 0) (.slice none 0 0) (.int .i64 0) (.int .i64 0) (.slice none 0 0) (.slice none 0 0) (.int .i64 0) (.slice none 0 0) (.slice eA en ec) false w V (by intro u hu; simp only [List.mem_cons, List.not_mem_nil, or_false] at hu; rcases hu with rfl | rfl | rfl | rfl | rfl | rfl | rfl | rfl | rfl | rfl | rfl | rfl | rfl | rfl | rfl | rfl | rfl | rfl <;> rfl) hK (by omega) hb2 HVX.out

open Go.RowKit

noncomputable def msgEnd : Code := cAfter 5 (Tryz.f90.body.getD .skip)
set_option maxHeartbeats 8000000 in
theorem msg_tail {K : Act → World → Prop} (g N : Nat) (P Q : MsgP) (M X : MsgD) (yo y : Bool) (w V : World) {u0 u1 u3 u4 u7 u8 u9 u10 u11 u12 u13 u14 u15 u16 u17 u18 u19 u20 u21 u22 u23 u24 u25 u26 u27 u28 u29 u30 u31 u32 u33 u34 u35 u36 u37 u38 u39 u40 u41 u42 u43 u44 u45 u46 u47 u48 u49 u50 u51 u52 u53 u54 u55 u56 u57 u58 u59 u60 u61 u62 u63 u64 u65 u66 u67 u68 u69 u70 u71 u72 u73 u74 u75 u76 u77 u78 u79 u80 u81 u82 u83 u84 u85 u86 u87 u88 u89 u90 u91 u92 u93 u94 u95 u96 u97 u98 u99 u100 u101 u102 u103 u104 u105 u106 u107 u108 u109 u110 u111 u112 u113 u114 u115 u116 u117 u118 u119 u120 u121 u122 u123 u124 u125 u126 u127 u128 u129 u130 u131 u132 u133 u134 u135 : Value}
  (hK : ∀ a' w', Code.wp Tryz.prog (cSnd msgEnd) (bodyPost Tryz.prog Tryz.f90 (fun e w' => e = .returned (.bool y) ∧ Below w.heap.size w w')) a' w' → K a' w') (hb2 : Below w.heap.size w V) (hM : Blk V g 49 (msgCells P M)) (hX : Blk V N 49 (msgCells Q X)) (hp : MsgR w P M) (hq : MsgR w Q X) (hx : X.b.tx = M.b.tx ∨ X.b.tx = []) (hy : y = true ↔ yo = true ∧ X = M) :
  Code.wp Tryz.prog (cFst msgEnd) (Exit.then K (bodyPost Tryz.prog Tryz.f90 (fun e w' => e = .returned (.bool y) ∧ Below w.heap.size w w'))) { tmps := #[u0, u1, .pointer (some ⟨g, 0, none⟩), u3, u4, .pointer (some ⟨N, 0, none⟩), .bool yo, u7, u8, u9, u10, u11, u12, u13, u14, u15, u16, u17, u18, u19, u20, u21, u22, u23, u24, u25, u26, u27, u28, u29, u30, u31, u32, u33, u34, u35, u36, u37, u38, u39, u40, u41, u42, u43, u44, u45, u46, u47, u48, u49, u50, u51, u52, u53, u54, u55, u56, u57, u58, u59, u60, u61, u62, u63, u64, u65, u66, u67, u68, u69, u70, u71, u72, u73, u74, u75, u76, u77, u78, u79, u80, u81, u82, u83, u84, u85, u86, u87, u88, u89, u90, u91, u92, u93, u94, u95, u96, u97, u98, u99, u100, u101, u102, u103, u104, u105, u106, u107, u108, u109, u110, u111, u112, u113, u114, u115, u116, u117, u118, u119, u120, u121, u122, u123, u124, u125, u126, u127, u128, u129, u130, u131, u132, u133, u134, u135], defers := [] } V := by
 obtain ⟨⟨bA, bn, bc⟩, ⟨⟨xA, xn, xc⟩, ⟨yA, yn, yc⟩⟩, ⟨⟨⟨cA, cn, cd⟩, ⟨dA, dn, dc⟩⟩, ⟨sA, sn, sc⟩⟩, ⟨eA, en, ec⟩⟩ := P
 obtain ⟨⟨bA', bn', bc'⟩, ⟨⟨xA', xn', xc'⟩, ⟨yA', yn', yc'⟩⟩, ⟨⟨⟨cA', cn', cd'⟩, ⟨dA', dn', dc'⟩⟩, ⟨sA', sn', sc'⟩⟩, ⟨eA', en', ec'⟩⟩ := Q
 obtain ⟨ki, fr, tt, di, b, hd, cc, ds⟩ := M
 obtain ⟨ki', fr', tt', di', b', hd', cc', ds'⟩ := X
 have HVM : Hid (Blk V g 49 [.int .i64 ki, .int .i64 fr, .int .i64 tt, .int .i64 di, .int .i64 b.au, .int .i64 b.n, .slice bA bn bc, .int .i64 hd.au, .int .i64 hd.ro, .slice xA xn xc, .slice yA yn yc, .int .i64 cc.h.au, .int .i64 cc.h.ro, .slice cA cn cd, .slice dA dn dc, .int .i64 cc.di, .slice sA sn sc, .slice eA en ec]) := ħ hM
 have HVX : Hid (Blk V N 49 [.int .i64 ki', .int .i64 fr', .int .i64 tt', .int .i64 di', .int .i64 b'.au, .int .i64 b'.n, .slice bA' bn' bc', .int .i64 hd'.au, .int .i64 hd'.ro, .slice xA' xn' xc', .slice yA' yn' yc', .int .i64 cc'.h.au, .int .i64 cc'.h.ro, .slice cA' cn' cd', .slice dA' dn' dc', .int .i64 cc'.di, .slice sA' sn' sc', .slice eA' en' ec']) := ħ hX
 have HM := ħ (hp.up hb2)
 have HX := ħ (hq.up hb2)
 have HXX := ħ hx
 have HK := ħ hK
 have HB := ħ hb2
 have HY := ħ hy
 clear hX hK hM hp hq hx hb2 hy
 dsimp only [msgEnd, cAfter, cSnd, cFst, Tryz.f90, Option.getD]
 cases yo
 ·obtain rfl : y = false := by have := HY.out; simpa using this
  clear HY HXX HM HX HVM HVX
  go_wp2_with fail
  show K _ _
  apply HK.out
  clear HK
  dsimp only [msgEnd, cAfter, cSnd, cFst, Tryz.f90, Option.getD]
  go_wp2_with fail
  go_ret
  exact ⟨rfl, HB.out⟩
 ·have hE : dec ((⟨ki', fr', tt', di', b', hd', cc', ds'⟩ : MsgD) = ⟨ki, fr, tt, di, b, hd, cc, ds⟩) = y := by rw [Bool.eq_iff_iff, dec_iff, HY.out]; simp
  have HE := ħ hE
  clear HY hE
  refine wp_region_list ?_
  simp only [List.toList_toArray]
  iterate 2 ((refine wpList_plain rfl (fun K hK => ?_)); go_simp; refine hK _ _ ?_; clear hK K; (try simp only [lz]))
  refine wpList_load_midG (by kernel_rfl) 49 _ rfl N 0 (by simp [Act.eval, Act.put]) [.int .i64 ki', .int .i64 fr', .int .i64 tt', .int .i64 di', .int .i64 b'.au, .int .i64 b'.n, .slice bA' bn' bc', .int .i64 hd'.au, .int .i64 hd'.ro, .slice xA' xn' xc', .slice yA' yn' yc', .int .i64 cc'.h.au, .int .i64 cc'.h.ro, .slice cA' cn' cd', .slice dA' dn' dc', .int .i64 cc'.di, .slice sA' sn' sc', .slice eA' en' ec'] _ HVX.out.rng Tryz.underlying49 (by rfl) (by kernel_rfl) ?_
  (try simp only [lz])
  refine wpList_load_midG (by kernel_rfl) 49 _ rfl g 0 (by simp [Act.eval, Act.put]) [.int .i64 ki, .int .i64 fr, .int .i64 tt, .int .i64 di, .int .i64 b.au, .int .i64 b.n, .slice bA bn bc, .int .i64 hd.au, .int .i64 hd.ro, .slice xA xn xc, .slice yA yn yc, .int .i64 cc.h.au, .int .i64 cc.h.ro, .slice cA cn cd, .slice dA dn dc, .int .i64 cc.di, .slice sA sn sc, .slice eA en ec] _ HVM.out.rng Tryz.underlying49 (by rfl) (by kernel_rfl) ?_
  (try simp only [lz, List.toList_toArray])
  go_wp2_with fail
  refine (ref0_EqMessageX ⟨⟨bA', bn', bc'⟩, ⟨⟨xA', xn', xc'⟩, ⟨yA', yn', yc'⟩⟩, ⟨⟨⟨cA', cn', cd'⟩, ⟨dA', dn', dc'⟩⟩, ⟨sA', sn', sc'⟩⟩, ⟨eA', en', ec'⟩⟩ ⟨⟨bA, bn, bc⟩, ⟨⟨xA, xn, xc⟩, ⟨yA, yn, yc⟩⟩, ⟨⟨⟨cA, cn, cd⟩, ⟨dA, dn, dc⟩⟩, ⟨sA, sn, sc⟩⟩, ⟨eA, en, ec⟩⟩ ⟨ki', fr', tt', di', b', hd', cc', ds'⟩ ⟨ki, fr, tt, di, b, hd, cc, ds⟩ _ HX.out HM.out HXX.out).mono ?_
  rintro e w9 ⟨rfl, hb9⟩
  rw [HE.out]
  have hb9' := bel_trans HB.out hb9
  go_wp2_with fail
  show K _ _
  apply HK.out
  clear HK
  dsimp only [msgEnd, cAfter, cSnd, cFst, Tryz.f90, Option.getD]
  go_wp2_with fail
  go_ret
  exact ⟨rfl, hb9'⟩

open Go.RowKit

set_option maxHeartbeats 4000000 in
theorem ref4_digests (A : Option Addr) (n c : Nat) (l : List Int) (m : Int) (y : Bool) (w : World) (hl : IntsR w A n l) (hy : y = true ↔ (n : Int) ≤ m ∧ crisS l 1 65536 = true) : Calls Tryz.prog 129 #[.slice A n c, .int .i64 m] w fun e w' => e = .returned (.bool y) ∧ Below w.heap.size w w' := by
 rw [cris_bet] at hy
 obtain ⟨yr, hr⟩ : ∃ z, risS l = z := ⟨_, rfl⟩
 obtain ⟨yb, hb⟩ : ∃ z, betS l 1 65536 = z := ⟨_, rfl⟩
 rw [hr, hb] at hy
 have HR := ħ hr
 have HB := ħ hb
 have HY := ħ hy
 have HL := ħ hl
 clear hr hb hy hl
 by_cases h1 : (n : Int) ≤ m
 rotate_left
 ·obtain rfl : y = false := by cases y; rfl; exact absurd (HY.out.1 rfl).1 h1
  have d1 : decide ((n : Int) ≤ m) = false := decide_eq_false h1
  clear HY
  go_enter Tryz.func129, Tryz.ntmps129
  go_wp2_with fail
  go_ret
  exact ⟨rfl, belB⟩
 have d1 : decide ((n : Int) ≤ m) = true := decide_eq_true h1
 cases yb
 ·obtain rfl : y = false := by cases y; rfl; exact absurd (HY.out.1 rfl).2.2 (by simp)
  clear HY
  go_enter Tryz.func129, Tryz.ntmps129
  go_wp2_with (go_at_call 34; (with_reducible refine (refd_Digests A n c l false _ HL.out HB.out).mono ?_); rintro e w' ⟨rfl, rfl⟩)
  go_ret
  exact ⟨rfl, belB⟩
 obtain rfl : y = yr := by rw [Bool.eq_iff_iff, HY.out]; simp [h1]
 clear HY
 go_enter Tryz.func129, Tryz.ntmps129
 go_wp2_with (first | (go_at_call 34; (with_reducible refine (refd_Digests A n c l true _ HL.out HB.out).mono ?_); rintro e w' ⟨rfl, rfl⟩) | (go_at_call 37; (with_reducible refine (refr_Rising A n c l y _ HL.out HR.out).mono ?_); rintro e w7 ⟨rfl, hb7⟩))
 go_ret
 exact ⟨rfl, hb7⟩
set_option maxHeartbeats 8000000 in
theorem ref4_Message7 (P : MsgP) (M : MsgD) (n : Int) (y : Bool) (w : World) (hp : MsgR w P M) (hk : M.ki = 7) (hh : hdM M n) (hy : y = true ↔ dec (1 ≤ M.ds.length ∧ M.ds.length ≤ 16 ∧ crisS M.ds 1 65536 = true) = true ∧ (⟨M.ki, M.fr, M.tt, 0, bat0, hea0, cer0, M.ds⟩ : MsgD) = M) :
  Calls Tryz.prog 90 #[M18 P M, .int .i64 n] w fun e w' => e = .returned (.bool y) ∧ Below w.heap.size w w' := by
 obtain ⟨⟨bA, bn, bc⟩, ⟨⟨xA, xn, xc⟩, ⟨yA, yn, yc⟩⟩, ⟨⟨⟨cA, cn, cd⟩, ⟨dA, dn, dc⟩⟩, ⟨sA, sn, sc⟩⟩, ⟨eA, en, ec⟩⟩ := P
 obtain ⟨ki, fr, tt, di, b, hd, cc, ds⟩ := M
 dsimp only at hk
 subst hk
 have HM := ħ hp
 obtain ⟨q0, q1, q2, q3, q4, q5⟩ := hh
 dsimp only at q1 q2 q3 q4 q5
 have HS := ħ q0
 have b0 : decide (fr < 1) = false := by simp; omega
 have b1 : decide (n < fr) = false := by simp; omega
 have b2 : decide (tt < 1) = false := by simp; omega
 have b3 : decide (n < tt) = false := by simp; omega
 have HY := ħ hy
 clear hy q0 q1 q2 q3 q4
 have HD : Hid (IntsR w eA en ds) := ħ hp.ds
 have HQ : Hid (MsgR w ⟨⟨none, 0, 0⟩, ⟨⟨none, 0, 0⟩, ⟨none, 0, 0⟩⟩, ⟨⟨⟨none, 0, 0⟩, ⟨none, 0, 0⟩⟩, ⟨none, 0, 0⟩⟩, ⟨eA, en, ec⟩⟩ ⟨7, fr, tt, 0, bat0, hea0, cer0, ds⟩) := ħ ⟨TxsR.nil _ _, HeaderR.nil _, CertR.nil _, hp.ds⟩
 have hen : ds.length = en := hp.ds.1
 obtain ⟨yo, hyo⟩ : ∃ z, dec (1 ≤ ds.length ∧ ds.length ≤ 16 ∧ crisS ds 1 65536 = true) = z := ⟨_, rfl⟩
 have HYO : Hid (yo = true ↔ 1 ≤ en ∧ ((en : Int) ≤ 16 ∧ crisS ds 1 65536 = true)) := ħ (by rw [← hyo, dec_iff, hen]; constructor; (rintro ⟨g1, g2, g3⟩; exact ⟨g1, by omega, g3⟩); (rintro ⟨g1, g2, g3⟩; exact ⟨g1, by omega, g3⟩))
 have HY' : Hid (y = true ↔ yo = true ∧ (⟨7, fr, tt, 0, bat0, hea0, cer0, ds⟩ : MsgD) = ⟨7, fr, tt, di, b, hd, cc, ds⟩) := ħ (by rw [← hyo]; exact HY.out)
 clear hp hen hyo HY
 show Calls Tryz.prog 90 #[.agg #[.int .i64 7, .int .i64 fr, .int .i64 tt, .int .i64 di, .int .i64 b.au, .int .i64 b.n, .slice bA bn bc, .int .i64 hd.au, .int .i64 hd.ro, .slice xA xn xc, .slice yA yn yc, .int .i64 cc.h.au, .int .i64 cc.h.ro, .slice cA cn cd, .slice dA dn dc, .int .i64 cc.di, .slice sA sn sc, .slice eA en ec], .int .i64 n] w fun e w' => e = .returned (.bool y) ∧ Below w.heap.size w w'
 go_enter Tryz.func90, Tryz.ntmps90
 go_upto_region 2 with fail
 refine wp_world (fun W hW => ?_)
 have HBM : Hid (Blk W w.heap.size 49 [.int .i64 7, .int .i64 fr, .int .i64 tt, .int .i64 di, .int .i64 b.au, .int .i64 b.n, .slice bA bn bc, .int .i64 hd.au, .int .i64 hd.ro, .slice xA xn xc, .slice yA yn yc, .int .i64 cc.h.au, .int .i64 cc.h.ro, .slice cA cn cd, .slice dA dn dc, .int .i64 cc.di, .slice sA sn sc, .slice eA en ec]) := ħ (by rw [hW]; exact (Blk.new w 49 [.int .i64 7, .int .i64 fr, .int .i64 tt, .int .i64 di, .int .i64 b.au, .int .i64 b.n, .slice bA bn bc, .int .i64 hd.au, .int .i64 hd.ro, .slice xA xn xc, .slice yA yn yc, .int .i64 cc.h.au, .int .i64 cc.h.ro, .slice cA cn cd, .slice dA dn dc, .int .i64 cc.di, .slice sA sn sc, .slice eA en ec]).up (bel_alloc (Below.refl _ _)))
 have HBX : Hid (Blk W (w.heap.size + 1) 49 [.int .i64 7, .int .i64 fr, .int .i64 tt, .int .i64 0, .int .i64 0, .int .i64 0, .slice none 0 0, .int .i64 0, .int .i64 0, .slice none 0 0, .slice none 0 0, .int .i64 0, .int .i64 0, .slice none 0 0, .slice none 0 0, .int .i64 0, .slice none 0 0, .slice none 0 0]) := ħ (by rw [hW]; exact Blk.new1 w 49 49 [.int .i64 7, .int .i64 fr, .int .i64 tt, .int .i64 di, .int .i64 b.au, .int .i64 b.n, .slice bA bn bc, .int .i64 hd.au, .int .i64 hd.ro, .slice xA xn xc, .slice yA yn yc, .int .i64 cc.h.au, .int .i64 cc.h.ro, .slice cA cn cd, .slice dA dn dc, .int .i64 cc.di, .slice sA sn sc, .slice eA en ec] [.int .i64 7, .int .i64 fr, .int .i64 tt, .int .i64 0, .int .i64 0, .int .i64 0, .slice none 0 0, .int .i64 0, .int .i64 0, .slice none 0 0, .slice none 0 0, .int .i64 0, .int .i64 0, .slice none 0 0, .slice none 0 0, .int .i64 0, .slice none 0 0, .slice none 0 0])
 have hb0 : Below w.heap.size w W := by rw [hW]; exact bel_alloc (bel_alloc (Below.refl _ _))
 clear hW
 have hsz : w.heap.size + 1 < W.heap.size := HBX.out.lt
 have m0 := HBM.out.box.2 0 _ rfl
 have m1 := HBM.out.box.2 1 _ rfl
 have m2 := HBM.out.box.2 2 _ rfl
 have m17 := HBM.out.box.2 17 _ rfl
 have x17 := HBX.out.box.2 17 _ rfl
 have f17 : W.frozen? ⟨w.heap.size + 1, 17, none⟩ = false := HBX.out.frozen 17
 go_upto_region 23 with (go_at_call 30; (with_reducible refine (refm_May n _ _ HS.out).mono ?_); rintro e w' ⟨rfl, rfl⟩)
 refine wp_world (fun V hV => ?_)
 have HVM : Hid (Blk V w.heap.size 49 [.int .i64 7, .int .i64 fr, .int .i64 tt, .int .i64 di, .int .i64 b.au, .int .i64 b.n, .slice bA bn bc, .int .i64 hd.au, .int .i64 hd.ro, .slice xA xn xc, .slice yA yn yc, .int .i64 cc.h.au, .int .i64 cc.h.ro, .slice cA cn cd, .slice dA dn dc, .int .i64 cc.di, .slice sA sn sc, .slice eA en ec]) := ħ (by rw [hV]; exact HBM.out.far (by simp) _)
 have HVX : Hid (Blk V (w.heap.size + 1) 49 [.int .i64 7, .int .i64 fr, .int .i64 tt, .int .i64 0, .int .i64 0, .int .i64 0, .slice none 0 0, .int .i64 0, .int .i64 0, .slice none 0 0, .slice none 0 0, .int .i64 0, .int .i64 0, .slice none 0 0, .slice none 0 0, .int .i64 0, .slice none 0 0, .slice eA en ec]) := ħ (by rw [hV]; exact HBX.out.set_ 17 _)
 have hb2 : Below w.heap.size w V := by rw [hV]; exact hb0.setCell (p := ⟨w.heap.size + 1, 17, none⟩) (by simp) _
 clear hV m0 m1 m2 m17 x17 f17 HBM HBX hsz hb0
 have m17 := HVM.out.box.2 17 _ rfl
 by_cases h1 : 1 ≤ en
 ·have d1 : decide ((1 : Int) ≤ (en : Int)) = true := by simp; omega
  have hyo : yo = true ↔ (en : Int) ≤ 16 ∧ crisS ds 1 65536 = true := by rw [HYO.out]; simp [h1]
  have HYD := ħ hyo
  clear hyo
  go_upto_region 24 with (go_at_call 129; (with_reducible refine (ref4_digests eA en ec ds 16 yo _ (HD.out.up hb2) HYD.out).mono ?_); rintro e w7 ⟨rfl, hb7⟩)
  rename_i K hK
  exact msg_tail w.heap.size (w.heap.size + 1) ⟨⟨bA, bn, bc⟩, ⟨⟨xA, xn, xc⟩, ⟨yA, yn, yc⟩⟩, ⟨⟨⟨cA, cn, cd⟩, ⟨dA, dn, dc⟩⟩, ⟨sA, sn, sc⟩⟩, ⟨eA, en, ec⟩⟩ ⟨⟨none, 0, 0⟩, ⟨⟨none, 0, 0⟩, ⟨none, 0, 0⟩⟩, ⟨⟨⟨none, 0, 0⟩, ⟨none, 0, 0⟩⟩, ⟨none, 0, 0⟩⟩, ⟨eA, en, ec⟩⟩ ⟨7, fr, tt, di, b, hd, cc, ds⟩ ⟨7, fr, tt, 0, bat0, hea0, cer0, ds⟩ yo y w _ hK (bel_trans hb2 hb7) (HVM.out.up hb7) (HVX.out.up hb7) HM.out HQ.out (Or.inr rfl) HY'.out
 ·have d1 : decide ((1 : Int) ≤ (en : Int)) = false := by simp; omega
  obtain rfl : yo = false := by cases yo; rfl; exact absurd (HYO.out.1 rfl).1 h1
  go_upto_region 24 with fail
  rename_i K hK
  exact msg_tail w.heap.size (w.heap.size + 1) ⟨⟨bA, bn, bc⟩, ⟨⟨xA, xn, xc⟩, ⟨yA, yn, yc⟩⟩, ⟨⟨⟨cA, cn, cd⟩, ⟨dA, dn, dc⟩⟩, ⟨sA, sn, sc⟩⟩, ⟨eA, en, ec⟩⟩ ⟨⟨none, 0, 0⟩, ⟨⟨none, 0, 0⟩, ⟨none, 0, 0⟩⟩, ⟨⟨⟨none, 0, 0⟩, ⟨none, 0, 0⟩⟩, ⟨none, 0, 0⟩⟩, ⟨eA, en, ec⟩⟩ ⟨7, fr, tt, di, b, hd, cc, ds⟩ ⟨7, fr, tt, 0, bat0, hea0, cer0, ds⟩ false y w _ hK hb2 HVM.out HVX.out HM.out HQ.out (Or.inr rfl) HY'.out
open Go.RowKit

theorem message_May7' (P : MsgP) (M : MsgD) (n : Int) (y : Bool) (w : World) (h : MsgR w P M) (hk : M.ki = 7) (hh : hdM M n) (hy : msgB M n = y) :
  Calls Tryz.prog 94 #[M18 P M, .int .i64 n] w fun e w' => e = .returned (.bool y) ∧ Below w.heap.size w w' := by
 have h1 := msgB_of (yd := dec (1 ≤ M.ds.length ∧ M.ds.length ≤ 16 ∧ crisS M.ds 1 65536 = true)) (O := ⟨M.ki, M.fr, M.tt, 0, bat0, hea0, cer0, M.ds⟩) hh hy (by unfold okM; rw [if_neg (by simp [hk]), if_neg (by simp [hk]), dec_iff]) (by unfold onlyD; rw [if_neg (by simp [hk]), if_neg (by simp [hk])])
 have hR : MsgR w ⟨⟨none, 0, 0⟩, ⟨⟨none, 0, 0⟩, ⟨none, 0, 0⟩⟩, ⟨⟨⟨none, 0, 0⟩, ⟨none, 0, 0⟩⟩, ⟨none, 0, 0⟩⟩, P.ds⟩ (⟨M.ki, M.fr, M.tt, 0, bat0, hea0, cer0, M.ds⟩ : MsgD) := ⟨TxsR.nil _ _, HeaderR.nil _, CertR.nil _, h.ds⟩
 refine message_May_of P ⟨⟨none, 0, 0⟩, ⟨⟨none, 0, 0⟩, ⟨none, 0, 0⟩⟩, ⟨⟨⟨none, 0, 0⟩, ⟨none, 0, 0⟩⟩, ⟨none, 0, 0⟩⟩, P.ds⟩ M ⟨M.ki, M.fr, M.tt, 0, bat0, hea0, cer0, M.ds⟩ n (dec (1 ≤ M.ds.length ∧ M.ds.length ≤ 16 ∧ crisS M.ds 1 65536 = true)) y w hh (fun u hu => message_only7 P M n _ u hk (h.ds.up hu) rfl) ?_
 rw [mayC_iff h hR ⟨rfl, rfl, rfl⟩ (.inr rfl) rfl rfl rfl rfl rfl (.inl rfl)]
 exact h1
theorem ref4_Message7' (P : MsgP) (M : MsgD) (n : Int) (y : Bool) (w : World) (h : MsgR w P M) (hk : M.ki = 7) (hh : hdM M n) (hy : msgB M n = y) :
  Calls Tryz.prog 90 #[M18 P M, .int .i64 n] w fun e w' => e = .returned (.bool y) ∧ Below w.heap.size w w' :=
 ref4_Message7 P M n y w h hk hh (msgB_of (yd := dec (1 ≤ M.ds.length ∧ M.ds.length ≤ 16 ∧ crisS M.ds 1 65536 = true)) (O := ⟨M.ki, M.fr, M.tt, 0, bat0, hea0, cer0, M.ds⟩) hh hy (by unfold okM; rw [if_neg (by simp [hk]), if_neg (by simp [hk]), dec_iff]) (by unfold onlyD; rw [if_neg (by simp [hk]), if_neg (by simp [hk])]))
theorem takesK7 : TakesK 7 := ⟨by unfold takes4; omega, message_May7', ref4_Message7'⟩
open Go.RowKit

set_option maxHeartbeats 8000000 in
theorem ref13_tells (g B : Nat) (id : Int) (k1 k2 k3 k4 k5 k6 k7 k8 : Value) (uA : Option Addr) (un uc : Nat) (ps : List MsgP) (l : List MsgD) (P : MsgP) (M : MsgD) (w : World) (hg : Blk w g 70 [.int .i64 id, k1, k2, k3, k4, k5, k6, k7, k8, .slice uA un uc]) (hgB : g < B) (hB : B ≤ w.heap.size) (ho : OwnT dMsg w B (.slice uA un uc) ps l) (hl : l.length ≤ 800000000) (hm : OwnM w B P M) :
  Calls Tryz.prog 85 #[.pointer (some ⟨g, 0, none⟩), M18 P M] w fun e w' => ∃ X A n c, e = .returned (.tuple #[]) ∧ w' = X.setCell ⟨g, 9, none⟩ (.slice A n c) ∧ Below B w X ∧ KeepM w X ∧ OwnT dMsg X B (.slice A n c) (ps ++ [P]) (l ++ [sayM M id M.tt]) := by
 obtain ⟨⟨bA, bn, bc⟩, ⟨⟨xA, xn, xc⟩, ⟨yA, yn, yc⟩⟩, ⟨⟨⟨cA, cn, cc⟩, ⟨dA, dn, dc⟩⟩, ⟨sA, sn, sc⟩⟩, ⟨eA, en, ec⟩⟩ := P
 have HG := ħ hg
 have HO := ħ ho
 have HM := ħ hm
 have hfg := hg.frozen
 have hgl := hg.lt
 have a_0 := (hg.box).2 0 _ rfl; have a_1 := (hg.box).2 1 _ rfl; have a_2 := (hg.box).2 2 _ rfl; have a_3 := (hg.box).2 3 _ rfl; have a_4 := (hg.box).2 4 _ rfl; have a_5 := (hg.box).2 5 _ rfl; have a_6 := (hg.box).2 6 _ rfl; have a_7 := (hg.box).2 7 _ rfl; have a_8 := (hg.box).2 8 _ rfl; have a_9 := (hg.box).2 9 _ rfl
 clear hg ho hm
 show Calls Tryz.prog 85 #[.pointer (some ⟨g, 0, none⟩), .agg #[.int .i64 M.ki, .int .i64 M.fr, .int .i64 M.tt, .int .i64 M.di, .int .i64 M.b.au, .int .i64 M.b.n, .slice bA bn bc, .int .i64 M.h.au, .int .i64 M.h.ro, .slice xA xn xc, .slice yA yn yc, .int .i64 M.c.h.au, .int .i64 M.c.h.ro, .slice cA cn cc, .slice dA dn dc, .int .i64 M.c.di, .slice sA sn sc, .slice eA en ec]] w _
 go_enter Tryz.func85, Tryz.ntmps85
 go_upto_region 2 with fail
 have hX : Blk (w.alloc (.cells #[.int .i64 M.ki, .int .i64 id, .int .i64 M.tt, .int .i64 M.di, .int .i64 M.b.au, .int .i64 M.b.n, .slice bA bn bc, .int .i64 M.h.au, .int .i64 M.h.ro, .slice xA xn xc, .slice yA yn yc, .int .i64 M.c.h.au, .int .i64 M.c.h.ro, .slice cA cn cc, .slice dA dn dc, .int .i64 M.c.di, .slice sA sn sc, .slice eA en ec] 49)) w.heap.size 49 [.int .i64 M.ki, .int .i64 id, .int .i64 M.tt, .int .i64 M.di, .int .i64 M.b.au, .int .i64 M.b.n, .slice bA bn bc, .int .i64 M.h.au, .int .i64 M.h.ro, .slice xA xn xc, .slice yA yn yc, .int .i64 M.c.h.au, .int .i64 M.c.h.ro, .slice cA cn cc, .slice dA dn dc, .int .i64 M.c.di, .slice sA sn sc, .slice eA en ec] := Blk.new w 49 [.int .i64 M.ki, .int .i64 id, .int .i64 M.tt, .int .i64 M.di, .int .i64 M.b.au, .int .i64 M.b.n, .slice bA bn bc, .int .i64 M.h.au, .int .i64 M.h.ro, .slice xA xn xc, .slice yA yn yc, .int .i64 M.c.h.au, .int .i64 M.c.h.ro, .slice cA cn cc, .slice dA dn dc, .int .i64 M.c.di, .slice sA sn sc, .slice eA en ec]
 have hbX : Below w.heap.size w (w.alloc (.cells #[.int .i64 M.ki, .int .i64 id, .int .i64 M.tt, .int .i64 M.di, .int .i64 M.b.au, .int .i64 M.b.n, .slice bA bn bc, .int .i64 M.h.au, .int .i64 M.h.ro, .slice xA xn xc, .slice yA yn yc, .int .i64 M.c.h.au, .int .i64 M.c.h.ro, .slice cA cn cc, .slice dA dn dc, .int .i64 M.c.di, .slice sA sn sc, .slice eA en ec] 49)) := belB
 generalize hYe : (w.alloc (.cells #[.int .i64 M.ki, .int .i64 id, .int .i64 M.tt, .int .i64 M.di, .int .i64 M.b.au, .int .i64 M.b.n, .slice bA bn bc, .int .i64 M.h.au, .int .i64 M.h.ro, .slice xA xn xc, .slice yA yn yc, .int .i64 M.c.h.au, .int .i64 M.c.h.ro, .slice cA cn cc, .slice dA dn dc, .int .i64 M.c.di, .slice sA sn sc, .slice eA en ec] 49)) = Y at *
 clear hYe
 have hG := HG.out.up hbX
 have hfY := hG.frozen
 have hgY := hG.lt
 have hxY := hX.lt
 obtain ⟨N, hN⟩ : ∃ N, N = w.heap.size := ⟨_, rfl⟩
 rw [← hN] at hX hxY ⊢
 have hgN : g < N := by omega
 have hoN : ∀ q, (Value.slice uA un uc).ownBlock = some q → q < N := fun q hq => by rw [hN]; exact (own_lt HO.out.1 q hq).2
 clear a_0 a_1 a_2 a_3 a_4 a_5 a_6 a_7 a_8 a_9 hfg
 have HGY := ħ hG
 have HXY := ħ hX
 have HOY := ħ (HO.out.up hbX)
 have HMY := ħ (HM.out.up hbX)
 have HSZ : Hid (B ≤ Y.heap.size) := ħ (Nat.le_trans hB hbX.size)
 obtain ⟨S, hS⟩ : ∃ S : World → Prop, S = fun Z => Blk Z N 49 [.int .i64 M.ki, .int .i64 id, .int .i64 M.tt, .int .i64 M.di, .int .i64 M.b.au, .int .i64 M.b.n, .slice bA bn bc, .int .i64 M.h.au, .int .i64 M.h.ro, .slice xA xn xc, .slice yA yn yc, .int .i64 M.c.h.au, .int .i64 M.c.h.ro, .slice cA cn cc, .slice dA dn dc, .int .i64 M.c.di, .slice sA sn sc, .slice eA en ec] := ⟨_, rfl⟩
 have hS0 : S Y.drew := by rw [hS]; exact hX.up (bel_drew (Below.refl _ _))
 have hS1 : ∀ Z, S Z → Z.rangeAt N 0 [.int .i64 M.ki, .int .i64 id, .int .i64 M.tt, .int .i64 M.di, .int .i64 M.b.au, .int .i64 M.b.n, .slice bA bn bc, .int .i64 M.h.au, .int .i64 M.h.ro, .slice xA xn xc, .slice yA yn yc, .int .i64 M.c.h.au, .int .i64 M.c.h.ro, .slice cA cn cc, .slice dA dn dc, .int .i64 M.c.di, .slice sA sn sc, .slice eA en ec] := fun Z h => by rw [hS] at h; exact fun j u hu => by rw [Nat.zero_add]; exact h.box.2 j u hu
 have hS2 : ∀ Z, Below Y.heap.size Y Z → S Z := fun Z hZ => by rw [hS]; exact HXY.out.up hZ
 have hS3 : ∀ Z Z', Below Y.heap.size Y Z → Z.grownBy Z' (Value.slice uA un uc).ownBlock → S Z' := fun Z Z' hZ hg' => by rw [hS]; exact (HXY.out.up hZ).grown2 hg' (fun e => by have := hoN _ e; omega)
 have hS4 : ∀ Z o u, S Z → S (Z.setCell ⟨g, o, none⟩ u) := fun Z o u hZ => by rw [hS] at hZ ⊢; exact hZ.far (p := ⟨g, o, none⟩) (by show N ≠ g; omega) u
 have hc9 : ∀ Z, Below Y.heap.size Y Z → Z.cell? ⟨g, 9, none⟩ = some (.slice uA un uc) ∧ g < Z.heap.size := fun Z hZ => ⟨(HGY.out.up hZ).box.2 9 _ rfl, (HGY.out.up hZ).lt⟩
 clear hG hX hS
 refine wp_region_held_drew (S := S) (by kernel_rfl) hS0 (fun hHeld => ?_)
 have hbd : Below Y.heap.size Y Y.drew := bel_drew (Below.refl _ _)
 generalize Y.drew = Z at *
 (refine wpAnyH_tk 0 (some 10) (v := ?_) rfl rfl ?_ ?_; rotate_left; (focus (intro wq hSw; (try dsimp only at hSw); go_simp; all_goals (with_reducible rfl))); simp only [lz])
 (refine wpAnyH_tk 1 (some 11) (v := ?_) rfl rfl ?_ ?_; rotate_left; (focus (intro wq hSw; (try dsimp only at hSw); go_simp; all_goals (with_reducible rfl))); simp only [lz])
 (refine wpAnyH_tk 2 (some 12) (v := ?_) rfl rfl ?_ ?_; rotate_left; (focus (intro wq hSw; (try dsimp only at hSw); go_simp; all_goals (with_reducible rfl))); simp only [lz])
 (refine wpAnyH_tk 3 (some 13) (v := ?_) rfl rfl ?_ ?_; rotate_left; (focus (intro wq hSw; (try dsimp only at hSw); go_simp; all_goals (with_reducible rfl))); simp only [lz])
 refine wpAnyH_takeD (i := 5) (d := some 15) (v := .agg ([.int .i64 M.ki, .int .i64 id, .int .i64 M.tt, .int .i64 M.di, .int .i64 M.b.au, .int .i64 M.b.n, .slice bA bn bc, .int .i64 M.h.au, .int .i64 M.h.ro, .slice xA xn xc, .slice yA yn yc, .int .i64 M.c.h.au, .int .i64 M.c.h.ro, .slice cA cn cc, .slice dA dn dc, .int .i64 M.c.di, .slice sA sn sc, .slice eA en ec]).toArray) rfl rfl (by kernel_rfl) (by kernel_rfl) (by kernel_rfl) (fun _ _ _ h => h) (yieldsIf_load_mid (by rfl) 49 _ rfl N 0 (by simp [Act.eval, Act.put]) ([.int .i64 M.ki, .int .i64 id, .int .i64 M.tt, .int .i64 M.di, .int .i64 M.b.au, .int .i64 M.b.n, .slice bA bn bc, .int .i64 M.h.au, .int .i64 M.h.ro, .slice xA xn xc, .slice yA yn yc, .int .i64 M.c.h.au, .int .i64 M.c.h.ro, .slice cA cn cc, .slice dA dn dc, .int .i64 M.c.di, .slice sA sn sc, .slice eA en ec]) _ (hS1) Tryz.underlying49 (by rfl) (by kernel_rfl)) (by assumption) ?_
 simp only [lz]
 refine wpAnyH_ready (rs := [4, 6]) (by kernel_rfl) (by simp) ?_
 refine AllReadyH.cons (o := _) rfl (fun K hK => ?_) (AllReadyH.cons (o := _) rfl (fun K hK => ?_) AllReadyH.nil)
 ·skip
  obtain ⟨q9, qg⟩ := hc9 _ (hbd)
  go_simp
  refine hK.out _ _ (hS2 _ (hbd)) (fun hHeld => ?_)
  clear hK K q9 qg
  (try simp only [lz])
  refine rd1 6 rfl fun K hK => ?_
  go_simp
  refine hK.out _ _ (hS2 _ (bel_alloc hbd)) (fun hHeld => ?_)
  clear hK K
  (try simp only [lz])
  have HBX := ħ (BoxR.new Z [.int .i64 M.ki, .int .i64 id, .int .i64 M.tt, .int .i64 M.di, .int .i64 M.b.au, .int .i64 M.b.n, .slice bA bn bc, .int .i64 M.h.au, .int .i64 M.h.ro, .slice xA xn xc, .slice yA yn yc, .int .i64 M.c.h.au, .int .i64 M.c.h.ro, .slice cA cn cc, .slice dA dn dc, .int .i64 M.c.di, .slice sA sn sc, .slice eA en ec] 49)
  have hbZ : Below Y.heap.size Y (Z.alloc (.cells #[.int .i64 M.ki, .int .i64 id, .int .i64 M.tt, .int .i64 M.di, .int .i64 M.b.au, .int .i64 M.b.n, .slice bA bn bc, .int .i64 M.h.au, .int .i64 M.h.ro, .slice xA xn xc, .slice yA yn yc, .int .i64 M.c.h.au, .int .i64 M.c.h.ro, .slice cA cn cc, .slice dA dn dc, .int .i64 M.c.di, .slice sA sn sc, .slice eA en ec] 49)) := bel_alloc hbd
  refine rd1 7 rfl fun K hK => ?_
  refine step_appM rfl (.tmp 14) (.tmp 16) rfl rfl B (.slice uA un uc) ps l (by simp [Act.eval, Act.put]) (HOY.out.up hbZ) Z.heap.size (sayM M id M.tt) ⟨⟨bA, bn, bc⟩, ⟨⟨xA, xn, xc⟩, ⟨yA, yn, yc⟩⟩, ⟨⟨⟨cA, cn, cc⟩, ⟨dA, dn, dc⟩⟩, ⟨sA, sn, sc⟩⟩, ⟨eA, en, ec⟩⟩ (by simp [Act.eval, Act.put]) HBX.out ((HMY.out.up hbZ).say) hl (Nat.le_trans HSZ.out hbZ.size) ?_
  intro v5 w5 hown5 hg5 hb5
  refine hK.out _ _ (hS3 _ _ hbZ hg5) (fun hHeld => ?_)
  clear hK K
  (try simp only [lz])
  obtain ⟨A5, c5, e5, _⟩ := hown5.read
  obtain ⟨n5, hn5⟩ : ∃ x, (l ++ [sayM M id M.tt]).length = x := ⟨_, rfl⟩
  rw [hn5] at e5
  clear hn5
  subst e5
  have hk5 : KeepM Y w5 := (KeepM.of_below hbZ).trans (KeepM.of_grown (HOY.out.up hbZ).1 hg5)
  have hG5 := hk5 _ _ _ (by decide) HGY.out
  have hs5 := hS3 _ _ hbZ hg5
  (refine wpAnyH_tk 8 (some 18) (v := ?_) rfl rfl ?_ ?_; rotate_left; (focus (intro wq hSw; (try dsimp only at hSw); go_simp; all_goals (with_reducible rfl))); simp only [lz])
  (refine wpAnyH_tk 9 (some 19) (v := ?_) rfl rfl ?_ ?_; rotate_left; (focus (intro wq hSw; (try dsimp only at hSw); go_simp; all_goals (with_reducible rfl))); simp only [lz])
  refine rd1 10 rfl fun K hK => ?_
  have hf5 := hG5.frozen
  have hl5 := hG5.lt
  have q9 := hG5.box.2 9 _ rfl
  go_simp
  refine hK.out _ _ (hS4 _ _ _ hs5) (fun hHeld => ?_)
  clear hK K
  (try simp only [lz])
  refine wpAnyH_done (by kernel_rfl) ?_ _
  go_end0
  exact ⟨w5, A5, n5, c5, rfl, rfl, Below.trans (hbX.mono hB) (Below.trans (hbZ.mono HSZ.out) hb5), (KeepM.of_below hbX).trans hk5, hown5⟩
 ·skip
  go_simp
  refine hK.out _ _ (hS2 _ (bel_alloc hbd)) (fun hHeld => ?_)
  clear hK K
  (try simp only [lz])
  refine rd1 4 rfl fun K hK => ?_
  obtain ⟨q9, qg⟩ := hc9 (Z.alloc (.cells #[.int .i64 M.ki, .int .i64 id, .int .i64 M.tt, .int .i64 M.di, .int .i64 M.b.au, .int .i64 M.b.n, .slice bA bn bc, .int .i64 M.h.au, .int .i64 M.h.ro, .slice xA xn xc, .slice yA yn yc, .int .i64 M.c.h.au, .int .i64 M.c.h.ro, .slice cA cn cc, .slice dA dn dc, .int .i64 M.c.di, .slice sA sn sc, .slice eA en ec] 49)) (bel_alloc hbd)
  go_simp
  refine hK.out _ _ (hS2 (Z.alloc (.cells #[.int .i64 M.ki, .int .i64 id, .int .i64 M.tt, .int .i64 M.di, .int .i64 M.b.au, .int .i64 M.b.n, .slice bA bn bc, .int .i64 M.h.au, .int .i64 M.h.ro, .slice xA xn xc, .slice yA yn yc, .int .i64 M.c.h.au, .int .i64 M.c.h.ro, .slice cA cn cc, .slice dA dn dc, .int .i64 M.c.di, .slice sA sn sc, .slice eA en ec] 49)) (bel_alloc hbd)) (fun hHeld => ?_)
  clear hK K q9 qg
  (try simp only [lz])
  have HBX := ħ (BoxR.new Z [.int .i64 M.ki, .int .i64 id, .int .i64 M.tt, .int .i64 M.di, .int .i64 M.b.au, .int .i64 M.b.n, .slice bA bn bc, .int .i64 M.h.au, .int .i64 M.h.ro, .slice xA xn xc, .slice yA yn yc, .int .i64 M.c.h.au, .int .i64 M.c.h.ro, .slice cA cn cc, .slice dA dn dc, .int .i64 M.c.di, .slice sA sn sc, .slice eA en ec] 49)
  have hbZ : Below Y.heap.size Y (Z.alloc (.cells #[.int .i64 M.ki, .int .i64 id, .int .i64 M.tt, .int .i64 M.di, .int .i64 M.b.au, .int .i64 M.b.n, .slice bA bn bc, .int .i64 M.h.au, .int .i64 M.h.ro, .slice xA xn xc, .slice yA yn yc, .int .i64 M.c.h.au, .int .i64 M.c.h.ro, .slice cA cn cc, .slice dA dn dc, .int .i64 M.c.di, .slice sA sn sc, .slice eA en ec] 49)) := bel_alloc hbd
  refine rd1 7 rfl fun K hK => ?_
  refine step_appM rfl (.tmp 14) (.tmp 16) rfl rfl B (.slice uA un uc) ps l (by simp [Act.eval, Act.put]) (HOY.out.up hbZ) Z.heap.size (sayM M id M.tt) ⟨⟨bA, bn, bc⟩, ⟨⟨xA, xn, xc⟩, ⟨yA, yn, yc⟩⟩, ⟨⟨⟨cA, cn, cc⟩, ⟨dA, dn, dc⟩⟩, ⟨sA, sn, sc⟩⟩, ⟨eA, en, ec⟩⟩ (by simp [Act.eval, Act.put]) HBX.out ((HMY.out.up hbZ).say) hl (Nat.le_trans HSZ.out hbZ.size) ?_
  intro v5 w5 hown5 hg5 hb5
  refine hK.out _ _ (hS3 _ _ hbZ hg5) (fun hHeld => ?_)
  clear hK K
  (try simp only [lz])
  obtain ⟨A5, c5, e5, _⟩ := hown5.read
  obtain ⟨n5, hn5⟩ : ∃ x, (l ++ [sayM M id M.tt]).length = x := ⟨_, rfl⟩
  rw [hn5] at e5
  clear hn5
  subst e5
  have hk5 : KeepM Y w5 := (KeepM.of_below hbZ).trans (KeepM.of_grown (HOY.out.up hbZ).1 hg5)
  have hG5 := hk5 _ _ _ (by decide) HGY.out
  have hs5 := hS3 _ _ hbZ hg5
  (refine wpAnyH_tk 8 (some 18) (v := ?_) rfl rfl ?_ ?_; rotate_left; (focus (intro wq hSw; (try dsimp only at hSw); go_simp; all_goals (with_reducible rfl))); simp only [lz])
  (refine wpAnyH_tk 9 (some 19) (v := ?_) rfl rfl ?_ ?_; rotate_left; (focus (intro wq hSw; (try dsimp only at hSw); go_simp; all_goals (with_reducible rfl))); simp only [lz])
  refine rd1 10 rfl fun K hK => ?_
  have hf5 := hG5.frozen
  have hl5 := hG5.lt
  have q9 := hG5.box.2 9 _ rfl
  go_simp
  refine hK.out _ _ (hS4 _ _ _ hs5) (fun hHeld => ?_)
  clear hK K
  (try simp only [lz])
  refine wpAnyH_done (by kernel_rfl) ?_ _
  go_end0
  exact ⟨w5, A5, n5, c5, rfl, rfl, Below.trans (hbX.mono hB) (Below.trans (hbZ.mono HSZ.out) hb5), (KeepM.of_below hbX).trans hk5, hown5⟩
noncomputable def findI (l : List HeldD) (d : Int) : Int := if khasH l d = true then (kposH l d : Int) else -1
theorem kposH_eq {l : List HeldD} (hs : SortedH l) {key : Int} {j : Nat} (hj : j < l.length) (e : (hth l j).di = key) : kposH l key = j :=
 cnt_eq _ l j (by omega) (fun t ht => by have := hs t j ht hj; rw [e] at this; exact this) (fun _ => by show ltI (hth l j).di key = false; rw [e]; simp [ltI])
set_option maxHeartbeats 4000000 in
theorem ref13_find (g : Nat) (c0 c1 c2 c3 c4 c5 c6 c8 c9 : Value) (eA : Option Addr) (en ec : Nat) (l : List HeldD) (d : Int) (w : World) (hg : Blk w g 70 [c0, c1, c2, c3, c4, c5, c6, .slice eA en ec, c8, c9]) (hl : HeldsR w eA en l) (hs : SortedH l) :
  Calls Tryz.prog 83 #[.pointer (some ⟨g, 0, none⟩), .int .i64 d] w fun e w' => e = .returned (.int .i64 (findI l d)) ∧ w = w' := by
 have HS := ħ hs
 have HN : Hid (l.length = en) := ħ hl.1
 have hnn : en ≤ 9223372036854775807 := hl.2.1
 have HL := ħ hl
 have b7 := hg.box.2 7 _ rfl
 have lg := hg.lt
 clear hg hl hs
 go_enter Tryz.func83, Tryz.ntmps83
 go_wp2_with fail
 go_loop [5] (fun iv => ∃ k : Nat, k ≤ en ∧ iv = .int .i64 k ∧ Hid (∀ j, j < k → (hth l j).di ≠ d)) (fun iv => en - (intOf iv).toNat)
 case atStart => exact ⟨0, Nat.zero_le _, rfl, ħ (fun j hj => absurd hj (by omega))⟩
 case round =>
  obtain ⟨k, hk, rfl, HQ⟩ := hrel
  by_cases hlt : k < en
  ·obtain ⟨b, off, rfl, hb, hc⟩ := HL.out.2.2 (by omega)
   obtain ⟨Bq, mq, dq, ⟨f0, f1, f2, f3⟩, -⟩ := hc k hlt
   clear hc
   by_cases hq : (hth l k).di = d
   ·have HE : Hid (findI l d = k) := ħ (by
     have h1 : khasH l d = true := (khasH_iff HS.out).2 ⟨k, by rw [HN.out]; exact hlt, hq⟩
     unfold findI; rw [if_pos h1, kposH_eq HS.out (by rw [HN.out]; exact hlt) hq])
    have hd : ((hth l k).di == d) = true := by simpa using hq
    clear hq
    go_wp2_with fail
    go_ret
    exact ⟨by (rw [HE.out]; rfl), rfl⟩
   ·have hd : ((hth l k).di == d) = false := by simpa using hq
    have HE := ħ hq
    clear hq
    go_wp2_with fail
    (first | (go_round; (case rel => exact ⟨k + 1, by omega, by go_num, ħ (fun j hj => by (rcases Nat.lt_or_ge j k with h | h; exact HQ.out j h; (obtain rfl : j = k := by omega); exact HE.out))⟩); (case measure => (simp [intOf] <;> omega))) | (go_roundw; (case rel => exact ⟨k + 1, by omega, by go_num, ħ (fun j hj => by (rcases Nat.lt_or_ge j k with h | h; exact HQ.out j h; (obtain rfl : j = k := by omega); exact HE.out))⟩); (case measure => (simp [intOf] <;> omega))) | (refine ⟨?_, by simp [intOf] <;> omega⟩; (repeat apply Exists.intro); refine ⟨?rel, ?fr⟩; (case fr => ((repeat' apply And.intro) <;> rfl)); (case rel => exact ⟨k + 1, by omega, by go_num, ħ (fun j hj => by (rcases Nat.lt_or_ge j k with h | h; exact HQ.out j h; (obtain rfl : j = k := by omega); exact HE.out))⟩)))
  ·obtain rfl : k = en := by omega
   have HE : Hid (findI l d = -1) := ħ (by
    unfold findI
    rw [if_neg]
    intro h
    obtain ⟨j, hj, e⟩ := (khasH_iff HS.out).1 h
    exact HQ.out j (by rw [← HN.out]; exact hj) e)
   go_wp2_with fail
   go_ret
   exact ⟨by (rw [HE.out]; rfl), rfl⟩
open Go.RowKit

theorem findI_no {l : List HeldD} {d : Int} (h : khasH l d = false) : decide (findI l d ≥ 0) = false := by unfold findI; rw [if_neg (by rw [h]; simp)]; simp
open Go.RowKit

theorem But.blk7 {B g k : Nat} {w w' : World} {t : TypeId} {cs : List Value} (h : But B g w w') (hb : Blk w k t cs) (hk : k < B) (hne : k ≠ g) : Blk w' k t cs := hb.of_heap (h.block k hk hne)
def giveM (id fr d : Int) (b : BatchD) : MsgD := ⟨3, id, fr, d, b, ⟨0, 0, [], []⟩, ⟨⟨0, 0, [], []⟩, 0, []⟩, []⟩
/-- What is given for the first k that are asked for. -/
noncomputable def wantL (D : WorkD) (fr : Int) (ds : List Int) : Nat → List MsgD
 | 0 => []
 | k + 1 => wantL D fr ds k ++ if khasH D.he (nth ds k) = true then [giveM D.id fr (nth ds k) (hth D.he (kposH D.he (nth ds k))).b] else []
theorem wantL_succ (D : WorkD) (fr : Int) (ds : List Int) (k : Nat) : wantL D fr ds (k + 1) = wantL D fr ds k ++ if khasH D.he (nth ds k) = true then [giveM D.id fr (nth ds k) (hth D.he (kposH D.he (nth ds k))).b] else [] := rfl
theorem wantL_len (D : WorkD) (fr : Int) (ds : List Int) (k : Nat) : (wantL D fr ds k).length ≤ k := by
 induction k with
 | zero => simp [wantL]
 | succ k ih =>
  rw [wantL_succ, List.length_append]
  split <;> simp <;> omega
set_option maxHeartbeats 8000000 in
theorem worker_Got7 (P : WorkP) (D : WorkD) (Pm : MsgP) (M : MsgD) (B : Nat) (w : World) (hO : WorkO w B P D) (hs : BigD D) (hB : B ≤ w.heap.size) (hm : mayW D = true) (hp : IntsR w Pm.ds.A Pm.ds.n M.ds) (hzn : Pm.ds.n ≤ 800000000) (hk : M.ki = 7) :
  Calls Tryz.prog 96 #[P.val D, M18 Pm M] w fun e w' => ∃ P' A n c, e = .returned (.tuple #[P'.val D, .slice A n c]) ∧ WorkO w' B P' D ∧ OwnMs w' w.heap.size (.slice A n c) (wantL D M.fr M.ds M.ds.length) ∧ Below w.heap.size w w' := by
 obtain ⟨⟨oA, on, oc⟩, ⟨tA, tn, tc⟩, ⟨eA, en, ec⟩, ⟨rA, rn, rc⟩⟩ := P
 obtain ⟨⟨bA, bn, bc⟩, ⟨⟨xA, xn, xc⟩, ⟨yA, yn, yc⟩⟩, ⟨⟨⟨cA, cn, cd⟩, ⟨dA, dn, dc⟩⟩, ⟨sA, sn, sc⟩⟩, ⟨zA, zn, zc⟩⟩ := Pm
 obtain ⟨ki, fr, tt, di, b, hd, cc, ds⟩ := M
 dsimp only at hp hzn hk
 subst hk
 have HM := ħ (mayW_iff.1 hm)
 have HW := ħ (hO.work hs)
 have HO0 := ħ hO
 have HS := ħ hs
 have HDS := ħ hp
 obtain ⟨lo, hlo⟩ : ∃ lo, kposH D.he di = lo := ⟨_, rfl⟩
 obtain ⟨yh, hyh⟩ : ∃ y, khasH D.he di = y := ⟨_, rfl⟩
 have HLO := ħ hlo
 have HYH := ħ hyh
 have HEN : Hid (D.he.length = en) := ħ HW.out.he.1
 have hen : en ≤ 1024 := by rw [← HEN.out]; exact HM.out.2.2.2.2.2.2.2.1
 have HSO : Hid (SortedH D.he) := ħ (hdB_iff.1 HM.out.2.2.2.2.2.2.2.2.2.2.1).sorted
 have hdl : ds.length = zn := hp.1
 dsimp only
 rw [hdl]
 clear hO hs hm hp hlo hyh hdl
 show Calls Tryz.prog 96 #[.agg #[.int .i64 D.id, .int .i64 D.nodes, .int .i64 D.next, .slice oA on oc, .int .i64 D.age, .int .i64 D.clock, .slice tA tn tc, .slice eA en ec, .slice rA rn rc], .agg #[.int .i64 7, .int .i64 fr, .int .i64 tt, .int .i64 di, .int .i64 b.au, .int .i64 b.n, .slice bA bn bc, .int .i64 hd.au, .int .i64 hd.ro, .slice xA xn xc, .slice yA yn yc, .int .i64 cc.h.au, .int .i64 cc.h.ro, .slice cA cn cd, .slice dA dn dc, .int .i64 cc.di, .slice sA sn sc, .slice zA zn zc]] w _
 go_enter Tryz.func96, Tryz.ntmps96
 go_upto_region 2 with fail
 refine wp_world (fun W hW => ?_)
 have HBM : Hid (Blk W (w.heap.size + 1) 49 [.int .i64 7, .int .i64 fr, .int .i64 tt, .int .i64 di, .int .i64 b.au, .int .i64 b.n, .slice bA bn bc, .int .i64 hd.au, .int .i64 hd.ro, .slice xA xn xc, .slice yA yn yc, .int .i64 cc.h.au, .int .i64 cc.h.ro, .slice cA cn cd, .slice dA dn dc, .int .i64 cc.di, .slice sA sn sc, .slice zA zn zc]) := ħ (by rw [hW]; exact ((Blk.new1 w 27 49 [.int .i64 D.id, .int .i64 D.nodes, .int .i64 D.next, .slice oA on oc, .int .i64 D.age, .int .i64 D.clock, .slice tA tn tc, .slice eA en ec, .slice rA rn rc] [.int .i64 7, .int .i64 fr, .int .i64 tt, .int .i64 di, .int .i64 b.au, .int .i64 b.n, .slice bA bn bc, .int .i64 hd.au, .int .i64 hd.ro, .slice xA xn xc, .slice yA yn yc, .int .i64 cc.h.au, .int .i64 cc.h.ro, .slice cA cn cd, .slice dA dn dc, .int .i64 cc.di, .slice sA sn sc, .slice zA zn zc]).up (bel_alloc (Below.refl _ _))).up (bel_alloc (Below.refl _ _)))
 have HR : Hid (Blk W (w.heap.size + 1 + 1) 27 [.int .i64 0, .int .i64 0, .int .i64 0, .slice none 0 0, .int .i64 0, .int .i64 0, .slice none 0 0, .slice none 0 0, .slice none 0 0]) := ħ (by
  rw [hW]
  have h9 := Blk.new1 (w.alloc (.cells #[.int .i64 D.id, .int .i64 D.nodes, .int .i64 D.next, .slice oA on oc, .int .i64 D.age, .int .i64 D.clock, .slice tA tn tc, .slice eA en ec, .slice rA rn rc] 27)) 49 27 [.int .i64 7, .int .i64 fr, .int .i64 tt, .int .i64 di, .int .i64 b.au, .int .i64 b.n, .slice bA bn bc, .int .i64 hd.au, .int .i64 hd.ro, .slice xA xn xc, .slice yA yn yc, .int .i64 cc.h.au, .int .i64 cc.h.ro, .slice cA cn cd, .slice dA dn dc, .int .i64 cc.di, .slice sA sn sc, .slice zA zn zc] [.int .i64 0, .int .i64 0, .int .i64 0, .slice none 0 0, .int .i64 0, .int .i64 0, .slice none 0 0, .slice none 0 0, .slice none 0 0]
  rw [show (w.alloc (.cells #[.int .i64 D.id, .int .i64 D.nodes, .int .i64 D.next, .slice oA on oc, .int .i64 D.age, .int .i64 D.clock, .slice tA tn tc, .slice eA en ec, .slice rA rn rc] 27)).heap.size = w.heap.size + 1 by simp] at h9
  exact h9.up (bel_alloc (Below.refl _ _)))
 have HG : Hid (Blk W (w.heap.size + 1 + 1 + 1) 142 [.int .i64 D.id, .int .i64 D.nodes, .int .i64 D.next, .slice oA on oc, .int .i64 D.age, .int .i64 D.clock, .slice tA tn tc, .slice eA en ec, .slice rA rn rc, .slice none 0 0]) := ħ (by
  rw [hW]
  have h9 := Blk.new1 ((w.alloc (.cells #[.int .i64 D.id, .int .i64 D.nodes, .int .i64 D.next, .slice oA on oc, .int .i64 D.age, .int .i64 D.clock, .slice tA tn tc, .slice eA en ec, .slice rA rn rc] 27)).alloc (.cells #[.int .i64 7, .int .i64 fr, .int .i64 tt, .int .i64 di, .int .i64 b.au, .int .i64 b.n, .slice bA bn bc, .int .i64 hd.au, .int .i64 hd.ro, .slice xA xn xc, .slice yA yn yc, .int .i64 cc.h.au, .int .i64 cc.h.ro, .slice cA cn cd, .slice dA dn dc, .int .i64 cc.di, .slice sA sn sc, .slice zA zn zc] 49)) 27 142 [.int .i64 0, .int .i64 0, .int .i64 0, .slice none 0 0, .int .i64 0, .int .i64 0, .slice none 0 0, .slice none 0 0, .slice none 0 0] [.int .i64 D.id, .int .i64 D.nodes, .int .i64 D.next, .slice oA on oc, .int .i64 D.age, .int .i64 D.clock, .slice tA tn tc, .slice eA en ec, .slice rA rn rc, .slice none 0 0]
  rwa [show ((w.alloc (.cells #[.int .i64 D.id, .int .i64 D.nodes, .int .i64 D.next, .slice oA on oc, .int .i64 D.age, .int .i64 D.clock, .slice tA tn tc, .slice eA en ec, .slice rA rn rc] 27)).alloc (.cells #[.int .i64 7, .int .i64 fr, .int .i64 tt, .int .i64 di, .int .i64 b.au, .int .i64 b.n, .slice bA bn bc, .int .i64 hd.au, .int .i64 hd.ro, .slice xA xn xc, .slice yA yn yc, .int .i64 cc.h.au, .int .i64 cc.h.ro, .slice cA cn cd, .slice dA dn dc, .int .i64 cc.di, .slice sA sn sc, .slice zA zn zc] 49)).heap.size = w.heap.size + 1 + 1 by simp] at h9)
 have hbW : Below w.heap.size w W := by rw [hW]; exact bel_alloc (bel_alloc (bel_alloc (bel_alloc (Below.refl _ _))))
 clear hW
 obtain ⟨gs, hgs⟩ : ∃ g, g = w.heap.size + 1 + 1 + 1 := ⟨_, rfl⟩
 obtain ⟨gr, hgr⟩ : ∃ g, g = w.heap.size + 1 + 1 := ⟨_, rfl⟩
 obtain ⟨gm, hgm⟩ : ∃ g, g = w.heap.size + 1 := ⟨_, rfl⟩
 rw [← hgs] at HG
 rw [← hgr] at HR
 rw [← hgm] at HBM
 have hgs3 : gs = w.heap.size + 3 := by rw [hgs]
 have hgr3 : gr = w.heap.size + 2 := by rw [hgr]
 try rw [← hgs]
 try rw [← hgr]
 try rw [← hgm]
 try rw [← hgs3]
 try rw [← hgr3]
 have hgmr : gm < gr := by omega
 have hgrs : gr < gs := by omega
 have hgwm : w.heap.size < gm := by omega
 clear hgs hgr hgm hgs3 hgr3
 obtain ⟨S, hSd⟩ : ∃ S : World → Prop, S = fun Q => Q.cell? ⟨gs, 7, none⟩ = some (.slice eA en ec) ∧ Q.cell? ⟨gm, 3, none⟩ = some (.int .i64 di) := ⟨_, rfl⟩
 have hS1 : ∀ Q, S Q → Q.cell? ⟨gs, 7, none⟩ = some (.slice eA en ec) := fun Q h => by rw [hSd] at h; exact h.1
 have hS2 : ∀ Q, S Q → Q.cell? ⟨gm, 3, none⟩ = some (.int .i64 di) := fun Q h => by rw [hSd] at h; exact h.2
 have hS : ∀ Q, Below W.heap.size W Q → S Q := fun Q hQ => by rw [hSd]; exact ⟨(HG.out.up hQ).box.2 7 _ rfl, (HBM.out.up hQ).box.2 3 _ rfl⟩
 clear hSd
 refine wp_region_held_drew (S := S) (by kernel_rfl) (hS _ (bel_drew (Below.refl _ _))) (fun hHeld => ?_)
 have hbd : Below W.heap.size W W.drew := bel_drew (Below.refl _ _)
 have hZ := hHeld
 generalize W.drew = Z at *
 (refine wpAnyH_tk 0 (some 17) (v := ?_) rfl rfl ?_ ?_; rotate_left; (focus (intro wq hSw; clear hSw; go_simp; all_goals (with_reducible rfl))); simp only [lz])
 (refine wpAnyH_tk 1 (some 18) (v := ?_) rfl rfl ?_ ?_; rotate_left; (focus (intro wq hSw; clear hSw; go_simp; all_goals (with_reducible rfl))); simp only [lz])
 (refine wpAnyH_tk 2 (some 19) (v := ?_) rfl rfl ?_ ?_; rotate_left; (focus (intro wq hSw; clear hSw; go_simp; all_goals (with_reducible rfl))); simp only [lz])
 (refine wpAnyH_tk 3 (some 20) (v := ?_) rfl rfl ?_ ?_; rotate_left; (focus (intro wq hSw; clear hSw; go_simp; all_goals (with_reducible rfl))); simp only [lz])
 (refine wpAnyH_tk 4 (some 21) (v := ?_) rfl rfl ?_ ?_; rotate_left; (focus (intro wq hSw; have q1 := hS1 wq hSw; clear hSw; go_simp; all_goals (with_reducible rfl))); simp only [lz])
 (refine wpAnyH_tk 5 (some 22) (v := ?_) rfl rfl ?_ ?_; rotate_left; (focus (intro wq hSw; clear hSw; go_simp; all_goals (with_reducible rfl))); simp only [lz])
 (refine wpAnyH_tk 6 (some 23) (v := ?_) rfl rfl ?_ ?_; rotate_left; (focus (intro wq hSw; have q1 := hS2 wq hSw; clear hSw; go_simp; all_goals (with_reducible rfl))); simp only [lz])
 refine rd1 7 rfl fun K hK => ?_
 go_simp
 (go_at_call 118; refine (worker_At eA en ec D.he di lo yh _ (HW.out.he.up (bel_trans hbW hbd)) HSO.out (by omega) HLO.out HYH.out).mono ?_; rintro e w5 ⟨rfl, hb5⟩)
 refine hK.out _ _ (hS _ (bel_trans hbd hb5)) (fun hHeld => ?_)
 clear hK K
 (try simp only [lz])
 (refine wpAnyH_tk 8 (some 16) (v := ?_) rfl rfl ?_ ?_; rotate_left; (focus (intro wq hSw; clear hSw; go_simp; all_goals (with_reducible rfl))); simp only [lz])
 (refine wpAnyH_tk 9 (some 25) (v := ?_) rfl rfl ?_ ?_; rotate_left; (focus (intro wq hSw; clear hSw; go_simp; all_goals (with_reducible rfl))); simp only [lz])
 (refine wpAnyH_tk 10 (some 26) (v := ?_) rfl rfl ?_ ?_; rotate_left; (focus (intro wq hSw; clear hSw; go_simp; all_goals (with_reducible rfl))); simp only [lz])
 (refine wpAnyH_tk 11 (some 7) (v := ?_) rfl rfl ?_ ?_; rotate_left; (focus (intro wq hSw; clear hSw; go_simp; all_goals (with_reducible rfl))); simp only [lz])
 (refine wpAnyH_tk 12 (some 8) (v := ?_) rfl rfl ?_ ?_; rotate_left; (focus (intro wq hSw; clear hSw; go_simp; all_goals (with_reducible rfl))); simp only [lz])
 refine wpAnyH_done (by kernel_rfl) ?_ _
 obtain ⟨X, hX⟩ : ∃ X, X = w5 := ⟨_, rfl⟩
 rw [← hX] at hb5 ⊢
 have hbX0 := bel_trans hbW (bel_trans hbd hb5)
 have HGX := ħ (HG.out.up (bel_trans hbd hb5))
 have HMX := ħ (HBM.out.up (bel_trans hbd hb5))
 have HRX := ħ (HR.out.up (bel_trans hbd hb5))
 have hgs0 : w.heap.size ≤ gs := by omega
 clear hX hb5 hbd hHeld hZ HG HBM HR hbW hS hS1 hS2
 have m0 := HMX.out.box.2 0 _ rfl
 have m17 := HMX.out.box.2 17 _ rfl
 have hgl := HMX.out.lt
 have hgsX := HGX.out.lt
 have hgmX := HMX.out.lt
 go_wp2_with fail
 clear m0 m17 hgl
 go_loopw [32] (fun iv wr => ∃ (k : Nat) (uA : Option Addr) (un uc : Nat) (ps : List MsgP), k ≤ zn ∧ iv = .int .i64 k ∧ Hid (Blk wr gs 142 [.int .i64 D.id, .int .i64 D.nodes, .int .i64 D.next, .slice oA on oc, .int .i64 D.age, .int .i64 D.clock, .slice tA tn tc, .slice eA en ec, .slice rA rn rc, .slice uA un uc]) ∧ Hid (OwnT dMsg wr X.heap.size (.slice uA un uc) ps (wantL D fr ds k)) ∧ But X.heap.size gs X wr) (fun iv _ => zn - (intOf iv).toNat)
 case atStart => exact ⟨0, none, 0, 0, [], Nat.zero_le _, rfl, HGX, ħ (OwnT.nil _ _), But.refl _ _ _⟩
 case round =>
  obtain ⟨k, uA, un, uc, ps, hk, rfl, HGS, HO, hbut⟩ := hrel
  (obtain ⟨wk, hwk⟩ : ∃ x, x = wr := ⟨_, rfl⟩); subst hwk
  have hszk := hbut.size
  have hbw0 : Below w.heap.size w wk := hbX0.trans ((hbut.below (Nat.le_of_lt hgsX)).mono hgs0)
  by_cases hlt : k < zn
  ·skip
   obtain ⟨b9, off, e1, hb, hc⟩ := HDS.out.2.2 (by omega)
   subst e1
   have q0 := (hbw0.cell (p := ⟨b9, off + k, none⟩) hb).trans (hc k hlt)
   have hbl : b9 < wk.heap.size := Nat.lt_of_lt_of_le hb hbw0.size
   obtain ⟨lo, hlo⟩ : ∃ x, kposH D.he (nth ds k) = x := ⟨_, rfl⟩
   obtain ⟨y, hy⟩ : ∃ x, khasH D.he (nth ds k) = x := ⟨_, rfl⟩
   have HLO := ħ hlo
   have HY := ħ hy
   have hlk : (k : Int) < (zn : Int) := by omega
   clear hc hlo hy
   have g7 := HGS.out.box.2 7 _ rfl
   have hgk := HGS.out.lt
   cases y
   ·skip
    have hs : wantL D fr ds (k + 1) = wantL D fr ds k := by rw [wantL_succ, if_neg (by rw [HY.out]; simp), List.append_nil]
    have HSL := ħ hs
    clear hs
    go_wp2_with (go_at_call 118; refine (worker_At eA en ec D.he (nth ds k) lo false _ (HW.out.he.up hbw0) HSO.out (by omega) HLO.out HY.out).mono ?_; rintro e w5 ⟨rfl, hb5⟩)
    clear g7 hgk q0 hbl
    (first | (go_round; (case rel => exact ⟨k + 1, uA, un, uc, ps, by omega, by go_num, ħ (HGS.out.up hb5), by (rw [HSL.out]; exact ħ (HO.out.up hb5)), hbut.trans (But.of_below (hb5.mono hszk))⟩); (case measure => (simp [intOf] <;> omega))) | (go_roundw; (case rel => exact ⟨k + 1, uA, un, uc, ps, by omega, by go_num, ħ (HGS.out.up hb5), by (rw [HSL.out]; exact ħ (HO.out.up hb5)), hbut.trans (But.of_below (hb5.mono hszk))⟩); (case measure => (simp [intOf] <;> omega))) | (refine ⟨?_, by simp [intOf] <;> omega⟩; (repeat apply Exists.intro); refine ⟨?rel, ?fr⟩; (case fr => ((repeat' apply And.intro) <;> rfl)); (case rel => exact ⟨k + 1, uA, un, uc, ps, by omega, by go_num, ħ (HGS.out.up hb5), by (rw [HSL.out]; exact ħ (HO.out.up hb5)), hbut.trans (But.of_below (hb5.mono hszk))⟩)))
   ·skip
    obtain ⟨hlo1, hlo2⟩ := khasH_lt HLO.out HY.out
    have hlen1 : lo < en := by have e1 := HEN.out; omega
    go_upto_region 9 with (go_at_call 118; refine (worker_At eA en ec D.he (nth ds k) lo true _ (HW.out.he.up hbw0) HSO.out (by omega) HLO.out HY.out).mono ?_; rintro e w5 ⟨rfl, hb5⟩)
    clear g7 hgk q0 hbl
    obtain ⟨b2, o2, e2, hb2, hc2⟩ := HW.out.he.2.2 (by show 0 < en; omega)
    dsimp only at e2
    subst e2
    obtain ⟨bA2, bn2, bc2, ⟨f0, f1, f2, f3⟩, hTX⟩ := hc2 lo hlen1
    have hbn2 : bn2 ≤ 800000000 := by rw [← hTX.1]; exact HS.out.he.2 _ (getD_mem hlo1)
    have HBN2 := ħ hTX.1
    have hs : wantL D fr ds (k + 1) = wantL D fr ds k ++ [giveM D.id fr (nth ds k) (hth D.he lo).b] := by rw [wantL_succ, if_pos HY.out, HLO.out]
    have HSL := ħ hs
    have HTX2 := ħ hTX
    have HGS := ħ (HGS.out.up hb5)
    have HO := ħ (HO.out.up hb5)
    have hbut5 := hbut.trans (But.of_below (hb5.mono hszk))
    have hszk5 := hbut5.size
    have hbX : ∀ Q, But X.heap.size gs w5 Q → Below w.heap.size w Q := fun Q hQ => hbX0.trans (((hbut5.trans hQ).below (Nat.le_of_lt hgsX)).mono hgs0)
    clear hs hTX hc2 hbut hszk hb5 hbw0
    obtain ⟨S, hSd⟩ : ∃ S : World → Prop, S = fun Q => But X.heap.size gs w5 Q ∧ Q.cell? ⟨gs, 7, none⟩ = some (.slice (some ⟨b2, o2, none⟩) en ec) := ⟨_, rfl⟩
    have hS7 : ∀ Q, S Q → Q.cell? ⟨gs, 7, none⟩ = some (.slice (some ⟨b2, o2, none⟩) en ec) := fun Q h => by rw [hSd] at h; exact h.2
    have hSm : ∀ Q, S Q → Q.cell? ⟨gm, 1, none⟩ = some (.int .i64 fr) := fun Q h => by rw [hSd] at h; exact (But.blk7 (hbut5.trans h.1) HMX.out hgmX (by omega)).box.2 1 _ rfl
    have hS8 : ∀ Q, S Q → Q.rangeAt b2 (o2 + lo * 4 + 1) [.int .i64 (hth D.he lo).b.au, .int .i64 (hth D.he lo).b.n, .slice bA2 bn2 bc2] := fun Q h => by
     rw [hSd] at h
     have hq := hbX Q h.1
     intro j u hu
     have hj : j < 3 := (List.getElem?_eq_some_iff.1 hu).1
     have hcell : ∀ o v, w.cell? ⟨b2, o, none⟩ = some v → Q.cell? ⟨b2, o, none⟩ = some v := fun o v hv => (hq.cell (p := ⟨b2, o, none⟩) hb2).trans hv
     match j, hj, hu with
     | 0, _, hu => injection hu with hu; subst hu; exact hcell _ _ f1
     | 1, _, hu => injection hu with hu; subst hu; exact hcell _ _ f2
     | 2, _, hu => injection hu with hu; subst hu; exact hcell _ _ f3
    have hSG : ∀ Q, But X.heap.size gs w5 Q → ∀ A n c, Blk Q gs 142 [.int .i64 D.id, .int .i64 D.nodes, .int .i64 D.next, .slice oA on oc, .int .i64 D.age, .int .i64 D.clock, .slice tA tn tc, .slice (some ⟨b2, o2, none⟩) en ec, .slice rA rn rc, .slice A n c] → S Q := fun Q hQ A n c hG => by rw [hSd]; exact ⟨hQ, hG.box.2 7 _ rfl⟩
    have hS : ∀ Q, Below w5.heap.size w5 Q → S Q := fun Q hQ => hSG Q (But.of_below (hQ.mono hszk5)) _ _ _ (HGS.out.up hQ)
    clear hSd f0 f1 f2 f3
    refine wp_region_held_drew (S := S) (by kernel_rfl) (hS _ (bel_drew (Below.refl _ _))) (fun hHeld => ?_)
    have hbd : Below w5.heap.size w5 w5.drew := bel_drew (Below.refl _ _)
    have hZ := hHeld
    generalize w5.drew = Z at *
    (refine wpAnyH_tk 0 (some 47) (v := ?_) rfl rfl ?_ ?_; rotate_left; (focus (intro wq hSw; clear hSw; go_simp; all_goals (with_reducible rfl))); simp only [lz])
    (refine wpAnyH_tk 1 (some 48) (v := ?_) rfl rfl ?_ ?_; rotate_left; (focus (intro wq hSw; clear hSw; go_simp; all_goals (with_reducible rfl))); simp only [lz])
    (refine wpAnyH_tk 2 (some 49) (v := ?_) rfl rfl ?_ ?_; rotate_left; (focus (intro wq hSw; have q1 := hSm wq hSw; clear hSw; go_simp; all_goals (with_reducible rfl))); simp only [lz])
    (refine wpAnyH_tk 3 (some 50) (v := ?_) rfl rfl ?_ ?_; rotate_left; (focus (intro wq hSw; clear hSw; go_simp; all_goals (with_reducible rfl))); simp only [lz])
    (refine wpAnyH_tk 4 (some 51) (v := ?_) rfl rfl ?_ ?_; rotate_left; (focus (intro wq hSw; clear hSw; go_simp; all_goals (with_reducible rfl))); simp only [lz])
    (refine wpAnyH_tk 5 (some 52) (v := ?_) rfl rfl ?_ ?_; rotate_left; (focus (intro wq hSw; clear hSw; go_simp; all_goals (with_reducible rfl))); simp only [lz])
    (refine wpAnyH_tk 6 (some 53) (v := ?_) rfl rfl ?_ ?_; rotate_left; (focus (intro wq hSw; clear hSw; go_simp; all_goals (with_reducible rfl))); simp only [lz])
    (refine wpAnyH_tk 7 (some 54) (v := ?_) rfl rfl ?_ ?_; rotate_left; (focus (intro wq hSw; clear hSw; go_simp; all_goals (with_reducible rfl))); simp only [lz])
    (refine wpAnyH_tk 8 (some 55) (v := ?_) rfl rfl ?_ ?_; rotate_left; (focus (intro wq hSw; have q1 := hS7 wq hSw; clear hSw; go_simp; all_goals (with_reducible rfl))); simp only [lz])
    (refine wpAnyH_tk 9 (some 56) (v := ?_) rfl rfl ?_ ?_; rotate_left; (focus (intro wq hSw; clear hSw; go_simp; all_goals (with_reducible rfl))); simp only [lz])
    (refine wpAnyH_tk 10 (some 57) (v := ?_) rfl rfl ?_ ?_; rotate_left; (focus (intro wq hSw; clear hSw; go_simp; all_goals (with_reducible rfl))); simp only [lz])
    (refine wpAnyH_tk 11 (some 58) (v := ?_) rfl rfl ?_ ?_; rotate_left; (focus (intro wq hSw; clear hSw; go_simp; all_goals (with_reducible rfl))); simp only [lz])
    refine wpAnyH_takeD (i := 12) (d := (some 59)) (v := .agg ([.int .i64 (hth D.he lo).b.au, .int .i64 (hth D.he lo).b.n, .slice bA2 bn2 bc2]).toArray) rfl rfl (by kernel_rfl) (by kernel_rfl) (by kernel_rfl) (fun _ _ _ h => h) (yieldsIf_load_mid (by rfl) 43 _ rfl b2 (o2 + lo * 4 + 1) (by simp [Act.eval, Act.put]) ([.int .i64 (hth D.he lo).b.au, .int .i64 (hth D.he lo).b.n, .slice bA2 bn2 bc2]) _ (hS8) Tryz.underlying43 (by rfl) (by kernel_rfl)) (by assumption) ?_
    simp only [lz]
    refine rd1 13 rfl fun K hK => ?_
    go_simp
    (go_at_call 135; refine (batch_Own (hth D.he lo).b bA2 bn2 bc2 _ (HTX2.out.up (hbX _ (But.of_below (hbd.mono hszk5)))) hbn2).mono ?_; rintro e w6 ⟨v7, rfl, ho7, hb6⟩; obtain ⟨A7, c7, rfl, -⟩ := ho7.txs (by rw [HBN2.out]; omega); rw [HBN2.out] at ho7 ⊢)
    have hM7 : OwnM w6 X.heap.size ⟨⟨A7, bn2, c7⟩, ⟨⟨none, 0, 0⟩, ⟨none, 0, 0⟩⟩, ⟨⟨⟨none, 0, 0⟩, ⟨none, 0, 0⟩⟩, ⟨none, 0, 0⟩⟩, ⟨none, 0, 0⟩⟩ (⟨3, 0, 0, nth ds k, (hth D.he lo).b, ⟨0, 0, [], []⟩, ⟨⟨0, 0, [], []⟩, 0, []⟩, []⟩ : MsgD) := ⟨ho7.mono (Nat.le_trans hszk5 hbd.size), OwnI.nil _ _, OwnI.nil _ _, OwnI.nil _ _, OwnI.nil _ _, OwnI.nil _ _, OwnI.nil _ _⟩
    have HM7 := ħ hM7
    have hb67 := bel_trans hbd hb6
    clear ho7 hM7
    refine hK.out _ _ (hS _ hb67) (fun hHeld => ?_)
    clear hK K
    (try simp only [lz])
    (refine wpAnyH_tk 14 (some 61) (v := ?_) rfl rfl ?_ ?_; rotate_left; (focus (intro wq hSw; clear hSw; go_simp; all_goals (with_reducible rfl))); simp only [lz])
    refine rd1 15 rfl fun K hK => ?_
    go_simp
    (go_at_call 133; refine (step_say gs X.heap.size D.id fr (.int .i64 D.nodes) (.int .i64 D.next) (.slice oA on oc) (.int .i64 D.age) (.int .i64 D.clock) (.slice tA tn tc) (.slice (some ⟨b2, o2, none⟩) en ec) (.slice rA rn rc) uA un uc ps (wantL D fr ds k) ⟨⟨A7, bn2, c7⟩, ⟨⟨none, 0, 0⟩, ⟨none, 0, 0⟩⟩, ⟨⟨⟨none, 0, 0⟩, ⟨none, 0, 0⟩⟩, ⟨none, 0, 0⟩⟩, ⟨none, 0, 0⟩⟩ ⟨3, 0, 0, nth ds k, (hth D.he lo).b, ⟨0, 0, [], []⟩, ⟨⟨0, 0, [], []⟩, 0, []⟩, []⟩ _ (HGS.out.up hb67) hgsX (Nat.le_trans hszk5 hb67.size) (HO.out.up hb67) (by have := wantL_len D fr ds k; omega) HM7.out).mono ?_; rintro e w8 ⟨X8, A8, n8, c8, rfl, rfl, hbX8, hkX, hoX⟩)
    have hG8 := (hkX _ _ _ (by decide) (HGS.out.up hb67)).set_ 9 (.slice A8 n8 c8)
    have hBt8 : But X.heap.size gs w5 (X8.setCell ⟨gs, 9, none⟩ (.slice A8 n8 c8)) := ((But.of_below (hb67.mono hszk5)).trans (But.of_below hbX8)).setg
    have hO8 := hoX.low (o := 9) (u := .slice A8 n8 c8) hgsX
    refine hK.out _ _ (hSG _ hBt8 _ _ _ hG8) (fun hHeld => ?_)
    clear hK K
    (try simp only [lz])
    refine wpAnyH_done (by kernel_rfl) ?_ _
    have hbut6 := hbut5.trans hBt8
    have HG8 := ħ hG8
    have HO8 : Hid (OwnT dMsg _ X.heap.size (.slice A8 n8 c8) (ps ++ [⟨⟨A7, bn2, c7⟩, ⟨⟨none, 0, 0⟩, ⟨none, 0, 0⟩⟩, ⟨⟨⟨none, 0, 0⟩, ⟨none, 0, 0⟩⟩, ⟨none, 0, 0⟩⟩, ⟨none, 0, 0⟩⟩]) (wantL D fr ds (k + 1))) := ħ (by rw [HSL.out]; exact hO8)
    clear hS hS7 hS8 hSm hSG hHeld hZ hG8 hO8 hbd hb6 hb67 hbX8 hkX hoX hBt8 HM7
    go_wp2_with fail
    (first | (go_round; (case rel => exact ⟨k + 1, A8, n8, c8, ps ++ [⟨⟨A7, bn2, c7⟩, ⟨⟨none, 0, 0⟩, ⟨none, 0, 0⟩⟩, ⟨⟨⟨none, 0, 0⟩, ⟨none, 0, 0⟩⟩, ⟨none, 0, 0⟩⟩, ⟨none, 0, 0⟩⟩], by omega, by go_num, HG8, HO8, hbut6⟩); (case measure => (simp [intOf] <;> omega))) | (go_roundw; (case rel => exact ⟨k + 1, A8, n8, c8, ps ++ [⟨⟨A7, bn2, c7⟩, ⟨⟨none, 0, 0⟩, ⟨none, 0, 0⟩⟩, ⟨⟨⟨none, 0, 0⟩, ⟨none, 0, 0⟩⟩, ⟨none, 0, 0⟩⟩, ⟨none, 0, 0⟩⟩], by omega, by go_num, HG8, HO8, hbut6⟩); (case measure => (simp [intOf] <;> omega))) | (refine ⟨?_, by simp [intOf] <;> omega⟩; (repeat apply Exists.intro); refine ⟨?rel, ?fr⟩; (case fr => ((repeat' apply And.intro) <;> rfl)); (case rel => exact ⟨k + 1, A8, n8, c8, ps ++ [⟨⟨A7, bn2, c7⟩, ⟨⟨none, 0, 0⟩, ⟨none, 0, 0⟩⟩, ⟨⟨⟨none, 0, 0⟩, ⟨none, 0, 0⟩⟩, ⟨none, 0, 0⟩⟩, ⟨none, 0, 0⟩⟩], by omega, by go_num, HG8, HO8, hbut6⟩)))
  ·skip
   obtain rfl : zn = k := by omega
   go_upto_region 21 with fail
   rename_i K hK
   have hrk := But.blk7 hbut HRX.out (by have := HRX.out.lt; omega) (by omega)
   have HOW := ħ (HO0.out.up hbw0)
   have HMS : Hid (OwnMs wk w.heap.size (.slice uA un uc) (wantL D fr ds zn)) := ħ ⟨ps, HO.out.mono hbX0.size⟩
   exact got_tail gr gs D.id D.nodes D.next D.age D.clock oA tA eA rA uA on oc tn tc en ec rn rc un uc _ hK (by omega) HGS.out hrk (fun W' ht hbn' => ⟨⟨⟨oA, on, oc⟩, ⟨tA, tn, tc⟩, ⟨eA, en, ec⟩, ⟨rA, rn, rc⟩⟩, uA, un, uc, rfl, HOW.out.tk ht twWork, HMS.out.tk ht twWork, hbw0.trans (hbn' _ (by omega))⟩)
open Go.RowKit

set_option maxHeartbeats 8000000 in
theorem ref13_Take7 (P : WorkP) (D : WorkD) (Pm : MsgP) (M : MsgD) (w : World) (h : WorkR w P D) (hs : BigD D) (hp : MsgR w Pm M) (hzn : Pm.ds.n ≤ 800000000) (hk : M.ki = 7) (h4 : TakesK M.ki) (hm : mayW D = true) (hb : msgB M D.nodes = true) (ht : M.tt = D.id) :
  Calls Tryz.prog 49 #[P.val D, M18 Pm M] w fun e w' => ∃ gs P' A n c ps, e = .returned (.tuple #[.pointer (some ⟨gs, 0, none⟩), .int .i64 0]) ∧ Blk w' gs 70 [.int .i64 D.id, .int .i64 D.nodes, .int .i64 D.next, .slice P'.op.A P'.op.n P'.op.c, .int .i64 D.age, .int .i64 D.clock, .slice P'.wa.A P'.wa.n P'.wa.c, .slice P'.he.A P'.he.n P'.he.c, .slice P'.re.A P'.re.n P'.re.c, .slice A n c] ∧ WorkO w' w.heap.size P' D ∧ OwnT dMsg w' w.heap.size (.slice A n c) ps (wantL D M.fr M.ds M.ds.length) ∧ w.heap.size ≤ gs ∧ Below w.heap.size w w' := by
 obtain ⟨⟨oA, on, oc⟩, ⟨tA, tn, tc⟩, ⟨eA, en, ec⟩, ⟨rA, rn, rc⟩⟩ := P
 obtain ⟨⟨bA, bn, bc⟩, ⟨⟨xA, xn, xc⟩, ⟨yA, yn, yc⟩⟩, ⟨⟨⟨cA, cn, cd⟩, ⟨dA, dn, dc⟩⟩, ⟨sA, sn, sc⟩⟩, ⟨zA, zn, zc⟩⟩ := Pm
 obtain ⟨ki, fr, tt, di, b, hd, cc, ds⟩ := M
 have HWK := ħ h
 have HMM := ħ hp
 have HK4 : Hid (TakesK ki) := ħ h4
 have HS := ħ hs
 dsimp only at hk ht hzn
 have HBY := ħ hb
 have hd1 : (tt != D.id) = false := by simp [ht]
 have HM := ħ (mayW_iff.1 hm)
 have HDS : Hid (IntsR w zA zn ds) := ħ hp.ds
 have HSO : Hid (SortedH D.he) := ħ (hdB_iff.1 HM.out.2.2.2.2.2.2.2.2.2.2.1).sorted
 have hdl : ds.length = zn := hp.ds.1
 dsimp only
 rw [hdl]
 have HK7 := ħ hk
 clear hdl h hp hb ht hm hs h4 hk
 show Calls Tryz.prog 49 #[.agg #[.int .i64 D.id, .int .i64 D.nodes, .int .i64 D.next, .slice oA on oc, .int .i64 D.age, .int .i64 D.clock, .slice tA tn tc, .slice eA en ec, .slice rA rn rc], .agg #[.int .i64 ki, .int .i64 fr, .int .i64 tt, .int .i64 di, .int .i64 b.au, .int .i64 b.n, .slice bA bn bc, .int .i64 hd.au, .int .i64 hd.ro, .slice xA xn xc, .slice yA yn yc, .int .i64 cc.h.au, .int .i64 cc.h.ro, .slice cA cn cd, .slice dA dn dc, .int .i64 cc.di, .slice sA sn sc, .slice zA zn zc]] w _
 go_enter Tryz.func49, Tryz.ntmps49
 go_upto_region 1 with fail
 refine wp_world (fun W hW => ?_)
 have HA0 : Hid (Blk W w.heap.size 27 [.int .i64 D.id, .int .i64 D.nodes, .int .i64 D.next, .slice oA on oc, .int .i64 D.age, .int .i64 D.clock, .slice tA tn tc, .slice eA en ec, .slice rA rn rc]) := ħ (by rw [hW]; exact (Blk.new w 27 [.int .i64 D.id, .int .i64 D.nodes, .int .i64 D.next, .slice oA on oc, .int .i64 D.age, .int .i64 D.clock, .slice tA tn tc, .slice eA en ec, .slice rA rn rc]).up (belA))
 have HB0 : Hid (Blk W (w.heap.size + 1) 49 [.int .i64 ki, .int .i64 fr, .int .i64 tt, .int .i64 di, .int .i64 b.au, .int .i64 b.n, .slice bA bn bc, .int .i64 hd.au, .int .i64 hd.ro, .slice xA xn xc, .slice yA yn yc, .int .i64 cc.h.au, .int .i64 cc.h.ro, .slice cA cn cd, .slice dA dn dc, .int .i64 cc.di, .slice sA sn sc, .slice zA zn zc]) := ħ (by rw [hW]; exact Blk.new1 w 27 49 [.int .i64 D.id, .int .i64 D.nodes, .int .i64 D.next, .slice oA on oc, .int .i64 D.age, .int .i64 D.clock, .slice tA tn tc, .slice eA en ec, .slice rA rn rc] [.int .i64 ki, .int .i64 fr, .int .i64 tt, .int .i64 di, .int .i64 b.au, .int .i64 b.n, .slice bA bn bc, .int .i64 hd.au, .int .i64 hd.ro, .slice xA xn xc, .slice yA yn yc, .int .i64 cc.h.au, .int .i64 cc.h.ro, .slice cA cn cd, .slice dA dn dc, .int .i64 cc.di, .slice sA sn sc, .slice zA zn zc])
 have hbW : Below w.heap.size w W := by rw [hW]; exact bel_alloc (bel_alloc (Below.refl _ _))
 clear hW
 have hql := HA0.out.lt
 have hqb := HA0.out.box
 have q0 := hqb.2 0 _ rfl; have q1 := hqb.2 1 _ rfl; have q2 := hqb.2 2 _ rfl; have q3 := hqb.2 3 _ rfl; have q4 := hqb.2 4 _ rfl; have q5 := hqb.2 5 _ rfl; have q6 := hqb.2 6 _ rfl; have q7 := hqb.2 7 _ rfl; have q8 := hqb.2 8 _ rfl
 clear hqb
 go_upto_region 2 with (go_at_call 17; refine (ref0_CopyWorker ⟨⟨oA, on, oc⟩, ⟨tA, tn, tc⟩, ⟨eA, en, ec⟩, ⟨rA, rn, rc⟩⟩ D _ (HWK.out.up hbW) HS.out).mono ?_; rintro e w1 ⟨⟨⟨oA2, on2, oc2⟩, ⟨tA2, tn2, tc2⟩, ⟨eA2, en2, ec2⟩, ⟨rA2, rn2, rc2⟩⟩, he1, hO1, hb1⟩; simp only [WorkP.val] at he1; subst he1)
 clear q0 q1 q2 q3 q4 q5 q6 q7 q8 hql
 refine wp_world (fun W2 hW2 => ?_)
 have HG : Hid (Blk W2 w1.heap.size 70 [.int .i64 D.id, .int .i64 D.nodes, .int .i64 D.next, .slice oA2 on2 oc2, .int .i64 D.age, .int .i64 D.clock, .slice tA2 tn2 tc2, .slice eA2 en2 ec2, .slice rA2 rn2 rc2, .slice none 0 0]) := ħ (by rw [hW2]; exact Blk.new w1 70 [.int .i64 D.id, .int .i64 D.nodes, .int .i64 D.next, .slice oA2 on2 oc2, .int .i64 D.age, .int .i64 D.clock, .slice tA2 tn2 tc2, .slice eA2 en2 ec2, .slice rA2 rn2 rc2, .slice none 0 0])
 have hb2 : Below w1.heap.size w1 W2 := by rw [hW2]; exact bel_alloc (Below.refl _ _)
 clear hW2
 obtain ⟨gs, hgs⟩ : ∃ g, g = w1.heap.size := ⟨_, rfl⟩
 obtain ⟨gm, hgm⟩ : ∃ g, g = w.heap.size + 1 := ⟨_, rfl⟩
 obtain ⟨gw, hgw⟩ : ∃ g, g = w.heap.size := ⟨_, rfl⟩
 have hE : (Value.pointer (some ⟨w.heap.size, 0, none⟩)) = .pointer (some ⟨gw, 0, none⟩) := by rw [hgw]
 have hz1 : w.heap.size + 2 ≤ w1.heap.size := by have := (HB0.out.up hb1).lt; omega
 have HW0 : Hid (Blk W2 gw 27 [.int .i64 D.id, .int .i64 D.nodes, .int .i64 D.next, .slice oA on oc, .int .i64 D.age, .int .i64 D.clock, .slice tA tn tc, .slice eA en ec, .slice rA rn rc]) := ħ (by rw [hgw]; exact (HA0.out.up hb1).up hb2)
 have HBM : Hid (Blk W2 gm 49 [.int .i64 ki, .int .i64 fr, .int .i64 tt, .int .i64 di, .int .i64 b.au, .int .i64 b.n, .slice bA bn bc, .int .i64 hd.au, .int .i64 hd.ro, .slice xA xn xc, .slice yA yn yc, .int .i64 cc.h.au, .int .i64 cc.h.ro, .slice cA cn cd, .slice dA dn dc, .int .i64 cc.di, .slice sA sn sc, .slice zA zn zc]) := ħ (by rw [hgm]; exact (HB0.out.up hb1).up hb2)
 have HO2 := ħ ((hO1.mono (B' := w.heap.size) hbW.size).up hb2)
 have hb0 : Below w.heap.size w W2 := bel_trans (bel_trans hbW hb1) hb2
 rw [← hgs] at HG ⊢
 rw [← hgm]
 try simp only [hE]
 have hgmr : gm < gs := by omega
 have hgwm : gw < gm := by omega
 have hgww : w.heap.size ≤ gw := by omega
 have HE1 := ħ (hO1.work HS.out).he
 have HOW1 := ħ (hO1.mono (B' := w.heap.size) hbW.size)
 have hb12 := hb2
 have hgs1 : w1.heap.size ≤ gs := by omega
 clear hgs hgm hgw hE HA0 HB0 hbW hb1 hb2 hO1 hz1
 refine wp_region_list ?_
 simp only [List.append_eq, List.append, List.cons_append, List.nil_append, List.toList_toArray]
 refine wpList_load_mid rfl 49 _ rfl gm 0 (by simp [Act.eval, Act.put]) [.int .i64 ki, .int .i64 fr, .int .i64 tt, .int .i64 di, .int .i64 b.au, .int .i64 b.n, .slice bA bn bc, .int .i64 hd.au, .int .i64 hd.ro, .slice xA xn xc, .slice yA yn yc, .int .i64 cc.h.au, .int .i64 cc.h.ro, .slice cA cn cd, .slice dA dn dc, .int .i64 cc.di, .slice sA sn sc, .slice zA zn zc] _ HBM.out.rng Tryz.underlying49 (by rfl) (by kernel_rfl) ?_
 (try simp only [lz, List.toList_toArray])
 refine wpList_plain rfl (fun K hK => ?_)
 go_simp
 refine hK _ _ ?_
 clear hK K
 (try simp only [lz])
 refine wpList_plain rfl (fun K hK => ?_)
 have r1 := HW0.out.box.2 1 _ rfl
 go_simp
 refine hK _ _ ?_
 clear hK K
 clear r1
 (try simp only [lz])
 refine wpList_plain rfl (fun K hK => ?_)
 go_simp
 refine (ref4_Message4 ⟨⟨bA, bn, bc⟩, ⟨⟨xA, xn, xc⟩, ⟨yA, yn, yc⟩⟩, ⟨⟨⟨cA, cn, cd⟩, ⟨dA, dn, dc⟩⟩, ⟨sA, sn, sc⟩⟩, ⟨zA, zn, zc⟩⟩ ⟨ki, fr, tt, di, b, hd, cc, ds⟩ D.nodes true _ (HMM.out.up hb0) HK4.out HBY.out).mono ?_
 rintro e w3 ⟨rfl, hb3⟩
 dsimp only
 refine hK _ _ ?_
 clear hK K
 (try simp only [lz])
 have HW3 := ħ (HW0.out.up hb3)
 have HB3 := ħ (HBM.out.up hb3)
 have HG3 := ħ (HG.out.up hb3)
 have HO3 := ħ (HO2.out.up hb3)
 have hb03 := bel_trans hb0 hb3
 have hb13 := bel_trans hb12 hb3
 clear hb3 HW0 HBM HG HO2 hb0
 iterate 3 (((first | refine wpList_plain rfl (fun K hK => ?_) | refine wpList_takeG (by kernel_rfl) (fun K hK => ?_))); go_simp; refine hK _ _ ?_; clear hK K; (try simp only [lz]))
 refine wpList_takeG (by kernel_rfl) (fun K hK => ?_)
 have r2 := HB3.out.box.2 2 _ rfl
 go_simp
 refine hK _ _ ?_
 clear hK K
 clear r2
 (try simp only [lz])
 refine wpList_takeG (by kernel_rfl) (fun K hK => ?_)
 go_simp
 refine hK _ _ ?_
 clear hK K
 (try simp only [lz])
 refine wpList_takeG (by kernel_rfl) (fun K hK => ?_)
 have r0 := HW3.out.box.2 0 _ rfl
 go_simp
 refine hK _ _ ?_
 clear hK K
 clear r0
 (try simp only [lz])
 iterate 2 (((first | refine wpList_plain rfl (fun K hK => ?_) | refine wpList_takeG (by kernel_rfl) (fun K hK => ?_))); go_simp; refine hK _ _ ?_; clear hK K; (try simp only [lz]))
 refine wpList_nil ?_
 rename_i Ka hKa
 refine hKa _ _ ?_
 clear hKa Ka
 clear hd1 hb12
 have hk := HK7.out
 clear HK7
 subst hk
 have m0 := HB3.out.box.2 0 _ rfl
 have hgl := HB3.out.lt
 have hgm3 := HB3.out.lt
 have hgs3 := HG3.out.lt
 go_wp2_with fail
 clear m0 hgl
 go_loopw [8] (fun iv wr => ∃ (k : Nat) (uA : Option Addr) (un uc : Nat) (ps : List MsgP), k ≤ zn ∧ iv = .int .i64 k ∧ Hid (Blk wr gs 70 [.int .i64 D.id, .int .i64 D.nodes, .int .i64 D.next, .slice oA2 on2 oc2, .int .i64 D.age, .int .i64 D.clock, .slice tA2 tn2 tc2, .slice eA2 en2 ec2, .slice rA2 rn2 rc2, .slice uA un uc]) ∧ Hid (OwnT dMsg wr w3.heap.size (.slice uA un uc) ps (wantL D fr ds k)) ∧ But w3.heap.size gs w3 wr) (fun iv _ => zn - (intOf iv).toNat)
 case atStart => exact ⟨0, none, 0, 0, [], Nat.zero_le _, rfl, HG3, ħ (OwnT.nil _ _), But.refl _ _ _⟩
 case round =>
  obtain ⟨k, uA, un, uc, ps, hk7, rfl, HGS, HO, hbut⟩ := hrel
  (obtain ⟨wk, hwk⟩ : ∃ x, x = wr := ⟨_, rfl⟩); subst hwk
  have hszk := hbut.size
  have hbw1 : Below w1.heap.size w1 wk := hb13.trans ((hbut.below (Nat.le_of_lt hgs3)).mono hgs1)
  have hbw0 : Below w.heap.size w wk := hb03.trans ((hbut.below (Nat.le_of_lt hgs3)).mono (by omega))
  have HMk := ħ (But.blk7 hbut HB3.out hgm3 (by omega))
  have m17 := HMk.out.box.2 17 _ rfl
  have hml := HMk.out.lt
  by_cases hlt : k < zn
  ·skip
   obtain ⟨b9, off, e1, hb, hc⟩ := HDS.out.2.2 (by omega)
   subst e1
   have q0 := (hbw0.cell (p := ⟨b9, off + k, none⟩) hb).trans (hc k hlt)
   have hbl : b9 < wk.heap.size := Nat.lt_of_lt_of_le hb hbw0.size
   have HQ := ħ (hc k hlt)
   obtain ⟨lo, hlo⟩ : ∃ x, kposH D.he (nth ds k) = x := ⟨_, rfl⟩
   obtain ⟨y, hy⟩ : ∃ x, khasH D.he (nth ds k) = x := ⟨_, rfl⟩
   have HLO := ħ hlo
   have HY := ħ hy
   have hlk : (k : Int) < (zn : Int) := by omega
   clear hc hlo hy
   cases y
   ·skip
    have hs : wantL D fr ds (k + 1) = wantL D fr ds k := by rw [wantL_succ, if_neg (by rw [HY.out]; simp), List.append_nil]
    have HSL := ħ hs
    clear hs
    have hfi := findI_no HY.out
    obtain ⟨zf, hzf⟩ : ∃ z, findI D.he (nth ds k) = z := ⟨_, rfl⟩
    rw [hzf] at hfi
    have HZF := ħ hzf
    clear hzf
    go_wp2_with (go_at_call 83; refine (ref13_find gs _ _ _ _ _ _ _ _ _ eA2 en2 ec2 D.he (nth ds k) wk HGS.out (HE1.out.up hbw1) HSO.out).mono ?_; rintro e w' ⟨rfl, rfl⟩; rw [HZF.out])
    clear m17 hml q0 hbl
    (first | (go_round; (case rel => exact ⟨k + 1, uA, un, uc, ps, by omega, by go_num, HGS, by (rw [HSL.out]; exact HO), hbut⟩); (case measure => (simp [intOf] <;> omega))) | (go_roundw; (case rel => exact ⟨k + 1, uA, un, uc, ps, by omega, by go_num, HGS, by (rw [HSL.out]; exact HO), hbut⟩); (case measure => (simp [intOf] <;> omega))) | (refine ⟨?_, by simp [intOf] <;> omega⟩; (repeat apply Exists.intro); refine ⟨?rel, ?fr⟩; (case fr => ((repeat' apply And.intro) <;> rfl)); (case rel => exact ⟨k + 1, uA, un, uc, ps, by omega, by go_num, HGS, by (rw [HSL.out]; exact HO), hbut⟩)))
   ·skip
    obtain ⟨hlo1, hlo2⟩ := khasH_lt HLO.out HY.out
    have hlen1 : lo < en2 := by have e1 := HE1.out.1; omega
    have HZF : Hid (findI D.he (nth ds k) = (lo : Int)) := ħ (by unfold findI; rw [if_pos HY.out, HLO.out])
    have hfi : decide ((lo : Int) ≥ 0) = true := by simp
    go_upto_region 24 with (go_at_call 83; refine (ref13_find gs _ _ _ _ _ _ _ _ _ eA2 en2 ec2 D.he (nth ds k) wk HGS.out (HE1.out.up hbw1) HSO.out).mono ?_; rintro e w' ⟨rfl, rfl⟩; rw [HZF.out])
    clear m17 hml q0
    obtain ⟨b2, o2, e2, hb2, hc2⟩ := HE1.out.2.2 (by omega)
    subst e2
    obtain ⟨bA2, bn2, bc2, ⟨f0, f1, f2, f3⟩, hTX⟩ := hc2 lo hlen1
    have hbn2 : bn2 ≤ 800000000 := by rw [← hTX.1]; exact HS.out.he.2 _ (getD_mem hlo1)
    have HBN2 := ħ hTX.1
    have hs : wantL D fr ds (k + 1) = wantL D fr ds k ++ [giveM D.id fr (nth ds k) (hth D.he lo).b] := by rw [wantL_succ, if_pos HY.out, HLO.out]
    have HSL := ħ hs
    have HTX2 := ħ hTX
    have hbX : ∀ Q, But w3.heap.size gs wk Q → Below w1.heap.size w1 Q := fun Q hQ => hb13.trans (((hbut.trans hQ).below (Nat.le_of_lt hgs3)).mono hgs1)
    have hbX0 : ∀ Q, But w3.heap.size gs wk Q → Below w.heap.size w Q := fun Q hQ => hb03.trans (((hbut.trans hQ).below (Nat.le_of_lt hgs3)).mono (by omega))
    clear hs hTX hc2 hbw0 hbw1 hfi hbl
    obtain ⟨S, hSd⟩ : ∃ S : World → Prop, S = fun Q => But w3.heap.size gs wk Q ∧ Q.cell? ⟨gs, 7, none⟩ = some (.slice (some ⟨b2, o2, none⟩) en2 ec2) := ⟨_, rfl⟩
    have hS7 : ∀ Q, S Q → Q.cell? ⟨gs, 7, none⟩ = some (.slice (some ⟨b2, o2, none⟩) en2 ec2) := fun Q h => by rw [hSd] at h; exact h.2
    have hSm : ∀ Q, S Q → Q.cell? ⟨gm, 1, none⟩ = some (.int .i64 fr) := fun Q h => by rw [hSd] at h; exact (But.blk7 (hbut.trans h.1) HB3.out hgm3 (by omega)).box.2 1 _ rfl
    have hSn : ∀ Q, S Q → Q.cell? ⟨gm, 17, none⟩ = some (.slice (some ⟨b9, off, none⟩) zn zc) := fun Q h => by rw [hSd] at h; exact (But.blk7 (hbut.trans h.1) HB3.out hgm3 (by omega)).box.2 17 _ rfl
    have hSe : ∀ Q, S Q → Q.cell? ⟨b9, off + k, none⟩ = some (.int .i64 (nth ds k)) := fun Q h => by rw [hSd] at h; exact ((hbX0 Q h.1).cell (p := ⟨b9, off + k, none⟩) hb).trans HQ.out
    have hS8 : ∀ Q, S Q → Q.rangeAt b2 (o2 + lo * 4 + 1) [.int .i64 (hth D.he lo).b.au, .int .i64 (hth D.he lo).b.n, .slice bA2 bn2 bc2] := fun Q h => by
     rw [hSd] at h
     have hq := hbX Q h.1
     intro j u hu
     have hj : j < 3 := (List.getElem?_eq_some_iff.1 hu).1
     have hcell : ∀ o v, w1.cell? ⟨b2, o, none⟩ = some v → Q.cell? ⟨b2, o, none⟩ = some v := fun o v hv => (hq.cell (p := ⟨b2, o, none⟩) hb2).trans hv
     match j, hj, hu with
     | 0, _, hu => injection hu with hu; subst hu; exact hcell _ _ f1
     | 1, _, hu => injection hu with hu; subst hu; exact hcell _ _ f2
     | 2, _, hu => injection hu with hu; subst hu; exact hcell _ _ f3
    have hSG : ∀ Q, But w3.heap.size gs wk Q → ∀ A n c, Blk Q gs 70 [.int .i64 D.id, .int .i64 D.nodes, .int .i64 D.next, .slice oA2 on2 oc2, .int .i64 D.age, .int .i64 D.clock, .slice tA2 tn2 tc2, .slice (some ⟨b2, o2, none⟩) en2 ec2, .slice rA2 rn2 rc2, .slice A n c] → S Q := fun Q hQ A n c hG => by rw [hSd]; exact ⟨hQ, hG.box.2 7 _ rfl⟩
    have hS : ∀ Q, Below wk.heap.size wk Q → S Q := fun Q hQ => hSG Q (But.of_below (hQ.mono hszk)) _ _ _ (HGS.out.up hQ)
    clear hSd f0 f1 f2 f3
    refine wp_region_held_drew (S := S) (by kernel_rfl) (hS _ (bel_drew (Below.refl _ _))) (fun hHeld => ?_)
    have hbd : Below wk.heap.size wk wk.drew := bel_drew (Below.refl _ _)
    have hZ := hHeld
    generalize wk.drew = Z at *
    (refine wpAnyH_tk 0 (some 120) (v := ?_) rfl rfl ?_ ?_; rotate_left; (focus (intro wq hSw; clear hSw; go_simp; all_goals (with_reducible rfl))); simp only [lz])
    (refine wpAnyH_tk 1 (some 121) (v := ?_) rfl rfl ?_ ?_; rotate_left; (focus (intro wq hSw; clear hSw; go_simp; all_goals (with_reducible rfl))); simp only [lz])
    (refine wpAnyH_tk 2 (some 122) (v := ?_) rfl rfl ?_ ?_; rotate_left; (focus (intro wq hSw; have q1 := hSm wq hSw; clear hSw; go_simp; all_goals (with_reducible rfl))); simp only [lz])
    (refine wpAnyH_tk 3 (some 123) (v := ?_) rfl rfl ?_ ?_; rotate_left; (focus (intro wq hSw; clear hSw; go_simp; all_goals (with_reducible rfl))); simp only [lz])
    (refine wpAnyH_tk 4 (some 124) (v := ?_) rfl rfl ?_ ?_; rotate_left; (focus (intro wq hSw; have q1 := hSn wq hSw; clear hSw; go_simp; all_goals (with_reducible rfl))); simp only [lz])
    (refine wpAnyH_tk 5 (some 125) (v := ?_) rfl rfl ?_ ?_; rotate_left; (focus (intro wq hSw; clear hSw; go_simp; all_goals (with_reducible rfl))); simp only [lz])
    (refine wpAnyH_tk 6 (some 126) (v := ?_) rfl rfl ?_ ?_; rotate_left; (focus (intro wq hSw; clear hSw; go_simp; all_goals (with_reducible rfl))); simp only [lz])
    (refine wpAnyH_tk 7 (some 127) (v := ?_) rfl rfl ?_ ?_; rotate_left; (focus (intro wq hSw; have q1 := hSe wq hSw; clear hSw; go_simp; all_goals (with_reducible rfl))); simp only [lz])
    (refine wpAnyH_tk 8 (some 128) (v := ?_) rfl rfl ?_ ?_; rotate_left; (focus (intro wq hSw; clear hSw; go_simp; all_goals (with_reducible rfl))); simp only [lz])
    (refine wpAnyH_tk 9 (some 129) (v := ?_) rfl rfl ?_ ?_; rotate_left; (focus (intro wq hSw; clear hSw; go_simp; all_goals (with_reducible rfl))); simp only [lz])
    (refine wpAnyH_tk 10 (some 130) (v := ?_) rfl rfl ?_ ?_; rotate_left; (focus (intro wq hSw; clear hSw; go_simp; all_goals (with_reducible rfl))); simp only [lz])
    (refine wpAnyH_tk 11 (some 131) (v := ?_) rfl rfl ?_ ?_; rotate_left; (focus (intro wq hSw; clear hSw; go_simp; all_goals (with_reducible rfl))); simp only [lz])
    (refine wpAnyH_tk 12 (some 132) (v := ?_) rfl rfl ?_ ?_; rotate_left; (focus (intro wq hSw; have q1 := hS7 wq hSw; clear hSw; go_simp; all_goals (with_reducible rfl))); simp only [lz])
    (refine wpAnyH_tk 13 (some 133) (v := ?_) rfl rfl ?_ ?_; rotate_left; (focus (intro wq hSw; clear hSw; go_simp; all_goals (with_reducible rfl))); simp only [lz])
    (refine wpAnyH_tk 14 (some 134) (v := ?_) rfl rfl ?_ ?_; rotate_left; (focus (intro wq hSw; clear hSw; go_simp; all_goals (with_reducible rfl))); simp only [lz])
    (refine wpAnyH_tk 15 (some 135) (v := ?_) rfl rfl ?_ ?_; rotate_left; (focus (intro wq hSw; clear hSw; go_simp; all_goals (with_reducible rfl))); simp only [lz])
    refine wpAnyH_takeD (i := 16) (d := (some 136)) (v := .agg ([.int .i64 (hth D.he lo).b.au, .int .i64 (hth D.he lo).b.n, .slice bA2 bn2 bc2]).toArray) rfl rfl (by kernel_rfl) (by kernel_rfl) (by kernel_rfl) (fun _ _ _ h => h) (yieldsIf_load_mid (by rfl) 43 _ rfl b2 (o2 + lo * 4 + 1) (by simp [Act.eval, Act.put]) ([.int .i64 (hth D.he lo).b.au, .int .i64 (hth D.he lo).b.n, .slice bA2 bn2 bc2]) _ (hS8) Tryz.underlying43 (by rfl) (by kernel_rfl)) (by assumption) ?_
    simp only [lz]
    refine rd1 17 rfl fun K hK => ?_
    go_simp
    (go_at_call 86; refine (ref0_CopyBatchO (hth D.he lo).b bA2 bn2 bc2 _ (HTX2.out.up (hbX _ (But.of_below (hbd.mono hszk)))) hbn2).mono ?_; rintro e w6 ⟨v7, rfl, ho7, hb6⟩; obtain ⟨A7, c7, rfl, -⟩ := ho7.txs (by rw [HBN2.out]; omega); rw [HBN2.out] at ho7 ⊢)
    have hM7 : OwnM w6 w3.heap.size ⟨⟨A7, bn2, c7⟩, ⟨⟨none, 0, 0⟩, ⟨none, 0, 0⟩⟩, ⟨⟨⟨none, 0, 0⟩, ⟨none, 0, 0⟩⟩, ⟨none, 0, 0⟩⟩, ⟨none, 0, 0⟩⟩ (⟨3, 0, fr, nth ds k, (hth D.he lo).b, ⟨0, 0, [], []⟩, ⟨⟨0, 0, [], []⟩, 0, []⟩, []⟩ : MsgD) := ⟨ho7.mono (Nat.le_trans hszk hbd.size), OwnI.nil _ _, OwnI.nil _ _, OwnI.nil _ _, OwnI.nil _ _, OwnI.nil _ _, OwnI.nil _ _⟩
    have HM7 := ħ hM7
    have hb67 := bel_trans hbd hb6
    clear ho7 hM7
    refine hK.out _ _ (hS _ hb67) (fun hHeld => ?_)
    clear hK K
    (try simp only [lz])
    (refine wpAnyH_tk 18 (some 138) (v := ?_) rfl rfl ?_ ?_; rotate_left; (focus (intro wq hSw; clear hSw; go_simp; all_goals (with_reducible rfl))); simp only [lz])
    refine rd1 19 rfl fun K hK => ?_
    go_simp
    (go_at_call 85; refine (ref13_tells gs w3.heap.size D.id (.int .i64 D.nodes) (.int .i64 D.next) (.slice oA2 on2 oc2) (.int .i64 D.age) (.int .i64 D.clock) (.slice tA2 tn2 tc2) (.slice (some ⟨b2, o2, none⟩) en2 ec2) (.slice rA2 rn2 rc2) uA un uc ps (wantL D fr ds k) ⟨⟨A7, bn2, c7⟩, ⟨⟨none, 0, 0⟩, ⟨none, 0, 0⟩⟩, ⟨⟨⟨none, 0, 0⟩, ⟨none, 0, 0⟩⟩, ⟨none, 0, 0⟩⟩, ⟨none, 0, 0⟩⟩ ⟨3, 0, fr, nth ds k, (hth D.he lo).b, ⟨0, 0, [], []⟩, ⟨⟨0, 0, [], []⟩, 0, []⟩, []⟩ _ (HGS.out.up hb67) hgs3 (Nat.le_trans hszk hb67.size) (HO.out.up hb67) (by have := wantL_len D fr ds k; omega) HM7.out).mono ?_; rintro e w8 ⟨X8, A8, n8, c8, rfl, rfl, hbX8, hkX, hoX⟩)
    have hG8 := (hkX _ _ _ (by decide) (HGS.out.up hb67)).set_ 9 (.slice A8 n8 c8)
    have hBt8 : But w3.heap.size gs wk (X8.setCell ⟨gs, 9, none⟩ (.slice A8 n8 c8)) := ((But.of_below (hb67.mono hszk)).trans (But.of_below hbX8)).setg
    have hO8 := hoX.low (o := 9) (u := .slice A8 n8 c8) hgs3
    refine hK.out _ _ (hSG _ hBt8 _ _ _ hG8) (fun hHeld => ?_)
    clear hK K
    (try simp only [lz])
    refine wpAnyH_done (by kernel_rfl) ?_ _
    have hbut6 := hbut.trans hBt8
    have HG8 := ħ hG8
    have HO8 : Hid (OwnT dMsg _ w3.heap.size (.slice A8 n8 c8) (ps ++ [⟨⟨A7, bn2, c7⟩, ⟨⟨none, 0, 0⟩, ⟨none, 0, 0⟩⟩, ⟨⟨⟨none, 0, 0⟩, ⟨none, 0, 0⟩⟩, ⟨none, 0, 0⟩⟩, ⟨none, 0, 0⟩⟩]) (wantL D fr ds (k + 1))) := ħ (by rw [HSL.out]; exact hO8)
    clear hS hS7 hS8 hSm hSn hSe hSG hHeld hZ hG8 hO8 hbd hb6 hb67 hbX8 hkX hoX hBt8 HM7
    go_wp2_with fail
    (first | (go_round; (case rel => exact ⟨k + 1, A8, n8, c8, ps ++ [⟨⟨A7, bn2, c7⟩, ⟨⟨none, 0, 0⟩, ⟨none, 0, 0⟩⟩, ⟨⟨⟨none, 0, 0⟩, ⟨none, 0, 0⟩⟩, ⟨none, 0, 0⟩⟩, ⟨none, 0, 0⟩⟩], by omega, by go_num, HG8, HO8, hbut6⟩); (case measure => (simp [intOf] <;> omega))) | (go_roundw; (case rel => exact ⟨k + 1, A8, n8, c8, ps ++ [⟨⟨A7, bn2, c7⟩, ⟨⟨none, 0, 0⟩, ⟨none, 0, 0⟩⟩, ⟨⟨⟨none, 0, 0⟩, ⟨none, 0, 0⟩⟩, ⟨none, 0, 0⟩⟩, ⟨none, 0, 0⟩⟩], by omega, by go_num, HG8, HO8, hbut6⟩); (case measure => (simp [intOf] <;> omega))) | (refine ⟨?_, by simp [intOf] <;> omega⟩; (repeat apply Exists.intro); refine ⟨?rel, ?fr⟩; (case fr => ((repeat' apply And.intro) <;> rfl)); (case rel => exact ⟨k + 1, A8, n8, c8, ps ++ [⟨⟨A7, bn2, c7⟩, ⟨⟨none, 0, 0⟩, ⟨none, 0, 0⟩⟩, ⟨⟨⟨none, 0, 0⟩, ⟨none, 0, 0⟩⟩, ⟨none, 0, 0⟩⟩, ⟨none, 0, 0⟩⟩], by omega, by go_num, HG8, HO8, hbut6⟩)))
  ·skip
   obtain rfl : zn = k := by omega
   go_wp2_with fail
   exact bodyPost_ret (v := .tuple #[.pointer (some ⟨gs, 0, none⟩), .int .i64 0]) (by simp [results, Tryz.results49, go_sem]) rfl ⟨gs, ⟨⟨oA2, on2, oc2⟩, ⟨tA2, tn2, tc2⟩, ⟨eA2, en2, ec2⟩, ⟨rA2, rn2, rc2⟩⟩, uA, un, uc, ps, rfl, HGS.out, HOW1.out.up hbw1, HO.out.mono hb03.size, by omega, hbw0⟩
open Go.RowKit

theorem wantL_mil {D : WorkD} (hs : SmallT D) (fr : Int) (ds : List Int) (k : Nat) : ∀ x ∈ wantL D fr ds k, MilM x := by
 induction k with
 | zero => intro x hx; simp [wantL] at hx
 | succ k ih =>
  intro x hx
  rw [wantL_succ] at hx
  rcases List.mem_append.1 hx with hx | hx
  ·exact ih x hx
  ·split at hx
   ·rename_i hk
    simp only [List.mem_cons, List.not_mem_nil, or_false] at hx
    subst hx
    have h1 := (khasH_lt rfl hk).1
    have h2 := hs.hx _ (getD_mem h1)
    exact ⟨Nat.le_trans h2 (by decide), by simp [giveM], by simp [giveM], by simp [giveM], by simp [giveM], by simp [giveM], by simp [giveM]⟩
   ·cases hx
theorem take7 {D : WorkD} (hs : SmallT D) (h4 : TakesK 7) : TakeC D 7 (fun _ => D) (fun M => wantL D M.fr M.ds M.ds.length) where
 ref := fun P Pm M w h hp hm hki h1 h2 h3 => ref13_Take7 P D Pm M w h hs.big hp (by rw [← hp.ds.1]; exact Nat.le_trans hm.ds (by decide)) hki (by rw [hki]; exact h4) h1 h2 h3
 prog := fun P Pm M B w h hB hp hm hki h1 h2 h3 => worker_Got7 P D Pm M B w h hs.big hB h1 hp.ds (by rw [← hp.ds.1]; exact Nat.le_trans hm.ds (by decide)) hki
 big := fun M hm hki h1 h2 => ⟨hs.big, ⟨Nat.le_trans hs.op (by decide), Nat.le_trans hs.wa (by decide), Nat.le_trans hs.he (by decide), Nat.le_trans hs.re (by decide), fun x hx => Nat.le_trans (hs.ak x hx) (by decide), fun x hx => Nat.le_trans (hs.hx x hx) (by decide)⟩, Nat.le_trans (wantL_len D M.fr M.ds M.ds.length) hm.ds, wantL_mil hs M.fr M.ds M.ds.length⟩
set_option maxHeartbeats 2000000 in
theorem law_WorkerWanted (P : JScrP) (D : JScrD) (w : World) (h : JScrR w P D) :
  Calls Tryz.prog 12 #[P.val D] w fun e w' => e = .returned (.bool true) ∧ Below w.heap.size w w' := by
 have H := ħ h
 clear h
 show Calls Tryz.prog 12 #[.agg #[.int .i64 D.w.id, .int .i64 D.w.nodes, .int .i64 D.w.next, .slice P.w.op.A P.w.op.n P.w.op.c, .int .i64 D.w.age, .int .i64 D.w.clock, .slice P.w.wa.A P.w.wa.n P.w.wa.c, .slice P.w.he.A P.w.he.n P.w.he.c, .slice P.w.re.A P.w.re.n P.w.re.c, .slice P.l.A P.l.n P.l.c]] w _
 go_enter Tryz.func12, Tryz.ntmps12
 go_wp2_with fail
 have hbX : Below w.heap.size w (w.alloc (.cells #[.int .i64 D.w.id, .int .i64 D.w.nodes, .int .i64 D.w.next, .slice P.w.op.A P.w.op.n P.w.op.c, .int .i64 D.w.age, .int .i64 D.w.clock, .slice P.w.wa.A P.w.wa.n P.w.wa.c, .slice P.w.he.A P.w.he.n P.w.he.c, .slice P.w.re.A P.w.re.n P.w.re.c, .slice P.l.A P.l.n P.l.c] 30)) := belA
 refine (law13_takes P D 7 _ (H.out.up hbX) (fun MP SP a X hX hL ham hkk hM hI => step_do5_light (k := 7) H.out hL MP SP a X ((H.out.wk.up hbX).up hX) ham hkk takesK7 hM (fun hs => take7 hs takesK7))).mono ?_
 rintro e w1 ⟨rfl, hb1⟩
 go_wp2_with fail
 go_ret
 exact ⟨rfl, bel_trans hbX hb1⟩
open Go.ChangeShapes Go.WideShapes Go.ChangeAt Go.RowKit

theorem workerWanted_own : ownKnob Tryz.prog.godebug = none := by kernel_rfl
theorem workerWanted_laidOut : laidOutB Tryz.prog = true := by kernel_rfl
theorem workerWanted_lifted (os : Os) (started : os.Started) (H : Type) (enc : TypeId × Value → H) :
  ReturnsInHanded {} Tryz.checked os 12 .any (Rows.workerWantedSpec.pre6 enc Tryz.prog Tryz.f12 Rows.workerWantedRow.domain false) (Rows.workerWantedSpec.post enc Tryz.prog Tryz.f12 false true false false) := by
 refine returnsInHanded_of_change_sized (C := Tryz.checked) workerWanted_own started (by kernel_rfl) Tryz.func12
  (ChangeSpec.witness6 (enc := enc) (C := Tryz.checked) false ⟨#[], #[.agg #[.int .i64 0, .int .i64 0, .int .i64 0, .slice none 0 0, .int .i64 0, .int .i64 0, .slice none 0 0, .slice none 0 0, .slice none 0 0, .slice none 0 0]], []⟩ 8 (by kernel_rfl) (by kernel_rfl) (by kernel_rfl) (by kernel_rfl)) ?_
 intro W base args ds gs before hval0 hW hcnd hsz0 _
 have hval : ∀ (j : Nat) t v, Tryz.f12.params[j]? = some t → args[j]? = some v → Value.okWide Tryz.prog W .any base t v := hval0
 have hW' := hW
 obtain ⟨p, q, hA0, hV, rfl, hfz, hnd⟩ := hW
 have hA : DataW.TrodAll enc Tryz.prog W 0 (fun _ => true) true Tryz.f12.params.toList args.toList ds p := hA0
 have hsz : (DataW.weightsEach Tryz.prog (Tryz.f12.params.toList ++ Rows.workerWantedSpec.plain.varTypes Tryz.prog) (ds ++ gs)).all (· ≤ reachBytes) = true := hsz0
 rw [Tryz.params12] at hA hval hsz
 obtain ⟨v0, vs0, d0, ds0, p0, q0, hargs, rfl, rfl, h0, r0⟩ := trodAll_cons hA
 obtain ⟨rfl, rfl, rfl⟩ := trodAll_nil r0
 obtain rfl : args = #[v0] := by cases args; simp_all
 obtain ⟨rfl, rfl⟩ := trodVars_none hV
 have k0 := h0
 have lt0 : ∀ x ∈ p0, x.block < W.heap.size := by obtain ⟨m, hm⟩ := k0; exact DataW.trod_lt m _ _ _ hm
 have hwk : Wok 30 d0 := fun b hb => by
  have := List.all_eq_true.1 hsz b (DataW.weights_mem_each (j := 0) rfl rfl b hb)
  simpa using this
 obtain ⟨P, D, rfl, hR⟩ := open_JScr (hval 0 30 v0 rfl rfl) h0 hwk
 clear hA0 hval0 hsz0
 refine (law_WorkerWanted P D W hR).mono fun e W' ⟨he, bel⟩ => ?_
 subst he
 exact ⟨_, rfl, _, _, _, [], _, [], hW', trodAll_mk1 (shut_bool Tryz.underlying4 _), (trodAll_cons_mk (Below.trod workerWanted_laidOut (by kernel_rfl) (of_decide_eq_true (by kernel_rfl)) k0 bel lt0) trodAll_mk0), rfl, bel.frame _, fun h => by cases h⟩
theorem workerWanted_over : Rows.workerWantedRow.holds Tryz.pinned (OpenSpec.ofChange Rows.workerWantedSpec) :=
 OpenClaim.holds_of_wide 12 Tryz.f12 rfl rfl rfl rfl rfl rfl rfl ⟨rfl, rfl, rfl, rfl, rfl⟩ rfl rfl rfl rfl rfl (by kernel_rfl) Tryz.func12 (by kernel_rfl)
  (of_decide_eq_true (by kernel_rfl)) (by unfold Func.isWrapper; first | (rw [if_pos (by decide +kernel)]; kernel_rfl) | (rw [if_neg (by decide +kernel)]; exact ⟨rfl, rfl⟩))
  (fun os started H enc _ => workerWanted_lifted os started H enc)
/-- The statement. -/
theorem workerWanted_proved : Rows.WorkerWantedSaid := workerWanted_over
#print axioms workerWanted_proved
end Go.Proofs.YtgfakefcmbpboaaGreat
