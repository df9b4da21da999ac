/- WorkerGiven: the statement: whatever argument is given, WorkerGiven returns true and changes nothing. No conditions. -/
import Derived.Test.YtgfakefcmbpboaaGreatSuWgt
import Derived.Lib.Bytealg
import Derived.Deep.Cut
import Derived.Deep.CutRange
import Derived.ChangeArms
import Derived.SizedLaws
import Derived.Deep.RegionLaw
import Derived.Deep.RegionWith
import Derived.Deep.RegionHeld3
namespace Go.Proofs.YtgfakefcmbpboaaGreat
set_option linter.all false
set_option maxRecDepth 100000

section
open Go.RowKit
end
section
open Go.RowKit
end
section
open Go.RowKit
end
section
open Go.RowKit
end
section
open Go.RowKit
end
section
open Go.RowKit
end
section
open Go.RowKit
end
section
open Go.RowKit
theorem wp_app_runR {P : Program} (w : World) {o : Oper} {a : Act} {K : Act → World → Prop} {Q : Exit → Act → World → Prop} (s x : Operand) (t t' : TypeId)
  (ho : o.op = .call { callee := .builtin .append, args := #[s, x], argTypes := #[t, t'] }) (v u : Value) (hs : a.eval s = v) (hx : a.eval x = u) {v' : Value} {w' : World}
  (hr : (Builtin.append_ #[t, t'] o.type #[v, u]).run P w = .ok v' w') (h : K (a.put o.dst v') w') : o.wp P a w K Q := Lib.wp_append_run w s x t t' ho v u hs hx v' w' hr h
theorem step_app_runR {P : Program} {ops : Array Oper} {o : Oper} {a : Act} {w : World} {K : Act → World → Prop} {Q : Exit → Act → World → Prop} {E : Prop}
  (hg : o.guard = none) (s x : Operand) (t t' : TypeId) (hop : o.op = Op.call { callee := Callee.builtin Builtin.append, args := #[s, x], argTypes := #[t, t'] })
  (v u : Value) (hd : a.eval s = v) (hx : a.eval x = u) {v' : Value} {w' : World} (hr : (Builtin.append_ #[t, t'] o.type #[v, u]).run P w = .ok v' w') (hK : K (a.put o.dst v') w') :
  if Region.wanted o (yielded ops a.tmps) = true then Oper.wp P o a w K Q else E := by
 have hw : Region.wanted o (yielded ops a.tmps) = true := by simp [Region.wanted, hg]
 rw [if_pos hw]
 exact wp_app_runR w s x t t' hop v u hd hx hr hK
end
section
open Go.RowKit
end
section
open Go.RowKit
end
section
open Go.RowKit
variable {tb : TypeId} {rs : List Value}
end
section

section
variable {α K : Type} [Inhabited α] {f : α → K} {lt : K → K → Bool}
theorem cnt_take (p : α → Bool) : ∀ (l : List α), ∀ x ∈ l.take (cnt p l), p x = true
 | [], x, h => by simp at h
 | y :: l, x, h => by
  unfold cnt at h
  split at h
  ·next hy =>
   rw [List.take_succ_cons, List.mem_cons] at h
   rcases h with rfl | h
   ·exact hy
   ·exact cnt_take p l x h
  ·simp at h
theorem cnt_stop (p : α → Bool) : ∀ (l : List α), cnt p l < l.length → p (l.getD (cnt p l) default) = false
 | [], h => by simp at h
 | y :: l, h => by
  unfold cnt at h ⊢
  split
  ·next hy =>
   rw [if_pos hy] at h
   exact cnt_stop p l (by simpa using h)
  ·next hy => simpa using hy
end
end
section
open Go.RowKit
end
section
open Go.RowKit Go.ChangeShapes Go.WideShapes Go.ChangeAt
section
variable {H : Type} {enc : TypeId × Value → H} {w : World} {base : Nat} {spare : Nat → Bool} {held : Bool}
end
end
section
open Go.RowKit
end
section
open Go.RowKit
end
section
open Go.RowKit
end
section
end
section
open Go.RowKit
end
section
open Go.RowKit
end
section
open Go.RowKit
variable {tb : TypeId} {rs : List Value}

end
section
open Go.RowKit
end

section
open Go.RowKit
end
section
open Go.RowKit Go.ChangeShapes Go.WideShapes Go.ChangeAt
section
variable {H : Type} {enc : TypeId × Value → H} {w : World} {base : Nat} {spare : Nat → Bool} {held : Bool}
end
end
section
open Go.RowKit
end
section
open Go.RowKit
end
section
open Go.RowKit
end
section
open Go.RowKit
theorem khasH_iff {l : List HeldD} (hs : SortedH l) {key : Int} : khasH l key = true ↔ ∃ j, j < l.length ∧ (hth l j).di = key := by
 constructor
 ·intro h; exact ⟨_, (dec_iff.1 h)⟩
 ·rintro ⟨j, hj, e⟩
  refine dec_iff.2 ?_
  have hpos : kposH l key = j := cnt_eq _ l j (by omega) (fun t ht => by have := hs t j ht hj; rw [e] at this; exact this) (fun _ => by show ltI (hth l j).di key = false; rw [e]; simp [ltI])
  rw [hpos]; exact ⟨hj, e⟩
end
open Go.RowKit

theorem ref0_Dig (d : Int) (y : Bool) (w : World) (hy : digS d = y) : Calls Tryz.prog 36 #[.int .i64 d] w fun e w' => e = .returned (.bool y) ∧ w = w' :=
 (ref0_Digest d w).mono fun e w' ⟨h1, h2⟩ => ⟨by rw [h1, hy], h2⟩
open Go.RowKit

def holdD (D : WorkD) (d : Int) (b : BatchD) : WorkD := { D with he := insAt D.he (kposH D.he d) ⟨d, b⟩ }
open Go.RowKit

noncomputable def onlyEnd : Code := cAfter 3 (Tryz.f130.body.getD .skip)
set_option maxHeartbeats 8000000 in
theorem only_tail {K : Act → World → Prop} (N : Nat) (v0 v1 v2 v3 v4 v5 v6 v7 v8 v9 v10 v11 v12 v13 v14 v15 v16 v17 : Value) (y : Bool) (w V : World) (h1 : ∀ u ∈ [v0, v1, v2, v3, v4, v5, v6, v7, v8, v9, v10, v11, v12, v13, v14, v15, v16, v17], u.oneCell' = true) {u0 u1 u2 u3 u6 u7 u8 u9 u10 u11 u12 u13 u14 u15 u16 u17 u18 u19 u20 u21 u22 u23 u24 u25 u26 u27 u28 u29 u30 u31 u32 u33 u34 u35 u36 u37 u38 u39 u40 u41 u42 u43 u44 u45 u46 u47 u48 u49 u50 u51 u52 u53 u54 u55 u56 u57 u58 u59 u60 u61 u62 u63 u64 u65 u66 u67 u68 u69 u70 u71 u72 u73 u74 u75 u76 u77 u78 u79 u80 u81 u82 u83 u84 u85 u86 u87 u88 u89 u90 u91 u92 u93 u94 u95 u96 u97 u98 u99 u100 u101 u102 u103 u104 : Value}
  (hK : ∀ a' w', Code.wp Tryz.prog (cSnd onlyEnd) (bodyPost Tryz.prog Tryz.f130 (fun e w' => e = .returned (.tuple #[.agg #[v0, v1, v2, v3, v4, v5, v6, v7, v8, v9, v10, v11, v12, v13, v14, v15, v16, v17], .bool y]) ∧ Below w.heap.size w w')) a' w' → K a' w') (hN : w.heap.size ≤ N) (hb2 : Below w.heap.size w V) (hX : Blk V N 49 [v0, v1, v2, v3, v4, v5, v6, v7, v8, v9, v10, v11, v12, v13, v14, v15, v16, v17]) :
  Code.wp Tryz.prog (cFst onlyEnd) (Exit.then K (bodyPost Tryz.prog Tryz.f130 (fun e w' => e = .returned (.tuple #[.agg #[v0, v1, v2, v3, v4, v5, v6, v7, v8, v9, v10, v11, v12, v13, v14, v15, v16, v17], .bool y]) ∧ Below w.heap.size w w'))) { tmps := #[u0, u1, u2, u3, .pointer (some ⟨N, 0, none⟩), .bool y, u6, u7, u8, u9, u10, u11, u12, u13, u14, u15, u16, u17, u18, u19, u20, u21, u22, u23, u24, u25, u26, u27, u28, u29, u30, u31, u32, u33, u34, u35, u36, u37, u38, u39, u40, u41, u42, u43, u44, u45, u46, u47, u48, u49, u50, u51, u52, u53, u54, u55, u56, u57, u58, u59, u60, u61, u62, u63, u64, u65, u66, u67, u68, u69, u70, u71, u72, u73, u74, u75, u76, u77, u78, u79, u80, u81, u82, u83, u84, u85, u86, u87, u88, u89, u90, u91, u92, u93, u94, u95, u96, u97, u98, u99, u100, u101, u102, u103, u104], defers := [] } V := by
 have HVX := ħ hX
 have HK := ħ hK
 clear hX hK
 dsimp only [onlyEnd, cAfter, cSnd, cFst, Tryz.f130, Option.getD]
 refine wp_region_list ?_
 simp only [List.toList_toArray]
 refine wpList_load_mid rfl 49 _ rfl N 0 (by simp [Act.eval, Act.put]) [v0, v1, v2, v3, v4, v5, v6, v7, v8, v9, v10, v11, v12, v13, v14, v15, v16, v17] _ HVX.out.rng Tryz.underlying49 (by rfl) (by kernel_rfl) ?_
 (try simp only [lz])
 refine wpList_plain rfl (fun K hK => ?_)
 go_simp
 refine hK _ _ ?_
 clear hK K
 (try simp only [lz])
 refine wpList_store_mid rfl 49 _ _ rfl N 0 ([v0, v1, v2, v3, v4, v5, v6, v7, v8, v9, v10, v11, v12, v13, v14, v15, v16, v17]).toArray (by simp [Act.eval, Act.put]) (by simp [Act.eval, Act.put]) HVX.out.thr (by kernel_rfl) (all_oneCell_toArray h1) ?_
 (try simp only [lz])
 refine wpList_plain rfl (fun K hK => ?_)
 go_simp
 refine hK _ _ ?_
 clear hK K
 (try simp only [lz])
 refine wpList_nil ?_
 have hrg : (V.setCells N 0 [v0, v1, v2, v3, v4, v5, v6, v7, v8, v9, v10, v11, v12, v13, v14, v15, v16, v17]).rangeAt N 0 [v0, v1, v2, v3, v4, v5, v6, v7, v8, v9, v10, v11, v12, v13, v14, v15, v16, v17] := World.rangeAt_setCells_same V N 0 [v0, v1, v2, v3, v4, v5, v6, v7, v8, v9, v10, v11, v12, v13, v14, v15, v16, v17] HVX.out.thr
 have hb3 : Below w.heap.size w (V.setCells N 0 [v0, v1, v2, v3, v4, v5, v6, v7, v8, v9, v10, v11, v12, v13, v14, v15, v16, v17]) := bel_setCells (by omega) _ _ _ hb2
 try simp only [List.toList_toArray]
 obtain ⟨U, hU⟩ : ∃ U, U = V.setCells N 0 [v0, v1, v2, v3, v4, v5, v6, v7, v8, v9, v10, v11, v12, v13, v14, v15, v16, v17] := ⟨_, rfl⟩
 rw [← hU] at hrg hb3 ⊢
 clear hU HVX hb2 h1
 show K _ _
 apply HK.out
 clear HK
 dsimp only [onlyEnd, cAfter, cSnd, cFst, Tryz.f130, Option.getD]

 have c0 : U.cell? ⟨N, 0, none⟩ = _ := hrg 0 _ rfl
 have c1 : U.cell? ⟨N, 1, none⟩ = _ := hrg 1 _ rfl
 have c2 : U.cell? ⟨N, 2, none⟩ = _ := hrg 2 _ rfl
 have c3 : U.cell? ⟨N, 3, none⟩ = _ := hrg 3 _ rfl
 have c4 : U.cell? ⟨N, 4, none⟩ = _ := hrg 4 _ rfl
 have c5 : U.cell? ⟨N, 5, none⟩ = _ := hrg 5 _ rfl
 have c6 : U.cell? ⟨N, 6, none⟩ = _ := hrg 6 _ rfl
 have c7 : U.cell? ⟨N, 7, none⟩ = _ := hrg 7 _ rfl
 have c8 : U.cell? ⟨N, 8, none⟩ = _ := hrg 8 _ rfl
 have c9 : U.cell? ⟨N, 9, none⟩ = _ := hrg 9 _ rfl
 have c10 : U.cell? ⟨N, 10, none⟩ = _ := hrg 10 _ rfl
 have c11 : U.cell? ⟨N, 11, none⟩ = _ := hrg 11 _ rfl
 have c12 : U.cell? ⟨N, 12, none⟩ = _ := hrg 12 _ rfl
 have c13 : U.cell? ⟨N, 13, none⟩ = _ := hrg 13 _ rfl
 have c14 : U.cell? ⟨N, 14, none⟩ = _ := hrg 14 _ rfl
 have c15 : U.cell? ⟨N, 15, none⟩ = _ := hrg 15 _ rfl
 have c16 : U.cell? ⟨N, 16, none⟩ = _ := hrg 16 _ rfl
 have c17 : U.cell? ⟨N, 17, none⟩ = _ := hrg 17 _ rfl
 go_wp2_with fail
 exact bodyPost_ret (v := .tuple #[.agg #[v0, v1, v2, v3, v4, v5, v6, v7, v8, v9, v10, v11, v12, v13, v14, v15, v16, v17], .bool y]) (by simp [results, Tryz.results130, go_sem, c0, c1, c2, c3, c4, c5, c6, c7, c8, c9, c10, c11, c12, c13, c14, c15, c16, c17]) rfl ⟨rfl, hb3⟩
open Go.RowKit

set_option maxHeartbeats 8000000 in
theorem message_only1 (P : MsgP) (M : MsgD) (n : Int) (y : Bool) (w : World) (hk : M.ki = 1) (hd : TxsR w P.b.A P.b.n M.b.tx) (hy : dec (digS M.di = true ∧ bmT M.b = true ∧ M.b.au ≤ n) = y) :
  Calls Tryz.prog 130 #[M18 P M, .int .i64 n] w fun e w' => e = .returned (.tuple #[M18 ⟨P.b, ⟨⟨none, 0, 0⟩, ⟨none, 0, 0⟩⟩, ⟨⟨⟨none, 0, 0⟩, ⟨none, 0, 0⟩⟩, ⟨none, 0, 0⟩⟩, ⟨none, 0, 0⟩⟩ ⟨M.ki, M.fr, M.tt, M.di, M.b, hea0, cer0, []⟩, .bool y]) ∧ Below w.heap.size w w' := by
 obtain ⟨⟨bA, bn, bc⟩, ⟨⟨xA, xn, xc⟩, ⟨yA, yn, yc⟩⟩, ⟨⟨⟨cA, cn, cd⟩, ⟨dA, dn, dc⟩⟩, ⟨sA, sn, sc⟩⟩, ⟨eA, en, ec⟩⟩ := P
 obtain ⟨ki, fr, tt, di, b, hd, cc, ds⟩ := M
 dsimp only at hk hd hy
 subst hk
 obtain ⟨yd, hyd⟩ : ∃ z, digS di = z := ⟨_, rfl⟩
 obtain ⟨yb, hyb⟩ : ∃ z, bmT b = z := ⟨_, rfl⟩
 have HDI := ħ hyd
 have HBI := ħ hyb
 rw [hyd, hyb] at hy
 have HY : Hid (y = (yd && yb && decide (b.au ≤ n))) := ħ (by rw [← hy]; rw [Bool.eq_iff_iff, dec_iff]; simp [and_assoc])
 have HD := ħ hd
 clear hy hyd hyb hd
 show Calls Tryz.prog 130 #[.agg #[.int .i64 1, .int .i64 fr, .int .i64 tt, .int .i64 di, .int .i64 b.au, .int .i64 b.n, .slice bA bn bc, .int .i64 hd.au, .int .i64 hd.ro, .slice xA xn xc, .slice yA yn yc, .int .i64 cc.h.au, .int .i64 cc.h.ro, .slice cA cn cd, .slice dA dn dc, .int .i64 cc.di, .slice sA sn sc, .slice eA en ec], .int .i64 n] w fun e w' => e = .returned (.tuple #[.agg #[.int .i64 1, .int .i64 fr, .int .i64 tt, .int .i64 di, .int .i64 b.au, .int .i64 b.n, .slice bA bn bc, .int .i64 0, .int .i64 0, .slice none 0 0, .slice none 0 0, .int .i64 0, .int .i64 0, .slice none 0 0, .slice none 0 0, .int .i64 0, .slice none 0 0, .slice none 0 0], .bool y]) ∧ Below w.heap.size w w'
 go_enter Tryz.func130, Tryz.ntmps130
 go_upto_region 2 with fail
 refine wp_world (fun W hW => ?_)
 have HBM : Hid (Blk W w.heap.size 49 [.int .i64 1, .int .i64 fr, .int .i64 tt, .int .i64 di, .int .i64 b.au, .int .i64 b.n, .slice bA bn bc, .int .i64 hd.au, .int .i64 hd.ro, .slice xA xn xc, .slice yA yn yc, .int .i64 cc.h.au, .int .i64 cc.h.ro, .slice cA cn cd, .slice dA dn dc, .int .i64 cc.di, .slice sA sn sc, .slice eA en ec]) := ħ (by rw [hW]; exact (Blk.new w 49 [.int .i64 1, .int .i64 fr, .int .i64 tt, .int .i64 di, .int .i64 b.au, .int .i64 b.n, .slice bA bn bc, .int .i64 hd.au, .int .i64 hd.ro, .slice xA xn xc, .slice yA yn yc, .int .i64 cc.h.au, .int .i64 cc.h.ro, .slice cA cn cd, .slice dA dn dc, .int .i64 cc.di, .slice sA sn sc, .slice eA en ec]).up (bel_alloc (Below.refl _ _)))
 have HBX : Hid (Blk W (w.heap.size + 1) 49 [.int .i64 1, .int .i64 fr, .int .i64 tt, .int .i64 0, .int .i64 0, .int .i64 0, .slice none 0 0, .int .i64 0, .int .i64 0, .slice none 0 0, .slice none 0 0, .int .i64 0, .int .i64 0, .slice none 0 0, .slice none 0 0, .int .i64 0, .slice none 0 0, .slice none 0 0]) := ħ (by rw [hW]; exact Blk.new1 w 49 49 [.int .i64 1, .int .i64 fr, .int .i64 tt, .int .i64 di, .int .i64 b.au, .int .i64 b.n, .slice bA bn bc, .int .i64 hd.au, .int .i64 hd.ro, .slice xA xn xc, .slice yA yn yc, .int .i64 cc.h.au, .int .i64 cc.h.ro, .slice cA cn cd, .slice dA dn dc, .int .i64 cc.di, .slice sA sn sc, .slice eA en ec] [.int .i64 1, .int .i64 fr, .int .i64 tt, .int .i64 0, .int .i64 0, .int .i64 0, .slice none 0 0, .int .i64 0, .int .i64 0, .slice none 0 0, .slice none 0 0, .int .i64 0, .int .i64 0, .slice none 0 0, .slice none 0 0, .int .i64 0, .slice none 0 0, .slice none 0 0])
 have hb0 : Below w.heap.size w W := by rw [hW]; exact bel_alloc (bel_alloc (Below.refl _ _))
 clear hW
 have hsz : w.heap.size + 1 < W.heap.size := HBX.out.lt
 have m0 := HBM.out.box.2 0 _ rfl
 go_upto_region 5 with fail
 clear m0
 obtain ⟨S, hSd⟩ : ∃ S : World → Prop, S = fun Q => Q.rangeAt w.heap.size 3 [.int .i64 di, .int .i64 b.au, .int .i64 b.n, .slice bA bn bc] := ⟨_, rfl⟩
 have hS1 : ∀ Q, S Q → Q.cell? ⟨w.heap.size, 3, none⟩ = some (.int .i64 di) := fun Q h => by rw [hSd] at h; exact h 0 _ rfl
 have hS2 : ∀ Q, S Q → Q.rangeAt w.heap.size 4 [.int .i64 b.au, .int .i64 b.n, .slice bA bn bc] := fun Q h => by rw [hSd] at h; exact fun j v hv => by have := h (j + 1) v (by simpa using hv); rwa [show 3 + (j + 1) = 4 + j by omega] at this
 have hS4 : ∀ Q o u, S Q → S (Q.setCell ⟨w.heap.size + 1, o, none⟩ u) := fun Q o u h => by rw [hSd] at h ⊢; exact fun j v hv => (World.cell?_setCell_other _ _ _ _ (by intro e; simp only [Addr.mk.injEq] at e; omega)).trans (h j v hv)
 have hZ0 : S W.drew := by rw [hSd]; exact fun j v hv => by have := HBM.out.box.2 (3 + j) v (by match j, hv with | 0, hv => exact hv | 1, hv => exact hv | 2, hv => exact hv | 3, hv => exact hv); simpa using this
 clear hSd
 refine wp_region_held_drew (S := S) (by kernel_rfl) hZ0 (fun hHeld => ?_)
 have hbz : Below w.heap.size w W.drew := bel_drew hb0
 have HZX : Hid (Blk W.drew (w.heap.size + 1) 49 [.int .i64 1, .int .i64 fr, .int .i64 tt, .int .i64 0, .int .i64 0, .int .i64 0, .slice none 0 0, .int .i64 0, .int .i64 0, .slice none 0 0, .slice none 0 0, .int .i64 0, .int .i64 0, .slice none 0 0, .slice none 0 0, .int .i64 0, .slice none 0 0, .slice none 0 0]) := ħ (HBX.out.up (bel_drew (Below.refl _ _)))
 have HZM : Hid (Blk W.drew w.heap.size 49 [.int .i64 1, .int .i64 fr, .int .i64 tt, .int .i64 di, .int .i64 b.au, .int .i64 b.n, .slice bA bn bc, .int .i64 hd.au, .int .i64 hd.ro, .slice xA xn xc, .slice yA yn yc, .int .i64 cc.h.au, .int .i64 cc.h.ro, .slice cA cn cd, .slice dA dn dc, .int .i64 cc.di, .slice sA sn sc, .slice eA en ec]) := ħ (HBM.out.up (bel_drew (Below.refl _ _)))
 generalize W.drew = Z at *
 clear hsz hb0 HBM HBX
 (refine wpAnyH_tk 0 (some 18) (v := ?_) rfl rfl ?_ ?_; rotate_left; (focus (intro wq hSw; clear hSw; go_simp; all_goals (with_reducible rfl))); simp only [lz])
 (refine wpAnyH_tk 1 (some 19) (v := ?_) rfl rfl ?_ ?_; rotate_left; (focus (intro wq hSw; have q1 := hS1 wq hSw; clear hSw; go_simp; all_goals (with_reducible rfl))); simp only [lz])
 (refine wpAnyH_tk 2 (some 20) (v := ?_) rfl rfl ?_ ?_; rotate_left; (focus (intro wq hSw; clear hSw; go_simp; all_goals (with_reducible rfl))); simp only [lz])
 refine wpAnyH_takeD (i := 3) (d := (some 21)) (v := .agg ([.int .i64 b.au, .int .i64 b.n, .slice bA bn bc]).toArray) rfl rfl (by kernel_rfl) (by kernel_rfl) (by kernel_rfl) (fun _ _ _ h => h) (yieldsIf_load_mid (by rfl) 43 _ rfl w.heap.size 4 (by simp [Act.eval, Act.put]) ([.int .i64 b.au, .int .i64 b.n, .slice bA bn bc]) _ (hS2) Tryz.underlying43 (by rfl) (by kernel_rfl)) (by assumption) ?_
 simp only [lz]
 (refine wpAnyH_tk 4 (some 22) (v := ?_) rfl rfl ?_ ?_; rotate_left; (focus (intro wq hSw; clear hSw; go_simp; all_goals (with_reducible rfl))); simp only [lz])
 refine rd1 5 rfl fun K hK => ?_
 have qf := HZX.out.frozen 3
 have q3 := HZX.out.box.2 3 _ rfl
 have ql := HZX.out.lt
 go_simp
 clear qf q3 ql
 have HX0 := ħ (HZX.out.set_ 3 (.int .i64 di))
 have HM0 := ħ (HZM.out.far (p := ⟨w.heap.size + 1, 3, none⟩) (by show w.heap.size ≠ w.heap.size + 1; omega) (.int .i64 di))
 have hb0 := hbz.setCell (p := ⟨w.heap.size + 1, 3, none⟩) (by show _ ≤ w.heap.size + 1; omega) (.int .i64 di)
 have hs0 := hS4 _ 3 (.int .i64 di) hHeld
 refine hK.out _ _ (hs0) (fun hHeld => ?_)
 clear hK K
 (try simp only [lz])
 (refine wpAnyH_tk 6 (some 23) (v := ?_) rfl rfl ?_ ?_; rotate_left; (focus (intro wq hSw; clear hSw; go_simp; all_goals (with_reducible rfl))); simp only [lz])
 refine rd1 7 rfl fun K hK => ?_
 have ql := HX0.out.lt
 have qf4 := HX0.out.frozen 4
 have q4 := HX0.out.box.2 4 _ rfl
 have qf5 := HX0.out.frozen 5
 have q5 := HX0.out.box.2 5 _ rfl
 have qf6 := HX0.out.frozen 6
 have q6 := HX0.out.box.2 6 _ rfl
 go_simp
 clear ql qf4 q4 qf5 q5 qf6 q6
 have HX1 := ħ ((((HX0.out).set_ 4 (.int .i64 b.au)).set_ 5 (.int .i64 b.n)).set_ 6 (.slice bA bn bc))
 have HM1 := ħ ((((HM0.out).far (p := ⟨w.heap.size + 1, 4, none⟩) (by show w.heap.size ≠ w.heap.size + 1; omega) (.int .i64 b.au)).far (p := ⟨w.heap.size + 1, 5, none⟩) (by show w.heap.size ≠ w.heap.size + 1; omega) (.int .i64 b.n)).far (p := ⟨w.heap.size + 1, 6, none⟩) (by show w.heap.size ≠ w.heap.size + 1; omega) (.slice bA bn bc))
 have hb1 := (((hb0).setCell (p := ⟨w.heap.size + 1, 4, none⟩) (by show _ ≤ w.heap.size + 1; omega) (.int .i64 b.au)).setCell (p := ⟨w.heap.size + 1, 5, none⟩) (by show _ ≤ w.heap.size + 1; omega) (.int .i64 b.n)).setCell (p := ⟨w.heap.size + 1, 6, none⟩) (by show _ ≤ w.heap.size + 1; omega) (.slice bA bn bc)
 have hs1 := hS4 _ 6 (.slice bA bn bc) (hS4 _ 5 (.int .i64 b.n) (hS4 _ 4 (.int .i64 b.au) (hs0)))
 refine hK.out _ _ (hs1) (fun hHeld => ?_)
 clear hK K
 (try simp only [lz])
 refine wpAnyH_done (by kernel_rfl) ?_ _
 have HVX : Hid (Blk _ (w.heap.size + 1) 49 [.int .i64 1, .int .i64 fr, .int .i64 tt, .int .i64 di, .int .i64 b.au, .int .i64 b.n, .slice bA bn bc, .int .i64 0, .int .i64 0, .slice none 0 0, .slice none 0 0, .int .i64 0, .int .i64 0, .slice none 0 0, .slice none 0 0, .int .i64 0, .slice none 0 0, .slice none 0 0]) := HX1
 have HVM := HM1
 have hb2 := hb1
 refine wp_world (fun V hV => ?_)
 rw [← hV] at HVX HVM hb2
 clear hHeld hV HZX HZM hbz hZ0 HX1 HM1 hb1 hs1 HX0 HM0 hb0 hs0
 have m3 := HVM.out.box.2 3 _ rfl
 have m4 := HVM.out.box.2 4 _ rfl
 have m5 := HVM.out.box.2 5 _ rfl
 have m6 := HVM.out.box.2 6 _ rfl
 cases yd
 ·obtain rfl : y = false := by rw [HY.out]; rfl
  clear HY
  go_upto_region 21 with (go_at_call 110; (with_reducible refine (comm_Digest di false _ HDI.out).mono ?_); rintro e w' ⟨rfl, rfl⟩)
  rename_i K hK
  exact only_tail (w.heap.size + 1) (.int .i64 1) (.int .i64 fr) (.int .i64 tt) (.int .i64 di) (.int .i64 b.au) (.int .i64 b.n) (.slice bA bn bc) (.int .i64 0) (.int .i64 0) (.slice none 0 0) (.slice none 0 0) (.int .i64 0) (.int .i64 0) (.slice none 0 0) (.slice none 0 0) (.int .i64 0) (.slice none 0 0) (.slice none 0 0) false w _ (by intro u hu; simp only [List.mem_cons, List.not_mem_nil, or_false] at hu; rcases hu with rfl | rfl | rfl | rfl | rfl | rfl | rfl | rfl | rfl | rfl | rfl | rfl | rfl | rfl | rfl | rfl | rfl | rfl <;> rfl) hK (by omega) (hb2) (HVX.out)
 ·cases yb
  ·obtain rfl : y = false := by rw [HY.out]; rfl
   clear HY
   go_upto_region 21 with (first | (go_at_call 110; (with_reducible refine (comm_Digest di true _ HDI.out).mono ?_); rintro e w' ⟨rfl, rfl⟩) | (go_at_call 112; (with_reducible refine (batch_May b bA bn bc false _ (HD.out.up hb2) HBI.out).mono ?_); rintro e w7 ⟨rfl, hb7⟩; have m4 := (hb7.cell (p := ⟨w.heap.size, 4, none⟩) (HVM.out.lt)).trans m4))
   rename_i K hK
   exact only_tail (w.heap.size + 1) (.int .i64 1) (.int .i64 fr) (.int .i64 tt) (.int .i64 di) (.int .i64 b.au) (.int .i64 b.n) (.slice bA bn bc) (.int .i64 0) (.int .i64 0) (.slice none 0 0) (.slice none 0 0) (.int .i64 0) (.int .i64 0) (.slice none 0 0) (.slice none 0 0) (.int .i64 0) (.slice none 0 0) (.slice none 0 0) false w _ (by intro u hu; simp only [List.mem_cons, List.not_mem_nil, or_false] at hu; rcases hu with rfl | rfl | rfl | rfl | rfl | rfl | rfl | rfl | rfl | rfl | rfl | rfl | rfl | rfl | rfl | rfl | rfl | rfl <;> rfl) hK (by omega) (bel_trans hb2 hb7) (HVX.out.up hb7)
  ·by_cases hau : b.au ≤ n
   ·obtain rfl : y = true := by rw [HY.out]; simp [hau]
    have da : decide (b.au ≤ n) = true := decide_eq_true hau
    clear HY
    go_upto_region 21 with (first | (go_at_call 110; (with_reducible refine (comm_Digest di true _ HDI.out).mono ?_); rintro e w' ⟨rfl, rfl⟩) | (go_at_call 112; (with_reducible refine (batch_May b bA bn bc true _ (HD.out.up hb2) HBI.out).mono ?_); rintro e w7 ⟨rfl, hb7⟩; have m4 := (hb7.cell (p := ⟨w.heap.size, 4, none⟩) (HVM.out.lt)).trans m4))
    rename_i K hK
    exact only_tail (w.heap.size + 1) (.int .i64 1) (.int .i64 fr) (.int .i64 tt) (.int .i64 di) (.int .i64 b.au) (.int .i64 b.n) (.slice bA bn bc) (.int .i64 0) (.int .i64 0) (.slice none 0 0) (.slice none 0 0) (.int .i64 0) (.int .i64 0) (.slice none 0 0) (.slice none 0 0) (.int .i64 0) (.slice none 0 0) (.slice none 0 0) true w _ (by intro u hu; simp only [List.mem_cons, List.not_mem_nil, or_false] at hu; rcases hu with rfl | rfl | rfl | rfl | rfl | rfl | rfl | rfl | rfl | rfl | rfl | rfl | rfl | rfl | rfl | rfl | rfl | rfl <;> rfl) hK (by omega) (bel_trans hb2 hb7) (HVX.out.up hb7)
   ·obtain rfl : y = false := by rw [HY.out]; simp [hau]
    have da : decide (b.au ≤ n) = false := decide_eq_false hau
    clear HY
    go_upto_region 21 with (first | (go_at_call 110; (with_reducible refine (comm_Digest di true _ HDI.out).mono ?_); rintro e w' ⟨rfl, rfl⟩) | (go_at_call 112; (with_reducible refine (batch_May b bA bn bc true _ (HD.out.up hb2) HBI.out).mono ?_); rintro e w7 ⟨rfl, hb7⟩; have m4 := (hb7.cell (p := ⟨w.heap.size, 4, none⟩) (HVM.out.lt)).trans m4))
    rename_i K hK
    exact only_tail (w.heap.size + 1) (.int .i64 1) (.int .i64 fr) (.int .i64 tt) (.int .i64 di) (.int .i64 b.au) (.int .i64 b.n) (.slice bA bn bc) (.int .i64 0) (.int .i64 0) (.slice none 0 0) (.slice none 0 0) (.int .i64 0) (.int .i64 0) (.slice none 0 0) (.slice none 0 0) (.int .i64 0) (.slice none 0 0) (.slice none 0 0) false w _ (by intro u hu; simp only [List.mem_cons, List.not_mem_nil, or_false] at hu; rcases hu with rfl | rfl | rfl | rfl | rfl | rfl | rfl | rfl | rfl | rfl | rfl | rfl | rfl | rfl | rfl | rfl | rfl | rfl <;> rfl) hK (by omega) (bel_trans hb2 hb7) (HVX.out.up hb7)

set_option maxHeartbeats 8000000 in
theorem message_only3 (P : MsgP) (M : MsgD) (n : Int) (y : Bool) (w : World) (hk : M.ki = 3) (hd : TxsR w P.b.A P.b.n M.b.tx) (hy : dec (digS M.di = true ∧ bmT M.b = true ∧ M.b.au ≤ n) = y) :
  Calls Tryz.prog 130 #[M18 P M, .int .i64 n] w fun e w' => e = .returned (.tuple #[M18 ⟨P.b, ⟨⟨none, 0, 0⟩, ⟨none, 0, 0⟩⟩, ⟨⟨⟨none, 0, 0⟩, ⟨none, 0, 0⟩⟩, ⟨none, 0, 0⟩⟩, ⟨none, 0, 0⟩⟩ ⟨M.ki, M.fr, M.tt, M.di, M.b, hea0, cer0, []⟩, .bool y]) ∧ Below w.heap.size w w' := by
 obtain ⟨⟨bA, bn, bc⟩, ⟨⟨xA, xn, xc⟩, ⟨yA, yn, yc⟩⟩, ⟨⟨⟨cA, cn, cd⟩, ⟨dA, dn, dc⟩⟩, ⟨sA, sn, sc⟩⟩, ⟨eA, en, ec⟩⟩ := P
 obtain ⟨ki, fr, tt, di, b, hd, cc, ds⟩ := M
 dsimp only at hk hd hy
 subst hk
 obtain ⟨yd, hyd⟩ : ∃ z, digS di = z := ⟨_, rfl⟩
 obtain ⟨yb, hyb⟩ : ∃ z, bmT b = z := ⟨_, rfl⟩
 have HDI := ħ hyd
 have HBI := ħ hyb
 rw [hyd, hyb] at hy
 have HY : Hid (y = (yd && yb && decide (b.au ≤ n))) := ħ (by rw [← hy]; rw [Bool.eq_iff_iff, dec_iff]; simp [and_assoc])
 have HD := ħ hd
 clear hy hyd hyb hd
 show Calls Tryz.prog 130 #[.agg #[.int .i64 3, .int .i64 fr, .int .i64 tt, .int .i64 di, .int .i64 b.au, .int .i64 b.n, .slice bA bn bc, .int .i64 hd.au, .int .i64 hd.ro, .slice xA xn xc, .slice yA yn yc, .int .i64 cc.h.au, .int .i64 cc.h.ro, .slice cA cn cd, .slice dA dn dc, .int .i64 cc.di, .slice sA sn sc, .slice eA en ec], .int .i64 n] w fun e w' => e = .returned (.tuple #[.agg #[.int .i64 3, .int .i64 fr, .int .i64 tt, .int .i64 di, .int .i64 b.au, .int .i64 b.n, .slice bA bn bc, .int .i64 0, .int .i64 0, .slice none 0 0, .slice none 0 0, .int .i64 0, .int .i64 0, .slice none 0 0, .slice none 0 0, .int .i64 0, .slice none 0 0, .slice none 0 0], .bool y]) ∧ Below w.heap.size w w'
 go_enter Tryz.func130, Tryz.ntmps130
 go_upto_region 2 with fail
 refine wp_world (fun W hW => ?_)
 have HBM : Hid (Blk W w.heap.size 49 [.int .i64 3, .int .i64 fr, .int .i64 tt, .int .i64 di, .int .i64 b.au, .int .i64 b.n, .slice bA bn bc, .int .i64 hd.au, .int .i64 hd.ro, .slice xA xn xc, .slice yA yn yc, .int .i64 cc.h.au, .int .i64 cc.h.ro, .slice cA cn cd, .slice dA dn dc, .int .i64 cc.di, .slice sA sn sc, .slice eA en ec]) := ħ (by rw [hW]; exact (Blk.new w 49 [.int .i64 3, .int .i64 fr, .int .i64 tt, .int .i64 di, .int .i64 b.au, .int .i64 b.n, .slice bA bn bc, .int .i64 hd.au, .int .i64 hd.ro, .slice xA xn xc, .slice yA yn yc, .int .i64 cc.h.au, .int .i64 cc.h.ro, .slice cA cn cd, .slice dA dn dc, .int .i64 cc.di, .slice sA sn sc, .slice eA en ec]).up (bel_alloc (Below.refl _ _)))
 have HBX : Hid (Blk W (w.heap.size + 1) 49 [.int .i64 3, .int .i64 fr, .int .i64 tt, .int .i64 0, .int .i64 0, .int .i64 0, .slice none 0 0, .int .i64 0, .int .i64 0, .slice none 0 0, .slice none 0 0, .int .i64 0, .int .i64 0, .slice none 0 0, .slice none 0 0, .int .i64 0, .slice none 0 0, .slice none 0 0]) := ħ (by rw [hW]; exact Blk.new1 w 49 49 [.int .i64 3, .int .i64 fr, .int .i64 tt, .int .i64 di, .int .i64 b.au, .int .i64 b.n, .slice bA bn bc, .int .i64 hd.au, .int .i64 hd.ro, .slice xA xn xc, .slice yA yn yc, .int .i64 cc.h.au, .int .i64 cc.h.ro, .slice cA cn cd, .slice dA dn dc, .int .i64 cc.di, .slice sA sn sc, .slice eA en ec] [.int .i64 3, .int .i64 fr, .int .i64 tt, .int .i64 0, .int .i64 0, .int .i64 0, .slice none 0 0, .int .i64 0, .int .i64 0, .slice none 0 0, .slice none 0 0, .int .i64 0, .int .i64 0, .slice none 0 0, .slice none 0 0, .int .i64 0, .slice none 0 0, .slice none 0 0])
 have hb0 : Below w.heap.size w W := by rw [hW]; exact bel_alloc (bel_alloc (Below.refl _ _))
 clear hW
 have hsz : w.heap.size + 1 < W.heap.size := HBX.out.lt
 have m0 := HBM.out.box.2 0 _ rfl
 go_upto_region 5 with fail
 clear m0
 obtain ⟨S, hSd⟩ : ∃ S : World → Prop, S = fun Q => Q.rangeAt w.heap.size 3 [.int .i64 di, .int .i64 b.au, .int .i64 b.n, .slice bA bn bc] := ⟨_, rfl⟩
 have hS1 : ∀ Q, S Q → Q.cell? ⟨w.heap.size, 3, none⟩ = some (.int .i64 di) := fun Q h => by rw [hSd] at h; exact h 0 _ rfl
 have hS2 : ∀ Q, S Q → Q.rangeAt w.heap.size 4 [.int .i64 b.au, .int .i64 b.n, .slice bA bn bc] := fun Q h => by rw [hSd] at h; exact fun j v hv => by have := h (j + 1) v (by simpa using hv); rwa [show 3 + (j + 1) = 4 + j by omega] at this
 have hS4 : ∀ Q o u, S Q → S (Q.setCell ⟨w.heap.size + 1, o, none⟩ u) := fun Q o u h => by rw [hSd] at h ⊢; exact fun j v hv => (World.cell?_setCell_other _ _ _ _ (by intro e; simp only [Addr.mk.injEq] at e; omega)).trans (h j v hv)
 have hZ0 : S W.drew := by rw [hSd]; exact fun j v hv => by have := HBM.out.box.2 (3 + j) v (by match j, hv with | 0, hv => exact hv | 1, hv => exact hv | 2, hv => exact hv | 3, hv => exact hv); simpa using this
 clear hSd
 refine wp_region_held_drew (S := S) (by kernel_rfl) hZ0 (fun hHeld => ?_)
 have hbz : Below w.heap.size w W.drew := bel_drew hb0
 have HZX : Hid (Blk W.drew (w.heap.size + 1) 49 [.int .i64 3, .int .i64 fr, .int .i64 tt, .int .i64 0, .int .i64 0, .int .i64 0, .slice none 0 0, .int .i64 0, .int .i64 0, .slice none 0 0, .slice none 0 0, .int .i64 0, .int .i64 0, .slice none 0 0, .slice none 0 0, .int .i64 0, .slice none 0 0, .slice none 0 0]) := ħ (HBX.out.up (bel_drew (Below.refl _ _)))
 have HZM : Hid (Blk W.drew w.heap.size 49 [.int .i64 3, .int .i64 fr, .int .i64 tt, .int .i64 di, .int .i64 b.au, .int .i64 b.n, .slice bA bn bc, .int .i64 hd.au, .int .i64 hd.ro, .slice xA xn xc, .slice yA yn yc, .int .i64 cc.h.au, .int .i64 cc.h.ro, .slice cA cn cd, .slice dA dn dc, .int .i64 cc.di, .slice sA sn sc, .slice eA en ec]) := ħ (HBM.out.up (bel_drew (Below.refl _ _)))
 generalize W.drew = Z at *
 clear hsz hb0 HBM HBX
 (refine wpAnyH_tk 0 (some 18) (v := ?_) rfl rfl ?_ ?_; rotate_left; (focus (intro wq hSw; clear hSw; go_simp; all_goals (with_reducible rfl))); simp only [lz])
 (refine wpAnyH_tk 1 (some 19) (v := ?_) rfl rfl ?_ ?_; rotate_left; (focus (intro wq hSw; have q1 := hS1 wq hSw; clear hSw; go_simp; all_goals (with_reducible rfl))); simp only [lz])
 (refine wpAnyH_tk 2 (some 20) (v := ?_) rfl rfl ?_ ?_; rotate_left; (focus (intro wq hSw; clear hSw; go_simp; all_goals (with_reducible rfl))); simp only [lz])
 refine wpAnyH_takeD (i := 3) (d := (some 21)) (v := .agg ([.int .i64 b.au, .int .i64 b.n, .slice bA bn bc]).toArray) rfl rfl (by kernel_rfl) (by kernel_rfl) (by kernel_rfl) (fun _ _ _ h => h) (yieldsIf_load_mid (by rfl) 43 _ rfl w.heap.size 4 (by simp [Act.eval, Act.put]) ([.int .i64 b.au, .int .i64 b.n, .slice bA bn bc]) _ (hS2) Tryz.underlying43 (by rfl) (by kernel_rfl)) (by assumption) ?_
 simp only [lz]
 (refine wpAnyH_tk 4 (some 22) (v := ?_) rfl rfl ?_ ?_; rotate_left; (focus (intro wq hSw; clear hSw; go_simp; all_goals (with_reducible rfl))); simp only [lz])
 refine rd1 5 rfl fun K hK => ?_
 have qf := HZX.out.frozen 3
 have q3 := HZX.out.box.2 3 _ rfl
 have ql := HZX.out.lt
 go_simp
 clear qf q3 ql
 have HX0 := ħ (HZX.out.set_ 3 (.int .i64 di))
 have HM0 := ħ (HZM.out.far (p := ⟨w.heap.size + 1, 3, none⟩) (by show w.heap.size ≠ w.heap.size + 1; omega) (.int .i64 di))
 have hb0 := hbz.setCell (p := ⟨w.heap.size + 1, 3, none⟩) (by show _ ≤ w.heap.size + 1; omega) (.int .i64 di)
 have hs0 := hS4 _ 3 (.int .i64 di) hHeld
 refine hK.out _ _ (hs0) (fun hHeld => ?_)
 clear hK K
 (try simp only [lz])
 (refine wpAnyH_tk 6 (some 23) (v := ?_) rfl rfl ?_ ?_; rotate_left; (focus (intro wq hSw; clear hSw; go_simp; all_goals (with_reducible rfl))); simp only [lz])
 refine rd1 7 rfl fun K hK => ?_
 have ql := HX0.out.lt
 have qf4 := HX0.out.frozen 4
 have q4 := HX0.out.box.2 4 _ rfl
 have qf5 := HX0.out.frozen 5
 have q5 := HX0.out.box.2 5 _ rfl
 have qf6 := HX0.out.frozen 6
 have q6 := HX0.out.box.2 6 _ rfl
 go_simp
 clear ql qf4 q4 qf5 q5 qf6 q6
 have HX1 := ħ ((((HX0.out).set_ 4 (.int .i64 b.au)).set_ 5 (.int .i64 b.n)).set_ 6 (.slice bA bn bc))
 have HM1 := ħ ((((HM0.out).far (p := ⟨w.heap.size + 1, 4, none⟩) (by show w.heap.size ≠ w.heap.size + 1; omega) (.int .i64 b.au)).far (p := ⟨w.heap.size + 1, 5, none⟩) (by show w.heap.size ≠ w.heap.size + 1; omega) (.int .i64 b.n)).far (p := ⟨w.heap.size + 1, 6, none⟩) (by show w.heap.size ≠ w.heap.size + 1; omega) (.slice bA bn bc))
 have hb1 := (((hb0).setCell (p := ⟨w.heap.size + 1, 4, none⟩) (by show _ ≤ w.heap.size + 1; omega) (.int .i64 b.au)).setCell (p := ⟨w.heap.size + 1, 5, none⟩) (by show _ ≤ w.heap.size + 1; omega) (.int .i64 b.n)).setCell (p := ⟨w.heap.size + 1, 6, none⟩) (by show _ ≤ w.heap.size + 1; omega) (.slice bA bn bc)
 have hs1 := hS4 _ 6 (.slice bA bn bc) (hS4 _ 5 (.int .i64 b.n) (hS4 _ 4 (.int .i64 b.au) (hs0)))
 refine hK.out _ _ (hs1) (fun hHeld => ?_)
 clear hK K
 (try simp only [lz])
 refine wpAnyH_done (by kernel_rfl) ?_ _
 have HVX : Hid (Blk _ (w.heap.size + 1) 49 [.int .i64 3, .int .i64 fr, .int .i64 tt, .int .i64 di, .int .i64 b.au, .int .i64 b.n, .slice bA bn bc, .int .i64 0, .int .i64 0, .slice none 0 0, .slice none 0 0, .int .i64 0, .int .i64 0, .slice none 0 0, .slice none 0 0, .int .i64 0, .slice none 0 0, .slice none 0 0]) := HX1
 have HVM := HM1
 have hb2 := hb1
 refine wp_world (fun V hV => ?_)
 rw [← hV] at HVX HVM hb2
 clear hHeld hV HZX HZM hbz hZ0 HX1 HM1 hb1 hs1 HX0 HM0 hb0 hs0
 have m3 := HVM.out.box.2 3 _ rfl
 have m4 := HVM.out.box.2 4 _ rfl
 have m5 := HVM.out.box.2 5 _ rfl
 have m6 := HVM.out.box.2 6 _ rfl
 cases yd
 ·obtain rfl : y = false := by rw [HY.out]; rfl
  clear HY
  go_upto_region 21 with (go_at_call 110; (with_reducible refine (comm_Digest di false _ HDI.out).mono ?_); rintro e w' ⟨rfl, rfl⟩)
  rename_i K hK
  exact only_tail (w.heap.size + 1) (.int .i64 3) (.int .i64 fr) (.int .i64 tt) (.int .i64 di) (.int .i64 b.au) (.int .i64 b.n) (.slice bA bn bc) (.int .i64 0) (.int .i64 0) (.slice none 0 0) (.slice none 0 0) (.int .i64 0) (.int .i64 0) (.slice none 0 0) (.slice none 0 0) (.int .i64 0) (.slice none 0 0) (.slice none 0 0) false w _ (by intro u hu; simp only [List.mem_cons, List.not_mem_nil, or_false] at hu; rcases hu with rfl | rfl | rfl | rfl | rfl | rfl | rfl | rfl | rfl | rfl | rfl | rfl | rfl | rfl | rfl | rfl | rfl | rfl <;> rfl) hK (by omega) (hb2) (HVX.out)
 ·cases yb
  ·obtain rfl : y = false := by rw [HY.out]; rfl
   clear HY
   go_upto_region 21 with (first | (go_at_call 110; (with_reducible refine (comm_Digest di true _ HDI.out).mono ?_); rintro e w' ⟨rfl, rfl⟩) | (go_at_call 112; (with_reducible refine (batch_May b bA bn bc false _ (HD.out.up hb2) HBI.out).mono ?_); rintro e w7 ⟨rfl, hb7⟩; have m4 := (hb7.cell (p := ⟨w.heap.size, 4, none⟩) (HVM.out.lt)).trans m4))
   rename_i K hK
   exact only_tail (w.heap.size + 1) (.int .i64 3) (.int .i64 fr) (.int .i64 tt) (.int .i64 di) (.int .i64 b.au) (.int .i64 b.n) (.slice bA bn bc) (.int .i64 0) (.int .i64 0) (.slice none 0 0) (.slice none 0 0) (.int .i64 0) (.int .i64 0) (.slice none 0 0) (.slice none 0 0) (.int .i64 0) (.slice none 0 0) (.slice none 0 0) false w _ (by intro u hu; simp only [List.mem_cons, List.not_mem_nil, or_false] at hu; rcases hu with rfl | rfl | rfl | rfl | rfl | rfl | rfl | rfl | rfl | rfl | rfl | rfl | rfl | rfl | rfl | rfl | rfl | rfl <;> rfl) hK (by omega) (bel_trans hb2 hb7) (HVX.out.up hb7)
  ·by_cases hau : b.au ≤ n
   ·obtain rfl : y = true := by rw [HY.out]; simp [hau]
    have da : decide (b.au ≤ n) = true := decide_eq_true hau
    clear HY
    go_upto_region 21 with (first | (go_at_call 110; (with_reducible refine (comm_Digest di true _ HDI.out).mono ?_); rintro e w' ⟨rfl, rfl⟩) | (go_at_call 112; (with_reducible refine (batch_May b bA bn bc true _ (HD.out.up hb2) HBI.out).mono ?_); rintro e w7 ⟨rfl, hb7⟩; have m4 := (hb7.cell (p := ⟨w.heap.size, 4, none⟩) (HVM.out.lt)).trans m4))
    rename_i K hK
    exact only_tail (w.heap.size + 1) (.int .i64 3) (.int .i64 fr) (.int .i64 tt) (.int .i64 di) (.int .i64 b.au) (.int .i64 b.n) (.slice bA bn bc) (.int .i64 0) (.int .i64 0) (.slice none 0 0) (.slice none 0 0) (.int .i64 0) (.int .i64 0) (.slice none 0 0) (.slice none 0 0) (.int .i64 0) (.slice none 0 0) (.slice none 0 0) true w _ (by intro u hu; simp only [List.mem_cons, List.not_mem_nil, or_false] at hu; rcases hu with rfl | rfl | rfl | rfl | rfl | rfl | rfl | rfl | rfl | rfl | rfl | rfl | rfl | rfl | rfl | rfl | rfl | rfl <;> rfl) hK (by omega) (bel_trans hb2 hb7) (HVX.out.up hb7)
   ·obtain rfl : y = false := by rw [HY.out]; simp [hau]
    have da : decide (b.au ≤ n) = false := decide_eq_false hau
    clear HY
    go_upto_region 21 with (first | (go_at_call 110; (with_reducible refine (comm_Digest di true _ HDI.out).mono ?_); rintro e w' ⟨rfl, rfl⟩) | (go_at_call 112; (with_reducible refine (batch_May b bA bn bc true _ (HD.out.up hb2) HBI.out).mono ?_); rintro e w7 ⟨rfl, hb7⟩; have m4 := (hb7.cell (p := ⟨w.heap.size, 4, none⟩) (HVM.out.lt)).trans m4))
    rename_i K hK
    exact only_tail (w.heap.size + 1) (.int .i64 3) (.int .i64 fr) (.int .i64 tt) (.int .i64 di) (.int .i64 b.au) (.int .i64 b.n) (.slice bA bn bc) (.int .i64 0) (.int .i64 0) (.slice none 0 0) (.slice none 0 0) (.int .i64 0) (.int .i64 0) (.slice none 0 0) (.slice none 0 0) (.int .i64 0) (.slice none 0 0) (.slice none 0 0) false w _ (by intro u hu; simp only [List.mem_cons, List.not_mem_nil, or_false] at hu; rcases hu with rfl | rfl | rfl | rfl | rfl | rfl | rfl | rfl | rfl | rfl | rfl | rfl | rfl | rfl | rfl | rfl | rfl | rfl <;> rfl) hK (by omega) (bel_trans hb2 hb7) (HVX.out.up hb7)

open Go.RowKit

noncomputable def msgEnd : Code := cAfter 5 (Tryz.f90.body.getD .skip)
set_option maxHeartbeats 8000000 in
theorem msg_tail {K : Act → World → Prop} (g N : Nat) (P Q : MsgP) (M X : MsgD) (yo y : Bool) (w V : World) {u0 u1 u3 u4 u7 u8 u9 u10 u11 u12 u13 u14 u15 u16 u17 u18 u19 u20 u21 u22 u23 u24 u25 u26 u27 u28 u29 u30 u31 u32 u33 u34 u35 u36 u37 u38 u39 u40 u41 u42 u43 u44 u45 u46 u47 u48 u49 u50 u51 u52 u53 u54 u55 u56 u57 u58 u59 u60 u61 u62 u63 u64 u65 u66 u67 u68 u69 u70 u71 u72 u73 u74 u75 u76 u77 u78 u79 u80 u81 u82 u83 u84 u85 u86 u87 u88 u89 u90 u91 u92 u93 u94 u95 u96 u97 u98 u99 u100 u101 u102 u103 u104 u105 u106 u107 u108 u109 u110 u111 u112 u113 u114 u115 u116 u117 u118 u119 u120 u121 u122 u123 u124 u125 u126 u127 u128 u129 u130 u131 u132 u133 u134 u135 : Value}
  (hK : ∀ a' w', Code.wp Tryz.prog (cSnd msgEnd) (bodyPost Tryz.prog Tryz.f90 (fun e w' => e = .returned (.bool y) ∧ Below w.heap.size w w')) a' w' → K a' w') (hb2 : Below w.heap.size w V) (hM : Blk V g 49 (msgCells P M)) (hX : Blk V N 49 (msgCells Q X)) (hp : MsgR w P M) (hq : MsgR w Q X) (hx : X.b.tx = M.b.tx ∨ X.b.tx = []) (hy : y = true ↔ yo = true ∧ X = M) :
  Code.wp Tryz.prog (cFst msgEnd) (Exit.then K (bodyPost Tryz.prog Tryz.f90 (fun e w' => e = .returned (.bool y) ∧ Below w.heap.size w w'))) { tmps := #[u0, u1, .pointer (some ⟨g, 0, none⟩), u3, u4, .pointer (some ⟨N, 0, none⟩), .bool yo, u7, u8, u9, u10, u11, u12, u13, u14, u15, u16, u17, u18, u19, u20, u21, u22, u23, u24, u25, u26, u27, u28, u29, u30, u31, u32, u33, u34, u35, u36, u37, u38, u39, u40, u41, u42, u43, u44, u45, u46, u47, u48, u49, u50, u51, u52, u53, u54, u55, u56, u57, u58, u59, u60, u61, u62, u63, u64, u65, u66, u67, u68, u69, u70, u71, u72, u73, u74, u75, u76, u77, u78, u79, u80, u81, u82, u83, u84, u85, u86, u87, u88, u89, u90, u91, u92, u93, u94, u95, u96, u97, u98, u99, u100, u101, u102, u103, u104, u105, u106, u107, u108, u109, u110, u111, u112, u113, u114, u115, u116, u117, u118, u119, u120, u121, u122, u123, u124, u125, u126, u127, u128, u129, u130, u131, u132, u133, u134, u135], defers := [] } V := by
 obtain ⟨⟨bA, bn, bc⟩, ⟨⟨xA, xn, xc⟩, ⟨yA, yn, yc⟩⟩, ⟨⟨⟨cA, cn, cd⟩, ⟨dA, dn, dc⟩⟩, ⟨sA, sn, sc⟩⟩, ⟨eA, en, ec⟩⟩ := P
 obtain ⟨⟨bA', bn', bc'⟩, ⟨⟨xA', xn', xc'⟩, ⟨yA', yn', yc'⟩⟩, ⟨⟨⟨cA', cn', cd'⟩, ⟨dA', dn', dc'⟩⟩, ⟨sA', sn', sc'⟩⟩, ⟨eA', en', ec'⟩⟩ := Q
 obtain ⟨ki, fr, tt, di, b, hd, cc, ds⟩ := M
 obtain ⟨ki', fr', tt', di', b', hd', cc', ds'⟩ := X
 have HVM : Hid (Blk V g 49 [.int .i64 ki, .int .i64 fr, .int .i64 tt, .int .i64 di, .int .i64 b.au, .int .i64 b.n, .slice bA bn bc, .int .i64 hd.au, .int .i64 hd.ro, .slice xA xn xc, .slice yA yn yc, .int .i64 cc.h.au, .int .i64 cc.h.ro, .slice cA cn cd, .slice dA dn dc, .int .i64 cc.di, .slice sA sn sc, .slice eA en ec]) := ħ hM
 have HVX : Hid (Blk V N 49 [.int .i64 ki', .int .i64 fr', .int .i64 tt', .int .i64 di', .int .i64 b'.au, .int .i64 b'.n, .slice bA' bn' bc', .int .i64 hd'.au, .int .i64 hd'.ro, .slice xA' xn' xc', .slice yA' yn' yc', .int .i64 cc'.h.au, .int .i64 cc'.h.ro, .slice cA' cn' cd', .slice dA' dn' dc', .int .i64 cc'.di, .slice sA' sn' sc', .slice eA' en' ec']) := ħ hX
 have HM := ħ (hp.up hb2)
 have HX := ħ (hq.up hb2)
 have HXX := ħ hx
 have HK := ħ hK
 have HB := ħ hb2
 have HY := ħ hy
 clear hX hK hM hp hq hx hb2 hy
 dsimp only [msgEnd, cAfter, cSnd, cFst, Tryz.f90, Option.getD]
 cases yo
 ·obtain rfl : y = false := by have := HY.out; simpa using this
  clear HY HXX HM HX HVM HVX
  go_wp2_with fail
  show K _ _
  apply HK.out
  clear HK
  dsimp only [msgEnd, cAfter, cSnd, cFst, Tryz.f90, Option.getD]
  go_wp2_with fail
  go_ret
  exact ⟨rfl, HB.out⟩
 ·have hE : dec ((⟨ki', fr', tt', di', b', hd', cc', ds'⟩ : MsgD) = ⟨ki, fr, tt, di, b, hd, cc, ds⟩) = y := by rw [Bool.eq_iff_iff, dec_iff, HY.out]; simp
  have HE := ħ hE
  clear HY hE
  refine wp_region_list ?_
  simp only [List.toList_toArray]
  iterate 2 ((refine wpList_plain rfl (fun K hK => ?_)); go_simp; refine hK _ _ ?_; clear hK K; (try simp only [lz]))
  refine wpList_load_midG (by kernel_rfl) 49 _ rfl N 0 (by simp [Act.eval, Act.put]) [.int .i64 ki', .int .i64 fr', .int .i64 tt', .int .i64 di', .int .i64 b'.au, .int .i64 b'.n, .slice bA' bn' bc', .int .i64 hd'.au, .int .i64 hd'.ro, .slice xA' xn' xc', .slice yA' yn' yc', .int .i64 cc'.h.au, .int .i64 cc'.h.ro, .slice cA' cn' cd', .slice dA' dn' dc', .int .i64 cc'.di, .slice sA' sn' sc', .slice eA' en' ec'] _ HVX.out.rng Tryz.underlying49 (by rfl) (by kernel_rfl) ?_
  (try simp only [lz])
  refine wpList_load_midG (by kernel_rfl) 49 _ rfl g 0 (by simp [Act.eval, Act.put]) [.int .i64 ki, .int .i64 fr, .int .i64 tt, .int .i64 di, .int .i64 b.au, .int .i64 b.n, .slice bA bn bc, .int .i64 hd.au, .int .i64 hd.ro, .slice xA xn xc, .slice yA yn yc, .int .i64 cc.h.au, .int .i64 cc.h.ro, .slice cA cn cd, .slice dA dn dc, .int .i64 cc.di, .slice sA sn sc, .slice eA en ec] _ HVM.out.rng Tryz.underlying49 (by rfl) (by kernel_rfl) ?_
  (try simp only [lz, List.toList_toArray])
  go_wp2_with fail
  refine (ref0_EqMessageX ⟨⟨bA', bn', bc'⟩, ⟨⟨xA', xn', xc'⟩, ⟨yA', yn', yc'⟩⟩, ⟨⟨⟨cA', cn', cd'⟩, ⟨dA', dn', dc'⟩⟩, ⟨sA', sn', sc'⟩⟩, ⟨eA', en', ec'⟩⟩ ⟨⟨bA, bn, bc⟩, ⟨⟨xA, xn, xc⟩, ⟨yA, yn, yc⟩⟩, ⟨⟨⟨cA, cn, cd⟩, ⟨dA, dn, dc⟩⟩, ⟨sA, sn, sc⟩⟩, ⟨eA, en, ec⟩⟩ ⟨ki', fr', tt', di', b', hd', cc', ds'⟩ ⟨ki, fr, tt, di, b, hd, cc, ds⟩ _ HX.out HM.out HXX.out).mono ?_
  rintro e w9 ⟨rfl, hb9⟩
  rw [HE.out]
  have hb9' := bel_trans HB.out hb9
  go_wp2_with fail
  show K _ _
  apply HK.out
  clear HK
  dsimp only [msgEnd, cAfter, cSnd, cFst, Tryz.f90, Option.getD]
  go_wp2_with fail
  go_ret
  exact ⟨rfl, hb9'⟩

open Go.RowKit

set_option maxHeartbeats 4000000 in
theorem ref4_digests (A : Option Addr) (n c : Nat) (l : List Int) (m : Int) (y : Bool) (w : World) (hl : IntsR w A n l) (hy : y = true ↔ (n : Int) ≤ m ∧ crisS l 1 65536 = true) : Calls Tryz.prog 129 #[.slice A n c, .int .i64 m] w fun e w' => e = .returned (.bool y) ∧ Below w.heap.size w w' := by
 rw [cris_bet] at hy
 obtain ⟨yr, hr⟩ : ∃ z, risS l = z := ⟨_, rfl⟩
 obtain ⟨yb, hb⟩ : ∃ z, betS l 1 65536 = z := ⟨_, rfl⟩
 rw [hr, hb] at hy
 have HR := ħ hr
 have HB := ħ hb
 have HY := ħ hy
 have HL := ħ hl
 clear hr hb hy hl
 by_cases h1 : (n : Int) ≤ m
 rotate_left
 ·obtain rfl : y = false := by cases y; rfl; exact absurd (HY.out.1 rfl).1 h1
  have d1 : decide ((n : Int) ≤ m) = false := decide_eq_false h1
  clear HY
  go_enter Tryz.func129, Tryz.ntmps129
  go_wp2_with fail
  go_ret
  exact ⟨rfl, belB⟩
 have d1 : decide ((n : Int) ≤ m) = true := decide_eq_true h1
 cases yb
 ·obtain rfl : y = false := by cases y; rfl; exact absurd (HY.out.1 rfl).2.2 (by simp)
  clear HY
  go_enter Tryz.func129, Tryz.ntmps129
  go_wp2_with (go_at_call 34; (with_reducible refine (refd_Digests A n c l false _ HL.out HB.out).mono ?_); rintro e w' ⟨rfl, rfl⟩)
  go_ret
  exact ⟨rfl, belB⟩
 obtain rfl : y = yr := by rw [Bool.eq_iff_iff, HY.out]; simp [h1]
 clear HY
 go_enter Tryz.func129, Tryz.ntmps129
 go_wp2_with (first | (go_at_call 34; (with_reducible refine (refd_Digests A n c l true _ HL.out HB.out).mono ?_); rintro e w' ⟨rfl, rfl⟩) | (go_at_call 37; (with_reducible refine (refr_Rising A n c l y _ HL.out HR.out).mono ?_); rintro e w7 ⟨rfl, hb7⟩))
 go_ret
 exact ⟨rfl, hb7⟩
set_option maxHeartbeats 8000000 in
theorem ref4_Message1 (P : MsgP) (M : MsgD) (n : Int) (y : Bool) (w : World) (hp : MsgR w P M) (hk : M.ki = 1) (hh : hdM M n) (hy : y = true ↔ dec (digS M.di = true ∧ bmT M.b = true ∧ M.b.au ≤ n) = true ∧ (⟨M.ki, M.fr, M.tt, M.di, M.b, hea0, cer0, []⟩ : MsgD) = M) :
  Calls Tryz.prog 90 #[M18 P M, .int .i64 n] w fun e w' => e = .returned (.bool y) ∧ Below w.heap.size w w' := by
 obtain ⟨⟨bA, bn, bc⟩, ⟨⟨xA, xn, xc⟩, ⟨yA, yn, yc⟩⟩, ⟨⟨⟨cA, cn, cd⟩, ⟨dA, dn, dc⟩⟩, ⟨sA, sn, sc⟩⟩, ⟨eA, en, ec⟩⟩ := P
 obtain ⟨ki, fr, tt, di, b, hd, cc, ds⟩ := M
 dsimp only at hk
 subst hk
 have HM := ħ hp
 obtain ⟨q0, q1, q2, q3, q4, q5⟩ := hh
 dsimp only at q1 q2 q3 q4 q5
 have HS := ħ q0
 have b0 : decide (fr < 1) = false := by simp; omega
 have b1 : decide (n < fr) = false := by simp; omega
 have b2 : decide (tt < 1) = false := by simp; omega
 have b3 : decide (n < tt) = false := by simp; omega
 have HY := ħ hy
 clear hy q0 q1 q2 q3 q4
 have HD : Hid (TxsR w bA bn b.tx) := ħ hp.tx
 have HQ : Hid (MsgR w ⟨⟨bA, bn, bc⟩, ⟨⟨none, 0, 0⟩, ⟨none, 0, 0⟩⟩, ⟨⟨⟨none, 0, 0⟩, ⟨none, 0, 0⟩⟩, ⟨none, 0, 0⟩⟩, ⟨none, 0, 0⟩⟩ ⟨1, fr, tt, di, b, hea0, cer0, []⟩) := ħ ⟨hp.tx, HeaderR.nil _, CertR.nil _, IntsR.nil _ _⟩
 obtain ⟨yd, hyd⟩ : ∃ z, digS di = z := ⟨_, rfl⟩
 obtain ⟨yb, hyb⟩ : ∃ z, bmT b = z := ⟨_, rfl⟩
 have HDI := ħ hyd
 have HBI := ħ hyb
 have HY' : Hid (y = true ↔ (yd = true ∧ yb = true ∧ b.au ≤ n) ∧ (⟨1, fr, tt, di, b, hea0, cer0, []⟩ : MsgD) = ⟨1, fr, tt, di, b, hd, cc, ds⟩) := ħ (by have g := HY.out; rw [dec_iff] at g; rw [← hyd, ← hyb]; exact g)
 clear hp hyd hyb HY
 show Calls Tryz.prog 90 #[.agg #[.int .i64 1, .int .i64 fr, .int .i64 tt, .int .i64 di, .int .i64 b.au, .int .i64 b.n, .slice bA bn bc, .int .i64 hd.au, .int .i64 hd.ro, .slice xA xn xc, .slice yA yn yc, .int .i64 cc.h.au, .int .i64 cc.h.ro, .slice cA cn cd, .slice dA dn dc, .int .i64 cc.di, .slice sA sn sc, .slice eA en ec], .int .i64 n] w fun e w' => e = .returned (.bool y) ∧ Below w.heap.size w w'
 go_enter Tryz.func90, Tryz.ntmps90
 go_upto_region 2 with fail
 refine wp_world (fun W hW => ?_)
 have HBM : Hid (Blk W w.heap.size 49 [.int .i64 1, .int .i64 fr, .int .i64 tt, .int .i64 di, .int .i64 b.au, .int .i64 b.n, .slice bA bn bc, .int .i64 hd.au, .int .i64 hd.ro, .slice xA xn xc, .slice yA yn yc, .int .i64 cc.h.au, .int .i64 cc.h.ro, .slice cA cn cd, .slice dA dn dc, .int .i64 cc.di, .slice sA sn sc, .slice eA en ec]) := ħ (by rw [hW]; exact (Blk.new w 49 [.int .i64 1, .int .i64 fr, .int .i64 tt, .int .i64 di, .int .i64 b.au, .int .i64 b.n, .slice bA bn bc, .int .i64 hd.au, .int .i64 hd.ro, .slice xA xn xc, .slice yA yn yc, .int .i64 cc.h.au, .int .i64 cc.h.ro, .slice cA cn cd, .slice dA dn dc, .int .i64 cc.di, .slice sA sn sc, .slice eA en ec]).up (bel_alloc (Below.refl _ _)))
 have HBX : Hid (Blk W (w.heap.size + 1) 49 [.int .i64 1, .int .i64 fr, .int .i64 tt, .int .i64 0, .int .i64 0, .int .i64 0, .slice none 0 0, .int .i64 0, .int .i64 0, .slice none 0 0, .slice none 0 0, .int .i64 0, .int .i64 0, .slice none 0 0, .slice none 0 0, .int .i64 0, .slice none 0 0, .slice none 0 0]) := ħ (by rw [hW]; exact Blk.new1 w 49 49 [.int .i64 1, .int .i64 fr, .int .i64 tt, .int .i64 di, .int .i64 b.au, .int .i64 b.n, .slice bA bn bc, .int .i64 hd.au, .int .i64 hd.ro, .slice xA xn xc, .slice yA yn yc, .int .i64 cc.h.au, .int .i64 cc.h.ro, .slice cA cn cd, .slice dA dn dc, .int .i64 cc.di, .slice sA sn sc, .slice eA en ec] [.int .i64 1, .int .i64 fr, .int .i64 tt, .int .i64 0, .int .i64 0, .int .i64 0, .slice none 0 0, .int .i64 0, .int .i64 0, .slice none 0 0, .slice none 0 0, .int .i64 0, .int .i64 0, .slice none 0 0, .slice none 0 0, .int .i64 0, .slice none 0 0, .slice none 0 0])
 have hb0 : Below w.heap.size w W := by rw [hW]; exact bel_alloc (bel_alloc (Below.refl _ _))
 clear hW
 have hsz : w.heap.size + 1 < W.heap.size := HBX.out.lt
 have m0 := HBM.out.box.2 0 _ rfl
 have m1 := HBM.out.box.2 1 _ rfl
 have m2 := HBM.out.box.2 2 _ rfl
 go_upto_region 8 with (go_at_call 30; (with_reducible refine (refm_May n _ _ HS.out).mono ?_); rintro e w' ⟨rfl, rfl⟩)
 clear m0 m1 m2
 obtain ⟨S, hSd⟩ : ∃ S : World → Prop, S = fun Q => Q.rangeAt w.heap.size 3 [.int .i64 di, .int .i64 b.au, .int .i64 b.n, .slice bA bn bc] := ⟨_, rfl⟩
 have hS1 : ∀ Q, S Q → Q.cell? ⟨w.heap.size, 3, none⟩ = some (.int .i64 di) := fun Q h => by rw [hSd] at h; exact h 0 _ rfl
 have hS2 : ∀ Q, S Q → Q.rangeAt w.heap.size 4 [.int .i64 b.au, .int .i64 b.n, .slice bA bn bc] := fun Q h => by rw [hSd] at h; exact fun j v hv => by have := h (j + 1) v (by simpa using hv); rwa [show 3 + (j + 1) = 4 + j by omega] at this
 have hS4 : ∀ Q o u, S Q → S (Q.setCell ⟨w.heap.size + 1, o, none⟩ u) := fun Q o u h => by rw [hSd] at h ⊢; exact fun j v hv => (World.cell?_setCell_other _ _ _ _ (by intro e; simp only [Addr.mk.injEq] at e; omega)).trans (h j v hv)
 have hZ0 : S W.drew := by rw [hSd]; exact fun j v hv => by have := HBM.out.box.2 (3 + j) v (by match j, hv with | 0, hv => exact hv | 1, hv => exact hv | 2, hv => exact hv | 3, hv => exact hv); simpa using this
 clear hSd
 refine wp_region_held_drew (S := S) (by kernel_rfl) hZ0 (fun hHeld => ?_)
 have hbz : Below w.heap.size w W.drew := bel_drew hb0
 have HZX : Hid (Blk W.drew (w.heap.size + 1) 49 [.int .i64 1, .int .i64 fr, .int .i64 tt, .int .i64 0, .int .i64 0, .int .i64 0, .slice none 0 0, .int .i64 0, .int .i64 0, .slice none 0 0, .slice none 0 0, .int .i64 0, .int .i64 0, .slice none 0 0, .slice none 0 0, .int .i64 0, .slice none 0 0, .slice none 0 0]) := ħ (HBX.out.up (bel_drew (Below.refl _ _)))
 have HZM : Hid (Blk W.drew w.heap.size 49 [.int .i64 1, .int .i64 fr, .int .i64 tt, .int .i64 di, .int .i64 b.au, .int .i64 b.n, .slice bA bn bc, .int .i64 hd.au, .int .i64 hd.ro, .slice xA xn xc, .slice yA yn yc, .int .i64 cc.h.au, .int .i64 cc.h.ro, .slice cA cn cd, .slice dA dn dc, .int .i64 cc.di, .slice sA sn sc, .slice eA en ec]) := ħ (HBM.out.up (bel_drew (Below.refl _ _)))
 generalize W.drew = Z at *
 clear hsz hb0 HBM HBX
 (refine wpAnyH_tk 0 (some 51) (v := ?_) rfl rfl ?_ ?_; rotate_left; (focus (intro wq hSw; clear hSw; go_simp; all_goals (with_reducible rfl))); simp only [lz])
 (refine wpAnyH_tk 1 (some 52) (v := ?_) rfl rfl ?_ ?_; rotate_left; (focus (intro wq hSw; have q1 := hS1 wq hSw; clear hSw; go_simp; all_goals (with_reducible rfl))); simp only [lz])
 (refine wpAnyH_tk 2 (some 53) (v := ?_) rfl rfl ?_ ?_; rotate_left; (focus (intro wq hSw; clear hSw; go_simp; all_goals (with_reducible rfl))); simp only [lz])
 refine wpAnyH_takeD (i := 3) (d := (some 54)) (v := .agg ([.int .i64 b.au, .int .i64 b.n, .slice bA bn bc]).toArray) rfl rfl (by kernel_rfl) (by kernel_rfl) (by kernel_rfl) (fun _ _ _ h => h) (yieldsIf_load_mid (by rfl) 43 _ rfl w.heap.size 4 (by simp [Act.eval, Act.put]) ([.int .i64 b.au, .int .i64 b.n, .slice bA bn bc]) _ (hS2) Tryz.underlying43 (by rfl) (by kernel_rfl)) (by assumption) ?_
 simp only [lz]
 (refine wpAnyH_tk 4 (some 55) (v := ?_) rfl rfl ?_ ?_; rotate_left; (focus (intro wq hSw; clear hSw; go_simp; all_goals (with_reducible rfl))); simp only [lz])
 refine rd1 5 rfl fun K hK => ?_
 have qf := HZX.out.frozen 3
 have q3 := HZX.out.box.2 3 _ rfl
 have ql := HZX.out.lt
 go_simp
 clear qf q3 ql
 have HX0 := ħ (HZX.out.set_ 3 (.int .i64 di))
 have HM0 := ħ (HZM.out.far (p := ⟨w.heap.size + 1, 3, none⟩) (by show w.heap.size ≠ w.heap.size + 1; omega) (.int .i64 di))
 have hb0 := hbz.setCell (p := ⟨w.heap.size + 1, 3, none⟩) (by show _ ≤ w.heap.size + 1; omega) (.int .i64 di)
 have hs0 := hS4 _ 3 (.int .i64 di) hHeld
 refine hK.out _ _ (hs0) (fun hHeld => ?_)
 clear hK K
 (try simp only [lz])
 (refine wpAnyH_tk 6 (some 56) (v := ?_) rfl rfl ?_ ?_; rotate_left; (focus (intro wq hSw; clear hSw; go_simp; all_goals (with_reducible rfl))); simp only [lz])
 refine rd1 7 rfl fun K hK => ?_
 have ql := HX0.out.lt
 have qf4 := HX0.out.frozen 4
 have q4 := HX0.out.box.2 4 _ rfl
 have qf5 := HX0.out.frozen 5
 have q5 := HX0.out.box.2 5 _ rfl
 have qf6 := HX0.out.frozen 6
 have q6 := HX0.out.box.2 6 _ rfl
 go_simp
 clear ql qf4 q4 qf5 q5 qf6 q6
 have HX1 := ħ ((((HX0.out).set_ 4 (.int .i64 b.au)).set_ 5 (.int .i64 b.n)).set_ 6 (.slice bA bn bc))
 have HM1 := ħ ((((HM0.out).far (p := ⟨w.heap.size + 1, 4, none⟩) (by show w.heap.size ≠ w.heap.size + 1; omega) (.int .i64 b.au)).far (p := ⟨w.heap.size + 1, 5, none⟩) (by show w.heap.size ≠ w.heap.size + 1; omega) (.int .i64 b.n)).far (p := ⟨w.heap.size + 1, 6, none⟩) (by show w.heap.size ≠ w.heap.size + 1; omega) (.slice bA bn bc))
 have hb1 := (((hb0).setCell (p := ⟨w.heap.size + 1, 4, none⟩) (by show _ ≤ w.heap.size + 1; omega) (.int .i64 b.au)).setCell (p := ⟨w.heap.size + 1, 5, none⟩) (by show _ ≤ w.heap.size + 1; omega) (.int .i64 b.n)).setCell (p := ⟨w.heap.size + 1, 6, none⟩) (by show _ ≤ w.heap.size + 1; omega) (.slice bA bn bc)
 have hs1 := hS4 _ 6 (.slice bA bn bc) (hS4 _ 5 (.int .i64 b.n) (hS4 _ 4 (.int .i64 b.au) (hs0)))
 refine hK.out _ _ (hs1) (fun hHeld => ?_)
 clear hK K
 (try simp only [lz])
 refine wpAnyH_done (by kernel_rfl) ?_ _
 have HVX : Hid (Blk _ (w.heap.size + 1) 49 [.int .i64 1, .int .i64 fr, .int .i64 tt, .int .i64 di, .int .i64 b.au, .int .i64 b.n, .slice bA bn bc, .int .i64 0, .int .i64 0, .slice none 0 0, .slice none 0 0, .int .i64 0, .int .i64 0, .slice none 0 0, .slice none 0 0, .int .i64 0, .slice none 0 0, .slice none 0 0]) := HX1
 have HVM := HM1
 have hb2 := hb1
 refine wp_world (fun V hV => ?_)
 rw [← hV] at HVX HVM hb2
 clear hHeld hV HZX HZM hbz hZ0 HX1 HM1 hb1 hs1 HX0 HM0 hb0 hs0
 have m3 := HVM.out.box.2 3 _ rfl
 have m4 := HVM.out.box.2 4 _ rfl
 have m5 := HVM.out.box.2 5 _ rfl
 have m6 := HVM.out.box.2 6 _ rfl
 cases yd
 ·go_upto_region 24 with (go_at_call 36; (with_reducible refine (ref0_Dig di false _ HDI.out).mono ?_); rintro e w' ⟨rfl, rfl⟩)
  rename_i K hK
  exact msg_tail w.heap.size (w.heap.size + 1) ⟨⟨bA, bn, bc⟩, ⟨⟨xA, xn, xc⟩, ⟨yA, yn, yc⟩⟩, ⟨⟨⟨cA, cn, cd⟩, ⟨dA, dn, dc⟩⟩, ⟨sA, sn, sc⟩⟩, ⟨eA, en, ec⟩⟩ ⟨⟨bA, bn, bc⟩, ⟨⟨none, 0, 0⟩, ⟨none, 0, 0⟩⟩, ⟨⟨⟨none, 0, 0⟩, ⟨none, 0, 0⟩⟩, ⟨none, 0, 0⟩⟩, ⟨none, 0, 0⟩⟩ ⟨1, fr, tt, di, b, hd, cc, ds⟩ ⟨1, fr, tt, di, b, hea0, cer0, []⟩ false y w _ hK (hb2) (HVM.out) (HVX.out) HM.out HQ.out (Or.inl rfl) (by rw [HY'.out]; exact ⟨fun g => absurd g.1.1 (by decide), fun g => absurd g.1 (by decide)⟩)
 ·cases yb
  ·go_upto_region 24 with (first | (go_at_call 36; (with_reducible refine (ref0_Dig di true _ HDI.out).mono ?_); rintro e w' ⟨rfl, rfl⟩) | (go_at_call 69; (with_reducible refine (ref4_Batch b bA bn bc false _ (HD.out.up hb2) HBI.out).mono ?_); rintro e w7 ⟨rfl, hb7⟩; have m4 := (hb7.cell (p := ⟨w.heap.size, 4, none⟩) (HVM.out.lt)).trans m4))
   rename_i K hK
   exact msg_tail w.heap.size (w.heap.size + 1) ⟨⟨bA, bn, bc⟩, ⟨⟨xA, xn, xc⟩, ⟨yA, yn, yc⟩⟩, ⟨⟨⟨cA, cn, cd⟩, ⟨dA, dn, dc⟩⟩, ⟨sA, sn, sc⟩⟩, ⟨eA, en, ec⟩⟩ ⟨⟨bA, bn, bc⟩, ⟨⟨none, 0, 0⟩, ⟨none, 0, 0⟩⟩, ⟨⟨⟨none, 0, 0⟩, ⟨none, 0, 0⟩⟩, ⟨none, 0, 0⟩⟩, ⟨none, 0, 0⟩⟩ ⟨1, fr, tt, di, b, hd, cc, ds⟩ ⟨1, fr, tt, di, b, hea0, cer0, []⟩ false y w _ hK (bel_trans hb2 hb7) (HVM.out.up hb7) (HVX.out.up hb7) HM.out HQ.out (Or.inl rfl) (by rw [HY'.out]; exact ⟨fun g => absurd g.1.2.1 (by decide), fun g => absurd g.1 (by decide)⟩)
  ·by_cases hau : b.au ≤ n
   ·have da : decide (b.au ≤ n) = true := decide_eq_true hau
    go_upto_region 24 with (first | (go_at_call 36; (with_reducible refine (ref0_Dig di true _ HDI.out).mono ?_); rintro e w' ⟨rfl, rfl⟩) | (go_at_call 69; (with_reducible refine (ref4_Batch b bA bn bc true _ (HD.out.up hb2) HBI.out).mono ?_); rintro e w7 ⟨rfl, hb7⟩; have m4 := (hb7.cell (p := ⟨w.heap.size, 4, none⟩) (HVM.out.lt)).trans m4))
    rename_i K hK
    exact msg_tail w.heap.size (w.heap.size + 1) ⟨⟨bA, bn, bc⟩, ⟨⟨xA, xn, xc⟩, ⟨yA, yn, yc⟩⟩, ⟨⟨⟨cA, cn, cd⟩, ⟨dA, dn, dc⟩⟩, ⟨sA, sn, sc⟩⟩, ⟨eA, en, ec⟩⟩ ⟨⟨bA, bn, bc⟩, ⟨⟨none, 0, 0⟩, ⟨none, 0, 0⟩⟩, ⟨⟨⟨none, 0, 0⟩, ⟨none, 0, 0⟩⟩, ⟨none, 0, 0⟩⟩, ⟨none, 0, 0⟩⟩ ⟨1, fr, tt, di, b, hd, cc, ds⟩ ⟨1, fr, tt, di, b, hea0, cer0, []⟩ true y w _ hK (bel_trans hb2 hb7) (HVM.out.up hb7) (HVX.out.up hb7) HM.out HQ.out (Or.inl rfl) (by rw [HY'.out]; exact ⟨fun g => ⟨rfl, g.2⟩, fun g => ⟨⟨by trivial, by trivial, hau⟩, g.2⟩⟩)
   ·have da : decide (b.au ≤ n) = false := decide_eq_false hau
    go_upto_region 24 with (first | (go_at_call 36; (with_reducible refine (ref0_Dig di true _ HDI.out).mono ?_); rintro e w' ⟨rfl, rfl⟩) | (go_at_call 69; (with_reducible refine (ref4_Batch b bA bn bc true _ (HD.out.up hb2) HBI.out).mono ?_); rintro e w7 ⟨rfl, hb7⟩; have m4 := (hb7.cell (p := ⟨w.heap.size, 4, none⟩) (HVM.out.lt)).trans m4))
    rename_i K hK
    exact msg_tail w.heap.size (w.heap.size + 1) ⟨⟨bA, bn, bc⟩, ⟨⟨xA, xn, xc⟩, ⟨yA, yn, yc⟩⟩, ⟨⟨⟨cA, cn, cd⟩, ⟨dA, dn, dc⟩⟩, ⟨sA, sn, sc⟩⟩, ⟨eA, en, ec⟩⟩ ⟨⟨bA, bn, bc⟩, ⟨⟨none, 0, 0⟩, ⟨none, 0, 0⟩⟩, ⟨⟨⟨none, 0, 0⟩, ⟨none, 0, 0⟩⟩, ⟨none, 0, 0⟩⟩, ⟨none, 0, 0⟩⟩ ⟨1, fr, tt, di, b, hd, cc, ds⟩ ⟨1, fr, tt, di, b, hea0, cer0, []⟩ false y w _ hK (bel_trans hb2 hb7) (HVM.out.up hb7) (HVX.out.up hb7) HM.out HQ.out (Or.inl rfl) (by rw [HY'.out]; exact ⟨fun g => absurd g.1.2.2 (by omega), fun g => absurd g.1 (by decide)⟩)
set_option maxHeartbeats 8000000 in
theorem ref4_Message3 (P : MsgP) (M : MsgD) (n : Int) (y : Bool) (w : World) (hp : MsgR w P M) (hk : M.ki = 3) (hh : hdM M n) (hy : y = true ↔ dec (digS M.di = true ∧ bmT M.b = true ∧ M.b.au ≤ n) = true ∧ (⟨M.ki, M.fr, M.tt, M.di, M.b, hea0, cer0, []⟩ : MsgD) = M) :
  Calls Tryz.prog 90 #[M18 P M, .int .i64 n] w fun e w' => e = .returned (.bool y) ∧ Below w.heap.size w w' := by
 obtain ⟨⟨bA, bn, bc⟩, ⟨⟨xA, xn, xc⟩, ⟨yA, yn, yc⟩⟩, ⟨⟨⟨cA, cn, cd⟩, ⟨dA, dn, dc⟩⟩, ⟨sA, sn, sc⟩⟩, ⟨eA, en, ec⟩⟩ := P
 obtain ⟨ki, fr, tt, di, b, hd, cc, ds⟩ := M
 dsimp only at hk
 subst hk
 have HM := ħ hp
 obtain ⟨q0, q1, q2, q3, q4, q5⟩ := hh
 dsimp only at q1 q2 q3 q4 q5
 have HS := ħ q0
 have b0 : decide (fr < 1) = false := by simp; omega
 have b1 : decide (n < fr) = false := by simp; omega
 have b2 : decide (tt < 1) = false := by simp; omega
 have b3 : decide (n < tt) = false := by simp; omega
 have HY := ħ hy
 clear hy q0 q1 q2 q3 q4
 have HD : Hid (TxsR w bA bn b.tx) := ħ hp.tx
 have HQ : Hid (MsgR w ⟨⟨bA, bn, bc⟩, ⟨⟨none, 0, 0⟩, ⟨none, 0, 0⟩⟩, ⟨⟨⟨none, 0, 0⟩, ⟨none, 0, 0⟩⟩, ⟨none, 0, 0⟩⟩, ⟨none, 0, 0⟩⟩ ⟨3, fr, tt, di, b, hea0, cer0, []⟩) := ħ ⟨hp.tx, HeaderR.nil _, CertR.nil _, IntsR.nil _ _⟩
 obtain ⟨yd, hyd⟩ : ∃ z, digS di = z := ⟨_, rfl⟩
 obtain ⟨yb, hyb⟩ : ∃ z, bmT b = z := ⟨_, rfl⟩
 have HDI := ħ hyd
 have HBI := ħ hyb
 have HY' : Hid (y = true ↔ (yd = true ∧ yb = true ∧ b.au ≤ n) ∧ (⟨3, fr, tt, di, b, hea0, cer0, []⟩ : MsgD) = ⟨3, fr, tt, di, b, hd, cc, ds⟩) := ħ (by have g := HY.out; rw [dec_iff] at g; rw [← hyd, ← hyb]; exact g)
 clear hp hyd hyb HY
 show Calls Tryz.prog 90 #[.agg #[.int .i64 3, .int .i64 fr, .int .i64 tt, .int .i64 di, .int .i64 b.au, .int .i64 b.n, .slice bA bn bc, .int .i64 hd.au, .int .i64 hd.ro, .slice xA xn xc, .slice yA yn yc, .int .i64 cc.h.au, .int .i64 cc.h.ro, .slice cA cn cd, .slice dA dn dc, .int .i64 cc.di, .slice sA sn sc, .slice eA en ec], .int .i64 n] w fun e w' => e = .returned (.bool y) ∧ Below w.heap.size w w'
 go_enter Tryz.func90, Tryz.ntmps90
 go_upto_region 2 with fail
 refine wp_world (fun W hW => ?_)
 have HBM : Hid (Blk W w.heap.size 49 [.int .i64 3, .int .i64 fr, .int .i64 tt, .int .i64 di, .int .i64 b.au, .int .i64 b.n, .slice bA bn bc, .int .i64 hd.au, .int .i64 hd.ro, .slice xA xn xc, .slice yA yn yc, .int .i64 cc.h.au, .int .i64 cc.h.ro, .slice cA cn cd, .slice dA dn dc, .int .i64 cc.di, .slice sA sn sc, .slice eA en ec]) := ħ (by rw [hW]; exact (Blk.new w 49 [.int .i64 3, .int .i64 fr, .int .i64 tt, .int .i64 di, .int .i64 b.au, .int .i64 b.n, .slice bA bn bc, .int .i64 hd.au, .int .i64 hd.ro, .slice xA xn xc, .slice yA yn yc, .int .i64 cc.h.au, .int .i64 cc.h.ro, .slice cA cn cd, .slice dA dn dc, .int .i64 cc.di, .slice sA sn sc, .slice eA en ec]).up (bel_alloc (Below.refl _ _)))
 have HBX : Hid (Blk W (w.heap.size + 1) 49 [.int .i64 3, .int .i64 fr, .int .i64 tt, .int .i64 0, .int .i64 0, .int .i64 0, .slice none 0 0, .int .i64 0, .int .i64 0, .slice none 0 0, .slice none 0 0, .int .i64 0, .int .i64 0, .slice none 0 0, .slice none 0 0, .int .i64 0, .slice none 0 0, .slice none 0 0]) := ħ (by rw [hW]; exact Blk.new1 w 49 49 [.int .i64 3, .int .i64 fr, .int .i64 tt, .int .i64 di, .int .i64 b.au, .int .i64 b.n, .slice bA bn bc, .int .i64 hd.au, .int .i64 hd.ro, .slice xA xn xc, .slice yA yn yc, .int .i64 cc.h.au, .int .i64 cc.h.ro, .slice cA cn cd, .slice dA dn dc, .int .i64 cc.di, .slice sA sn sc, .slice eA en ec] [.int .i64 3, .int .i64 fr, .int .i64 tt, .int .i64 0, .int .i64 0, .int .i64 0, .slice none 0 0, .int .i64 0, .int .i64 0, .slice none 0 0, .slice none 0 0, .int .i64 0, .int .i64 0, .slice none 0 0, .slice none 0 0, .int .i64 0, .slice none 0 0, .slice none 0 0])
 have hb0 : Below w.heap.size w W := by rw [hW]; exact bel_alloc (bel_alloc (Below.refl _ _))
 clear hW
 have hsz : w.heap.size + 1 < W.heap.size := HBX.out.lt
 have m0 := HBM.out.box.2 0 _ rfl
 have m1 := HBM.out.box.2 1 _ rfl
 have m2 := HBM.out.box.2 2 _ rfl
 go_upto_region 8 with (go_at_call 30; (with_reducible refine (refm_May n _ _ HS.out).mono ?_); rintro e w' ⟨rfl, rfl⟩)
 clear m0 m1 m2
 obtain ⟨S, hSd⟩ : ∃ S : World → Prop, S = fun Q => Q.rangeAt w.heap.size 3 [.int .i64 di, .int .i64 b.au, .int .i64 b.n, .slice bA bn bc] := ⟨_, rfl⟩
 have hS1 : ∀ Q, S Q → Q.cell? ⟨w.heap.size, 3, none⟩ = some (.int .i64 di) := fun Q h => by rw [hSd] at h; exact h 0 _ rfl
 have hS2 : ∀ Q, S Q → Q.rangeAt w.heap.size 4 [.int .i64 b.au, .int .i64 b.n, .slice bA bn bc] := fun Q h => by rw [hSd] at h; exact fun j v hv => by have := h (j + 1) v (by simpa using hv); rwa [show 3 + (j + 1) = 4 + j by omega] at this
 have hS4 : ∀ Q o u, S Q → S (Q.setCell ⟨w.heap.size + 1, o, none⟩ u) := fun Q o u h => by rw [hSd] at h ⊢; exact fun j v hv => (World.cell?_setCell_other _ _ _ _ (by intro e; simp only [Addr.mk.injEq] at e; omega)).trans (h j v hv)
 have hZ0 : S W.drew := by rw [hSd]; exact fun j v hv => by have := HBM.out.box.2 (3 + j) v (by match j, hv with | 0, hv => exact hv | 1, hv => exact hv | 2, hv => exact hv | 3, hv => exact hv); simpa using this
 clear hSd
 refine wp_region_held_drew (S := S) (by kernel_rfl) hZ0 (fun hHeld => ?_)
 have hbz : Below w.heap.size w W.drew := bel_drew hb0
 have HZX : Hid (Blk W.drew (w.heap.size + 1) 49 [.int .i64 3, .int .i64 fr, .int .i64 tt, .int .i64 0, .int .i64 0, .int .i64 0, .slice none 0 0, .int .i64 0, .int .i64 0, .slice none 0 0, .slice none 0 0, .int .i64 0, .int .i64 0, .slice none 0 0, .slice none 0 0, .int .i64 0, .slice none 0 0, .slice none 0 0]) := ħ (HBX.out.up (bel_drew (Below.refl _ _)))
 have HZM : Hid (Blk W.drew w.heap.size 49 [.int .i64 3, .int .i64 fr, .int .i64 tt, .int .i64 di, .int .i64 b.au, .int .i64 b.n, .slice bA bn bc, .int .i64 hd.au, .int .i64 hd.ro, .slice xA xn xc, .slice yA yn yc, .int .i64 cc.h.au, .int .i64 cc.h.ro, .slice cA cn cd, .slice dA dn dc, .int .i64 cc.di, .slice sA sn sc, .slice eA en ec]) := ħ (HBM.out.up (bel_drew (Below.refl _ _)))
 generalize W.drew = Z at *
 clear hsz hb0 HBM HBX
 (refine wpAnyH_tk 0 (some 51) (v := ?_) rfl rfl ?_ ?_; rotate_left; (focus (intro wq hSw; clear hSw; go_simp; all_goals (with_reducible rfl))); simp only [lz])
 (refine wpAnyH_tk 1 (some 52) (v := ?_) rfl rfl ?_ ?_; rotate_left; (focus (intro wq hSw; have q1 := hS1 wq hSw; clear hSw; go_simp; all_goals (with_reducible rfl))); simp only [lz])
 (refine wpAnyH_tk 2 (some 53) (v := ?_) rfl rfl ?_ ?_; rotate_left; (focus (intro wq hSw; clear hSw; go_simp; all_goals (with_reducible rfl))); simp only [lz])
 refine wpAnyH_takeD (i := 3) (d := (some 54)) (v := .agg ([.int .i64 b.au, .int .i64 b.n, .slice bA bn bc]).toArray) rfl rfl (by kernel_rfl) (by kernel_rfl) (by kernel_rfl) (fun _ _ _ h => h) (yieldsIf_load_mid (by rfl) 43 _ rfl w.heap.size 4 (by simp [Act.eval, Act.put]) ([.int .i64 b.au, .int .i64 b.n, .slice bA bn bc]) _ (hS2) Tryz.underlying43 (by rfl) (by kernel_rfl)) (by assumption) ?_
 simp only [lz]
 (refine wpAnyH_tk 4 (some 55) (v := ?_) rfl rfl ?_ ?_; rotate_left; (focus (intro wq hSw; clear hSw; go_simp; all_goals (with_reducible rfl))); simp only [lz])
 refine rd1 5 rfl fun K hK => ?_
 have qf := HZX.out.frozen 3
 have q3 := HZX.out.box.2 3 _ rfl
 have ql := HZX.out.lt
 go_simp
 clear qf q3 ql
 have HX0 := ħ (HZX.out.set_ 3 (.int .i64 di))
 have HM0 := ħ (HZM.out.far (p := ⟨w.heap.size + 1, 3, none⟩) (by show w.heap.size ≠ w.heap.size + 1; omega) (.int .i64 di))
 have hb0 := hbz.setCell (p := ⟨w.heap.size + 1, 3, none⟩) (by show _ ≤ w.heap.size + 1; omega) (.int .i64 di)
 have hs0 := hS4 _ 3 (.int .i64 di) hHeld
 refine hK.out _ _ (hs0) (fun hHeld => ?_)
 clear hK K
 (try simp only [lz])
 (refine wpAnyH_tk 6 (some 56) (v := ?_) rfl rfl ?_ ?_; rotate_left; (focus (intro wq hSw; clear hSw; go_simp; all_goals (with_reducible rfl))); simp only [lz])
 refine rd1 7 rfl fun K hK => ?_
 have ql := HX0.out.lt
 have qf4 := HX0.out.frozen 4
 have q4 := HX0.out.box.2 4 _ rfl
 have qf5 := HX0.out.frozen 5
 have q5 := HX0.out.box.2 5 _ rfl
 have qf6 := HX0.out.frozen 6
 have q6 := HX0.out.box.2 6 _ rfl
 go_simp
 clear ql qf4 q4 qf5 q5 qf6 q6
 have HX1 := ħ ((((HX0.out).set_ 4 (.int .i64 b.au)).set_ 5 (.int .i64 b.n)).set_ 6 (.slice bA bn bc))
 have HM1 := ħ ((((HM0.out).far (p := ⟨w.heap.size + 1, 4, none⟩) (by show w.heap.size ≠ w.heap.size + 1; omega) (.int .i64 b.au)).far (p := ⟨w.heap.size + 1, 5, none⟩) (by show w.heap.size ≠ w.heap.size + 1; omega) (.int .i64 b.n)).far (p := ⟨w.heap.size + 1, 6, none⟩) (by show w.heap.size ≠ w.heap.size + 1; omega) (.slice bA bn bc))
 have hb1 := (((hb0).setCell (p := ⟨w.heap.size + 1, 4, none⟩) (by show _ ≤ w.heap.size + 1; omega) (.int .i64 b.au)).setCell (p := ⟨w.heap.size + 1, 5, none⟩) (by show _ ≤ w.heap.size + 1; omega) (.int .i64 b.n)).setCell (p := ⟨w.heap.size + 1, 6, none⟩) (by show _ ≤ w.heap.size + 1; omega) (.slice bA bn bc)
 have hs1 := hS4 _ 6 (.slice bA bn bc) (hS4 _ 5 (.int .i64 b.n) (hS4 _ 4 (.int .i64 b.au) (hs0)))
 refine hK.out _ _ (hs1) (fun hHeld => ?_)
 clear hK K
 (try simp only [lz])
 refine wpAnyH_done (by kernel_rfl) ?_ _
 have HVX : Hid (Blk _ (w.heap.size + 1) 49 [.int .i64 3, .int .i64 fr, .int .i64 tt, .int .i64 di, .int .i64 b.au, .int .i64 b.n, .slice bA bn bc, .int .i64 0, .int .i64 0, .slice none 0 0, .slice none 0 0, .int .i64 0, .int .i64 0, .slice none 0 0, .slice none 0 0, .int .i64 0, .slice none 0 0, .slice none 0 0]) := HX1
 have HVM := HM1
 have hb2 := hb1
 refine wp_world (fun V hV => ?_)
 rw [← hV] at HVX HVM hb2
 clear hHeld hV HZX HZM hbz hZ0 HX1 HM1 hb1 hs1 HX0 HM0 hb0 hs0
 have m3 := HVM.out.box.2 3 _ rfl
 have m4 := HVM.out.box.2 4 _ rfl
 have m5 := HVM.out.box.2 5 _ rfl
 have m6 := HVM.out.box.2 6 _ rfl
 cases yd
 ·go_upto_region 24 with (go_at_call 36; (with_reducible refine (ref0_Dig di false _ HDI.out).mono ?_); rintro e w' ⟨rfl, rfl⟩)
  rename_i K hK
  exact msg_tail w.heap.size (w.heap.size + 1) ⟨⟨bA, bn, bc⟩, ⟨⟨xA, xn, xc⟩, ⟨yA, yn, yc⟩⟩, ⟨⟨⟨cA, cn, cd⟩, ⟨dA, dn, dc⟩⟩, ⟨sA, sn, sc⟩⟩, ⟨eA, en, ec⟩⟩ ⟨⟨bA, bn, bc⟩, ⟨⟨none, 0, 0⟩, ⟨none, 0, 0⟩⟩, ⟨⟨⟨none, 0, 0⟩, ⟨none, 0, 0⟩⟩, ⟨none, 0, 0⟩⟩, ⟨none, 0, 0⟩⟩ ⟨3, fr, tt, di, b, hd, cc, ds⟩ ⟨3, fr, tt, di, b, hea0, cer0, []⟩ false y w _ hK (hb2) (HVM.out) (HVX.out) HM.out HQ.out (Or.inl rfl) (by rw [HY'.out]; exact ⟨fun g => absurd g.1.1 (by decide), fun g => absurd g.1 (by decide)⟩)
 ·cases yb
  ·go_upto_region 24 with (first | (go_at_call 36; (with_reducible refine (ref0_Dig di true _ HDI.out).mono ?_); rintro e w' ⟨rfl, rfl⟩) | (go_at_call 69; (with_reducible refine (ref4_Batch b bA bn bc false _ (HD.out.up hb2) HBI.out).mono ?_); rintro e w7 ⟨rfl, hb7⟩; have m4 := (hb7.cell (p := ⟨w.heap.size, 4, none⟩) (HVM.out.lt)).trans m4))
   rename_i K hK
   exact msg_tail w.heap.size (w.heap.size + 1) ⟨⟨bA, bn, bc⟩, ⟨⟨xA, xn, xc⟩, ⟨yA, yn, yc⟩⟩, ⟨⟨⟨cA, cn, cd⟩, ⟨dA, dn, dc⟩⟩, ⟨sA, sn, sc⟩⟩, ⟨eA, en, ec⟩⟩ ⟨⟨bA, bn, bc⟩, ⟨⟨none, 0, 0⟩, ⟨none, 0, 0⟩⟩, ⟨⟨⟨none, 0, 0⟩, ⟨none, 0, 0⟩⟩, ⟨none, 0, 0⟩⟩, ⟨none, 0, 0⟩⟩ ⟨3, fr, tt, di, b, hd, cc, ds⟩ ⟨3, fr, tt, di, b, hea0, cer0, []⟩ false y w _ hK (bel_trans hb2 hb7) (HVM.out.up hb7) (HVX.out.up hb7) HM.out HQ.out (Or.inl rfl) (by rw [HY'.out]; exact ⟨fun g => absurd g.1.2.1 (by decide), fun g => absurd g.1 (by decide)⟩)
  ·by_cases hau : b.au ≤ n
   ·have da : decide (b.au ≤ n) = true := decide_eq_true hau
    go_upto_region 24 with (first | (go_at_call 36; (with_reducible refine (ref0_Dig di true _ HDI.out).mono ?_); rintro e w' ⟨rfl, rfl⟩) | (go_at_call 69; (with_reducible refine (ref4_Batch b bA bn bc true _ (HD.out.up hb2) HBI.out).mono ?_); rintro e w7 ⟨rfl, hb7⟩; have m4 := (hb7.cell (p := ⟨w.heap.size, 4, none⟩) (HVM.out.lt)).trans m4))
    rename_i K hK
    exact msg_tail w.heap.size (w.heap.size + 1) ⟨⟨bA, bn, bc⟩, ⟨⟨xA, xn, xc⟩, ⟨yA, yn, yc⟩⟩, ⟨⟨⟨cA, cn, cd⟩, ⟨dA, dn, dc⟩⟩, ⟨sA, sn, sc⟩⟩, ⟨eA, en, ec⟩⟩ ⟨⟨bA, bn, bc⟩, ⟨⟨none, 0, 0⟩, ⟨none, 0, 0⟩⟩, ⟨⟨⟨none, 0, 0⟩, ⟨none, 0, 0⟩⟩, ⟨none, 0, 0⟩⟩, ⟨none, 0, 0⟩⟩ ⟨3, fr, tt, di, b, hd, cc, ds⟩ ⟨3, fr, tt, di, b, hea0, cer0, []⟩ true y w _ hK (bel_trans hb2 hb7) (HVM.out.up hb7) (HVX.out.up hb7) HM.out HQ.out (Or.inl rfl) (by rw [HY'.out]; exact ⟨fun g => ⟨rfl, g.2⟩, fun g => ⟨⟨by trivial, by trivial, hau⟩, g.2⟩⟩)
   ·have da : decide (b.au ≤ n) = false := decide_eq_false hau
    go_upto_region 24 with (first | (go_at_call 36; (with_reducible refine (ref0_Dig di true _ HDI.out).mono ?_); rintro e w' ⟨rfl, rfl⟩) | (go_at_call 69; (with_reducible refine (ref4_Batch b bA bn bc true _ (HD.out.up hb2) HBI.out).mono ?_); rintro e w7 ⟨rfl, hb7⟩; have m4 := (hb7.cell (p := ⟨w.heap.size, 4, none⟩) (HVM.out.lt)).trans m4))
    rename_i K hK
    exact msg_tail w.heap.size (w.heap.size + 1) ⟨⟨bA, bn, bc⟩, ⟨⟨xA, xn, xc⟩, ⟨yA, yn, yc⟩⟩, ⟨⟨⟨cA, cn, cd⟩, ⟨dA, dn, dc⟩⟩, ⟨sA, sn, sc⟩⟩, ⟨eA, en, ec⟩⟩ ⟨⟨bA, bn, bc⟩, ⟨⟨none, 0, 0⟩, ⟨none, 0, 0⟩⟩, ⟨⟨⟨none, 0, 0⟩, ⟨none, 0, 0⟩⟩, ⟨none, 0, 0⟩⟩, ⟨none, 0, 0⟩⟩ ⟨3, fr, tt, di, b, hd, cc, ds⟩ ⟨3, fr, tt, di, b, hea0, cer0, []⟩ false y w _ hK (bel_trans hb2 hb7) (HVM.out.up hb7) (HVX.out.up hb7) HM.out HQ.out (Or.inl rfl) (by rw [HY'.out]; exact ⟨fun g => absurd g.1.2.2 (by omega), fun g => absurd g.1 (by decide)⟩)
open Go.RowKit

theorem message_May3' (P : MsgP) (M : MsgD) (n : Int) (y : Bool) (w : World) (h : MsgR w P M) (hk : M.ki = 3) (hh : hdM M n) (hy : msgB M n = y) :
  Calls Tryz.prog 94 #[M18 P M, .int .i64 n] w fun e w' => e = .returned (.bool y) ∧ Below w.heap.size w w' := by
 have h1 := msgB_of (yd := dec (digS M.di = true ∧ bmT M.b = true ∧ M.b.au ≤ n)) (O := ⟨M.ki, M.fr, M.tt, M.di, M.b, hea0, cer0, []⟩) hh hy (by unfold okM; rw [if_pos (by simp [hk]), dec_iff]) (by unfold onlyD; rw [if_pos (by simp [hk])])
 have hR : MsgR w ⟨P.b, ⟨⟨none, 0, 0⟩, ⟨none, 0, 0⟩⟩, ⟨⟨⟨none, 0, 0⟩, ⟨none, 0, 0⟩⟩, ⟨none, 0, 0⟩⟩, ⟨none, 0, 0⟩⟩ (⟨M.ki, M.fr, M.tt, M.di, M.b, hea0, cer0, []⟩ : MsgD) := ⟨h.tx, HeaderR.nil _, CertR.nil _, IntsR.nil _ _⟩
 refine message_May_of P ⟨P.b, ⟨⟨none, 0, 0⟩, ⟨none, 0, 0⟩⟩, ⟨⟨⟨none, 0, 0⟩, ⟨none, 0, 0⟩⟩, ⟨none, 0, 0⟩⟩, ⟨none, 0, 0⟩⟩ M ⟨M.ki, M.fr, M.tt, M.di, M.b, hea0, cer0, []⟩ n (dec (digS M.di = true ∧ bmT M.b = true ∧ M.b.au ≤ n)) y w hh (fun u hu => message_only3 P M n _ u hk (h.tx.up hu) rfl) ?_
 rw [mayC_iff h hR ⟨rfl, rfl, rfl⟩ (.inl rfl) rfl rfl rfl rfl rfl (.inr rfl)]
 exact h1
theorem ref4_Message3' (P : MsgP) (M : MsgD) (n : Int) (y : Bool) (w : World) (h : MsgR w P M) (hk : M.ki = 3) (hh : hdM M n) (hy : msgB M n = y) :
  Calls Tryz.prog 90 #[M18 P M, .int .i64 n] w fun e w' => e = .returned (.bool y) ∧ Below w.heap.size w w' :=
 ref4_Message3 P M n y w h hk hh (msgB_of (yd := dec (digS M.di = true ∧ bmT M.b = true ∧ M.b.au ≤ n)) (O := ⟨M.ki, M.fr, M.tt, M.di, M.b, hea0, cer0, []⟩) hh hy (by unfold okM; rw [if_pos (by simp [hk]), dec_iff]) (by unfold onlyD; rw [if_pos (by simp [hk])]))
theorem takesK3 : TakesK 3 := ⟨by unfold takes4; omega, message_May3', ref4_Message3'⟩
open Go.RowKit

/-- A batch is held that was not, if there is room. -/
noncomputable def heldD (D : WorkD) (M : MsgD) : WorkD := if khasH D.he M.di = false ∧ D.he.length < 1024 then holdD D M.di M.b else D
def tellM (id fr di : Int) : MsgD := ⟨2, id, fr, di, ⟨0, 0, []⟩, ⟨0, 0, [], []⟩, ⟨⟨0, 0, [], []⟩, 0, []⟩, []⟩
noncomputable def heldL (D : WorkD) (M : MsgD) : List MsgD := if M.ki = 1 ∧ (khasH D.he M.di = true ∨ D.he.length < 1024) then [tellM D.id M.fr M.di] else []
set_option maxHeartbeats 8000000 in
theorem worker_Got13 (P : WorkP) (D : WorkD) (Pm : MsgP) (M : MsgD) (B : Nat) (w : World) (hO : WorkO w B P D) (hs : BigD D) (hB : B ≤ w.heap.size) (hm : mayW D = true) (hp : TxsR w Pm.b.A Pm.b.n M.b.tx) (hbn : Pm.b.n ≤ 800000000) (hk : M.ki = 1 ∨ M.ki = 3) :
  Calls Tryz.prog 96 #[P.val D, M18 Pm M] w fun e w' => ∃ P' A n c, e = .returned (.tuple #[P'.val (heldD D M), .slice A n c]) ∧ WorkO w' B P' (heldD D M) ∧ OwnMs w' w.heap.size (.slice A n c) (heldL D M) ∧ Below w.heap.size w w' := by
 obtain ⟨⟨oA, on, oc⟩, ⟨tA, tn, tc⟩, ⟨eA, en, ec⟩, ⟨rA, rn, rc⟩⟩ := P
 obtain ⟨⟨bA, bn, bc⟩, ⟨⟨xA, xn, xc⟩, ⟨yA, yn, yc⟩⟩, ⟨⟨⟨cA, cn, cd⟩, ⟨dA, dn, dc⟩⟩, ⟨sA, sn, sc⟩⟩, ⟨zA, zn, zc⟩⟩ := Pm
 obtain ⟨ki, fr, tt, di, b, hd, cc, ds⟩ := M
 dsimp only at hp hbn hk
 have HM := ħ (mayW_iff.1 hm)
 have HW := ħ (hO.work hs)
 have HO := ħ hO
 have HS := ħ hs
 have HTX := ħ hp
 obtain ⟨lo, hlo⟩ : ∃ lo, kposH D.he di = lo := ⟨_, rfl⟩
 obtain ⟨yh, hyh⟩ : ∃ y, khasH D.he di = y := ⟨_, rfl⟩
 have HLO := ħ hlo
 have HYH := ħ hyh
 have HEN : Hid (D.he.length = en) := ħ HW.out.he.1
 have hen : en ≤ 1024 := by rw [← HEN.out]; exact HM.out.2.2.2.2.2.2.2.1
 have HSO : Hid (SortedH D.he) := ħ (hdB_iff.1 HM.out.2.2.2.2.2.2.2.2.2.2.1).sorted
 have hD : heldD D ⟨ki, fr, tt, di, b, hd, cc, ds⟩ = if yh = false ∧ en < 1024 then holdD D di b else D := by unfold heldD; rw [hyh, HEN.out]
 have hL : heldL D ⟨ki, fr, tt, di, b, hd, cc, ds⟩ = if ki = 1 ∧ (yh = true ∨ en < 1024) then [tellM D.id fr di] else [] := by unfold heldL; rw [hyh, HEN.out]
 rw [hD, hL]
 obtain ⟨D1, hD1⟩ : ∃ z, (if yh = false ∧ en < 1024 then holdD D di b else D) = z := ⟨_, rfl⟩
 obtain ⟨L1, hL1⟩ : ∃ z, (if ki = 1 ∧ (yh = true ∨ en < 1024) then [tellM D.id fr di] else []) = z := ⟨_, rfl⟩
 rw [hD1, hL1]
 have HD1 := ħ hD1
 have HL1 := ħ hL1
 clear hD1 hL1
 clear hO hs hm hp hlo hyh hD hL
 show Calls Tryz.prog 96 #[.agg #[.int .i64 D.id, .int .i64 D.nodes, .int .i64 D.next, .slice oA on oc, .int .i64 D.age, .int .i64 D.clock, .slice tA tn tc, .slice eA en ec, .slice rA rn rc], .agg #[.int .i64 ki, .int .i64 fr, .int .i64 tt, .int .i64 di, .int .i64 b.au, .int .i64 b.n, .slice bA bn bc, .int .i64 hd.au, .int .i64 hd.ro, .slice xA xn xc, .slice yA yn yc, .int .i64 cc.h.au, .int .i64 cc.h.ro, .slice cA cn cd, .slice dA dn dc, .int .i64 cc.di, .slice sA sn sc, .slice zA zn zc]] w _
 go_enter Tryz.func96, Tryz.ntmps96
 go_upto_region 2 with fail
 refine wp_world (fun W hW => ?_)
 have HBM : Hid (Blk W (w.heap.size + 1) 49 [.int .i64 ki, .int .i64 fr, .int .i64 tt, .int .i64 di, .int .i64 b.au, .int .i64 b.n, .slice bA bn bc, .int .i64 hd.au, .int .i64 hd.ro, .slice xA xn xc, .slice yA yn yc, .int .i64 cc.h.au, .int .i64 cc.h.ro, .slice cA cn cd, .slice dA dn dc, .int .i64 cc.di, .slice sA sn sc, .slice zA zn zc]) := ħ (by rw [hW]; exact ((Blk.new1 w 27 49 [.int .i64 D.id, .int .i64 D.nodes, .int .i64 D.next, .slice oA on oc, .int .i64 D.age, .int .i64 D.clock, .slice tA tn tc, .slice eA en ec, .slice rA rn rc] [.int .i64 ki, .int .i64 fr, .int .i64 tt, .int .i64 di, .int .i64 b.au, .int .i64 b.n, .slice bA bn bc, .int .i64 hd.au, .int .i64 hd.ro, .slice xA xn xc, .slice yA yn yc, .int .i64 cc.h.au, .int .i64 cc.h.ro, .slice cA cn cd, .slice dA dn dc, .int .i64 cc.di, .slice sA sn sc, .slice zA zn zc]).up (bel_alloc (Below.refl _ _))).up (bel_alloc (Below.refl _ _)))
 have HR : Hid (Blk W (w.heap.size + 1 + 1) 27 [.int .i64 0, .int .i64 0, .int .i64 0, .slice none 0 0, .int .i64 0, .int .i64 0, .slice none 0 0, .slice none 0 0, .slice none 0 0]) := ħ (by
  rw [hW]
  have h9 := Blk.new1 (w.alloc (.cells #[.int .i64 D.id, .int .i64 D.nodes, .int .i64 D.next, .slice oA on oc, .int .i64 D.age, .int .i64 D.clock, .slice tA tn tc, .slice eA en ec, .slice rA rn rc] 27)) 49 27 [.int .i64 ki, .int .i64 fr, .int .i64 tt, .int .i64 di, .int .i64 b.au, .int .i64 b.n, .slice bA bn bc, .int .i64 hd.au, .int .i64 hd.ro, .slice xA xn xc, .slice yA yn yc, .int .i64 cc.h.au, .int .i64 cc.h.ro, .slice cA cn cd, .slice dA dn dc, .int .i64 cc.di, .slice sA sn sc, .slice zA zn zc] [.int .i64 0, .int .i64 0, .int .i64 0, .slice none 0 0, .int .i64 0, .int .i64 0, .slice none 0 0, .slice none 0 0, .slice none 0 0]
  rw [show (w.alloc (.cells #[.int .i64 D.id, .int .i64 D.nodes, .int .i64 D.next, .slice oA on oc, .int .i64 D.age, .int .i64 D.clock, .slice tA tn tc, .slice eA en ec, .slice rA rn rc] 27)).heap.size = w.heap.size + 1 by simp] at h9
  exact h9.up (bel_alloc (Below.refl _ _)))
 have HG : Hid (Blk W (w.heap.size + 1 + 1 + 1) 142 [.int .i64 D.id, .int .i64 D.nodes, .int .i64 D.next, .slice oA on oc, .int .i64 D.age, .int .i64 D.clock, .slice tA tn tc, .slice eA en ec, .slice rA rn rc, .slice none 0 0]) := ħ (by
  rw [hW]
  have h9 := Blk.new1 ((w.alloc (.cells #[.int .i64 D.id, .int .i64 D.nodes, .int .i64 D.next, .slice oA on oc, .int .i64 D.age, .int .i64 D.clock, .slice tA tn tc, .slice eA en ec, .slice rA rn rc] 27)).alloc (.cells #[.int .i64 ki, .int .i64 fr, .int .i64 tt, .int .i64 di, .int .i64 b.au, .int .i64 b.n, .slice bA bn bc, .int .i64 hd.au, .int .i64 hd.ro, .slice xA xn xc, .slice yA yn yc, .int .i64 cc.h.au, .int .i64 cc.h.ro, .slice cA cn cd, .slice dA dn dc, .int .i64 cc.di, .slice sA sn sc, .slice zA zn zc] 49)) 27 142 [.int .i64 0, .int .i64 0, .int .i64 0, .slice none 0 0, .int .i64 0, .int .i64 0, .slice none 0 0, .slice none 0 0, .slice none 0 0] [.int .i64 D.id, .int .i64 D.nodes, .int .i64 D.next, .slice oA on oc, .int .i64 D.age, .int .i64 D.clock, .slice tA tn tc, .slice eA en ec, .slice rA rn rc, .slice none 0 0]
  rwa [show ((w.alloc (.cells #[.int .i64 D.id, .int .i64 D.nodes, .int .i64 D.next, .slice oA on oc, .int .i64 D.age, .int .i64 D.clock, .slice tA tn tc, .slice eA en ec, .slice rA rn rc] 27)).alloc (.cells #[.int .i64 ki, .int .i64 fr, .int .i64 tt, .int .i64 di, .int .i64 b.au, .int .i64 b.n, .slice bA bn bc, .int .i64 hd.au, .int .i64 hd.ro, .slice xA xn xc, .slice yA yn yc, .int .i64 cc.h.au, .int .i64 cc.h.ro, .slice cA cn cd, .slice dA dn dc, .int .i64 cc.di, .slice sA sn sc, .slice zA zn zc] 49)).heap.size = w.heap.size + 1 + 1 by simp] at h9)
 have hbW : Below w.heap.size w W := by rw [hW]; exact bel_alloc (bel_alloc (bel_alloc (bel_alloc (Below.refl _ _))))
 clear hW
 obtain ⟨gs, hgs⟩ : ∃ g, g = w.heap.size + 1 + 1 + 1 := ⟨_, rfl⟩
 obtain ⟨gr, hgr⟩ : ∃ g, g = w.heap.size + 1 + 1 := ⟨_, rfl⟩
 obtain ⟨gm, hgm⟩ : ∃ g, g = w.heap.size + 1 := ⟨_, rfl⟩
 rw [← hgs] at HG
 rw [← hgr] at HR
 rw [← hgm] at HBM
 have hgs3 : gs = w.heap.size + 3 := by rw [hgs]
 have hgr3 : gr = w.heap.size + 2 := by rw [hgr]
 try rw [← hgs]
 try rw [← hgr]
 try rw [← hgm]
 try rw [← hgs3]
 try rw [← hgr3]
 have hgmr : gm < gr := by omega
 have hgrs : gr < gs := by omega
 have hgwm : w.heap.size < gm := by omega
 clear hgs hgr hgm hgs3 hgr3
 obtain ⟨S, hSd⟩ : ∃ S : World → Prop, S = fun Q => Q.cell? ⟨gs, 7, none⟩ = some (.slice eA en ec) ∧ Q.cell? ⟨gm, 3, none⟩ = some (.int .i64 di) := ⟨_, rfl⟩
 have hS1 : ∀ Q, S Q → Q.cell? ⟨gs, 7, none⟩ = some (.slice eA en ec) := fun Q h => by rw [hSd] at h; exact h.1
 have hS2 : ∀ Q, S Q → Q.cell? ⟨gm, 3, none⟩ = some (.int .i64 di) := fun Q h => by rw [hSd] at h; exact h.2
 have hS : ∀ Q, Below W.heap.size W Q → S Q := fun Q hQ => by rw [hSd]; exact ⟨(HG.out.up hQ).box.2 7 _ rfl, (HBM.out.up hQ).box.2 3 _ rfl⟩
 clear hSd
 refine wp_region_held_drew (S := S) (by kernel_rfl) (hS _ (bel_drew (Below.refl _ _))) (fun hHeld => ?_)
 have hbd : Below W.heap.size W W.drew := bel_drew (Below.refl _ _)
 have hZ := hHeld
 generalize W.drew = Z at *
 (refine wpAnyH_tk 0 (some 17) (v := ?_) rfl rfl ?_ ?_; rotate_left; (focus (intro wq hSw; clear hSw; go_simp; all_goals (with_reducible rfl))); simp only [lz])
 (refine wpAnyH_tk 1 (some 18) (v := ?_) rfl rfl ?_ ?_; rotate_left; (focus (intro wq hSw; clear hSw; go_simp; all_goals (with_reducible rfl))); simp only [lz])
 (refine wpAnyH_tk 2 (some 19) (v := ?_) rfl rfl ?_ ?_; rotate_left; (focus (intro wq hSw; clear hSw; go_simp; all_goals (with_reducible rfl))); simp only [lz])
 (refine wpAnyH_tk 3 (some 20) (v := ?_) rfl rfl ?_ ?_; rotate_left; (focus (intro wq hSw; clear hSw; go_simp; all_goals (with_reducible rfl))); simp only [lz])
 (refine wpAnyH_tk 4 (some 21) (v := ?_) rfl rfl ?_ ?_; rotate_left; (focus (intro wq hSw; have q1 := hS1 wq hSw; clear hSw; go_simp; all_goals (with_reducible rfl))); simp only [lz])
 (refine wpAnyH_tk 5 (some 22) (v := ?_) rfl rfl ?_ ?_; rotate_left; (focus (intro wq hSw; clear hSw; go_simp; all_goals (with_reducible rfl))); simp only [lz])
 (refine wpAnyH_tk 6 (some 23) (v := ?_) rfl rfl ?_ ?_; rotate_left; (focus (intro wq hSw; have q1 := hS2 wq hSw; clear hSw; go_simp; all_goals (with_reducible rfl))); simp only [lz])
 refine rd1 7 rfl fun K hK => ?_
 go_simp
 (go_at_call 118; refine (worker_At eA en ec D.he di lo yh _ (HW.out.he.up (bel_trans hbW hbd)) HSO.out (by omega) HLO.out HYH.out).mono ?_; rintro e w5 ⟨rfl, hb5⟩)
 refine hK.out _ _ (hS _ (bel_trans hbd hb5)) (fun hHeld => ?_)
 clear hK K
 (try simp only [lz])
 (refine wpAnyH_tk 8 (some 16) (v := ?_) rfl rfl ?_ ?_; rotate_left; (focus (intro wq hSw; clear hSw; go_simp; all_goals (with_reducible rfl))); simp only [lz])
 (refine wpAnyH_tk 9 (some 25) (v := ?_) rfl rfl ?_ ?_; rotate_left; (focus (intro wq hSw; clear hSw; go_simp; all_goals (with_reducible rfl))); simp only [lz])
 (refine wpAnyH_tk 10 (some 26) (v := ?_) rfl rfl ?_ ?_; rotate_left; (focus (intro wq hSw; clear hSw; go_simp; all_goals (with_reducible rfl))); simp only [lz])
 (refine wpAnyH_tk 11 (some 7) (v := ?_) rfl rfl ?_ ?_; rotate_left; (focus (intro wq hSw; clear hSw; go_simp; all_goals (with_reducible rfl))); simp only [lz])
 (refine wpAnyH_tk 12 (some 8) (v := ?_) rfl rfl ?_ ?_; rotate_left; (focus (intro wq hSw; clear hSw; go_simp; all_goals (with_reducible rfl))); simp only [lz])
 refine wpAnyH_done (by kernel_rfl) ?_ _
 obtain ⟨X, hX⟩ : ∃ X, X = w5 := ⟨_, rfl⟩
 rw [← hX] at hb5 ⊢
 have hbX := bel_trans hbW (bel_trans hbd hb5)
 have HGX := ħ (HG.out.up (bel_trans hbd hb5))
 have HMX := ħ (HBM.out.up (bel_trans hbd hb5))
 have HRX := ħ (HR.out.up (bel_trans hbd hb5))
 have hBX : B ≤ X.heap.size := Nat.le_trans hB hbX.size
 clear hX hb5 hbd hHeld hZ HG HBM HR hbW hS hS1 hS2
 rcases hk with hk | hk
 ·subst hk
  cases yh
  ·by_cases hr : en < 1024
   ·have hr2 : decide ((en : Int) < 1024) = true := by simp; omega
    obtain rfl : holdD D di b = D1 := by rw [← HD1.out]; exact Eq.symm (if_pos ⟨rfl, hr⟩)
    obtain rfl : [tellM D.id fr di] = L1 := by rw [← HL1.out]; exact Eq.symm (if_pos ⟨rfl, .inr hr⟩)
    have g7 := HGX.out.box.2 7 _ rfl
    have m0 := HMX.out.box.2 0 _ rfl
    have hgl := HGX.out.lt
    have m3 := HMX.out.box.2 3 _ rfl
    have m4 := HMX.out.box.2 4 _ rfl
    have m5 := HMX.out.box.2 5 _ rfl
    have m6 := HMX.out.box.2 6 _ rfl
    go_upto_region 15 with (go_at_call 119; refine (step_hold gs B oA tA eA rA none bA on oc tn tc en ec rn rc 0 0 bn bc D di b X HGX.out hBX (HO.out.up hbX).he HS.out.he HSO.out (HTX.out.up hbX) hbn).mono ?_; rintro e wh ⟨Xh, A3, n3, c3, rfl, rfl, hbh, hhe⟩)
    clear g7 m0 m3 m4 m5 m6 hgl
    have hGh := HGX.out.up hbh
    refine wp_world (fun Y hY => ?_)
    have HGY : Hid (Blk Y gs 142 [.int .i64 D.id, .int .i64 D.nodes, .int .i64 D.next, .slice oA on oc, .int .i64 D.age, .int .i64 D.clock, .slice tA tn tc, .slice A3 n3 c3, .slice rA rn rc, .slice none 0 0]) := ħ (by rw [hY]; exact hGh.set_ 7 (.slice A3 n3 c3))
    have htY : TKeep 142 X Y := by rw [hY]; exact (TKeep.of_below hbh).trans (TKeep.setg hGh)
    have HHY : Hid (OwnHs Y B (.slice A3 n3 c3) (insAt D.he (kposH D.he di) ⟨di, b⟩)) := ħ (by rw [hY]; exact hhe.tk (TKeep.setg hGh) twStep)
    have HMY := ħ (HMX.out.tk htY (by decide))
    have HRY := ħ (HRX.out.tk htY (by decide))
    have hbY : Below w.heap.size w Y := by rw [hY]; exact (bel_trans hbX hbh).setCell (p := ⟨gs, 7, none⟩) (by show w.heap.size ≤ gs; omega) _
    have HOX := HO.out.up hbX
    have HOY : Hid (WorkO Y B ⟨⟨oA, on, oc⟩, ⟨tA, tn, tc⟩, ⟨A3, n3, c3⟩, ⟨rA, rn, rc⟩⟩ (holdD D di b)) := ħ (let h9 := HOX.tk htY twStep; ⟨h9.op, h9.wa, HHY.out, h9.re⟩)
    clear hY hbh hhe hGh htY HHY HOX HGX HMX HRX hbX hBX
    have m0 := HMY.out.box.2 0 _ rfl
    have hgl := HGY.out.lt
    have m1 := HMY.out.box.2 1 _ rfl
    have m3 := HMY.out.box.2 3 _ rfl
    go_upto_region 21 with (go_at_call 133; refine (step_say gs Y.heap.size D.id fr _ _ _ _ _ _ _ _ none 0 0 [] [] ⟨⟨none, 0, 0⟩, ⟨⟨none, 0, 0⟩, ⟨none, 0, 0⟩⟩, ⟨⟨⟨none, 0, 0⟩, ⟨none, 0, 0⟩⟩, ⟨none, 0, 0⟩⟩, ⟨none, 0, 0⟩⟩ ⟨2, 0, 0, di, ⟨0, 0, []⟩, ⟨0, 0, [], []⟩, ⟨⟨0, 0, [], []⟩, 0, []⟩, []⟩ Y HGY.out hgl (Nat.le_refl _) (OwnT.nil _ _) (by simp) ⟨OwnX.nil _ _, OwnI.nil _ _, OwnI.nil _ _, OwnI.nil _ _, OwnI.nil _ _, OwnI.nil _ _, OwnI.nil _ _⟩).mono ?_; rintro e wz ⟨Xz, A9, n9, c9, rfl, rfl, hbz, -, hOz⟩)
    have hGz := HGY.out.up hbz
    have HGZ := ħ (hGz.set_ 9 (.slice A9 n9 c9))
    have htZ := (TKeep.of_below hbz).trans (TKeep.setg (o := 9) (u := .slice A9 n9 c9) hGz)
    have HRZ := ħ (HRY.out.tk htZ (by decide))
    have hbZ : Below w.heap.size w _ := (bel_trans hbY hbz).setCell (p := ⟨gs, 9, none⟩) (by show w.heap.size ≤ gs; omega) (.slice A9 n9 c9)
    have HOZ := ħ (HOY.out.tk htZ twStep)
    have HMZ : Hid (OwnMs _ w.heap.size (.slice A9 n9 c9) [tellM D.id fr di]) := ħ ⟨_, (hOz.tkM (TKeep.setg (o := 9) (u := .slice A9 n9 c9) hGz) twStep).mono hbY.size⟩
    rename_i K hK
    exact got_tail gr gs D.id D.nodes D.next D.age D.clock oA tA A3 rA A9 on oc tn tc n3 c3 rn rc n9 c9 _ hK (by omega) HGZ.out HRZ.out (fun W' ht hbn' => ⟨⟨⟨oA, on, oc⟩, ⟨tA, tn, tc⟩, ⟨A3, n3, c3⟩, ⟨rA, rn, rc⟩⟩, A9, n9, c9, rfl, HOZ.out.tk ht twWork, HMZ.out.tk ht twWork, hbZ.trans (hbn' _ (by omega))⟩)
   ·have hr2 : decide ((en : Int) < 1024) = false := by simp; omega
    obtain rfl : D = D1 := by rw [← HD1.out]; exact Eq.symm (if_neg (fun g => hr g.2))
    obtain rfl : [] = L1 := by rw [← HL1.out]; exact Eq.symm (if_neg (fun g => g.2.elim (fun g2 => by cases g2) hr))
    have g7 := HGX.out.box.2 7 _ rfl
    have m0 := HMX.out.box.2 0 _ rfl
    have hgl := HGX.out.lt
    go_upto_region 21 with fail
    rename_i K hK
    exact got_tail gr gs D.id D.nodes D.next D.age D.clock oA tA eA rA none on oc tn tc en ec rn rc 0 0 _ hK (by omega) HGX.out HRX.out (fun W' ht hbn' => ⟨⟨⟨oA, on, oc⟩, ⟨tA, tn, tc⟩, ⟨eA, en, ec⟩, ⟨rA, rn, rc⟩⟩, none, 0, 0, rfl, (ħ (HO.out.up hbX)).out.tk ht twWork, OwnMs.nil _ _, hbX.trans (hbn' _ (by omega))⟩)
  ·have hr2 := 0
   obtain rfl : D = D1 := by rw [← HD1.out]; exact Eq.symm (if_neg (fun g => by cases g.1))
   obtain rfl : [tellM D.id fr di] = L1 := by rw [← HL1.out]; exact Eq.symm (if_pos ⟨rfl, .inl rfl⟩)
   have g7 := HGX.out.box.2 7 _ rfl
   have m0 := HMX.out.box.2 0 _ rfl
   have hgl := HGX.out.lt
   have m1 := HMX.out.box.2 1 _ rfl
   have m3 := HMX.out.box.2 3 _ rfl
   go_upto_region 21 with (go_at_call 133; refine (step_say gs X.heap.size D.id fr _ _ _ _ _ _ _ _ none 0 0 [] [] ⟨⟨none, 0, 0⟩, ⟨⟨none, 0, 0⟩, ⟨none, 0, 0⟩⟩, ⟨⟨⟨none, 0, 0⟩, ⟨none, 0, 0⟩⟩, ⟨none, 0, 0⟩⟩, ⟨none, 0, 0⟩⟩ ⟨2, 0, 0, di, ⟨0, 0, []⟩, ⟨0, 0, [], []⟩, ⟨⟨0, 0, [], []⟩, 0, []⟩, []⟩ X HGX.out hgl (Nat.le_refl _) (OwnT.nil _ _) (by simp) ⟨OwnX.nil _ _, OwnI.nil _ _, OwnI.nil _ _, OwnI.nil _ _, OwnI.nil _ _, OwnI.nil _ _, OwnI.nil _ _⟩).mono ?_; rintro e wz ⟨Xz, A9, n9, c9, rfl, rfl, hbz, -, hOz⟩)
   have hGz := HGX.out.up hbz
   have HGZ := ħ (hGz.set_ 9 (.slice A9 n9 c9))
   have htZ := (TKeep.of_below hbz).trans (TKeep.setg (o := 9) (u := .slice A9 n9 c9) hGz)
   have HRZ := ħ (HRX.out.tk htZ (by decide))
   have hbZ : Below w.heap.size w _ := (bel_trans hbX hbz).setCell (p := ⟨gs, 9, none⟩) (by show w.heap.size ≤ gs; omega) (.slice A9 n9 c9)
   have HOZ := ħ ((ħ (HO.out.up hbX)).out.tk htZ twStep)
   have HMZ : Hid (OwnMs _ w.heap.size (.slice A9 n9 c9) [tellM D.id fr di]) := ħ ⟨_, (hOz.tkM (TKeep.setg (o := 9) (u := .slice A9 n9 c9) hGz) twStep).mono hbX.size⟩
   rename_i K hK
   exact got_tail gr gs D.id D.nodes D.next D.age D.clock oA tA eA rA A9 on oc tn tc en ec rn rc n9 c9 _ hK (by omega) HGZ.out HRZ.out (fun W' ht hbn' => ⟨⟨⟨oA, on, oc⟩, ⟨tA, tn, tc⟩, ⟨eA, en, ec⟩, ⟨rA, rn, rc⟩⟩, A9, n9, c9, rfl, HOZ.out.tk ht twWork, HMZ.out.tk ht twWork, hbZ.trans (hbn' _ (by omega))⟩)
 ·subst hk
  cases yh
  ·by_cases hr : en < 1024
   ·have hr2 : decide ((en : Int) < 1024) = true := by simp; omega
    obtain rfl : holdD D di b = D1 := by rw [← HD1.out]; exact Eq.symm (if_pos ⟨rfl, hr⟩)
    obtain rfl : [] = L1 := by rw [← HL1.out]; exact Eq.symm (if_neg (by simp))
    have g7 := HGX.out.box.2 7 _ rfl
    have m0 := HMX.out.box.2 0 _ rfl
    have hgl := HGX.out.lt
    have m3 := HMX.out.box.2 3 _ rfl
    have m4 := HMX.out.box.2 4 _ rfl
    have m5 := HMX.out.box.2 5 _ rfl
    have m6 := HMX.out.box.2 6 _ rfl
    go_upto_region 15 with (go_at_call 119; refine (step_hold gs B oA tA eA rA none bA on oc tn tc en ec rn rc 0 0 bn bc D di b X HGX.out hBX (HO.out.up hbX).he HS.out.he HSO.out (HTX.out.up hbX) hbn).mono ?_; rintro e wh ⟨Xh, A3, n3, c3, rfl, rfl, hbh, hhe⟩)
    clear g7 m0 m3 m4 m5 m6 hgl
    have hGh := HGX.out.up hbh
    refine wp_world (fun Y hY => ?_)
    have HGY : Hid (Blk Y gs 142 [.int .i64 D.id, .int .i64 D.nodes, .int .i64 D.next, .slice oA on oc, .int .i64 D.age, .int .i64 D.clock, .slice tA tn tc, .slice A3 n3 c3, .slice rA rn rc, .slice none 0 0]) := ħ (by rw [hY]; exact hGh.set_ 7 (.slice A3 n3 c3))
    have htY : TKeep 142 X Y := by rw [hY]; exact (TKeep.of_below hbh).trans (TKeep.setg hGh)
    have HHY : Hid (OwnHs Y B (.slice A3 n3 c3) (insAt D.he (kposH D.he di) ⟨di, b⟩)) := ħ (by rw [hY]; exact hhe.tk (TKeep.setg hGh) twStep)
    have HMY := ħ (HMX.out.tk htY (by decide))
    have HRY := ħ (HRX.out.tk htY (by decide))
    have hbY : Below w.heap.size w Y := by rw [hY]; exact (bel_trans hbX hbh).setCell (p := ⟨gs, 7, none⟩) (by show w.heap.size ≤ gs; omega) _
    have HOX := HO.out.up hbX
    have HOY : Hid (WorkO Y B ⟨⟨oA, on, oc⟩, ⟨tA, tn, tc⟩, ⟨A3, n3, c3⟩, ⟨rA, rn, rc⟩⟩ (holdD D di b)) := ħ (let h9 := HOX.tk htY twStep; ⟨h9.op, h9.wa, HHY.out, h9.re⟩)
    clear hY hbh hhe hGh htY HHY HOX HGX HMX HRX hbX hBX
    have m0 := HMY.out.box.2 0 _ rfl
    have hgl := HGY.out.lt
    go_upto_region 21 with fail
    rename_i K hK
    exact got_tail gr gs D.id D.nodes D.next D.age D.clock oA tA A3 rA none on oc tn tc n3 c3 rn rc 0 0 _ hK (by omega) HGY.out HRY.out (fun W' ht hbn' => ⟨⟨⟨oA, on, oc⟩, ⟨tA, tn, tc⟩, ⟨A3, n3, c3⟩, ⟨rA, rn, rc⟩⟩, none, 0, 0, rfl, HOY.out.tk ht twWork, OwnMs.nil _ _, hbY.trans (hbn' _ (by omega))⟩)
   ·have hr2 : decide ((en : Int) < 1024) = false := by simp; omega
    obtain rfl : D = D1 := by rw [← HD1.out]; exact Eq.symm (if_neg (fun g => hr g.2))
    obtain rfl : [] = L1 := by rw [← HL1.out]; exact Eq.symm (if_neg (fun g => g.2.elim (fun g2 => by cases g2) hr))
    have g7 := HGX.out.box.2 7 _ rfl
    have m0 := HMX.out.box.2 0 _ rfl
    have hgl := HGX.out.lt
    go_upto_region 21 with fail
    rename_i K hK
    exact got_tail gr gs D.id D.nodes D.next D.age D.clock oA tA eA rA none on oc tn tc en ec rn rc 0 0 _ hK (by omega) HGX.out HRX.out (fun W' ht hbn' => ⟨⟨⟨oA, on, oc⟩, ⟨tA, tn, tc⟩, ⟨eA, en, ec⟩, ⟨rA, rn, rc⟩⟩, none, 0, 0, rfl, (ħ (HO.out.up hbX)).out.tk ht twWork, OwnMs.nil _ _, hbX.trans (hbn' _ (by omega))⟩)
  ·have hr2 := 0
   obtain rfl : D = D1 := by rw [← HD1.out]; exact Eq.symm (if_neg (fun g => by cases g.1))
   obtain rfl : [] = L1 := by rw [← HL1.out]; exact Eq.symm (if_neg (fun g => by cases g.1))
   have g7 := HGX.out.box.2 7 _ rfl
   have m0 := HMX.out.box.2 0 _ rfl
   have hgl := HGX.out.lt
   go_upto_region 21 with fail
   rename_i K hK
   exact got_tail gr gs D.id D.nodes D.next D.age D.clock oA tA eA rA none on oc tn tc en ec rn rc 0 0 _ hK (by omega) HGX.out HRX.out (fun W' ht hbn' => ⟨⟨⟨oA, on, oc⟩, ⟨tA, tn, tc⟩, ⟨eA, en, ec⟩, ⟨rA, rn, rc⟩⟩, none, 0, 0, rfl, (ħ (HO.out.up hbX)).out.tk ht twWork, OwnMs.nil _ _, hbX.trans (hbn' _ (by omega))⟩)
open Go.RowKit

set_option maxHeartbeats 8000000 in
theorem ref13_tells (g B : Nat) (id : Int) (k1 k2 k3 k4 k5 k6 k7 k8 : Value) (uA : Option Addr) (un uc : Nat) (ps : List MsgP) (l : List MsgD) (P : MsgP) (M : MsgD) (w : World) (hg : Blk w g 70 [.int .i64 id, k1, k2, k3, k4, k5, k6, k7, k8, .slice uA un uc]) (hgB : g < B) (hB : B ≤ w.heap.size) (ho : OwnT dMsg w B (.slice uA un uc) ps l) (hl : l.length ≤ 800000000) (hm : OwnM w B P M) :
  Calls Tryz.prog 85 #[.pointer (some ⟨g, 0, none⟩), M18 P M] w fun e w' => ∃ X A n c, e = .returned (.tuple #[]) ∧ w' = X.setCell ⟨g, 9, none⟩ (.slice A n c) ∧ Below B w X ∧ KeepM w X ∧ OwnT dMsg X B (.slice A n c) (ps ++ [P]) (l ++ [sayM M id M.tt]) := by
 obtain ⟨⟨bA, bn, bc⟩, ⟨⟨xA, xn, xc⟩, ⟨yA, yn, yc⟩⟩, ⟨⟨⟨cA, cn, cc⟩, ⟨dA, dn, dc⟩⟩, ⟨sA, sn, sc⟩⟩, ⟨eA, en, ec⟩⟩ := P
 have HG := ħ hg
 have HO := ħ ho
 have HM := ħ hm
 have hfg := hg.frozen
 have hgl := hg.lt
 have a_0 := (hg.box).2 0 _ rfl; have a_1 := (hg.box).2 1 _ rfl; have a_2 := (hg.box).2 2 _ rfl; have a_3 := (hg.box).2 3 _ rfl; have a_4 := (hg.box).2 4 _ rfl; have a_5 := (hg.box).2 5 _ rfl; have a_6 := (hg.box).2 6 _ rfl; have a_7 := (hg.box).2 7 _ rfl; have a_8 := (hg.box).2 8 _ rfl; have a_9 := (hg.box).2 9 _ rfl
 clear hg ho hm
 show Calls Tryz.prog 85 #[.pointer (some ⟨g, 0, none⟩), .agg #[.int .i64 M.ki, .int .i64 M.fr, .int .i64 M.tt, .int .i64 M.di, .int .i64 M.b.au, .int .i64 M.b.n, .slice bA bn bc, .int .i64 M.h.au, .int .i64 M.h.ro, .slice xA xn xc, .slice yA yn yc, .int .i64 M.c.h.au, .int .i64 M.c.h.ro, .slice cA cn cc, .slice dA dn dc, .int .i64 M.c.di, .slice sA sn sc, .slice eA en ec]] w _
 go_enter Tryz.func85, Tryz.ntmps85
 go_upto_region 2 with fail
 have hX : Blk (w.alloc (.cells #[.int .i64 M.ki, .int .i64 id, .int .i64 M.tt, .int .i64 M.di, .int .i64 M.b.au, .int .i64 M.b.n, .slice bA bn bc, .int .i64 M.h.au, .int .i64 M.h.ro, .slice xA xn xc, .slice yA yn yc, .int .i64 M.c.h.au, .int .i64 M.c.h.ro, .slice cA cn cc, .slice dA dn dc, .int .i64 M.c.di, .slice sA sn sc, .slice eA en ec] 49)) w.heap.size 49 [.int .i64 M.ki, .int .i64 id, .int .i64 M.tt, .int .i64 M.di, .int .i64 M.b.au, .int .i64 M.b.n, .slice bA bn bc, .int .i64 M.h.au, .int .i64 M.h.ro, .slice xA xn xc, .slice yA yn yc, .int .i64 M.c.h.au, .int .i64 M.c.h.ro, .slice cA cn cc, .slice dA dn dc, .int .i64 M.c.di, .slice sA sn sc, .slice eA en ec] := Blk.new w 49 [.int .i64 M.ki, .int .i64 id, .int .i64 M.tt, .int .i64 M.di, .int .i64 M.b.au, .int .i64 M.b.n, .slice bA bn bc, .int .i64 M.h.au, .int .i64 M.h.ro, .slice xA xn xc, .slice yA yn yc, .int .i64 M.c.h.au, .int .i64 M.c.h.ro, .slice cA cn cc, .slice dA dn dc, .int .i64 M.c.di, .slice sA sn sc, .slice eA en ec]
 have hbX : Below w.heap.size w (w.alloc (.cells #[.int .i64 M.ki, .int .i64 id, .int .i64 M.tt, .int .i64 M.di, .int .i64 M.b.au, .int .i64 M.b.n, .slice bA bn bc, .int .i64 M.h.au, .int .i64 M.h.ro, .slice xA xn xc, .slice yA yn yc, .int .i64 M.c.h.au, .int .i64 M.c.h.ro, .slice cA cn cc, .slice dA dn dc, .int .i64 M.c.di, .slice sA sn sc, .slice eA en ec] 49)) := belB
 generalize hYe : (w.alloc (.cells #[.int .i64 M.ki, .int .i64 id, .int .i64 M.tt, .int .i64 M.di, .int .i64 M.b.au, .int .i64 M.b.n, .slice bA bn bc, .int .i64 M.h.au, .int .i64 M.h.ro, .slice xA xn xc, .slice yA yn yc, .int .i64 M.c.h.au, .int .i64 M.c.h.ro, .slice cA cn cc, .slice dA dn dc, .int .i64 M.c.di, .slice sA sn sc, .slice eA en ec] 49)) = Y at *
 clear hYe
 have hG := HG.out.up hbX
 have hfY := hG.frozen
 have hgY := hG.lt
 have hxY := hX.lt
 obtain ⟨N, hN⟩ : ∃ N, N = w.heap.size := ⟨_, rfl⟩
 rw [← hN] at hX hxY ⊢
 have hgN : g < N := by omega
 have hoN : ∀ q, (Value.slice uA un uc).ownBlock = some q → q < N := fun q hq => by rw [hN]; exact (own_lt HO.out.1 q hq).2
 clear a_0 a_1 a_2 a_3 a_4 a_5 a_6 a_7 a_8 a_9 hfg
 have HGY := ħ hG
 have HXY := ħ hX
 have HOY := ħ (HO.out.up hbX)
 have HMY := ħ (HM.out.up hbX)
 have HSZ : Hid (B ≤ Y.heap.size) := ħ (Nat.le_trans hB hbX.size)
 obtain ⟨S, hS⟩ : ∃ S : World → Prop, S = fun Z => Blk Z N 49 [.int .i64 M.ki, .int .i64 id, .int .i64 M.tt, .int .i64 M.di, .int .i64 M.b.au, .int .i64 M.b.n, .slice bA bn bc, .int .i64 M.h.au, .int .i64 M.h.ro, .slice xA xn xc, .slice yA yn yc, .int .i64 M.c.h.au, .int .i64 M.c.h.ro, .slice cA cn cc, .slice dA dn dc, .int .i64 M.c.di, .slice sA sn sc, .slice eA en ec] := ⟨_, rfl⟩
 have hS0 : S Y.drew := by rw [hS]; exact hX.up (bel_drew (Below.refl _ _))
 have hS1 : ∀ Z, S Z → Z.rangeAt N 0 [.int .i64 M.ki, .int .i64 id, .int .i64 M.tt, .int .i64 M.di, .int .i64 M.b.au, .int .i64 M.b.n, .slice bA bn bc, .int .i64 M.h.au, .int .i64 M.h.ro, .slice xA xn xc, .slice yA yn yc, .int .i64 M.c.h.au, .int .i64 M.c.h.ro, .slice cA cn cc, .slice dA dn dc, .int .i64 M.c.di, .slice sA sn sc, .slice eA en ec] := fun Z h => by rw [hS] at h; exact fun j u hu => by rw [Nat.zero_add]; exact h.box.2 j u hu
 have hS2 : ∀ Z, Below Y.heap.size Y Z → S Z := fun Z hZ => by rw [hS]; exact HXY.out.up hZ
 have hS3 : ∀ Z Z', Below Y.heap.size Y Z → Z.grownBy Z' (Value.slice uA un uc).ownBlock → S Z' := fun Z Z' hZ hg' => by rw [hS]; exact (HXY.out.up hZ).grown2 hg' (fun e => by have := hoN _ e; omega)
 have hS4 : ∀ Z o u, S Z → S (Z.setCell ⟨g, o, none⟩ u) := fun Z o u hZ => by rw [hS] at hZ ⊢; exact hZ.far (p := ⟨g, o, none⟩) (by show N ≠ g; omega) u
 have hc9 : ∀ Z, Below Y.heap.size Y Z → Z.cell? ⟨g, 9, none⟩ = some (.slice uA un uc) ∧ g < Z.heap.size := fun Z hZ => ⟨(HGY.out.up hZ).box.2 9 _ rfl, (HGY.out.up hZ).lt⟩
 clear hG hX hS
 refine wp_region_held_drew (S := S) (by kernel_rfl) hS0 (fun hHeld => ?_)
 have hbd : Below Y.heap.size Y Y.drew := bel_drew (Below.refl _ _)
 generalize Y.drew = Z at *
 (refine wpAnyH_tk 0 (some 10) (v := ?_) rfl rfl ?_ ?_; rotate_left; (focus (intro wq hSw; (try dsimp only at hSw); go_simp; all_goals (with_reducible rfl))); simp only [lz])
 (refine wpAnyH_tk 1 (some 11) (v := ?_) rfl rfl ?_ ?_; rotate_left; (focus (intro wq hSw; (try dsimp only at hSw); go_simp; all_goals (with_reducible rfl))); simp only [lz])
 (refine wpAnyH_tk 2 (some 12) (v := ?_) rfl rfl ?_ ?_; rotate_left; (focus (intro wq hSw; (try dsimp only at hSw); go_simp; all_goals (with_reducible rfl))); simp only [lz])
 (refine wpAnyH_tk 3 (some 13) (v := ?_) rfl rfl ?_ ?_; rotate_left; (focus (intro wq hSw; (try dsimp only at hSw); go_simp; all_goals (with_reducible rfl))); simp only [lz])
 refine wpAnyH_takeD (i := 5) (d := some 15) (v := .agg ([.int .i64 M.ki, .int .i64 id, .int .i64 M.tt, .int .i64 M.di, .int .i64 M.b.au, .int .i64 M.b.n, .slice bA bn bc, .int .i64 M.h.au, .int .i64 M.h.ro, .slice xA xn xc, .slice yA yn yc, .int .i64 M.c.h.au, .int .i64 M.c.h.ro, .slice cA cn cc, .slice dA dn dc, .int .i64 M.c.di, .slice sA sn sc, .slice eA en ec]).toArray) rfl rfl (by kernel_rfl) (by kernel_rfl) (by kernel_rfl) (fun _ _ _ h => h) (yieldsIf_load_mid (by rfl) 49 _ rfl N 0 (by simp [Act.eval, Act.put]) ([.int .i64 M.ki, .int .i64 id, .int .i64 M.tt, .int .i64 M.di, .int .i64 M.b.au, .int .i64 M.b.n, .slice bA bn bc, .int .i64 M.h.au, .int .i64 M.h.ro, .slice xA xn xc, .slice yA yn yc, .int .i64 M.c.h.au, .int .i64 M.c.h.ro, .slice cA cn cc, .slice dA dn dc, .int .i64 M.c.di, .slice sA sn sc, .slice eA en ec]) _ (hS1) Tryz.underlying49 (by rfl) (by kernel_rfl)) (by assumption) ?_
 simp only [lz]
 refine wpAnyH_ready (rs := [4, 6]) (by kernel_rfl) (by simp) ?_
 refine AllReadyH.cons (o := _) rfl (fun K hK => ?_) (AllReadyH.cons (o := _) rfl (fun K hK => ?_) AllReadyH.nil)
 ·skip
  obtain ⟨q9, qg⟩ := hc9 _ (hbd)
  go_simp
  refine hK.out _ _ (hS2 _ (hbd)) (fun hHeld => ?_)
  clear hK K q9 qg
  (try simp only [lz])
  refine rd1 6 rfl fun K hK => ?_
  go_simp
  refine hK.out _ _ (hS2 _ (bel_alloc hbd)) (fun hHeld => ?_)
  clear hK K
  (try simp only [lz])
  have HBX := ħ (BoxR.new Z [.int .i64 M.ki, .int .i64 id, .int .i64 M.tt, .int .i64 M.di, .int .i64 M.b.au, .int .i64 M.b.n, .slice bA bn bc, .int .i64 M.h.au, .int .i64 M.h.ro, .slice xA xn xc, .slice yA yn yc, .int .i64 M.c.h.au, .int .i64 M.c.h.ro, .slice cA cn cc, .slice dA dn dc, .int .i64 M.c.di, .slice sA sn sc, .slice eA en ec] 49)
  have hbZ : Below Y.heap.size Y (Z.alloc (.cells #[.int .i64 M.ki, .int .i64 id, .int .i64 M.tt, .int .i64 M.di, .int .i64 M.b.au, .int .i64 M.b.n, .slice bA bn bc, .int .i64 M.h.au, .int .i64 M.h.ro, .slice xA xn xc, .slice yA yn yc, .int .i64 M.c.h.au, .int .i64 M.c.h.ro, .slice cA cn cc, .slice dA dn dc, .int .i64 M.c.di, .slice sA sn sc, .slice eA en ec] 49)) := bel_alloc hbd
  refine rd1 7 rfl fun K hK => ?_
  refine step_appM rfl (.tmp 14) (.tmp 16) rfl rfl B (.slice uA un uc) ps l (by simp [Act.eval, Act.put]) (HOY.out.up hbZ) Z.heap.size (sayM M id M.tt) ⟨⟨bA, bn, bc⟩, ⟨⟨xA, xn, xc⟩, ⟨yA, yn, yc⟩⟩, ⟨⟨⟨cA, cn, cc⟩, ⟨dA, dn, dc⟩⟩, ⟨sA, sn, sc⟩⟩, ⟨eA, en, ec⟩⟩ (by simp [Act.eval, Act.put]) HBX.out ((HMY.out.up hbZ).say) hl (Nat.le_trans HSZ.out hbZ.size) ?_
  intro v5 w5 hown5 hg5 hb5
  refine hK.out _ _ (hS3 _ _ hbZ hg5) (fun hHeld => ?_)
  clear hK K
  (try simp only [lz])
  obtain ⟨A5, c5, e5, _⟩ := hown5.read
  obtain ⟨n5, hn5⟩ : ∃ x, (l ++ [sayM M id M.tt]).length = x := ⟨_, rfl⟩
  rw [hn5] at e5
  clear hn5
  subst e5
  have hk5 : KeepM Y w5 := (KeepM.of_below hbZ).trans (KeepM.of_grown (HOY.out.up hbZ).1 hg5)
  have hG5 := hk5 _ _ _ (by decide) HGY.out
  have hs5 := hS3 _ _ hbZ hg5
  (refine wpAnyH_tk 8 (some 18) (v := ?_) rfl rfl ?_ ?_; rotate_left; (focus (intro wq hSw; (try dsimp only at hSw); go_simp; all_goals (with_reducible rfl))); simp only [lz])
  (refine wpAnyH_tk 9 (some 19) (v := ?_) rfl rfl ?_ ?_; rotate_left; (focus (intro wq hSw; (try dsimp only at hSw); go_simp; all_goals (with_reducible rfl))); simp only [lz])
  refine rd1 10 rfl fun K hK => ?_
  have hf5 := hG5.frozen
  have hl5 := hG5.lt
  have q9 := hG5.box.2 9 _ rfl
  go_simp
  refine hK.out _ _ (hS4 _ _ _ hs5) (fun hHeld => ?_)
  clear hK K
  (try simp only [lz])
  refine wpAnyH_done (by kernel_rfl) ?_ _
  go_end0
  exact ⟨w5, A5, n5, c5, rfl, rfl, Below.trans (hbX.mono hB) (Below.trans (hbZ.mono HSZ.out) hb5), (KeepM.of_below hbX).trans hk5, hown5⟩
 ·skip
  go_simp
  refine hK.out _ _ (hS2 _ (bel_alloc hbd)) (fun hHeld => ?_)
  clear hK K
  (try simp only [lz])
  refine rd1 4 rfl fun K hK => ?_
  obtain ⟨q9, qg⟩ := hc9 (Z.alloc (.cells #[.int .i64 M.ki, .int .i64 id, .int .i64 M.tt, .int .i64 M.di, .int .i64 M.b.au, .int .i64 M.b.n, .slice bA bn bc, .int .i64 M.h.au, .int .i64 M.h.ro, .slice xA xn xc, .slice yA yn yc, .int .i64 M.c.h.au, .int .i64 M.c.h.ro, .slice cA cn cc, .slice dA dn dc, .int .i64 M.c.di, .slice sA sn sc, .slice eA en ec] 49)) (bel_alloc hbd)
  go_simp
  refine hK.out _ _ (hS2 (Z.alloc (.cells #[.int .i64 M.ki, .int .i64 id, .int .i64 M.tt, .int .i64 M.di, .int .i64 M.b.au, .int .i64 M.b.n, .slice bA bn bc, .int .i64 M.h.au, .int .i64 M.h.ro, .slice xA xn xc, .slice yA yn yc, .int .i64 M.c.h.au, .int .i64 M.c.h.ro, .slice cA cn cc, .slice dA dn dc, .int .i64 M.c.di, .slice sA sn sc, .slice eA en ec] 49)) (bel_alloc hbd)) (fun hHeld => ?_)
  clear hK K q9 qg
  (try simp only [lz])
  have HBX := ħ (BoxR.new Z [.int .i64 M.ki, .int .i64 id, .int .i64 M.tt, .int .i64 M.di, .int .i64 M.b.au, .int .i64 M.b.n, .slice bA bn bc, .int .i64 M.h.au, .int .i64 M.h.ro, .slice xA xn xc, .slice yA yn yc, .int .i64 M.c.h.au, .int .i64 M.c.h.ro, .slice cA cn cc, .slice dA dn dc, .int .i64 M.c.di, .slice sA sn sc, .slice eA en ec] 49)
  have hbZ : Below Y.heap.size Y (Z.alloc (.cells #[.int .i64 M.ki, .int .i64 id, .int .i64 M.tt, .int .i64 M.di, .int .i64 M.b.au, .int .i64 M.b.n, .slice bA bn bc, .int .i64 M.h.au, .int .i64 M.h.ro, .slice xA xn xc, .slice yA yn yc, .int .i64 M.c.h.au, .int .i64 M.c.h.ro, .slice cA cn cc, .slice dA dn dc, .int .i64 M.c.di, .slice sA sn sc, .slice eA en ec] 49)) := bel_alloc hbd
  refine rd1 7 rfl fun K hK => ?_
  refine step_appM rfl (.tmp 14) (.tmp 16) rfl rfl B (.slice uA un uc) ps l (by simp [Act.eval, Act.put]) (HOY.out.up hbZ) Z.heap.size (sayM M id M.tt) ⟨⟨bA, bn, bc⟩, ⟨⟨xA, xn, xc⟩, ⟨yA, yn, yc⟩⟩, ⟨⟨⟨cA, cn, cc⟩, ⟨dA, dn, dc⟩⟩, ⟨sA, sn, sc⟩⟩, ⟨eA, en, ec⟩⟩ (by simp [Act.eval, Act.put]) HBX.out ((HMY.out.up hbZ).say) hl (Nat.le_trans HSZ.out hbZ.size) ?_
  intro v5 w5 hown5 hg5 hb5
  refine hK.out _ _ (hS3 _ _ hbZ hg5) (fun hHeld => ?_)
  clear hK K
  (try simp only [lz])
  obtain ⟨A5, c5, e5, _⟩ := hown5.read
  obtain ⟨n5, hn5⟩ : ∃ x, (l ++ [sayM M id M.tt]).length = x := ⟨_, rfl⟩
  rw [hn5] at e5
  clear hn5
  subst e5
  have hk5 : KeepM Y w5 := (KeepM.of_below hbZ).trans (KeepM.of_grown (HOY.out.up hbZ).1 hg5)
  have hG5 := hk5 _ _ _ (by decide) HGY.out
  have hs5 := hS3 _ _ hbZ hg5
  (refine wpAnyH_tk 8 (some 18) (v := ?_) rfl rfl ?_ ?_; rotate_left; (focus (intro wq hSw; (try dsimp only at hSw); go_simp; all_goals (with_reducible rfl))); simp only [lz])
  (refine wpAnyH_tk 9 (some 19) (v := ?_) rfl rfl ?_ ?_; rotate_left; (focus (intro wq hSw; (try dsimp only at hSw); go_simp; all_goals (with_reducible rfl))); simp only [lz])
  refine rd1 10 rfl fun K hK => ?_
  have hf5 := hG5.frozen
  have hl5 := hG5.lt
  have q9 := hG5.box.2 9 _ rfl
  go_simp
  refine hK.out _ _ (hS4 _ _ _ hs5) (fun hHeld => ?_)
  clear hK K
  (try simp only [lz])
  refine wpAnyH_done (by kernel_rfl) ?_ _
  go_end0
  exact ⟨w5, A5, n5, c5, rfl, rfl, Below.trans (hbX.mono hB) (Below.trans (hbZ.mono HSZ.out) hb5), (KeepM.of_below hbX).trans hk5, hown5⟩
noncomputable def findI (l : List HeldD) (d : Int) : Int := if khasH l d = true then (kposH l d : Int) else -1
theorem kposH_eq {l : List HeldD} (hs : SortedH l) {key : Int} {j : Nat} (hj : j < l.length) (e : (hth l j).di = key) : kposH l key = j :=
 cnt_eq _ l j (by omega) (fun t ht => by have := hs t j ht hj; rw [e] at this; exact this) (fun _ => by show ltI (hth l j).di key = false; rw [e]; simp [ltI])
set_option maxHeartbeats 4000000 in
theorem ref13_find (g : Nat) (c0 c1 c2 c3 c4 c5 c6 c8 c9 : Value) (eA : Option Addr) (en ec : Nat) (l : List HeldD) (d : Int) (w : World) (hg : Blk w g 70 [c0, c1, c2, c3, c4, c5, c6, .slice eA en ec, c8, c9]) (hl : HeldsR w eA en l) (hs : SortedH l) :
  Calls Tryz.prog 83 #[.pointer (some ⟨g, 0, none⟩), .int .i64 d] w fun e w' => e = .returned (.int .i64 (findI l d)) ∧ w = w' := by
 have HS := ħ hs
 have HN : Hid (l.length = en) := ħ hl.1
 have hnn : en ≤ 9223372036854775807 := hl.2.1
 have HL := ħ hl
 have b7 := hg.box.2 7 _ rfl
 have lg := hg.lt
 clear hg hl hs
 go_enter Tryz.func83, Tryz.ntmps83
 go_wp2_with fail
 go_loop [5] (fun iv => ∃ k : Nat, k ≤ en ∧ iv = .int .i64 k ∧ Hid (∀ j, j < k → (hth l j).di ≠ d)) (fun iv => en - (intOf iv).toNat)
 case atStart => exact ⟨0, Nat.zero_le _, rfl, ħ (fun j hj => absurd hj (by omega))⟩
 case round =>
  obtain ⟨k, hk, rfl, HQ⟩ := hrel
  by_cases hlt : k < en
  ·obtain ⟨b, off, rfl, hb, hc⟩ := HL.out.2.2 (by omega)
   obtain ⟨Bq, mq, dq, ⟨f0, f1, f2, f3⟩, -⟩ := hc k hlt
   clear hc
   by_cases hq : (hth l k).di = d
   ·have HE : Hid (findI l d = k) := ħ (by
     have h1 : khasH l d = true := (khasH_iff HS.out).2 ⟨k, by rw [HN.out]; exact hlt, hq⟩
     unfold findI; rw [if_pos h1, kposH_eq HS.out (by rw [HN.out]; exact hlt) hq])
    have hd : ((hth l k).di == d) = true := by simpa using hq
    clear hq
    go_wp2_with fail
    go_ret
    exact ⟨by (rw [HE.out]; rfl), rfl⟩
   ·have hd : ((hth l k).di == d) = false := by simpa using hq
    have HE := ħ hq
    clear hq
    go_wp2_with fail
    (first | (go_round; (case rel => exact ⟨k + 1, by omega, by go_num, ħ (fun j hj => by (rcases Nat.lt_or_ge j k with h | h; exact HQ.out j h; (obtain rfl : j = k := by omega); exact HE.out))⟩); (case measure => (simp [intOf] <;> omega))) | (go_roundw; (case rel => exact ⟨k + 1, by omega, by go_num, ħ (fun j hj => by (rcases Nat.lt_or_ge j k with h | h; exact HQ.out j h; (obtain rfl : j = k := by omega); exact HE.out))⟩); (case measure => (simp [intOf] <;> omega))) | (refine ⟨?_, by simp [intOf] <;> omega⟩; (repeat apply Exists.intro); refine ⟨?rel, ?fr⟩; (case fr => ((repeat' apply And.intro) <;> rfl)); (case rel => exact ⟨k + 1, by omega, by go_num, ħ (fun j hj => by (rcases Nat.lt_or_ge j k with h | h; exact HQ.out j h; (obtain rfl : j = k := by omega); exact HE.out))⟩)))
  ·obtain rfl : k = en := by omega
   have HE : Hid (findI l d = -1) := ħ (by
    unfold findI
    rw [if_neg]
    intro h
    obtain ⟨j, hj, e⟩ := (khasH_iff HS.out).1 h
    exact HQ.out j (by rw [← HN.out]; exact hj) e)
   go_wp2_with fail
   go_ret
   exact ⟨by (rw [HE.out]; rfl), rfl⟩
open Go.RowKit

theorem run_appRow_Held (w : World) (B : Nat) (v : Value) (n : Nat) (xs : List Value) (hown : w.ownsRow B 101 4 v n xs) (A : Option Addr) (m c : Nat) (e : List Value) (he : RowV w A m 4 e) (h1e : ∀ u ∈ e, u.oneCell' = true) (hn : n + m ≤ 900000000) (hB : B ≤ w.heap.size) :
  ∃ v' w', (Builtin.append_ #[24, 24] 24 #[v, .slice A m c]).run Tryz.prog w = .ok v' w' ∧ w'.ownsRow B 101 4 v' (n + m) (xs ++ e) ∧ w.grownBy w' v.ownBlock ∧ Below B w w' := by
 rcases Nat.eq_zero_or_pos m with h0 | h0
 ·subst h0
  have e0 : e = [] := List.length_eq_zero_iff.1 (by rw [he.1, Nat.zero_mul])
  subst e0
  obtain ⟨i0, hi, hz, hz1, hz2⟩ := info_parts info_Held
  refine ⟨v, w, ?_, by simpa using hown, World.grownBy.refl _ _, Below.refl _ _⟩
  rcases hown.2 with ⟨rfl, _⟩ | ⟨g, cap, cur, rfl, _, _, hnc, _⟩
  ·cases A <;> simp [Builtin.append_, run_underlying Tryz.underlying24, sizeOf, typeInfo, hi, Builtin.lenOf, Builtin.firstCells, loadCells, loadCellsFrom, storeCells]
  ·cases A <;> simp [Builtin.append_, run_underlying Tryz.underlying24, sizeOf, typeInfo, hi, Builtin.lenOf, Builtin.firstCells, loadCells, loadCellsFrom, hnc, storeCells]
 ·obtain ⟨b, off, rfl, hb, hc⟩ := he.2.2 h0
  obtain ⟨v', w', hrun, h2, h3, h4, h5⟩ := run_app_Held w B v n xs hown b off m c e he.1 hc h1e (by omega) hB
  exact ⟨v', w', hrun, h2, h3, h4⟩
theorem wpList_appRow_Held {w : World} {ops : Array Oper} {rest : List Oper} {o : Oper} {a : Act} {Q : Exit → Act → World → Prop} (hgd : o.guard = none) (s x : Operand)
  (ho : o.op = .call { callee := .builtin .append, args := #[s, x], argTypes := #[24, 24] }) (hty : o.type = 24) (B : Nat) (v : Value) (n : Nat) (xs : List Value) (hs : a.eval s = v) (hown : w.ownsRow B 101 4 v n xs) (A : Option Addr) (m c : Nat) (e : List Value) (hx : a.eval x = .slice A m c)
  (he : RowV w A m 4 e) (h1e : ∀ u ∈ e, u.oneCell' = true) (hn : n + m ≤ 900000000) (hB : B ≤ w.heap.size)
  (h : ∀ v' w', w'.ownsRow B 101 4 v' (n + m) (xs ++ e) → w.grownBy w' v.ownBlock → Below B w w' → wpList Tryz.prog ops Q rest (a.put o.dst v') w') : wpList Tryz.prog ops Q (o :: rest) a w := by
 obtain ⟨v', w', hrun, h2, h3, h4⟩ := run_appRow_Held w B v n xs hown A m c e he h1e hn hB
 exact Lib.wpList_append_run w hgd s x _ _ ho _ _ hs hx _ _ (by rw [hty]; exact hrun) (h v' w' h2 h3 h4)
theorem step_appRow_Held {ops : Array Oper} {o : Oper} {a : Act} {w : World} {K : Act → World → Prop} {Q : Exit → Act → World → Prop} {E : Prop} (hgd : o.guard = none) (s x : Operand)
  (ho : o.op = .call { callee := .builtin .append, args := #[s, x], argTypes := #[24, 24] }) (hty : o.type = 24) (B : Nat) (v : Value) (n : Nat) (xs : List Value) (hs : a.eval s = v) (hown : w.ownsRow B 101 4 v n xs) (A : Option Addr) (m c : Nat) (e : List Value) (hx : a.eval x = .slice A m c)
  (he : RowV w A m 4 e) (h1e : ∀ u ∈ e, u.oneCell' = true) (hn : n + m ≤ 900000000) (hB : B ≤ w.heap.size)
  (h : ∀ v' w', w'.ownsRow B 101 4 v' (n + m) (xs ++ e) → w.grownBy w' v.ownBlock → Below B w w' → K (a.put o.dst v') w') : if Region.wanted o (yielded ops a.tmps) = true then Oper.wp Tryz.prog o a w K Q else E := by
 obtain ⟨v', w', hrun, h2, h3, h4⟩ := run_appRow_Held w B v n xs hown A m c e he h1e hn hB
 exact step_app_runR hgd s x _ _ ho _ _ hs hx (by rw [hty]; exact hrun) (h v' w' h2 h3 h4)
theorem cnt_lt {α : Type} [Inhabited α] (p : α → Bool) (l : List α) {t : Nat} (h : t < cnt p l) : p (l.getD t default) = true := by
 have hl := cnt_le p l
 refine cnt_take p l _ ?_
 rw [List.mem_take_iff_getElem]
 exact ⟨t, by omega, by simp [show t < l.length by omega]⟩
theorem HeldsR.takeN {w : World} {A : Option Addr} {n k : Nat} {l : List HeldD} (h : HeldsR w A n l) (hk : k ≤ n) : HeldsR w A k (l.take k) := by
 obtain ⟨h1, h2, h3⟩ := h
 refine ⟨by rw [List.length_take]; omega, by omega, fun h0 => ?_⟩
 obtain ⟨b, off, e, hb, hc⟩ := h3 (by omega)
 refine ⟨b, off, e, hb, fun j hj => ?_⟩
 have e2 : hth (l.take k) j = hth l j := by simp [hth, hj]
 rw [e2]; exact hc j (by omega)
theorem RowV.dropK {w : World} {b n k i : Nat} {xs : List Value} (h : RowV w (some ⟨b, 0, none⟩) n k xs) (hi : i ≤ n) : RowV w (some ⟨b, i * k, none⟩) (n - i) k (xs.drop (i * k)) := by
 obtain ⟨h1, h2, h3⟩ := h
 refine ⟨by rw [List.length_drop, h1, Nat.sub_mul], by omega, fun h0 => ?_⟩
 obtain ⟨b', off, e, hb, hc⟩ := h3 (by omega)
 injection e with e
 injection e with e1 e2 e3
 subst e1; subst e2
 exact ⟨b, i * k, rfl, hb, fun j u hu => by (have := hc (i * k + j) u (by rw [List.getElem?_drop] at hu; exact hu)); rw [Nat.zero_add] at this; exact this⟩
theorem RowV.nilA {w : World} (A : Option Addr) (k : Nat) : RowV w A 0 k [] := ⟨by simp, by omega, fun h => absurd h (by omega)⟩
theorem dcells_oneK {α β : Type} [Inhabited α] [Inhabited β] (T : DeepT α β) {w : World} {B : Nat} {l : List α} {ps : List β} (hps : ps.length = l.length) (h : ∀ j, j < l.length → T.inner w B (ps.getD j default) (l.getD j default)) : ∀ u ∈ dcells T l ps, u.oneCell' = true := by
 intro u hu
 obtain ⟨i, hi, rfl⟩ := List.getElem_of_mem hu
 rw [dcells_len T hps] at hi
 have hk := T.k0
 have hj : i / T.k < l.length := Nat.div_lt_of_lt_mul (by rw [Nat.mul_comm]; exact hi)
 have e := dcells_at T hps hj (r := i % T.k) (Nat.mod_lt _ hk)
 rw [Nat.div_add_mod'] at e
 have e2 : (dcells T l ps)[i]? = some ((dcells T l ps)[i]'(by rw [dcells_len T hps]; exact hi)) := List.getElem?_eq_getElem _
 rw [e2] at e
 exact T.one (h _ hj) _ (List.mem_of_getElem? e.symm)
theorem ownT_ins {α β : Type} [Inhabited α] [Inhabited β] (T : DeepT α β) {w : World} {B lo : Nat} {v : Value} {qs ps : List β} {p : β} {l : List α} {x : α} (hq : qs.length = lo) (hlo : lo ≤ l.length) (hps : ps.length = l.length) (hrow : w.ownsRow B T.t T.k v (lo + 1 + (l.length - lo)) ((dcells T (l.take lo) qs ++ T.enc x p) ++ (dcells T l ps).drop (lo * T.k)))
  (h1 : ∀ j, j < lo → T.inner w B (qs.getD j default) (l.getD j default)) (h2 : T.inner w B p x) (h3 : ∀ j, lo ≤ j → j < l.length → T.inner w B (ps.getD j default) (l.getD j default)) : OwnT T w B v (qs ++ p :: ps.drop lo) (insAt l lo x) := by
 have ht : (l.take lo).length = lo := by rw [List.length_take]; omega
 have e1 : dcells T (insAt l lo x) (qs ++ p :: ps.drop lo) = (dcells T (l.take lo) qs ++ T.enc x p) ++ (dcells T l ps).drop (lo * T.k) := by
  unfold insAt
  rw [dcells_app T (by rw [ht]; exact hq), ← (dcells_take T hps hlo).2, show x :: l.drop lo = [x] ++ l.drop lo from rfl, show p :: ps.drop lo = [p] ++ ps.drop lo from rfl, dcells_app T (by rfl), List.append_assoc]
  simp [dcells]
 refine ⟨by rw [e1, insAt_len hlo]; (have e2 : l.length + 1 = lo + 1 + (l.length - lo) := by omega); rw [e2]; exact hrow, ?_, fun j hj => ?_⟩
 ·rw [insAt_len hlo, List.length_append, List.length_cons, List.length_drop, hq, hps]; omega
 ·rw [insAt_len hlo] at hj
  unfold insAt
  rcases Nat.lt_trichotomy j lo with h | h | h
  ·have a1 : (qs ++ p :: ps.drop lo).getD j default = qs.getD j default := by simp [List.getElem?_append, hq, h]
   have a2 : (l.take lo ++ x :: l.drop lo).getD j default = l.getD j default := by simp [List.getElem?_append, h, show j < l.length by omega, show j < min lo l.length by omega]
   rw [a1, a2]; exact h1 j h
  ·subst h
   have a1 : (qs ++ p :: ps.drop j).getD j default = p := by
    simp only [List.getD_eq_getElem?_getD]
    rw [List.getElem?_append_right (by omega), hq, Nat.sub_self]; rfl
   have a2 : (l.take j ++ x :: l.drop j).getD j default = x := by
    simp only [List.getD_eq_getElem?_getD]
    rw [List.getElem?_append_right (by omega), ht, Nat.sub_self]; rfl
   rw [a1, a2]; exact h2
  ·obtain ⟨i, rfl⟩ : ∃ i, j = lo + 1 + i := ⟨j - lo - 1, by omega⟩
   have a1 : (qs ++ p :: ps.drop lo).getD (lo + 1 + i) default = ps.getD (lo + i) default := by
    simp only [List.getD_eq_getElem?_getD]
    rw [List.getElem?_append_right (by omega), hq, show lo + 1 + i - lo = i + 1 by omega, List.getElem?_cons_succ, List.getElem?_drop]
   have a2 : (l.take lo ++ x :: l.drop lo).getD (lo + 1 + i) default = l.getD (lo + i) default := by
    simp only [List.getD_eq_getElem?_getD]
    rw [List.getElem?_append_right (by rw [ht]; omega), ht, show lo + 1 + i - lo = i + 1 by omega, List.getElem?_cons_succ, List.getElem?_drop]
   rw [a1, a2]; exact h3 (lo + i) (by omega) (by omega)
open Go.RowKit

theorem own_slice {w : World} {B k n : Nat} {t : TypeId} {v : Value} {xs : List Value} (h : w.ownsRow B t k v n xs) : ∃ A m c, v = .slice A m c := by
 rcases own_shape h with ⟨e, _⟩ | ⟨g, c, e, _⟩
 ·exact ⟨_, _, _, e⟩
 ·exact ⟨_, _, _, e⟩
noncomputable def holdsEnd : Code := cAfter 4 (Tryz.f84.body.getD .skip)
set_option maxHeartbeats 16000000 in
theorem holds_rest {K1 : Act → World → Prop} (g B lo : Nat) (k0 k1 k2 k3 k4 k5 k6 k8 k9 : Value) (eA bA : Option Addr) (en ec bn bc : Nat) (l : List HeldD) (d : Int) (b : BatchD) (ps : List Value) (w wk : World) {u2 u3 u4 u7 u8 u9 u10 u11 u12 u13 u14 u15 u16 u17 u18 u19 u20 u21 u22 u23 u24 u25 u26 u27 u28 u29 u30 u31 u32 u33 u34 u35 u36 u37 u38 u39 u40 u41 u42 u43 u44 u45 u46 u47 u48 u49 u50 u51 u52 u53 u54 u55 u56 u57 u58 u59 u60 u61 u62 u63 u64 u65 u66 u67 u68 u69 u70 : Value}
  (hK1 : ∀ a' w', Code.wp Tryz.prog (cSnd holdsEnd) (bodyPost Tryz.prog Tryz.f84 (fun e w' => ∃ X A n c, e = .returned (.tuple #[]) ∧ w' = X.setCell ⟨g, 7, none⟩ (.slice A n c) ∧ Below w.heap.size w X ∧ OwnHs X B (.slice A n c) (insAt l (kposH l d) ⟨d, b⟩))) a' w' → K1 a' w')
  (hbw : Below w.heap.size w wk) (hg : Blk wk g 70 [k0, k1, k2, k3, k4, k5, k6, .slice eA en ec, k8, k9]) (hgw : g < w.heap.size) (hbx : Blk wk w.heap.size 43 [.int .i64 b.au, .int .i64 b.n, .slice bA bn bc]) (hB : B ≤ w.heap.size) (hT : OwnT dHeld w B (.slice eA en ec) ps l) (hs : BigH l) (hb : TxsR w bA bn b.tx) (hbn : bn ≤ 800000000) (hlo : kposH l d = lo) (hll : l.length < 1024) :
  Code.wp Tryz.prog (cFst holdsEnd) (Exit.then K1 (bodyPost Tryz.prog Tryz.f84 (fun e w' => ∃ X A n c, e = .returned (.tuple #[]) ∧ w' = X.setCell ⟨g, 7, none⟩ (.slice A n c) ∧ Below w.heap.size w X ∧ OwnHs X B (.slice A n c) (insAt l (kposH l d) ⟨d, b⟩)))) { tmps := #[.pointer (some ⟨g, 0, none⟩), .int .i64 d, u2, u3, u4, .pointer (some ⟨w.heap.size, 0, none⟩), .int .i64 (lo : Int), u7, u8, u9, u10, u11, u12, u13, u14, u15, u16, u17, u18, u19, u20, u21, u22, u23, u24, u25, u26, u27, u28, u29, u30, u31, u32, u33, u34, u35, u36, u37, u38, u39, u40, u41, u42, u43, u44, u45, u46, u47, u48, u49, u50, u51, u52, u53, u54, u55, u56, u57, u58, u59, u60, u61, u62, u63, u64, u65, u66, u67, u68, u69, u70], defers := [] } wk := by
 obtain ⟨A', c', e', hR, hnc, _⟩ := OwnHs.helds ⟨ps, hT⟩ hs
 injection e' with e1 e2 e3
 rw [← e1, ← e2] at hR
 have HEN : Hid (l.length = en) := ħ e2.symm
 have hlole : lo ≤ en := by
  have : kposH l d ≤ l.length := cnt_le _ _
  rw [hlo, e2.symm] at this; exact this
 have hecn : en ≤ ec := by omega
 have hlc : lo ≤ ec := by omega
 have henb : en < 1024 := by omega
 clear e1 e2 e3 hnc
 have hRV : RowV w eA en 4 (dcells dHeld l ps) := by
  obtain ⟨A2, c2, e2, hrv, _⟩ := own_row hT.1 (by omega)
  injection e2 with e3 e4 e5
  rw [HEN.out] at hrv
  rw [e3]; exact hrv
 have hone : ∀ u ∈ dcells dHeld l ps, u.oneCell' = true := dcells_oneK dHeld hT.2.1 (fun j hj => hT.2.2 j hj)
 have HON := ħ hone
 have HRV := ħ hRV
 have HR := ħ hR
 have HB := ħ hb
 have HBN : Hid (b.tx.length = bn) := ħ hb.1
 have HT := ħ hT
 have HBT : Hid (BigH (l.take lo)) := ħ ⟨by rw [List.length_take]; omega, fun x hx => hs.2 x (List.mem_of_mem_take hx)⟩
 have HLO := ħ hlo
 have HLL : Hid (lo ≤ l.length) := ħ (by rw [HEN.out]; exact hlole)
 have HGK := ħ hg
 have HBK := ħ hbx
 have HBX : Hid (Below wk.heap.size wk wk) := ħ (Below.refl _ _)
 have HK1 := ħ hK1
 clear hR hRV hone hb hT hs hlo hg hbx hK1 hll
 dsimp only [holdsEnd, cAfter, cSnd, cFst, Tryz.f84, Option.getD]
 obtain ⟨S, hSd⟩ : ∃ S : World → Prop, S = fun Q => Q.cell? ⟨g, 7, none⟩ = some (.slice eA en ec) ∧ Blk Q w.heap.size 43 [.int .i64 b.au, .int .i64 b.n, .slice bA bn bc] := ⟨_, rfl⟩
 have hS7 : ∀ Q, S Q → Q.cell? ⟨g, 7, none⟩ = some (.slice eA en ec) := fun Q h => by rw [hSd] at h; exact h.1
 have hSb : ∀ Q, S Q → Q.rangeAt w.heap.size 0 [.int .i64 b.au, .int .i64 b.n, .slice bA bn bc] := fun Q h => by rw [hSd] at h; exact fun j u hu => by (rw [Nat.zero_add]); exact h.2.box.2 j u hu
 have hS : ∀ Q, Below wk.heap.size wk Q → S Q := fun Q hQ => by rw [hSd]; exact ⟨(HGK.out.up hQ).box.2 7 _ rfl, HBK.out.up hQ⟩
 clear hSd
 refine wp_region_held_drew (S := S) (by kernel_rfl) (hS _ (bel_drew (Below.refl _ _))) (fun hHeld => ?_)
 have hbd : Below wk.heap.size wk wk.drew := bel_drew (Below.refl _ _)
 have hZ := hHeld
 generalize wk.drew = Z0 at *
 (refine wpAnyH_tk 0 (some 44) (v := ?_) rfl rfl ?_ ?_; rotate_left; (focus (intro wq hSw; clear hSw; go_simp; all_goals (with_reducible rfl))); simp only [lz])
 (refine wpAnyH_tk 1 (some 45) (v := ?_) rfl rfl ?_ ?_; rotate_left; (focus (intro wq hSw; clear hSw; go_simp; all_goals (with_reducible rfl))); simp only [lz])
 (refine wpAnyH_tk 2 (some 46) (v := ?_) rfl rfl ?_ ?_; rotate_left; (focus (intro wq hSw; clear hSw; go_simp; all_goals (with_reducible rfl))); simp only [lz])
 (refine wpAnyH_tk 3 (some 47) (v := ?_) rfl rfl ?_ ?_; rotate_left; (focus (intro wq hSw; clear hSw; go_simp; all_goals (with_reducible rfl))); simp only [lz])
 (refine wpAnyH_tk 4 (some 48) (v := ?_) rfl rfl ?_ ?_; rotate_left; (focus (intro wq hSw; have q1 := hS7 wq hSw; clear hSw; go_simp; all_goals (with_reducible rfl))); simp only [lz])
 (refine wpAnyH_tk 5 (some 49) (v := ?_) rfl rfl ?_ ?_; rotate_left; (focus (intro wq hSw; clear hSw; go_simp; all_goals (with_reducible rfl))); simp only [lz])
 (refine wpAnyH_tk 6 (some 50) (v := ?_) rfl rfl ?_ ?_; rotate_left; (focus (intro wq hSw; clear hSw; go_simp; all_goals (with_reducible rfl))); simp only [lz])
 (refine wpAnyH_tk 8 (some 52) (v := ?_) rfl rfl ?_ ?_; rotate_left; (focus (intro wq hSw; clear hSw; go_simp; all_goals (with_reducible rfl))); simp only [lz])
 refine wpAnyH_takeD (i := 9) (d := (some 53)) (v := .agg ([.int .i64 b.au, .int .i64 b.n, .slice bA bn bc]).toArray) rfl rfl (by kernel_rfl) (by kernel_rfl) (by kernel_rfl) (fun _ _ _ h => h) (yieldsIf_load_mid (by rfl) 43 _ rfl w.heap.size 0 (by simp [Act.eval, Act.put]) ([.int .i64 b.au, .int .i64 b.n, .slice bA bn bc]) _ (hSb) Tryz.underlying43 (by rfl) (by kernel_rfl)) (by assumption) ?_
 simp only [lz]
 refine rd1 7 rfl fun K hK => ?_
 go_simp
 (go_at_call 28; refine (ref0_CopyHelds eA lo _ (l.take lo) _ ((HR.out.up (bel_trans hbw (bel_trans HBX.out hbd))).takeN hlole) HBT.out).mono ?_; rintro e w3 ⟨v3, rfl, ⟨qs, ho3⟩, hb3⟩)
 have hbd3 := bel_trans hbd hb3
 have HO3 := ħ ho3
 clear ho3
 refine hK.out _ _ (hS _ hbd3) (fun hHeld => ?_)
 clear hK K
 (try simp only [lz])
 refine rd1 10 rfl fun K hK => ?_
 go_simp
 (go_at_call 86; refine (ref0_CopyBatchO b bA bn bc _ (HB.out.up (bel_trans hbw (bel_trans HBX.out hbd3))) hbn).mono ?_; rintro e w4 ⟨v4, rfl, ho4, hb4⟩; obtain ⟨A4, c4, rfl, -⟩ := ho4.txs (by rw [HBN.out]; omega); rw [HBN.out] at ho4 ⊢)
 have hbd4 := bel_trans hbd3 hb4
 have HO4 := ħ ho4
 clear ho4
 refine hK.out _ _ (hS _ hbd4) (fun hHeld => ?_)
 clear hK K
 (try simp only [lz])
 (refine wpAnyH_tk 11 (some 55) (v := ?_) rfl rfl ?_ ?_; rotate_left; (focus (intro wq hSw; clear hSw; go_simp; all_goals (with_reducible rfl))); simp only [lz])
 refine rd1 12 rfl fun K hK => ?_
 go_simp
 obtain ⟨NB, hNB⟩ : ∃ N, N = w4.heap.size := ⟨_, rfl⟩
 obtain ⟨ZB, hZB⟩ : ∃ Zq : World, Zq = w4.alloc (.cells #[.int .i64 d, .int .i64 b.au, .int .i64 b.n, .slice A4 bn c4] 101) := ⟨_, rfl⟩
 rw [← hNB, ← hZB]
 have hkB : BoxR ZB NB [.int .i64 d, .int .i64 b.au, .int .i64 b.n, .slice A4 bn c4] := by rw [hZB, hNB]; exact BoxR.new _ [.int .i64 d, .int .i64 b.au, .int .i64 b.n, .slice A4 bn c4] 101
 have hbB : Below w4.heap.size w4 ZB := by rw [hZB]; exact bel_alloc (Below.refl _ _)
 have hbd5 := bel_trans hbd4 hbB
 clear hNB hZB
 refine hK.out _ _ (hS _ hbd5) (fun hHeld => ?_)
 clear hK K
 (try simp only [lz])
 refine rd1 13 rfl fun K hK => ?_
 have hrow3 := own_up HO3.out.1 (bel_trans hb4 hbB)
 rw [List.length_take, Nat.min_eq_left HLL.out] at hrow3
 refine step_appRow_Held rfl (.tmp 51) (.tmp 56) rfl rfl Z0.heap.size v3 lo _ (by simp [Act.eval, Act.put]) hrow3 (some ⟨NB, 0, none⟩) 1 1 [.int .i64 d, .int .i64 b.au, .int .i64 b.n, .slice A4 bn c4] (by simp [Act.eval, Act.put]) ⟨rfl, by omega, fun _ => ⟨NB, 0, rfl, hkB.1, fun j u hu => by rw [Nat.zero_add]; exact hkB.2 j u hu⟩⟩ (by simp [Value.oneCell']) (by omega) (by have := hb3.size; have := hb4.size; have := hbB.size; omega) ?_
 intro v7 w7 hown7 hg7 hb7
 have hb7k : Below wk.heap.size wk w7 := hbd5.trans (hb7.mono hbd.size)
 refine hK.out _ _ (hS _ hb7k) (fun hHeld => ?_)
 clear hK K
 (try simp only [lz])
 (refine wpAnyH_tk 14 (some 7) (v := ?_) rfl rfl ?_ ?_; rotate_left; (focus (intro wq hSw; clear hSw; go_simp; all_goals (with_reducible rfl))); simp only [lz])
 refine wpAnyH_done (by kernel_rfl) ?_ _
 have hq3 : ∀ j, j < lo → OwnX w7 Z0.heap.size (qs.getD j default) (l.getD j default).b.tx := fun j hj => by
  have h1 := HO3.out.2.2 j (by rw [List.length_take, Nat.min_eq_left HLL.out]; exact hj)
  have e1 : (l.take lo).getD j default = l.getD j default := by simp [hj]
  rw [e1] at h1
  exact own_farT (own_up (show World.ownsRow _ _ 41 4 _ _ _ from h1) (bel_trans hb4 hbB)) hrow3 (by decide) hg7
 have hq4 : OwnX w7 Z0.heap.size (.slice A4 bn c4) b.tx := own_farT (own_up (own_mono (show World.ownsRow _ _ 41 4 _ _ _ from HO4.out) hb3.size) hbB) hrow3 (by decide) hg7
 have hql : qs.length = lo := by have := HO3.out.2.1; rw [List.length_take, Nat.min_eq_left HLL.out] at this; exact this
 have HQ3 := ħ hq3
 have HQ4 := ħ hq4
 have HQL := ħ hql
 have HO7 := ħ hown7
 have HB7 := ħ hb7k
 have hz0 := hbd.size
 have HG7 := ħ (HGK.out.up hb7k)
 have fG := HG7.out.frozen
 have lG := HG7.out.lt
 have a_0 := (HG7.out.box).2 0 _ rfl; have a_1 := (HG7.out.box).2 1 _ rfl; have a_2 := (HG7.out.box).2 2 _ rfl; have a_3 := (HG7.out.box).2 3 _ rfl; have a_4 := (HG7.out.box).2 4 _ rfl; have a_5 := (HG7.out.box).2 5 _ rfl; have a_6 := (HG7.out.box).2 6 _ rfl; have a_7 := (HG7.out.box).2 7 _ rfl; have a_8 := (HG7.out.box).2 8 _ rfl; have a_9 := (HG7.out.box).2 9 _ rfl
 have hRV := (HRV.out.up (bel_trans hbw (bel_trans HBX.out hb7k)))
 have HRV7 := ħ hRV
 have hbe : B ≤ wk.heap.size := Nat.le_trans hB (Nat.le_trans hbw.size HBX.out.size)
 have HZ7 := ħ hb7
 clear hq3 hq4 hql hown7 hb7k hRV hrow3 hkB hbB hg7 hb7 hbd5 hbd4 hbd3 hb3 hb4 hS hSb hS7 hHeld hZ
 show K1 _ _
 apply HK1.out
 dsimp only [holdsEnd, cAfter, cSnd, cFst, Tryz.f84, Option.getD]
 rcases own_shape HT.out.1 with ⟨e, h0⟩ | ⟨ge, ce, e, hge, hce0⟩
 ·injection e with e1 e2 e3
  subst e1; subst e2; subst e3
  have hlo0 : lo = 0 := by omega
  subst hlo0
  have hen0 : l.length - 0 = 0 := by have := HEN.out; omega
  rcases own_shape HO7.out with ⟨_, h0⟩ | ⟨g7, c7, e7, hg7B, hc7⟩
  ·omega
  ·subst e7
   have hc8 : ¬ c7 < 0 + 1 := by omega
   go_wp2_with fail
   go_end0
   refine ⟨w7, _, _, _, rfl, rfl, bel_trans hbw (bel_trans HBX.out HB7.out), ?_⟩
   have hps : ∀ j, 0 ≤ j → j < l.length → OwnX w7 B (ps.getD j default) (l.getD j default).b.tx := fun j _ hj => absurd hj (by omega)
   rw [HLO.out]
   exact ⟨_, ownT_ins dHeld HQL.out HLL.out HT.out.2.1 (by (rw [hen0, List.drop_of_length_le (by rw [HRV.out.1]; first | exact Nat.le_refl _ | simp), List.append_nil]); exact own_mono HO7.out (Nat.le_trans hbe hz0)) (fun j hj => own_mono (show World.ownsRow _ _ 41 4 _ _ _ from HQ3.out j hj) (Nat.le_trans hbe hz0)) (own_mono (show World.ownsRow _ _ 41 4 _ _ _ from HQ4.out) (Nat.le_trans hbe hz0)) hps⟩
 ·injection e with e1 e2 e3
  subst e1
  clear e2 e3
  by_cases hce : ec = lo
  ·have hen2 : en = ec := by omega
   subst hen2
   subst hce
   have hen0 : l.length - en = 0 := by have := HEN.out; omega
   rcases own_shape HO7.out with ⟨_, h0⟩ | ⟨g7, c7, e7, hg7B, hc7⟩
   ·omega
   ·subst e7
    have hc8 : ¬ c7 < en + 1 := by omega
    go_wp2_with fail
    go_end0
    refine ⟨w7, _, _, _, rfl, rfl, bel_trans hbw (bel_trans HBX.out HB7.out), ?_⟩
    have hps : ∀ j, en ≤ j → j < l.length → OwnX w7 B (ps.getD j default) (l.getD j default).b.tx := fun j _ hj => absurd hj (by omega)
    rw [HLO.out]
    exact ⟨_, ownT_ins dHeld HQL.out HLL.out HT.out.2.1 (by (rw [hen0, List.drop_of_length_le (by rw [HRV.out.1]; first | exact Nat.le_refl _ | simp), List.append_nil]); exact own_mono HO7.out (Nat.le_trans hbe hz0)) (fun j hj => own_mono (show World.ownsRow _ _ 41 4 _ _ _ from HQ3.out j hj) (Nat.le_trans hbe hz0)) (own_mono (show World.ownsRow _ _ 41 4 _ _ _ from HQ4.out) (Nat.le_trans hbe hz0)) hps⟩
  ·skip
   have hce2 : ¬ lo = ec := fun e => hce e.symm
   go_wp2_with (at_builtin; refine wpList_appRow_Held rfl (.tmp 59) (.tmp 66) rfl rfl wk.heap.size v7 _ _ rfl (own_mono HO7.out hz0) _ (en - lo) _ ((dcells dHeld l ps).drop (lo * 4)) rfl (by first | exact HRV7.out.dropK hlole | (rw [show en - lo = 0 by omega, List.drop_of_length_le (by rw [HRV7.out.1]; omega)]; exact RowV.nilA _ _)) (fun u hu => HON.out u (List.mem_of_mem_drop hu)) (by omega) (by have := HB7.out.size; omega) ?_; intro v9 w9 hown9 hg9 hb9; (obtain ⟨A9, n9, c9, e9⟩ := own_slice hown9); subst e9; have hG9 := HG7.out.below hb9 (Nat.lt_of_lt_of_le hgw (Nat.le_trans hbw.size HBX.out.size)); have fG := hG9.frozen; have lG := hG9.lt; clear a_0 a_1 a_2 a_3 a_4 a_5 a_6 a_7 a_8 a_9; have a_0 := (hG9.box).2 0 _ rfl; have a_1 := (hG9.box).2 1 _ rfl; have a_2 := (hG9.box).2 2 _ rfl; have a_3 := (hG9.box).2 3 _ rfl; have a_4 := (hG9.box).2 4 _ rfl; have a_5 := (hG9.box).2 5 _ rfl; have a_6 := (hG9.box).2 6 _ rfl; have a_7 := (hG9.box).2 7 _ rfl; have a_8 := (hG9.box).2 8 _ rfl; have a_9 := (hG9.box).2 9 _ rfl; clear hG9)
   go_end0
   refine ⟨w9, A9, n9, c9, rfl, rfl, (bel_trans hbw (bel_trans HBX.out HB7.out)).trans (hb9.mono (Nat.le_trans hbw.size HBX.out.size)), ?_⟩
   have hps : ∀ j, lo ≤ j → j < l.length → OwnX w9 B (ps.getD j default) (l.getD j default).b.tx := fun j _ hj => own_up (show World.ownsRow _ B 41 4 _ _ _ from HT.out.2.2 j hj) ((bel_trans hbw (bel_trans HBX.out HB7.out)).trans (hb9.mono (Nat.le_trans hbw.size HBX.out.size)))
   rw [HLO.out]
   exact ⟨_, ownT_ins dHeld HQL.out HLL.out HT.out.2.1 (by (have e1 : lo + 1 + (l.length - lo) = lo + 1 + (en - lo) := by rw [HEN.out]); rw [e1]; exact own_mono hown9 hbe) (fun j hj => own_farT (own_mono (show World.ownsRow _ _ 41 4 _ _ _ from HQ3.out j hj) (Nat.le_trans hbe hz0)) (own_mono HO7.out hz0) (by decide) hg9) (own_farT (own_mono (show World.ownsRow _ _ 41 4 _ _ _ from HQ4.out) (Nat.le_trans hbe hz0)) (own_mono HO7.out hz0) (by decide) hg9) hps⟩
set_option maxHeartbeats 4000000 in
theorem ref13_holds_yes (g B : Nat) (k0 k1 k2 k3 k4 k5 k6 k8 k9 : Value) (eA bA : Option Addr) (en ec bn bc : Nat) (l : List HeldD) (d : Int) (b : BatchD) (w : World) (hg : Blk w g 70 [k0, k1, k2, k3, k4, k5, k6, .slice eA en ec, k8, k9]) (hB : B ≤ w.heap.size) (hh : OwnHs w B (.slice eA en ec) l) (hs : BigH l) (hP : SortedH l) (hb : TxsR w bA bn b.tx) (hbn : bn ≤ 800000000) (hy : khasH l d = false) (hll : l.length < 1024) :
  Calls Tryz.prog 84 #[.pointer (some ⟨g, 0, none⟩), .int .i64 d, .agg #[.int .i64 b.au, .int .i64 b.n, .slice bA bn bc]] w fun e w' => ∃ X A n c, e = .returned (.tuple #[]) ∧ w' = X.setCell ⟨g, 7, none⟩ (.slice A n c) ∧ Below w.heap.size w X ∧ OwnHs X B (.slice A n c) (insAt l (kposH l d) ⟨d, b⟩) := by
 obtain ⟨ps, hT⟩ := hh
 obtain ⟨A', c', e', hR, _⟩ := OwnHs.helds ⟨ps, hT⟩ hs
 injection e' with e1 e2 e3
 rw [← e1, ← e2] at hR
 have HEN : Hid (l.length = en) := ħ e2.symm
 clear e1 e3
 have henb : en < 1024 := by omega
 have hd9 : decide (1024 ≤ (en : Int)) = false := by simp only [decide_eq_false_iff_not]; omega
 have hF : findI l d = -1 := by unfold findI; rw [if_neg (by rw [hy]; simp)]
 obtain ⟨lo, hlo⟩ : ∃ lo, kposH l d = lo := ⟨_, rfl⟩
 have hlole : lo ≤ en := by
  have : kposH l d ≤ l.length := cnt_le _ _
  rw [hlo, e2.symm] at this; exact this
 have HLT : Hid (∀ k, k < lo → decide ((hth l k).di < d) = true) := ħ (fun k hk => by rw [← hlo] at hk; exact cnt_lt _ l hk)
 have HST : Hid (lo < en → decide ((hth l lo).di < d) = false) := ħ (fun h => by (have h2 := cnt_stop (fun x : HeldD => ltI x.di d) l (by show kposH l d < l.length; rw [hlo, HEN.out]; exact h)); rw [show cnt (fun x : HeldD => ltI x.di d) l = lo from hlo] at h2; exact h2)
 have HFI := ħ hF
 have HR := ħ hR
 have HT := ħ hT
 have HS := ħ hs
 have HP := ħ hP
 have HB := ħ hb
 have HLO := ħ hlo
 have HG := ħ hg
 have HLL := ħ hll
 have hgw := hg.lt
 clear hg hR hT hs hP hb hlo hF e2 hy hll
 go_enter Tryz.func84, Tryz.ntmps84
 have hbX0 : Below w.heap.size w (w.alloc (.cells #[.int .i64 b.au, .int .i64 b.n, .slice bA bn bc] 43)) := belA
 have hXB : Blk (w.alloc (.cells #[.int .i64 b.au, .int .i64 b.n, .slice bA bn bc] 43)) w.heap.size 43 [.int .i64 b.au, .int .i64 b.n, .slice bA bn bc] := Blk.new w 43 [.int .i64 b.au, .int .i64 b.n, .slice bA bn bc]
 go_upto_region 1 with fail
 generalize (w.alloc (.cells #[.int .i64 b.au, .int .i64 b.n, .slice bA bn bc] 43)) = X at *
 have HGX := ħ (HG.out.up hbX0)
 have HXB := ħ hXB
 have lgx := HGX.out.lt
 have a_0 := (HGX.out.box).2 0 _ rfl; have a_1 := (HGX.out.box).2 1 _ rfl; have a_2 := (HGX.out.box).2 2 _ rfl; have a_3 := (HGX.out.box).2 3 _ rfl; have a_4 := (HGX.out.box).2 4 _ rfl; have a_5 := (HGX.out.box).2 5 _ rfl; have a_6 := (HGX.out.box).2 6 _ rfl; have a_7 := (HGX.out.box).2 7 _ rfl; have a_8 := (HGX.out.box).2 8 _ rfl; have a_9 := (HGX.out.box).2 9 _ rfl
 clear hXB
 go_wp2_with (go_at_call 83; refine (ref13_find g _ _ _ _ _ _ _ _ _ eA en ec l d _ HGX.out (HR.out.up hbX0) HP.out).mono ?_; rintro e w' ⟨rfl, rfl⟩; rw [HFI.out])
 clear lgx a_0 a_1 a_2 a_3 a_4 a_5 a_6 a_7 a_8 a_9
 go_loopw [6] (fun iv wr => ∃ k : Nat, k ≤ lo ∧ iv = .int .i64 k ∧ Below X.heap.size X wr) (fun iv _ => lo - (intOf iv).toNat)
 case atStart => exact ⟨0, Nat.zero_le _, rfl, Below.refl _ _⟩
 case round =>
  obtain ⟨k, hk, rfl, hbk⟩ := hrel
  (obtain ⟨wk, hwk⟩ : ∃ x, x = wr := ⟨_, rfl⟩); subst hwk
  have HGK := ħ (HGX.out.up hbk)
  have hbw : Below w.heap.size w wk := bel_trans hbX0 hbk
  have lgk := HGK.out.lt
  have a_0 := (HGK.out.box).2 0 _ rfl; have a_1 := (HGK.out.box).2 1 _ rfl; have a_2 := (HGK.out.box).2 2 _ rfl; have a_3 := (HGK.out.box).2 3 _ rfl; have a_4 := (HGK.out.box).2 4 _ rfl; have a_5 := (HGK.out.box).2 5 _ rfl; have a_6 := (HGK.out.box).2 6 _ rfl; have a_7 := (HGK.out.box).2 7 _ rfl; have a_8 := (HGK.out.box).2 8 _ rfl; have a_9 := (HGK.out.box).2 9 _ rfl
  by_cases hlt : k < lo
  ·have hken : k < en := by omega
   obtain ⟨b9, o9, e9, hb9, hc9⟩ := (HR.out.up hbw).2.2 (by omega)
   subst e9
   obtain ⟨Bq, mq, dq, ⟨f0, f1, f2, f3⟩, -⟩ := hc9 k hken
   have hdt : decide ((hth l k).di < d) = true := HLT.out k hlt
   have hkl : decide ((k : Int) < (en : Int)) = true := by simp only [decide_eq_true_eq]; omega
   have hkl2 : (k : Int) < (en : Int) := by omega
   clear hc9
   go_wp2_with fail
   (first | (go_round; (case rel => exact ⟨k + 1, by omega, by go_num, hbk⟩); (case measure => (simp [intOf] <;> omega))) | (go_roundw; (case rel => exact ⟨k + 1, by omega, by go_num, hbk⟩); (case measure => (simp [intOf] <;> omega))) | (refine ⟨?_, by simp [intOf] <;> omega⟩; (repeat apply Exists.intro); refine ⟨?rel, ?fr⟩; (case fr => ((repeat' apply And.intro) <;> rfl)); (case rel => exact ⟨k + 1, by omega, by go_num, hbk⟩)))
  ·have ekn : lo = k := by omega
   subst ekn
   rcases Nat.lt_or_ge lo en with hkn | hkn
   ·obtain ⟨b9, o9, e9, hb9, hc9⟩ := (HR.out.up hbw).2.2 (by omega)
    subst e9
    obtain ⟨Bq, mq, dq, ⟨f0, f1, f2, f3⟩, -⟩ := hc9 lo hkn
    have hdt : decide ((hth l lo).di < d) = false := HST.out hkn
    have hkl : decide ((lo : Int) < (en : Int)) = true := by simp only [decide_eq_true_eq]; omega
    have hkl2 : (lo : Int) < (en : Int) := by omega
    clear hc9
    go_upto_region 5 with fail
    rename_i K1 hK1
    exact holds_rest g B lo k0 k1 k2 k3 k4 k5 k6 k8 k9 _ bA en ec bn bc l d b ps w wk hK1 hbw HGK.out hgw (HXB.out.up hbk) hB HT.out HS.out HB.out hbn HLO.out HLL.out
   ·have hkl : decide ((lo : Int) < (en : Int)) = false := by simp only [decide_eq_false_iff_not]; omega
    go_upto_region 5 with fail
    rename_i K1 hK1
    exact holds_rest g B lo k0 k1 k2 k3 k4 k5 k6 k8 k9 _ bA en ec bn bc l d b ps w wk hK1 hbw HGK.out hgw (HXB.out.up hbk) hB HT.out HS.out HB.out hbn HLO.out HLL.out
set_option maxHeartbeats 4000000 in
theorem ref13_holds_no (g : Nat) (k0 k1 k2 k3 k4 k5 k6 k8 k9 : Value) (eA bA : Option Addr) (en ec bn bc : Nat) (l : List HeldD) (d : Int) (b : BatchD) (w : World) (hg : Blk w g 70 [k0, k1, k2, k3, k4, k5, k6, .slice eA en ec, k8, k9]) (hR : HeldsR w eA en l) (hP : SortedH l) (hy : khasH l d = true ∨ (khasH l d = false ∧ 1024 ≤ l.length)) :
  Calls Tryz.prog 84 #[.pointer (some ⟨g, 0, none⟩), .int .i64 d, .agg #[.int .i64 b.au, .int .i64 b.n, .slice bA bn bc]] w fun e w' => e = .returned (.tuple #[]) ∧ Below w.heap.size w w' := by
 have HR := ħ hR
 have HP := ħ hP
 have HG := ħ hg
 have HEN := ħ hR.1
 clear hg hR hP
 go_enter Tryz.func84, Tryz.ntmps84
 have hbX0 : Below w.heap.size w (w.alloc (.cells #[.int .i64 b.au, .int .i64 b.n, .slice bA bn bc] 43)) := belA
 go_upto_region 1 with fail
 generalize (w.alloc (.cells #[.int .i64 b.au, .int .i64 b.n, .slice bA bn bc] 43)) = X at *
 have HGX := ħ (HG.out.up hbX0)
 have lgx := HGX.out.lt
 have a_0 := (HGX.out.box).2 0 _ rfl; have a_1 := (HGX.out.box).2 1 _ rfl; have a_2 := (HGX.out.box).2 2 _ rfl; have a_3 := (HGX.out.box).2 3 _ rfl; have a_4 := (HGX.out.box).2 4 _ rfl; have a_5 := (HGX.out.box).2 5 _ rfl; have a_6 := (HGX.out.box).2 6 _ rfl; have a_7 := (HGX.out.box).2 7 _ rfl; have a_8 := (HGX.out.box).2 8 _ rfl; have a_9 := (HGX.out.box).2 9 _ rfl
 rcases hy with hy | ⟨hy, hle⟩
 ·have hF : findI l d = (kposH l d : Int) := by unfold findI; rw [if_pos hy]
  have HFI := ħ hF
  have hdp : decide (0 ≤ (kposH l d : Int)) = true := by simp only [decide_eq_true_eq]; omega
  clear hy hF
  go_wp2_with (go_at_call 83; refine (ref13_find g _ _ _ _ _ _ _ _ _ eA en ec l d _ HGX.out (HR.out.up hbX0) HP.out).mono ?_; rintro e w' ⟨rfl, rfl⟩; rw [HFI.out])
  exact bodyPost_ret (v := .tuple #[]) (by simp [results, Tryz.results84, go_sem]) rfl ⟨rfl, hbX0⟩
 ·have hF : findI l d = -1 := by unfold findI; rw [if_neg (by rw [hy]; simp)]
  have HFI := ħ hF
  have hd9 : decide (1024 ≤ (en : Int)) = true := by rw [HEN.out] at hle; simp only [decide_eq_true_eq]; omega
  clear hy hF hle
  go_wp2_with (go_at_call 83; refine (ref13_find g _ _ _ _ _ _ _ _ _ eA en ec l d _ HGX.out (HR.out.up hbX0) HP.out).mono ?_; rintro e w' ⟨rfl, rfl⟩; rw [HFI.out])
  exact bodyPost_ret (v := .tuple #[]) (by simp [results, Tryz.results84, go_sem]) rfl ⟨rfl, hbX0⟩
open Go.RowKit

theorem OwnHs.tkR {w w' : World} {B : Nat} {v : Value} {l : List HeldD} (h : OwnHs w B v l) (hk : TKeep 70 w w') : OwnHs w' B v l := by
 obtain ⟨ps, h1, h2, h3⟩ := h
 exact ⟨ps, own_tk h1 hk (by decide), h2, fun j hj => own_tk (h3 j hj) hk (by decide)⟩
theorem OwnWs.tkR {w w' : World} {B : Nat} {v : Value} {l : List WaitD} (h : OwnWs w B v l) (hk : TKeep 70 w w') : OwnWs w' B v l := by
 obtain ⟨ps, h1, h2, h3⟩ := h
 exact ⟨ps, own_tk h1 hk (by decide), h2, fun j hj => own_tk (h3 j hj) hk (by decide)⟩
theorem WorkO.tkR {w w' : World} {B : Nat} {P : WorkP} {D : WorkD} (h : WorkO w B P D) (hk : TKeep 70 w w') : WorkO w' B P D := ⟨own_tk h.op hk (by decide), h.wa.tkR hk, h.he.tkR hk, own_tk h.re hk (by decide)⟩
open Go.RowKit

theorem OwnT.tkR {w w' : World} {B : Nat} {v : Value} {ps : List MsgP} {l : List MsgD} (h : OwnT dMsg w B v ps l) (hk : TKeep 70 w w') : OwnT dMsg w' B v ps l := ⟨own_tk h.1 hk (by decide), h.2.1, fun j hj => let z : OwnM w B _ _ := h.2.2 j hj; (⟨own_tk z.b hk (by decide), own_tk z.h1 hk (by decide), own_tk z.h2 hk (by decide), own_tk z.c1 hk (by decide), own_tk z.c2 hk (by decide), own_tk z.c3 hk (by decide), own_tk z.ds hk (by decide)⟩ : OwnM w' B _ _)⟩
theorem hth_ins {l : List HeldD} {p : Nat} {x : HeldD} (hp : p ≤ l.length) (i : Nat) : hth (insAt l p x) i = if i < p then hth l i else if i = p then x else hth l (i - 1) := by
 have hlt : (l.take p).length = p := by rw [List.length_take]; omega
 unfold insAt hth
 simp only [List.getD_eq_getElem?_getD]
 by_cases h1 : i < p
 ·rw [if_pos h1, List.getElem?_append_left (by omega), List.getElem?_take, if_pos h1]
 ·rw [if_neg h1, List.getElem?_append_right (by omega), hlt]
  by_cases h2 : i = p
  ·rw [if_pos h2, h2, Nat.sub_self]; rfl
  ·rw [if_neg h2, show i - p = (i - p - 1) + 1 by omega, List.getElem?_cons_succ, List.getElem?_drop, show p + (i - p - 1) = i - 1 by omega]
theorem kposH_low {l : List HeldD} {d : Int} {i : Nat} (h : i < kposH l d) : (hth l i).di < d := by
 have hl : kposH l d ≤ l.length := cnt_le _ _
 have hm := cnt_take (fun x : HeldD => ltI x.di d) l (hth l i) (by
  have e : hth l i = (l.take (kposH l d)).getD i default := by
   unfold hth; simp only [List.getD_eq_getElem?_getD, List.getElem?_take, if_pos h]
  rw [e]; exact getD_mem (by rw [List.length_take]; show i < min (kposH l d) _; omega))
 simpa [ltI] using hm
theorem kposH_high {l : List HeldD} (hs : SortedH l) {d : Int} (hk : khasH l d = false) {i : Nat} (h : kposH l d ≤ i) (hi : i < l.length) : d < (hth l i).di := by
 have h0 := cnt_stop (fun x : HeldD => ltI x.di d) l (by exact Nat.lt_of_le_of_lt h hi)
 have h1 : ¬ (hth l (kposH l d)).di < d := by
  intro g
  have : ltI (hth l (kposH l d)).di d = true := by simpa [ltI] using g
  rw [show ltI (hth l (kposH l d)).di d = false from h0] at this
  cases this
 have h2 : ¬ (hth l i).di = d := fun e => by have := (khasH_iff hs).2 ⟨i, hi, e⟩; rw [hk] at this; cases this
 rcases Nat.lt_or_ge (kposH l d) i with g | g
 ·have := hs _ _ g hi
  simp only [ltI, decide_eq_true_eq] at this
  omega
 ·have e : kposH l d = i := by omega
  rw [e] at h1; omega
theorem SortedH.ins {l : List HeldD} (hs : SortedH l) {d : Int} {b : BatchD} (hk : khasH l d = false) : SortedH (insAt l (kposH l d) ⟨d, b⟩) := by
 have hp : kposH l d ≤ l.length := cnt_le _ _
 intro i j hij hj
 rw [insAt_len hp] at hj
 rw [hth_ins hp, hth_ins hp]
 simp only [ltI, decide_eq_true_eq]
 by_cases h1 : i < kposH l d
 ·rw [if_pos h1]
  have a1 := kposH_low h1
  by_cases h2 : j < kposH l d
  ·rw [if_pos h2]
   have := hs i j hij (by omega)
   simpa [ltI] using this
  ·rw [if_neg h2]
   by_cases h3 : j = kposH l d
   ·rw [if_pos h3]; exact a1
   ·rw [if_neg h3]
    have := kposH_high hs hk (i := j - 1) (by omega) (by omega)
    omega
 ·rw [if_neg h1]
  by_cases h2 : i = kposH l d
  ·rw [if_pos h2, if_neg (by omega), if_neg (by omega)]
   exact kposH_high hs hk (by omega) (by omega)
  ·rw [if_neg h2, if_neg (by omega), if_neg (by omega)]
   have := hs (i - 1) (j - 1) (by omega) (by omega)
   simpa [ltI] using this
theorem khasH_ins {l : List HeldD} (hs : SortedH l) {d : Int} {b : BatchD} (hk : khasH l d = false) : khasH (insAt l (kposH l d) ⟨d, b⟩) d = true := by
 have hp : kposH l d ≤ l.length := cnt_le _ _
 refine (khasH_iff (hs.ins hk)).2 ⟨kposH l d, by rw [insAt_len hp]; omega, ?_⟩
 rw [hth_ins hp, if_neg (by omega), if_pos rfl]
theorem findI_yes {l : List HeldD} {d : Int} (h : khasH l d = true) : decide (findI l d ≥ 0) = true := by unfold findI; rw [if_pos h]; simp
theorem findI_no {l : List HeldD} {d : Int} (h : khasH l d = false) : decide (findI l d ≥ 0) = false := by unfold findI; rw [if_neg (by rw [h]; simp)]; simp
set_option maxHeartbeats 8000000 in
theorem ref13_Take13 (P : WorkP) (D : WorkD) (Pm : MsgP) (M : MsgD) (w : World) (h : WorkR w P D) (hs : BigD D) (hp : MsgR w Pm M) (hbn : Pm.b.n ≤ 800000000) (hk : M.ki = 1 ∨ M.ki = 3) (h4 : TakesK M.ki) (hm : mayW D = true) (hb : msgB M D.nodes = true) (ht : M.tt = D.id) :
  Calls Tryz.prog 49 #[P.val D, M18 Pm M] w fun e w' => ∃ gs P' A n c ps, e = .returned (.tuple #[.pointer (some ⟨gs, 0, none⟩), .int .i64 0]) ∧ Blk w' gs 70 [.int .i64 (heldD D M).id, .int .i64 (heldD D M).nodes, .int .i64 (heldD D M).next, .slice P'.op.A P'.op.n P'.op.c, .int .i64 (heldD D M).age, .int .i64 (heldD D M).clock, .slice P'.wa.A P'.wa.n P'.wa.c, .slice P'.he.A P'.he.n P'.he.c, .slice P'.re.A P'.re.n P'.re.c, .slice A n c] ∧ WorkO w' w.heap.size P' (heldD D M) ∧ OwnT dMsg w' w.heap.size (.slice A n c) ps (heldL D M) ∧ w.heap.size ≤ gs ∧ Below w.heap.size w w' := by
 obtain ⟨⟨oA, on, oc⟩, ⟨tA, tn, tc⟩, ⟨eA, en, ec⟩, ⟨rA, rn, rc⟩⟩ := P
 obtain ⟨⟨bA, bn, bc⟩, ⟨⟨xA, xn, xc⟩, ⟨yA, yn, yc⟩⟩, ⟨⟨⟨cA, cn, cd⟩, ⟨dA, dn, dc⟩⟩, ⟨sA, sn, sc⟩⟩, ⟨zA, zn, zc⟩⟩ := Pm
 obtain ⟨ki, fr, tt, di, b, hd, cc, ds⟩ := M
 have HWK := ħ h
 have HMM := ħ hp
 have HK4 : Hid (TakesK ki) := ħ h4
 have HS := ħ hs
 dsimp only at hk ht hbn
 have HBY := ħ hb
 have hd1 : (tt != D.id) = false := by simp [ht]
 have HM := ħ (mayW_iff.1 hm)
 have HTX : Hid (TxsR w bA bn b.tx) := ħ hp.tx
 obtain ⟨yh, hyh⟩ : ∃ y, khasH D.he di = y := ⟨_, rfl⟩
 have HYH := ħ hyh
 have HSO : Hid (SortedH D.he) := ħ (hdB_iff.1 HM.out.2.2.2.2.2.2.2.2.2.2.1).sorted
 have hhe : D.he.length ≤ 1024 := HM.out.2.2.2.2.2.2.2.1
 have hD : heldD D ⟨ki, fr, tt, di, b, hd, cc, ds⟩ = if yh = false ∧ D.he.length < 1024 then holdD D di b else D := by unfold heldD; rw [hyh]
 have hL : heldL D ⟨ki, fr, tt, di, b, hd, cc, ds⟩ = if ki = 1 ∧ (yh = true ∨ D.he.length < 1024) then [tellM D.id fr di] else [] := by unfold heldL; rw [hyh]
 rw [hD, hL]
 obtain ⟨D1, hD1⟩ : ∃ z, (if yh = false ∧ D.he.length < 1024 then holdD D di b else D) = z := ⟨_, rfl⟩
 obtain ⟨L1, hL1⟩ : ∃ z, (if ki = 1 ∧ (yh = true ∨ D.he.length < 1024) then [tellM D.id fr di] else []) = z := ⟨_, rfl⟩
 rw [hD1, hL1]
 have HD1 := ħ hD1
 have HL1 := ħ hL1
 have HS2 := ħ hs
 have HBIG : Hid (D.he.length < 1024 → BigD (holdD D di b)) := ħ (fun hr => ⟨hs.op, hs.wa, ⟨by show (insAt D.he (kposH D.he di) _).length ≤ _; rw [insAt_len (show kposH D.he di ≤ D.he.length from cnt_le _ _)]; omega, fun x hx => by
  rcases insAt_mem hx with rfl | hx
  ·have e : b.tx.length = bn := HTX.out.1
   show b.tx.length ≤ _; omega
  ·exact hs.he.2 x hx⟩, hs.re⟩)
 clear hD1 hL1 hD hL h hp hyh hb ht hm hs h4
 show Calls Tryz.prog 49 #[.agg #[.int .i64 D.id, .int .i64 D.nodes, .int .i64 D.next, .slice oA on oc, .int .i64 D.age, .int .i64 D.clock, .slice tA tn tc, .slice eA en ec, .slice rA rn rc], .agg #[.int .i64 ki, .int .i64 fr, .int .i64 tt, .int .i64 di, .int .i64 b.au, .int .i64 b.n, .slice bA bn bc, .int .i64 hd.au, .int .i64 hd.ro, .slice xA xn xc, .slice yA yn yc, .int .i64 cc.h.au, .int .i64 cc.h.ro, .slice cA cn cd, .slice dA dn dc, .int .i64 cc.di, .slice sA sn sc, .slice zA zn zc]] w _
 go_enter Tryz.func49, Tryz.ntmps49
 go_upto_region 1 with fail
 refine wp_world (fun W hW => ?_)
 have HA0 : Hid (Blk W w.heap.size 27 [.int .i64 D.id, .int .i64 D.nodes, .int .i64 D.next, .slice oA on oc, .int .i64 D.age, .int .i64 D.clock, .slice tA tn tc, .slice eA en ec, .slice rA rn rc]) := ħ (by rw [hW]; exact (Blk.new w 27 [.int .i64 D.id, .int .i64 D.nodes, .int .i64 D.next, .slice oA on oc, .int .i64 D.age, .int .i64 D.clock, .slice tA tn tc, .slice eA en ec, .slice rA rn rc]).up (belA))
 have HB0 : Hid (Blk W (w.heap.size + 1) 49 [.int .i64 ki, .int .i64 fr, .int .i64 tt, .int .i64 di, .int .i64 b.au, .int .i64 b.n, .slice bA bn bc, .int .i64 hd.au, .int .i64 hd.ro, .slice xA xn xc, .slice yA yn yc, .int .i64 cc.h.au, .int .i64 cc.h.ro, .slice cA cn cd, .slice dA dn dc, .int .i64 cc.di, .slice sA sn sc, .slice zA zn zc]) := ħ (by rw [hW]; exact Blk.new1 w 27 49 [.int .i64 D.id, .int .i64 D.nodes, .int .i64 D.next, .slice oA on oc, .int .i64 D.age, .int .i64 D.clock, .slice tA tn tc, .slice eA en ec, .slice rA rn rc] [.int .i64 ki, .int .i64 fr, .int .i64 tt, .int .i64 di, .int .i64 b.au, .int .i64 b.n, .slice bA bn bc, .int .i64 hd.au, .int .i64 hd.ro, .slice xA xn xc, .slice yA yn yc, .int .i64 cc.h.au, .int .i64 cc.h.ro, .slice cA cn cd, .slice dA dn dc, .int .i64 cc.di, .slice sA sn sc, .slice zA zn zc])
 have hbW : Below w.heap.size w W := by rw [hW]; exact bel_alloc (bel_alloc (Below.refl _ _))
 clear hW
 have hql := HA0.out.lt
 have hqb := HA0.out.box
 have q0 := hqb.2 0 _ rfl; have q1 := hqb.2 1 _ rfl; have q2 := hqb.2 2 _ rfl; have q3 := hqb.2 3 _ rfl; have q4 := hqb.2 4 _ rfl; have q5 := hqb.2 5 _ rfl; have q6 := hqb.2 6 _ rfl; have q7 := hqb.2 7 _ rfl; have q8 := hqb.2 8 _ rfl
 clear hqb
 go_upto_region 2 with (go_at_call 17; refine (ref0_CopyWorker ⟨⟨oA, on, oc⟩, ⟨tA, tn, tc⟩, ⟨eA, en, ec⟩, ⟨rA, rn, rc⟩⟩ D _ (HWK.out.up hbW) HS.out).mono ?_; rintro e w1 ⟨⟨⟨oA2, on2, oc2⟩, ⟨tA2, tn2, tc2⟩, ⟨eA2, en2, ec2⟩, ⟨rA2, rn2, rc2⟩⟩, he1, hO1, hb1⟩; simp only [WorkP.val] at he1; subst he1)
 clear q0 q1 q2 q3 q4 q5 q6 q7 q8 hql
 refine wp_world (fun W2 hW2 => ?_)
 have HG : Hid (Blk W2 w1.heap.size 70 [.int .i64 D.id, .int .i64 D.nodes, .int .i64 D.next, .slice oA2 on2 oc2, .int .i64 D.age, .int .i64 D.clock, .slice tA2 tn2 tc2, .slice eA2 en2 ec2, .slice rA2 rn2 rc2, .slice none 0 0]) := ħ (by rw [hW2]; exact Blk.new w1 70 [.int .i64 D.id, .int .i64 D.nodes, .int .i64 D.next, .slice oA2 on2 oc2, .int .i64 D.age, .int .i64 D.clock, .slice tA2 tn2 tc2, .slice eA2 en2 ec2, .slice rA2 rn2 rc2, .slice none 0 0])
 have hb2 : Below w1.heap.size w1 W2 := by rw [hW2]; exact bel_alloc (Below.refl _ _)
 clear hW2
 obtain ⟨gs, hgs⟩ : ∃ g, g = w1.heap.size := ⟨_, rfl⟩
 obtain ⟨gm, hgm⟩ : ∃ g, g = w.heap.size + 1 := ⟨_, rfl⟩
 obtain ⟨gw, hgw⟩ : ∃ g, g = w.heap.size := ⟨_, rfl⟩
 have hE : (Value.pointer (some ⟨w.heap.size, 0, none⟩)) = .pointer (some ⟨gw, 0, none⟩) := by rw [hgw]
 have hz1 : w.heap.size + 2 ≤ w1.heap.size := by have := (HB0.out.up hb1).lt; omega
 have HW0 : Hid (Blk W2 gw 27 [.int .i64 D.id, .int .i64 D.nodes, .int .i64 D.next, .slice oA on oc, .int .i64 D.age, .int .i64 D.clock, .slice tA tn tc, .slice eA en ec, .slice rA rn rc]) := ħ (by rw [hgw]; exact (HA0.out.up hb1).up hb2)
 have HBM : Hid (Blk W2 gm 49 [.int .i64 ki, .int .i64 fr, .int .i64 tt, .int .i64 di, .int .i64 b.au, .int .i64 b.n, .slice bA bn bc, .int .i64 hd.au, .int .i64 hd.ro, .slice xA xn xc, .slice yA yn yc, .int .i64 cc.h.au, .int .i64 cc.h.ro, .slice cA cn cd, .slice dA dn dc, .int .i64 cc.di, .slice sA sn sc, .slice zA zn zc]) := ħ (by rw [hgm]; exact (HB0.out.up hb1).up hb2)
 have HO2 := ħ ((hO1.mono (B' := w.heap.size) hbW.size).up hb2)
 have hb0 : Below w.heap.size w W2 := bel_trans (bel_trans hbW hb1) hb2
 rw [← hgs] at HG ⊢
 rw [← hgm]
 try simp only [hE]
 have hgmr : gm < gs := by omega
 have hgwm : gw < gm := by omega
 have hgww : w.heap.size ≤ gw := by omega
 clear hgs hgm hgw hE HA0 HB0 hbW hb1 hb2 hO1 hz1
 refine wp_region_list ?_
 simp only [List.append_eq, List.append, List.cons_append, List.nil_append, List.toList_toArray]
 refine wpList_load_mid rfl 49 _ rfl gm 0 (by simp [Act.eval, Act.put]) [.int .i64 ki, .int .i64 fr, .int .i64 tt, .int .i64 di, .int .i64 b.au, .int .i64 b.n, .slice bA bn bc, .int .i64 hd.au, .int .i64 hd.ro, .slice xA xn xc, .slice yA yn yc, .int .i64 cc.h.au, .int .i64 cc.h.ro, .slice cA cn cd, .slice dA dn dc, .int .i64 cc.di, .slice sA sn sc, .slice zA zn zc] _ HBM.out.rng Tryz.underlying49 (by rfl) (by kernel_rfl) ?_
 (try simp only [lz, List.toList_toArray])
 refine wpList_plain rfl (fun K hK => ?_)
 go_simp
 refine hK _ _ ?_
 clear hK K
 (try simp only [lz])
 refine wpList_plain rfl (fun K hK => ?_)
 have r1 := HW0.out.box.2 1 _ rfl
 go_simp
 refine hK _ _ ?_
 clear hK K
 clear r1
 (try simp only [lz])
 refine wpList_plain rfl (fun K hK => ?_)
 go_simp
 refine (ref4_Message4 ⟨⟨bA, bn, bc⟩, ⟨⟨xA, xn, xc⟩, ⟨yA, yn, yc⟩⟩, ⟨⟨⟨cA, cn, cd⟩, ⟨dA, dn, dc⟩⟩, ⟨sA, sn, sc⟩⟩, ⟨zA, zn, zc⟩⟩ ⟨ki, fr, tt, di, b, hd, cc, ds⟩ D.nodes true _ (HMM.out.up hb0) HK4.out HBY.out).mono ?_
 rintro e w3 ⟨rfl, hb3⟩
 dsimp only
 refine hK _ _ ?_
 clear hK K
 (try simp only [lz])
 have HW3 := ħ (HW0.out.up hb3)
 have HB3 := ħ (HBM.out.up hb3)
 have HG3 := ħ (HG.out.up hb3)
 have HO3 := ħ (HO2.out.up hb3)
 have hb03 := bel_trans hb0 hb3
 clear hb3 HW0 HBM HG HO2 hb0
 iterate 3 (((first | refine wpList_plain rfl (fun K hK => ?_) | refine wpList_takeG (by kernel_rfl) (fun K hK => ?_))); go_simp; refine hK _ _ ?_; clear hK K; (try simp only [lz]))
 refine wpList_takeG (by kernel_rfl) (fun K hK => ?_)
 have r2 := HB3.out.box.2 2 _ rfl
 go_simp
 refine hK _ _ ?_
 clear hK K
 clear r2
 (try simp only [lz])
 refine wpList_takeG (by kernel_rfl) (fun K hK => ?_)
 go_simp
 refine hK _ _ ?_
 clear hK K
 (try simp only [lz])
 refine wpList_takeG (by kernel_rfl) (fun K hK => ?_)
 have r0 := HW3.out.box.2 0 _ rfl
 go_simp
 refine hK _ _ ?_
 clear hK K
 clear r0
 (try simp only [lz])
 iterate 2 (((first | refine wpList_plain rfl (fun K hK => ?_) | refine wpList_takeG (by kernel_rfl) (fun K hK => ?_))); go_simp; refine hK _ _ ?_; clear hK K; (try simp only [lz]))
 refine wpList_nil ?_
 rename_i Ka hKa
 refine hKa _ _ ?_
 clear hKa Ka
 clear hhe hd1
 rcases hk with hk | hk
 ·subst hk
  cases yh
  ·by_cases hr : D.he.length < 1024
   ·skip
    obtain rfl : holdD D di b = D1 := by rw [← HD1.out]; exact Eq.symm (if_pos ⟨rfl, hr⟩)
    obtain rfl : [tellM D.id fr di] = L1 := by rw [← HL1.out]; exact Eq.symm (if_pos ⟨rfl, .inr hr⟩)
    have m0 := HB3.out.box.2 0 _ rfl
    have m3 := HB3.out.box.2 3 _ rfl
    have m4 := HB3.out.box.2 4 _ rfl
    have m5 := HB3.out.box.2 5 _ rfl
    have m6 := HB3.out.box.2 6 _ rfl
    have hgl := HG3.out.lt
    go_upto_region 9 with (go_at_call 84; refine (ref13_holds_yes gs w.heap.size _ _ _ _ _ _ _ _ _ eA2 bA en2 ec2 bn bc D.he di b w3 HG3.out hb03.size HO3.out.he HS2.out.he HSO.out (HTX.out.up hb03) hbn HYH.out hr).mono ?_; rintro e wh ⟨Xh, A3, n3, c3, rfl, rfl, hbh, hhe3⟩)
    clear m0 m3 m4 m5 m6 hgl
    have hGh := HG3.out.up hbh
    refine wp_world (fun Y hY => ?_)
    have HGY : Hid (Blk Y gs 70 [.int .i64 D.id, .int .i64 D.nodes, .int .i64 D.next, .slice oA2 on2 oc2, .int .i64 D.age, .int .i64 D.clock, .slice tA2 tn2 tc2, .slice A3 n3 c3, .slice rA2 rn2 rc2, .slice none 0 0]) := ħ (by rw [hY]; exact hGh.set_ 7 (.slice A3 n3 c3))
    have htY : TKeep 70 w3 Y := by rw [hY]; exact (TKeep.of_below hbh).trans (TKeep.setg hGh)
    have HHY : Hid (OwnHs Y w.heap.size (.slice A3 n3 c3) (insAt D.he (kposH D.he di) ⟨di, b⟩)) := ħ (by rw [hY]; exact OwnHs.tkR hhe3 (TKeep.setg hGh))
    have HMY := ħ (HB3.out.tk htY (by decide))
    have hbY : Below w.heap.size w Y := by rw [hY]; exact (bel_trans hb03 hbh).setCell (p := ⟨gs, 7, none⟩) (by show w.heap.size ≤ gs; omega) _
    have HOY : Hid (WorkO Y w.heap.size ⟨⟨oA2, on2, oc2⟩, ⟨tA2, tn2, tc2⟩, ⟨A3, n3, c3⟩, ⟨rA2, rn2, rc2⟩⟩ (holdD D di b)) := ħ (let h9 := HO3.out.tkR htY; ⟨h9.op, h9.wa, HHY.out, h9.re⟩)
    clear hY hbh hhe3 hGh htY HHY HG3 HB3 HO3 hb03 HW3
    have m0 := HMY.out.box.2 0 _ rfl
    have hgl := HGY.out.lt
    have m3 := HMY.out.box.2 3 _ rfl
    have hfi := findI_yes (l := (insAt D.he (kposH D.he di) ⟨di, b⟩)) (d := di) (khasH_ins HSO.out HYH.out)
    obtain ⟨zf, hzf⟩ : ∃ z, findI (insAt D.he (kposH D.he di) ⟨di, b⟩) di = z := ⟨_, rfl⟩
    rw [hzf] at hfi
    have HZF := ħ hzf
    clear hzf
    have HSB : Hid (BigD (holdD D di b)) := ħ (HBIG.out hr)
    go_upto_region 10 with (go_at_call 83; refine (ref13_find gs _ _ _ _ _ _ _ _ _ A3 n3 c3 (insAt D.he (kposH D.he di) ⟨di, b⟩) di _ HGY.out (HOY.out.work HSB.out).he (HSO.out.ins HYH.out)).mono ?_; rintro e w' ⟨rfl, rfl⟩; rw [HZF.out])
    clear m0
    have m1 := HMY.out.box.2 1 _ rfl
    go_wp2_with (go_at_call 85; refine (ref13_tells gs Y.heap.size D.id _ _ _ _ _ _ _ _ none 0 0 [] [] ⟨⟨none, 0, 0⟩, ⟨⟨none, 0, 0⟩, ⟨none, 0, 0⟩⟩, ⟨⟨⟨none, 0, 0⟩, ⟨none, 0, 0⟩⟩, ⟨none, 0, 0⟩⟩, ⟨none, 0, 0⟩⟩ ⟨2, 0, fr, di, ⟨0, 0, []⟩, ⟨0, 0, [], []⟩, ⟨⟨0, 0, [], []⟩, 0, []⟩, []⟩ Y HGY.out hgl (Nat.le_refl _) (OwnT.nil _ _) (by simp) ⟨OwnX.nil _ _, OwnI.nil _ _, OwnI.nil _ _, OwnI.nil _ _, OwnI.nil _ _, OwnI.nil _ _, OwnI.nil _ _⟩).mono ?_; rintro e wz ⟨Xz, A9, n9, c9, rfl, rfl, hbz, -, hOz⟩)
    have hGz := HGY.out.up hbz
    have HGZ := ħ (hGz.set_ 9 (.slice A9 n9 c9))
    have htZ := (TKeep.of_below hbz).trans (TKeep.setg (o := 9) (u := .slice A9 n9 c9) hGz)
    have hbZ : Below w.heap.size w _ := (bel_trans hbY hbz).setCell (p := ⟨gs, 9, none⟩) (by show w.heap.size ≤ gs; omega) (.slice A9 n9 c9)
    have HOZ := ħ (HOY.out.tkR htZ)
    have HMZ : Hid (OwnT dMsg _ w.heap.size (.slice A9 n9 c9) [⟨⟨none, 0, 0⟩, ⟨⟨none, 0, 0⟩, ⟨none, 0, 0⟩⟩, ⟨⟨⟨none, 0, 0⟩, ⟨none, 0, 0⟩⟩, ⟨none, 0, 0⟩⟩, ⟨none, 0, 0⟩⟩] [tellM D.id fr di]) := ħ ((hOz.tkR (TKeep.setg (o := 9) (u := .slice A9 n9 c9) hGz)).mono hbY.size)
    exact bodyPost_ret (v := .tuple #[.pointer (some ⟨gs, 0, none⟩), .int .i64 0]) (by simp [results, Tryz.results49, go_sem]) rfl ⟨gs, ⟨⟨oA2, on2, oc2⟩, ⟨tA2, tn2, tc2⟩, ⟨A3, n3, c3⟩, ⟨rA2, rn2, rc2⟩⟩, A9, n9, c9, _, rfl, HGZ.out, HOZ.out, HMZ.out, by omega, hbZ⟩
   ·skip
    obtain rfl : D = D1 := by rw [← HD1.out]; exact Eq.symm (if_neg (fun g => hr g.2))
    obtain rfl : [] = L1 := by rw [← HL1.out]; exact Eq.symm (if_neg (fun g => g.2.elim (fun g2 => by cases g2) hr))
    have m0 := HB3.out.box.2 0 _ rfl
    have m3 := HB3.out.box.2 3 _ rfl
    have m4 := HB3.out.box.2 4 _ rfl
    have m5 := HB3.out.box.2 5 _ rfl
    have m6 := HB3.out.box.2 6 _ rfl
    have hgl := HG3.out.lt
    go_upto_region 9 with (go_at_call 84; refine (ref13_holds_no gs _ _ _ _ _ _ _ _ _ eA2 bA en2 ec2 bn bc D.he di b w3 HG3.out (HO3.out.work HS2.out).he HSO.out (.inr ⟨HYH.out, by omega⟩)).mono ?_; rintro e Y ⟨rfl, hbh⟩)
    clear m0 m3 m4 m5 m6 hgl
    have HGY := ħ (HG3.out.up hbh)
    have HMY := ħ (HB3.out.up hbh)
    have HOY := ħ (HO3.out.up hbh)
    have hbY := bel_trans hb03 hbh
    clear hbh HG3 HB3 HO3 hb03 HW3
    have m0 := HMY.out.box.2 0 _ rfl
    have hgl := HGY.out.lt
    have m3 := HMY.out.box.2 3 _ rfl
    have hfi := findI_no (l := D.he) (d := di) HYH.out
    obtain ⟨zf, hzf⟩ : ∃ z, findI D.he di = z := ⟨_, rfl⟩
    rw [hzf] at hfi
    have HZF := ħ hzf
    clear hzf
    have HSB : Hid (BigD D) := ħ HS2.out
    go_wp2_with (go_at_call 83; refine (ref13_find gs _ _ _ _ _ _ _ _ _ eA2 en2 ec2 D.he di _ HGY.out (HOY.out.work HSB.out).he HSO.out).mono ?_; rintro e w' ⟨rfl, rfl⟩; rw [HZF.out])
    exact bodyPost_ret (v := .tuple #[.pointer (some ⟨gs, 0, none⟩), .int .i64 0]) (by simp [results, Tryz.results49, go_sem]) rfl ⟨gs, ⟨⟨oA2, on2, oc2⟩, ⟨tA2, tn2, tc2⟩, ⟨eA2, en2, ec2⟩, ⟨rA2, rn2, rc2⟩⟩, none, 0, 0, [], rfl, HGY.out, HOY.out, OwnT.nil _ _, by omega, hbY⟩
  ·skip
   obtain rfl : D = D1 := by rw [← HD1.out]; exact Eq.symm (if_neg (fun g => by cases g.1))
   obtain rfl : [tellM D.id fr di] = L1 := by rw [← HL1.out]; exact Eq.symm (if_pos ⟨rfl, .inl rfl⟩)
   have m0 := HB3.out.box.2 0 _ rfl
   have m3 := HB3.out.box.2 3 _ rfl
   have m4 := HB3.out.box.2 4 _ rfl
   have m5 := HB3.out.box.2 5 _ rfl
   have m6 := HB3.out.box.2 6 _ rfl
   have hgl := HG3.out.lt
   go_upto_region 9 with (go_at_call 84; refine (ref13_holds_no gs _ _ _ _ _ _ _ _ _ eA2 bA en2 ec2 bn bc D.he di b w3 HG3.out (HO3.out.work HS2.out).he HSO.out (.inl HYH.out)).mono ?_; rintro e Y ⟨rfl, hbh⟩)
   clear m0 m3 m4 m5 m6 hgl
   have HGY := ħ (HG3.out.up hbh)
   have HMY := ħ (HB3.out.up hbh)
   have HOY := ħ (HO3.out.up hbh)
   have hbY := bel_trans hb03 hbh
   clear hbh HG3 HB3 HO3 hb03 HW3
   have m0 := HMY.out.box.2 0 _ rfl
   have hgl := HGY.out.lt
   have m3 := HMY.out.box.2 3 _ rfl
   have hfi := findI_yes (l := D.he) (d := di) HYH.out
   obtain ⟨zf, hzf⟩ : ∃ z, findI D.he di = z := ⟨_, rfl⟩
   rw [hzf] at hfi
   have HZF := ħ hzf
   clear hzf
   have HSB : Hid (BigD D) := ħ HS2.out
   go_upto_region 10 with (go_at_call 83; refine (ref13_find gs _ _ _ _ _ _ _ _ _ eA2 en2 ec2 D.he di _ HGY.out (HOY.out.work HSB.out).he HSO.out).mono ?_; rintro e w' ⟨rfl, rfl⟩; rw [HZF.out])
   clear m0
   have m1 := HMY.out.box.2 1 _ rfl
   go_wp2_with (go_at_call 85; refine (ref13_tells gs Y.heap.size D.id _ _ _ _ _ _ _ _ none 0 0 [] [] ⟨⟨none, 0, 0⟩, ⟨⟨none, 0, 0⟩, ⟨none, 0, 0⟩⟩, ⟨⟨⟨none, 0, 0⟩, ⟨none, 0, 0⟩⟩, ⟨none, 0, 0⟩⟩, ⟨none, 0, 0⟩⟩ ⟨2, 0, fr, di, ⟨0, 0, []⟩, ⟨0, 0, [], []⟩, ⟨⟨0, 0, [], []⟩, 0, []⟩, []⟩ Y HGY.out hgl (Nat.le_refl _) (OwnT.nil _ _) (by simp) ⟨OwnX.nil _ _, OwnI.nil _ _, OwnI.nil _ _, OwnI.nil _ _, OwnI.nil _ _, OwnI.nil _ _, OwnI.nil _ _⟩).mono ?_; rintro e wz ⟨Xz, A9, n9, c9, rfl, rfl, hbz, -, hOz⟩)
   have hGz := HGY.out.up hbz
   have HGZ := ħ (hGz.set_ 9 (.slice A9 n9 c9))
   have htZ := (TKeep.of_below hbz).trans (TKeep.setg (o := 9) (u := .slice A9 n9 c9) hGz)
   have hbZ : Below w.heap.size w _ := (bel_trans hbY hbz).setCell (p := ⟨gs, 9, none⟩) (by show w.heap.size ≤ gs; omega) (.slice A9 n9 c9)
   have HOZ := ħ (HOY.out.tkR htZ)
   have HMZ : Hid (OwnT dMsg _ w.heap.size (.slice A9 n9 c9) [⟨⟨none, 0, 0⟩, ⟨⟨none, 0, 0⟩, ⟨none, 0, 0⟩⟩, ⟨⟨⟨none, 0, 0⟩, ⟨none, 0, 0⟩⟩, ⟨none, 0, 0⟩⟩, ⟨none, 0, 0⟩⟩] [tellM D.id fr di]) := ħ ((hOz.tkR (TKeep.setg (o := 9) (u := .slice A9 n9 c9) hGz)).mono hbY.size)
   exact bodyPost_ret (v := .tuple #[.pointer (some ⟨gs, 0, none⟩), .int .i64 0]) (by simp [results, Tryz.results49, go_sem]) rfl ⟨gs, ⟨⟨oA2, on2, oc2⟩, ⟨tA2, tn2, tc2⟩, ⟨eA2, en2, ec2⟩, ⟨rA2, rn2, rc2⟩⟩, A9, n9, c9, _, rfl, HGZ.out, HOZ.out, HMZ.out, by omega, hbZ⟩
 ·subst hk
  cases yh
  ·by_cases hr : D.he.length < 1024
   ·skip
    obtain rfl : holdD D di b = D1 := by rw [← HD1.out]; exact Eq.symm (if_pos ⟨rfl, hr⟩)
    obtain rfl : [] = L1 := by rw [← HL1.out]; exact Eq.symm (if_neg (by simp))
    have m0 := HB3.out.box.2 0 _ rfl
    have m3 := HB3.out.box.2 3 _ rfl
    have m4 := HB3.out.box.2 4 _ rfl
    have m5 := HB3.out.box.2 5 _ rfl
    have m6 := HB3.out.box.2 6 _ rfl
    have hgl := HG3.out.lt
    go_upto_region 9 with (go_at_call 84; refine (ref13_holds_yes gs w.heap.size _ _ _ _ _ _ _ _ _ eA2 bA en2 ec2 bn bc D.he di b w3 HG3.out hb03.size HO3.out.he HS2.out.he HSO.out (HTX.out.up hb03) hbn HYH.out hr).mono ?_; rintro e wh ⟨Xh, A3, n3, c3, rfl, rfl, hbh, hhe3⟩)
    clear m0 m3 m4 m5 m6 hgl
    have hGh := HG3.out.up hbh
    refine wp_world (fun Y hY => ?_)
    have HGY : Hid (Blk Y gs 70 [.int .i64 D.id, .int .i64 D.nodes, .int .i64 D.next, .slice oA2 on2 oc2, .int .i64 D.age, .int .i64 D.clock, .slice tA2 tn2 tc2, .slice A3 n3 c3, .slice rA2 rn2 rc2, .slice none 0 0]) := ħ (by rw [hY]; exact hGh.set_ 7 (.slice A3 n3 c3))
    have htY : TKeep 70 w3 Y := by rw [hY]; exact (TKeep.of_below hbh).trans (TKeep.setg hGh)
    have HHY : Hid (OwnHs Y w.heap.size (.slice A3 n3 c3) (insAt D.he (kposH D.he di) ⟨di, b⟩)) := ħ (by rw [hY]; exact OwnHs.tkR hhe3 (TKeep.setg hGh))
    have HMY := ħ (HB3.out.tk htY (by decide))
    have hbY : Below w.heap.size w Y := by rw [hY]; exact (bel_trans hb03 hbh).setCell (p := ⟨gs, 7, none⟩) (by show w.heap.size ≤ gs; omega) _
    have HOY : Hid (WorkO Y w.heap.size ⟨⟨oA2, on2, oc2⟩, ⟨tA2, tn2, tc2⟩, ⟨A3, n3, c3⟩, ⟨rA2, rn2, rc2⟩⟩ (holdD D di b)) := ħ (let h9 := HO3.out.tkR htY; ⟨h9.op, h9.wa, HHY.out, h9.re⟩)
    clear hY hbh hhe3 hGh htY HHY HG3 HB3 HO3 hb03 HW3
    have m0 := HMY.out.box.2 0 _ rfl
    have hgl := HGY.out.lt
    go_wp2_with fail
    exact bodyPost_ret (v := .tuple #[.pointer (some ⟨gs, 0, none⟩), .int .i64 0]) (by simp [results, Tryz.results49, go_sem]) rfl ⟨gs, ⟨⟨oA2, on2, oc2⟩, ⟨tA2, tn2, tc2⟩, ⟨A3, n3, c3⟩, ⟨rA2, rn2, rc2⟩⟩, none, 0, 0, [], rfl, HGY.out, HOY.out, OwnT.nil _ _, by omega, hbY⟩
   ·skip
    obtain rfl : D = D1 := by rw [← HD1.out]; exact Eq.symm (if_neg (fun g => hr g.2))
    obtain rfl : [] = L1 := by rw [← HL1.out]; exact Eq.symm (if_neg (fun g => g.2.elim (fun g2 => by cases g2) hr))
    have m0 := HB3.out.box.2 0 _ rfl
    have m3 := HB3.out.box.2 3 _ rfl
    have m4 := HB3.out.box.2 4 _ rfl
    have m5 := HB3.out.box.2 5 _ rfl
    have m6 := HB3.out.box.2 6 _ rfl
    have hgl := HG3.out.lt
    go_upto_region 9 with (go_at_call 84; refine (ref13_holds_no gs _ _ _ _ _ _ _ _ _ eA2 bA en2 ec2 bn bc D.he di b w3 HG3.out (HO3.out.work HS2.out).he HSO.out (.inr ⟨HYH.out, by omega⟩)).mono ?_; rintro e Y ⟨rfl, hbh⟩)
    clear m0 m3 m4 m5 m6 hgl
    have HGY := ħ (HG3.out.up hbh)
    have HMY := ħ (HB3.out.up hbh)
    have HOY := ħ (HO3.out.up hbh)
    have hbY := bel_trans hb03 hbh
    clear hbh HG3 HB3 HO3 hb03 HW3
    have m0 := HMY.out.box.2 0 _ rfl
    have hgl := HGY.out.lt
    go_wp2_with fail
    exact bodyPost_ret (v := .tuple #[.pointer (some ⟨gs, 0, none⟩), .int .i64 0]) (by simp [results, Tryz.results49, go_sem]) rfl ⟨gs, ⟨⟨oA2, on2, oc2⟩, ⟨tA2, tn2, tc2⟩, ⟨eA2, en2, ec2⟩, ⟨rA2, rn2, rc2⟩⟩, none, 0, 0, [], rfl, HGY.out, HOY.out, OwnT.nil _ _, by omega, hbY⟩
  ·skip
   obtain rfl : D = D1 := by rw [← HD1.out]; exact Eq.symm (if_neg (fun g => by cases g.1))
   obtain rfl : [] = L1 := by rw [← HL1.out]; exact Eq.symm (if_neg (fun g => by cases g.1))
   have m0 := HB3.out.box.2 0 _ rfl
   have m3 := HB3.out.box.2 3 _ rfl
   have m4 := HB3.out.box.2 4 _ rfl
   have m5 := HB3.out.box.2 5 _ rfl
   have m6 := HB3.out.box.2 6 _ rfl
   have hgl := HG3.out.lt
   go_upto_region 9 with (go_at_call 84; refine (ref13_holds_no gs _ _ _ _ _ _ _ _ _ eA2 bA en2 ec2 bn bc D.he di b w3 HG3.out (HO3.out.work HS2.out).he HSO.out (.inl HYH.out)).mono ?_; rintro e Y ⟨rfl, hbh⟩)
   clear m0 m3 m4 m5 m6 hgl
   have HGY := ħ (HG3.out.up hbh)
   have HMY := ħ (HB3.out.up hbh)
   have HOY := ħ (HO3.out.up hbh)
   have hbY := bel_trans hb03 hbh
   clear hbh HG3 HB3 HO3 hb03 HW3
   have m0 := HMY.out.box.2 0 _ rfl
   have hgl := HGY.out.lt
   go_wp2_with fail
   exact bodyPost_ret (v := .tuple #[.pointer (some ⟨gs, 0, none⟩), .int .i64 0]) (by simp [results, Tryz.results49, go_sem]) rfl ⟨gs, ⟨⟨oA2, on2, oc2⟩, ⟨tA2, tn2, tc2⟩, ⟨eA2, en2, ec2⟩, ⟨rA2, rn2, rc2⟩⟩, none, 0, 0, [], rfl, HGY.out, HOY.out, OwnT.nil _ _, by omega, hbY⟩
open Go.RowKit

theorem heldD_big {D : WorkD} (hs : SmallT D) {M : MsgD} (hm : MilM M) : BigD (heldD D M) ∧ ((heldD D M).op.length ≤ 1000000 ∧ (heldD D M).wa.length ≤ 1000000 ∧ (heldD D M).he.length ≤ 1000000 ∧ (heldD D M).re.length ≤ 1000000 ∧ (∀ x ∈ (heldD D M).wa, x.ak.length ≤ 1000000) ∧ (∀ x ∈ (heldD D M).he, x.b.tx.length ≤ 1000000)) := by
 have main : (heldD D M).op.length ≤ 1000000 ∧ (heldD D M).wa.length ≤ 1000000 ∧ (heldD D M).he.length ≤ 1000000 ∧ (heldD D M).re.length ≤ 1000000 ∧ (∀ x ∈ (heldD D M).wa, x.ak.length ≤ 1000000) ∧ (∀ x ∈ (heldD D M).he, x.b.tx.length ≤ 1000000) := by
  unfold heldD
  split
  ·refine ⟨Nat.le_trans hs.op (by decide), Nat.le_trans hs.wa (by decide), ?_, Nat.le_trans hs.re (by decide), fun x hx => Nat.le_trans (hs.ak x hx) (by decide), fun x hx => ?_⟩
   ·show (insAt D.he _ _).length ≤ _
    rw [insAt_len (show kposH D.he M.di ≤ D.he.length from cnt_le _ _)]
    have := hs.he; omega
   ·rcases insAt_mem (show x ∈ insAt D.he _ _ from hx) with rfl | hx
    ·exact hm.b
    ·exact Nat.le_trans (hs.hx x hx) (by decide)
  ·exact ⟨Nat.le_trans hs.op (by decide), Nat.le_trans hs.wa (by decide), Nat.le_trans hs.he (by decide), Nat.le_trans hs.re (by decide), fun x hx => Nat.le_trans (hs.ak x hx) (by decide), fun x hx => Nat.le_trans (hs.hx x hx) (by decide)⟩
 exact ⟨⟨Nat.le_trans main.1 (by decide), ⟨Nat.le_trans main.2.1 (by decide), fun x hx => Nat.le_trans (main.2.2.2.2.1 x hx) (by decide)⟩, ⟨Nat.le_trans main.2.2.1 (by decide), fun x hx => Nat.le_trans (main.2.2.2.2.2 x hx) (by decide)⟩, Nat.le_trans main.2.2.2.1 (by decide)⟩, main⟩
theorem heldL_mil {D : WorkD} {M : MsgD} : (heldL D M).length ≤ 1000000 ∧ ∀ x ∈ heldL D M, MilM x := by
 unfold heldL
 split
 ·refine ⟨by simp, fun x hx => ?_⟩
  simp only [List.mem_cons, List.not_mem_nil, or_false] at hx
  subst hx
  exact ⟨by simp [tellM], by simp [tellM], by simp [tellM], by simp [tellM], by simp [tellM], by simp [tellM], by simp [tellM]⟩
 ·exact ⟨by simp, fun x hx => by cases hx⟩
theorem take13 {D : WorkD} (hs : SmallT D) {k : Int} (hk : k = 1 ∨ k = 3) (h4 : TakesK k) : TakeC D k (heldD D) (heldL D) where
 ref := fun P Pm M w h hp hm hki h1 h2 h3 => ref13_Take13 P D Pm M w h hs.big hp (by rw [← hp.lens.1]; exact Nat.le_trans hm.b (by decide)) (by rw [hki]; exact hk) (by rw [hki]; exact h4) h1 h2 h3
 prog := fun P Pm M B w h hB hp hm hki h1 h2 h3 => worker_Got13 P D Pm M B w h hs.big hB h1 hp.tx (by rw [← hp.lens.1]; exact Nat.le_trans hm.b (by decide)) (by rw [hki]; exact hk)
 big := fun M hm hki h1 h2 => ⟨(heldD_big hs hm).1, (heldD_big hs hm).2, heldL_mil.1, heldL_mil.2⟩
set_option maxHeartbeats 2000000 in
theorem law_WorkerGiven (P : JScrP) (D : JScrD) (w : World) (h : JScrR w P D) :
  Calls Tryz.prog 10 #[P.val D] w fun e w' => e = .returned (.bool true) ∧ Below w.heap.size w w' := by
 have H := ħ h
 clear h
 show Calls Tryz.prog 10 #[.agg #[.int .i64 D.w.id, .int .i64 D.w.nodes, .int .i64 D.w.next, .slice P.w.op.A P.w.op.n P.w.op.c, .int .i64 D.w.age, .int .i64 D.w.clock, .slice P.w.wa.A P.w.wa.n P.w.wa.c, .slice P.w.he.A P.w.he.n P.w.he.c, .slice P.w.re.A P.w.re.n P.w.re.c, .slice P.l.A P.l.n P.l.c]] w _
 go_enter Tryz.func10, Tryz.ntmps10
 go_wp2_with fail
 have hbX : Below w.heap.size w (w.alloc (.cells #[.int .i64 D.w.id, .int .i64 D.w.nodes, .int .i64 D.w.next, .slice P.w.op.A P.w.op.n P.w.op.c, .int .i64 D.w.age, .int .i64 D.w.clock, .slice P.w.wa.A P.w.wa.n P.w.wa.c, .slice P.w.he.A P.w.he.n P.w.he.c, .slice P.w.re.A P.w.re.n P.w.re.c, .slice P.l.A P.l.n P.l.c] 30)) := belA
 refine (law13_takes P D 3 _ (H.out.up hbX) (fun MP SP a X hX hL ham hkk hM hI => step_do5_light (k := 3) H.out hL MP SP a X ((H.out.wk.up hbX).up hX) ham hkk takesK3 hM (fun hs => take13 hs (.inr rfl) takesK3))).mono ?_
 rintro e w1 ⟨rfl, hb1⟩
 go_wp2_with fail
 go_ret
 exact ⟨rfl, bel_trans hbX hb1⟩
open Go.ChangeShapes Go.WideShapes Go.ChangeAt Go.RowKit

theorem workerGiven_own : ownKnob Tryz.prog.godebug = none := by kernel_rfl
theorem workerGiven_laidOut : laidOutB Tryz.prog = true := by kernel_rfl
theorem workerGiven_lifted (os : Os) (started : os.Started) (H : Type) (enc : TypeId × Value → H) :
  ReturnsInHanded {} Tryz.checked os 10 .any (Rows.workerGivenSpec.pre6 enc Tryz.prog Tryz.f10 Rows.workerGivenRow.domain false) (Rows.workerGivenSpec.post enc Tryz.prog Tryz.f10 false true false false) := by
 refine returnsInHanded_of_change_sized (C := Tryz.checked) workerGiven_own started (by kernel_rfl) Tryz.func10
  (ChangeSpec.witness6 (enc := enc) (C := Tryz.checked) false ⟨#[], #[.agg #[.int .i64 0, .int .i64 0, .int .i64 0, .slice none 0 0, .int .i64 0, .int .i64 0, .slice none 0 0, .slice none 0 0, .slice none 0 0, .slice none 0 0]], []⟩ 8 (by kernel_rfl) (by kernel_rfl) (by kernel_rfl) (by kernel_rfl)) ?_
 intro W base args ds gs before hval0 hW hcnd hsz0 _
 have hval : ∀ (j : Nat) t v, Tryz.f10.params[j]? = some t → args[j]? = some v → Value.okWide Tryz.prog W .any base t v := hval0
 have hW' := hW
 obtain ⟨p, q, hA0, hV, rfl, hfz, hnd⟩ := hW
 have hA : DataW.TrodAll enc Tryz.prog W 0 (fun _ => true) true Tryz.f10.params.toList args.toList ds p := hA0
 have hsz : (DataW.weightsEach Tryz.prog (Tryz.f10.params.toList ++ Rows.workerGivenSpec.plain.varTypes Tryz.prog) (ds ++ gs)).all (· ≤ reachBytes) = true := hsz0
 rw [Tryz.params10] at hA hval hsz
 obtain ⟨v0, vs0, d0, ds0, p0, q0, hargs, rfl, rfl, h0, r0⟩ := trodAll_cons hA
 obtain ⟨rfl, rfl, rfl⟩ := trodAll_nil r0
 obtain rfl : args = #[v0] := by cases args; simp_all
 obtain ⟨rfl, rfl⟩ := trodVars_none hV
 have k0 := h0
 have lt0 : ∀ x ∈ p0, x.block < W.heap.size := by obtain ⟨m, hm⟩ := k0; exact DataW.trod_lt m _ _ _ hm
 have hwk : Wok 30 d0 := fun b hb => by
  have := List.all_eq_true.1 hsz b (DataW.weights_mem_each (j := 0) rfl rfl b hb)
  simpa using this
 obtain ⟨P, D, rfl, hR⟩ := open_JScr (hval 0 30 v0 rfl rfl) h0 hwk
 clear hA0 hval0 hsz0
 refine (law_WorkerGiven P D W hR).mono fun e W' ⟨he, bel⟩ => ?_
 subst he
 exact ⟨_, rfl, _, _, _, [], _, [], hW', trodAll_mk1 (shut_bool Tryz.underlying4 _), (trodAll_cons_mk (Below.trod workerGiven_laidOut (by kernel_rfl) (of_decide_eq_true (by kernel_rfl)) k0 bel lt0) trodAll_mk0), rfl, bel.frame _, fun h => by cases h⟩
theorem workerGiven_over : Rows.workerGivenRow.holds Tryz.pinned (OpenSpec.ofChange Rows.workerGivenSpec) :=
 OpenClaim.holds_of_wide 10 Tryz.f10 rfl rfl rfl rfl rfl rfl rfl ⟨rfl, rfl, rfl, rfl, rfl⟩ rfl rfl rfl rfl rfl (by kernel_rfl) Tryz.func10 (by kernel_rfl)
  (of_decide_eq_true (by kernel_rfl)) (by unfold Func.isWrapper; first | (rw [if_pos (by decide +kernel)]; kernel_rfl) | (rw [if_neg (by decide +kernel)]; exact ⟨rfl, rfl⟩))
  (fun os started H enc _ => workerGiven_lifted os started H enc)
/-- The statement. -/
theorem workerGiven_proved : Rows.WorkerGivenSaid := workerGiven_over
#print axioms workerGiven_proved
end Go.Proofs.YtgfakefcmbpboaaGreat
