/- droverlaw13.fit, whole. -/
import Derived.Test.YtgfakefcmbpboaaGreatSuWgl
namespace Go.Proofs.YtgfakefcmbpboaaGreat
set_option linter.all false
set_option maxRecDepth 100000
open Go.RowKit

theorem MilM.big {M : MsgD} (h : MilM M) : BigM M := ⟨Nat.le_trans h.b (by decide), Nat.le_trans h.h1 (by decide), Nat.le_trans h.h2 (by decide), Nat.le_trans h.c1 (by decide), Nat.le_trans h.c2 (by decide), Nat.le_trans h.c3 (by decide), Nat.le_trans h.ds (by decide)⟩
theorem job_mid (MP : MsgP) (SP : SlP) (a : JobD) (j : Nat) {v : Value} (h : (msgCells MP a.m)[j]? = some v) : (jobCells MP SP a)[6 + j]? = some v := by
 have hj : j < 18 := (List.getElem?_eq_some_iff.1 h).1
 rw [jobCells_eq, show 6 + j = (4 + j) + 1 + 1 by omega, List.getElem?_cons_succ, List.getElem?_cons_succ, List.append_assoc, List.getElem?_append_right (by show 4 ≤ _; omega), show 4 + j - (encX a.t).length = j by show 4 + j - 4 = j; omega, List.getElem?_append_left (by show j < 18; exact hj)]
 exact h

set_option maxHeartbeats 4000000 in
theorem fit_3 (w W : World) (gw ga gm gr : Nat) (P : WorkP) (D : WorkD) (ad : Int) (Q : MsgP) (M : MsgD) {u0 u1 u6 u7 u8 u9 u10 u11 u12 u13 u14 u15 u16 u17 u18 u19 u20 u21 u22 u23 u24 u25 u26 u27 u28 u29 u30 u31 u32 u33 u34 u35 u36 u37 u38 u39 u40 u41 u42 u43 u44 u45 u46 u47 u48 u49 u50 u51 u52 u53 u54 u55 u56 u57 u58 u59 u60 u61 u62 u63 u64 u65 u66 u67 u68 u69 u70 u71 u72 u73 u74 u75 u76 u77 u78 u79 u80 u81 u82 u83 u84 u85 u86 u87 u88 u89 u90 u91 u92 u93 u94 u95 u96 u97 u98 u99 u100 u101 u102 u103 : Value} (h : FitS w W gw ga gm gr P D ad Q M) (hR : WorkR w P D) (hwn : D.wa.length ≤ 1000000) (hhn : D.he.length ≤ 1000000) (hn1 : 2 ≤ D.nodes) (hn2 : D.nodes ≤ 1000) (hid : 1 ≤ D.id ∧ D.id ≤ 1000) : Code.wp Tryz.prog (fitK 3) (bodyPost Tryz.prog Tryz.f48 (fun e w' => ∃ Q' M', e = .returned (M18 Q' M') ∧ M'.ki = M.ki ∧ OwnM w' w.heap.size Q' M' ∧ MilM M' ∧ Below w.heap.size w w')) { tmps := #[u0, u1, .pointer (some ⟨gw, 0, none⟩), .pointer (some ⟨ga, 0, none⟩), .pointer (some ⟨gr, 0, none⟩), .pointer (some ⟨gm, 0, none⟩), u6, u7, u8, u9, u10, u11, u12, u13, u14, u15, u16, u17, u18, u19, u20, u21, u22, u23, u24, u25, u26, u27, u28, u29, u30, u31, u32, u33, u34, u35, u36, u37, u38, u39, u40, u41, u42, u43, u44, u45, u46, u47, u48, u49, u50, u51, u52, u53, u54, u55, u56, u57, u58, u59, u60, u61, u62, u63, u64, u65, u66, u67, u68, u69, u70, u71, u72, u73, u74, u75, u76, u77, u78, u79, u80, u81, u82, u83, u84, u85, u86, u87, u88, u89, u90, u91, u92, u93, u94, u95, u96, u97, u98, u99, u100, u101, u102, u103], defers := [] } W := by
 obtain ⟨⟨bA, bn, bc⟩, ⟨⟨xA, xn, xc⟩, ⟨yA, yn, yc⟩⟩, ⟨⟨⟨cA, cn, cd⟩, ⟨dA, dn, dc⟩⟩, ⟨sA, sn, sc⟩⟩, ⟨zA, zn, zc⟩⟩ := Q
 obtain ⟨ki, fr, tt, di, b, hd, cc, ds⟩ := M
 have HF := ħ h
 clear h
 have HWK := ħ hR
 have hRR := ħ (And.intro hwn (And.intro hhn (And.intro hn1 (And.intro hn2 hid))))
 dsimp only [fitK, cAfter, cSnd, cFst, Tryz.f48, Option.getD]
 refine wp_seq_k (fun K hK => ?_)
 have HK := ħ hK
 clear hK
 have w0 := HF.out.hw.box.2 0 _ rfl
 have hwl := HF.out.hw.lt
 have hml := HF.out.hm.lt
 have f2 := HF.out.hm.frozen 2
 have m2 := HF.out.hm.box.2 2 _ rfl
 go_wp2_with fail
 show K _ _
 apply HK.out
 exact fit_4 w _ gw ga gm gr P D ad ⟨⟨bA, bn, bc⟩, ⟨⟨xA, xn, xc⟩, ⟨yA, yn, yc⟩⟩, ⟨⟨⟨cA, cn, cd⟩, ⟨dA, dn, dc⟩⟩, ⟨sA, sn, sc⟩⟩, ⟨zA, zn, zc⟩⟩ ⟨ki, fr, D.id, di, b, hd, cc, ds⟩ (HF.out.set (o := 2) (u := .int .i64 D.id) rfl ⟨HF.out.ho.b, HF.out.ho.h1, HF.out.ho.h2, HF.out.ho.c1, HF.out.ho.c2, HF.out.ho.c3, HF.out.ho.ds⟩ ⟨HF.out.mil.b, HF.out.mil.h1, HF.out.mil.h2, HF.out.mil.c1, HF.out.mil.c2, HF.out.mil.c3, HF.out.mil.ds⟩) HWK.out hRR.out.1 hRR.out.2.1 hRR.out.2.2.1 hRR.out.2.2.2.1 hRR.out.2.2.2.2
set_option maxHeartbeats 4000000 in
theorem fit_2 (w W : World) (gw ga gm gr : Nat) (P : WorkP) (D : WorkD) (ad : Int) (Q : MsgP) (M : MsgD) {u0 u1 u6 u7 u8 u9 u10 u11 u12 u13 u14 u15 u16 u17 u18 u19 u20 u21 u22 u23 u24 u25 u26 u27 u28 u29 u30 u31 u32 u33 u34 u35 u36 u37 u38 u39 u40 u41 u42 u43 u44 u45 u46 u47 u48 u49 u50 u51 u52 u53 u54 u55 u56 u57 u58 u59 u60 u61 u62 u63 u64 u65 u66 u67 u68 u69 u70 u71 u72 u73 u74 u75 u76 u77 u78 u79 u80 u81 u82 u83 u84 u85 u86 u87 u88 u89 u90 u91 u92 u93 u94 u95 u96 u97 u98 u99 u100 u101 u102 u103 : Value} (h : FitS w W gw ga gm gr P D ad Q M) (ft : Bool) (h24 : W.cell? ⟨ga, 24, none⟩ = some (.bool ft)) (hR : WorkR w P D) (hN : D.wa.length ≤ 1000000 ∧ D.he.length ≤ 1000000) : Code.wp Tryz.prog (fitK 2) (bodyPost Tryz.prog Tryz.f48 (fun e w' => ∃ Q' M', e = .returned (M18 Q' M') ∧ M'.ki = M.ki ∧ OwnM w' w.heap.size Q' M' ∧ MilM M' ∧ Below w.heap.size w w')) { tmps := #[u0, u1, .pointer (some ⟨gw, 0, none⟩), .pointer (some ⟨ga, 0, none⟩), .pointer (some ⟨gr, 0, none⟩), .pointer (some ⟨gm, 0, none⟩), u6, u7, u8, u9, u10, u11, u12, u13, u14, u15, u16, u17, u18, u19, u20, u21, u22, u23, u24, u25, u26, u27, u28, u29, u30, u31, u32, u33, u34, u35, u36, u37, u38, u39, u40, u41, u42, u43, u44, u45, u46, u47, u48, u49, u50, u51, u52, u53, u54, u55, u56, u57, u58, u59, u60, u61, u62, u63, u64, u65, u66, u67, u68, u69, u70, u71, u72, u73, u74, u75, u76, u77, u78, u79, u80, u81, u82, u83, u84, u85, u86, u87, u88, u89, u90, u91, u92, u93, u94, u95, u96, u97, u98, u99, u100, u101, u102, u103], defers := [] } W := by
 obtain ⟨⟨bA, bn, bc⟩, ⟨⟨xA, xn, xc⟩, ⟨yA, yn, yc⟩⟩, ⟨⟨⟨cA, cn, cd⟩, ⟨dA, dn, dc⟩⟩, ⟨sA, sn, sc⟩⟩, ⟨zA, zn, zc⟩⟩ := Q
 obtain ⟨ki, fr, tt, di, b, hd, cc, ds⟩ := M
 have HF := ħ h
 clear h
 have HWK := ħ hR
 have HN := ħ hN
 clear hR hN
 dsimp only [fitK, cAfter, cSnd, cFst, Tryz.f48, Option.getD]
 refine wp_seq_k (fun K hK => ?_)
 have HK := ħ hK
 clear hK
 have hwl := HF.out.hw.lt
 have hwb := HF.out.hw.box
 have hbl := HF.out.hal
 have HML := ħ HF.out.mil
 cases ft
 ·clear hwb
  as_aux_lemma =>
   go_upto_region 3 with fail
   refine wp_region_list ?_
   simp only [List.toList_toArray]
   have HMB : Hid (Blk W gm 49 [.int .i64 ki, .int .i64 fr, .int .i64 tt, .int .i64 di, .int .i64 b.au, .int .i64 b.n, .slice bA bn bc, .int .i64 hd.au, .int .i64 hd.ro, .slice xA xn xc, .slice yA yn yc, .int .i64 cc.h.au, .int .i64 cc.h.ro, .slice cA cn cd, .slice dA dn dc, .int .i64 cc.di, .slice sA sn sc, .slice zA zn zc]) := ħ HF.out.hm
   refine wpList_load_mid rfl 49 _ rfl gm 0 (by simp [Act.eval, Act.put]) [.int .i64 ki, .int .i64 fr, .int .i64 tt, .int .i64 di, .int .i64 b.au, .int .i64 b.n, .slice bA bn bc, .int .i64 hd.au, .int .i64 hd.ro, .slice xA xn xc, .slice yA yn yc, .int .i64 cc.h.au, .int .i64 cc.h.ro, .slice cA cn cd, .slice dA dn dc, .int .i64 cc.di, .slice sA sn sc, .slice zA zn zc] _ HMB.out.rng Tryz.underlying49 (by rfl) (by kernel_rfl) ?_
   (try simp only [lz])
   refine wpList_store_mid rfl 49 _ _ rfl gr 0 ([.int .i64 ki, .int .i64 fr, .int .i64 tt, .int .i64 di, .int .i64 b.au, .int .i64 b.n, .slice bA bn bc, .int .i64 hd.au, .int .i64 hd.ro, .slice xA xn xc, .slice yA yn yc, .int .i64 cc.h.au, .int .i64 cc.h.ro, .slice cA cn cd, .slice dA dn dc, .int .i64 cc.di, .slice sA sn sc, .slice zA zn zc]).toArray (by simp [Act.eval, Act.put]) (by simp [Act.eval, Act.put]) HF.out.hr.thr (by kernel_rfl) (all_oneCell_toArray (by simp [Value.oneCell'])) ?_
   (try simp only [lz])
   refine wpList_nil ?_
   try simp only [List.toList_toArray]
   have HR3 : Hid (Blk (W.setCells gr 0 [.int .i64 ki, .int .i64 fr, .int .i64 tt, .int .i64 di, .int .i64 b.au, .int .i64 b.n, .slice bA bn bc, .int .i64 hd.au, .int .i64 hd.ro, .slice xA xn xc, .slice yA yn yc, .int .i64 cc.h.au, .int .i64 cc.h.ro, .slice cA cn cd, .slice dA dn dc, .int .i64 cc.di, .slice sA sn sc, .slice zA zn zc]) gr 49 [.int .i64 ki, .int .i64 fr, .int .i64 tt, .int .i64 di, .int .i64 b.au, .int .i64 b.n, .slice bA bn bc, .int .i64 hd.au, .int .i64 hd.ro, .slice xA xn xc, .slice yA yn yc, .int .i64 cc.h.au, .int .i64 cc.h.ro, .slice cA cn cd, .slice dA dn dc, .int .i64 cc.di, .slice sA sn sc, .slice zA zn zc]) := ħ (HF.out.hr.setsAll [.int .i64 ki, .int .i64 fr, .int .i64 tt, .int .i64 di, .int .i64 b.au, .int .i64 b.n, .slice bA bn bc, .int .i64 hd.au, .int .i64 hd.ro, .slice xA xn xc, .slice yA yn yc, .int .i64 cc.h.au, .int .i64 cc.h.ro, .slice cA cn cd, .slice dA dn dc, .int .i64 cc.di, .slice sA sn sc, .slice zA zn zc] rfl)
   have hb3 : Below w.heap.size w (W.setCells gr 0 [.int .i64 ki, .int .i64 fr, .int .i64 tt, .int .i64 di, .int .i64 b.au, .int .i64 b.n, .slice bA bn bc, .int .i64 hd.au, .int .i64 hd.ro, .slice xA xn xc, .slice yA yn yc, .int .i64 cc.h.au, .int .i64 cc.h.ro, .slice cA cn cd, .slice dA dn dc, .int .i64 cc.di, .slice sA sn sc, .slice zA zn zc]) := bel_setCells HF.out.g4 _ _ _ HF.out.hb
   have HO3 := ħ (HF.out.ho.tkT (TKeep.setsAll HF.out.hr [.int .i64 ki, .int .i64 fr, .int .i64 tt, .int .i64 di, .int .i64 b.au, .int .i64 b.n, .slice bA bn bc, .int .i64 hd.au, .int .i64 hd.ro, .slice xA xn xc, .slice yA yn yc, .int .i64 cc.h.au, .int .i64 cc.h.ro, .slice cA cn cd, .slice dA dn dc, .int .i64 cc.di, .slice sA sn sc, .slice zA zn zc] 0))
   obtain ⟨U, hU⟩ : ∃ U, U = W.setCells gr 0 [.int .i64 ki, .int .i64 fr, .int .i64 tt, .int .i64 di, .int .i64 b.au, .int .i64 b.n, .slice bA bn bc, .int .i64 hd.au, .int .i64 hd.ro, .slice xA xn xc, .slice yA yn yc, .int .i64 cc.h.au, .int .i64 cc.h.ro, .slice cA cn cd, .slice dA dn dc, .int .i64 cc.di, .slice sA sn sc, .slice zA zn zc] := ⟨_, rfl⟩
   rw [← hU] at HR3 hb3 HO3 ⊢
   clear hU HMB
   rename_i Ka hKa
   refine hKa _ _ ?_
   clear hKa Ka
   have c0 := HR3.out.box.2 0 _ rfl
   have c1 := HR3.out.box.2 1 _ rfl
   have c2 := HR3.out.box.2 2 _ rfl
   have c3 := HR3.out.box.2 3 _ rfl
   have c4 := HR3.out.box.2 4 _ rfl
   have c5 := HR3.out.box.2 5 _ rfl
   have c6 := HR3.out.box.2 6 _ rfl
   have c7 := HR3.out.box.2 7 _ rfl
   have c8 := HR3.out.box.2 8 _ rfl
   have c9 := HR3.out.box.2 9 _ rfl
   have c10 := HR3.out.box.2 10 _ rfl
   have c11 := HR3.out.box.2 11 _ rfl
   have c12 := HR3.out.box.2 12 _ rfl
   have c13 := HR3.out.box.2 13 _ rfl
   have c14 := HR3.out.box.2 14 _ rfl
   have c15 := HR3.out.box.2 15 _ rfl
   have c16 := HR3.out.box.2 16 _ rfl
   have c17 := HR3.out.box.2 17 _ rfl
   go_wp2_with fail
   exact bodyPost_ret (v := .agg #[.int .i64 ki, .int .i64 fr, .int .i64 tt, .int .i64 di, .int .i64 b.au, .int .i64 b.n, .slice bA bn bc, .int .i64 hd.au, .int .i64 hd.ro, .slice xA xn xc, .slice yA yn yc, .int .i64 cc.h.au, .int .i64 cc.h.ro, .slice cA cn cd, .slice dA dn dc, .int .i64 cc.di, .slice sA sn sc, .slice zA zn zc]) (by simp [results, Tryz.results48, go_sem, c0, c1, c2, c3, c4, c5, c6, c7, c8, c9, c10, c11, c12, c13, c14, c15, c16, c17]) rfl ⟨⟨⟨bA, bn, bc⟩, ⟨⟨xA, xn, xc⟩, ⟨yA, yn, yc⟩⟩, ⟨⟨⟨cA, cn, cd⟩, ⟨dA, dn, dc⟩⟩, ⟨sA, sn, sc⟩⟩, ⟨zA, zn, zc⟩⟩, ⟨ki, fr, tt, di, b, hd, cc, ds⟩, rfl, rfl, HO3.out, HML.out, hb3⟩
 have w0 := hwb.2 0 _ rfl
 have w1_ := hwb.2 1 _ rfl
 have w2_ := hwb.2 2 _ rfl
 have w3_ := hwb.2 3 _ rfl
 have w4_ := hwb.2 4 _ rfl
 have w5_ := hwb.2 5 _ rfl
 have w6_ := hwb.2 6 _ rfl
 have w7_ := hwb.2 7 _ rfl
 have w8_ := hwb.2 8 _ rfl
 clear hwb
 obtain ⟨z, hz2⟩ : ∃ z, mayW D = z := ⟨_, rfl⟩
 have HMY := ħ hz2
 clear hz2
 cases z
 ·skip
  as_aux_lemma =>
   go_upto_region 3 with (go_at_call 18; refine (ref13_May P D false _ (HWK.out.up HF.out.hb) HMY.out).mono ?_; rintro e w2 ⟨rfl, hb2⟩; have HF2 := ħ (HF.out.up hb2))
   refine wp_region_list ?_
   simp only [List.toList_toArray]
   have HMB : Hid (Blk w2 gm 49 [.int .i64 ki, .int .i64 fr, .int .i64 tt, .int .i64 di, .int .i64 b.au, .int .i64 b.n, .slice bA bn bc, .int .i64 hd.au, .int .i64 hd.ro, .slice xA xn xc, .slice yA yn yc, .int .i64 cc.h.au, .int .i64 cc.h.ro, .slice cA cn cd, .slice dA dn dc, .int .i64 cc.di, .slice sA sn sc, .slice zA zn zc]) := ħ HF2.out.hm
   refine wpList_load_mid rfl 49 _ rfl gm 0 (by simp [Act.eval, Act.put]) [.int .i64 ki, .int .i64 fr, .int .i64 tt, .int .i64 di, .int .i64 b.au, .int .i64 b.n, .slice bA bn bc, .int .i64 hd.au, .int .i64 hd.ro, .slice xA xn xc, .slice yA yn yc, .int .i64 cc.h.au, .int .i64 cc.h.ro, .slice cA cn cd, .slice dA dn dc, .int .i64 cc.di, .slice sA sn sc, .slice zA zn zc] _ HMB.out.rng Tryz.underlying49 (by rfl) (by kernel_rfl) ?_
   (try simp only [lz])
   refine wpList_store_mid rfl 49 _ _ rfl gr 0 ([.int .i64 ki, .int .i64 fr, .int .i64 tt, .int .i64 di, .int .i64 b.au, .int .i64 b.n, .slice bA bn bc, .int .i64 hd.au, .int .i64 hd.ro, .slice xA xn xc, .slice yA yn yc, .int .i64 cc.h.au, .int .i64 cc.h.ro, .slice cA cn cd, .slice dA dn dc, .int .i64 cc.di, .slice sA sn sc, .slice zA zn zc]).toArray (by simp [Act.eval, Act.put]) (by simp [Act.eval, Act.put]) HF2.out.hr.thr (by kernel_rfl) (all_oneCell_toArray (by simp [Value.oneCell'])) ?_
   (try simp only [lz])
   refine wpList_nil ?_
   try simp only [List.toList_toArray]
   have HR3 : Hid (Blk (w2.setCells gr 0 [.int .i64 ki, .int .i64 fr, .int .i64 tt, .int .i64 di, .int .i64 b.au, .int .i64 b.n, .slice bA bn bc, .int .i64 hd.au, .int .i64 hd.ro, .slice xA xn xc, .slice yA yn yc, .int .i64 cc.h.au, .int .i64 cc.h.ro, .slice cA cn cd, .slice dA dn dc, .int .i64 cc.di, .slice sA sn sc, .slice zA zn zc]) gr 49 [.int .i64 ki, .int .i64 fr, .int .i64 tt, .int .i64 di, .int .i64 b.au, .int .i64 b.n, .slice bA bn bc, .int .i64 hd.au, .int .i64 hd.ro, .slice xA xn xc, .slice yA yn yc, .int .i64 cc.h.au, .int .i64 cc.h.ro, .slice cA cn cd, .slice dA dn dc, .int .i64 cc.di, .slice sA sn sc, .slice zA zn zc]) := ħ (HF2.out.hr.setsAll [.int .i64 ki, .int .i64 fr, .int .i64 tt, .int .i64 di, .int .i64 b.au, .int .i64 b.n, .slice bA bn bc, .int .i64 hd.au, .int .i64 hd.ro, .slice xA xn xc, .slice yA yn yc, .int .i64 cc.h.au, .int .i64 cc.h.ro, .slice cA cn cd, .slice dA dn dc, .int .i64 cc.di, .slice sA sn sc, .slice zA zn zc] rfl)
   have hb3 : Below w.heap.size w (w2.setCells gr 0 [.int .i64 ki, .int .i64 fr, .int .i64 tt, .int .i64 di, .int .i64 b.au, .int .i64 b.n, .slice bA bn bc, .int .i64 hd.au, .int .i64 hd.ro, .slice xA xn xc, .slice yA yn yc, .int .i64 cc.h.au, .int .i64 cc.h.ro, .slice cA cn cd, .slice dA dn dc, .int .i64 cc.di, .slice sA sn sc, .slice zA zn zc]) := bel_setCells HF2.out.g4 _ _ _ HF2.out.hb
   have HO3 := ħ (HF2.out.ho.tkT (TKeep.setsAll HF2.out.hr [.int .i64 ki, .int .i64 fr, .int .i64 tt, .int .i64 di, .int .i64 b.au, .int .i64 b.n, .slice bA bn bc, .int .i64 hd.au, .int .i64 hd.ro, .slice xA xn xc, .slice yA yn yc, .int .i64 cc.h.au, .int .i64 cc.h.ro, .slice cA cn cd, .slice dA dn dc, .int .i64 cc.di, .slice sA sn sc, .slice zA zn zc] 0))
   obtain ⟨U, hU⟩ : ∃ U, U = w2.setCells gr 0 [.int .i64 ki, .int .i64 fr, .int .i64 tt, .int .i64 di, .int .i64 b.au, .int .i64 b.n, .slice bA bn bc, .int .i64 hd.au, .int .i64 hd.ro, .slice xA xn xc, .slice yA yn yc, .int .i64 cc.h.au, .int .i64 cc.h.ro, .slice cA cn cd, .slice dA dn dc, .int .i64 cc.di, .slice sA sn sc, .slice zA zn zc] := ⟨_, rfl⟩
   rw [← hU] at HR3 hb3 HO3 ⊢
   clear hU HMB
   rename_i Ka hKa
   refine hKa _ _ ?_
   clear hKa Ka
   have c0 := HR3.out.box.2 0 _ rfl
   have c1 := HR3.out.box.2 1 _ rfl
   have c2 := HR3.out.box.2 2 _ rfl
   have c3 := HR3.out.box.2 3 _ rfl
   have c4 := HR3.out.box.2 4 _ rfl
   have c5 := HR3.out.box.2 5 _ rfl
   have c6 := HR3.out.box.2 6 _ rfl
   have c7 := HR3.out.box.2 7 _ rfl
   have c8 := HR3.out.box.2 8 _ rfl
   have c9 := HR3.out.box.2 9 _ rfl
   have c10 := HR3.out.box.2 10 _ rfl
   have c11 := HR3.out.box.2 11 _ rfl
   have c12 := HR3.out.box.2 12 _ rfl
   have c13 := HR3.out.box.2 13 _ rfl
   have c14 := HR3.out.box.2 14 _ rfl
   have c15 := HR3.out.box.2 15 _ rfl
   have c16 := HR3.out.box.2 16 _ rfl
   have c17 := HR3.out.box.2 17 _ rfl
   go_wp2_with fail
   exact bodyPost_ret (v := .agg #[.int .i64 ki, .int .i64 fr, .int .i64 tt, .int .i64 di, .int .i64 b.au, .int .i64 b.n, .slice bA bn bc, .int .i64 hd.au, .int .i64 hd.ro, .slice xA xn xc, .slice yA yn yc, .int .i64 cc.h.au, .int .i64 cc.h.ro, .slice cA cn cd, .slice dA dn dc, .int .i64 cc.di, .slice sA sn sc, .slice zA zn zc]) (by simp [results, Tryz.results48, go_sem, c0, c1, c2, c3, c4, c5, c6, c7, c8, c9, c10, c11, c12, c13, c14, c15, c16, c17]) rfl ⟨⟨⟨bA, bn, bc⟩, ⟨⟨xA, xn, xc⟩, ⟨yA, yn, yc⟩⟩, ⟨⟨⟨cA, cn, cd⟩, ⟨dA, dn, dc⟩⟩, ⟨sA, sn, sc⟩⟩, ⟨zA, zn, zc⟩⟩, ⟨ki, fr, tt, di, b, hd, cc, ds⟩, rfl, rfl, HO3.out, HML.out, hb3⟩
 have hM := mayW_iff.1 HMY.out
 have hnn := isS_bd hM.1
 have hi1 := hM.2.1
 have hi2 := hM.2.2.1
 clear hM
 by_cases hn2 : D.nodes < 2
 ·have hd2 : decide (D.nodes < 2) = true := decide_eq_true hn2
  as_aux_lemma =>
   go_upto_region 3 with (go_at_call 18; refine (ref13_May P D true _ (HWK.out.up HF.out.hb) HMY.out).mono ?_; rintro e w2 ⟨rfl, hb2⟩; have w1_ := (hb2.cell (p := ⟨gw, 1, none⟩) hwl).trans w1_; have HF2 := ħ (HF.out.up hb2))
   refine wp_region_list ?_
   simp only [List.toList_toArray]
   have HMB : Hid (Blk w2 gm 49 [.int .i64 ki, .int .i64 fr, .int .i64 tt, .int .i64 di, .int .i64 b.au, .int .i64 b.n, .slice bA bn bc, .int .i64 hd.au, .int .i64 hd.ro, .slice xA xn xc, .slice yA yn yc, .int .i64 cc.h.au, .int .i64 cc.h.ro, .slice cA cn cd, .slice dA dn dc, .int .i64 cc.di, .slice sA sn sc, .slice zA zn zc]) := ħ HF2.out.hm
   refine wpList_load_mid rfl 49 _ rfl gm 0 (by simp [Act.eval, Act.put]) [.int .i64 ki, .int .i64 fr, .int .i64 tt, .int .i64 di, .int .i64 b.au, .int .i64 b.n, .slice bA bn bc, .int .i64 hd.au, .int .i64 hd.ro, .slice xA xn xc, .slice yA yn yc, .int .i64 cc.h.au, .int .i64 cc.h.ro, .slice cA cn cd, .slice dA dn dc, .int .i64 cc.di, .slice sA sn sc, .slice zA zn zc] _ HMB.out.rng Tryz.underlying49 (by rfl) (by kernel_rfl) ?_
   (try simp only [lz])
   refine wpList_store_mid rfl 49 _ _ rfl gr 0 ([.int .i64 ki, .int .i64 fr, .int .i64 tt, .int .i64 di, .int .i64 b.au, .int .i64 b.n, .slice bA bn bc, .int .i64 hd.au, .int .i64 hd.ro, .slice xA xn xc, .slice yA yn yc, .int .i64 cc.h.au, .int .i64 cc.h.ro, .slice cA cn cd, .slice dA dn dc, .int .i64 cc.di, .slice sA sn sc, .slice zA zn zc]).toArray (by simp [Act.eval, Act.put]) (by simp [Act.eval, Act.put]) HF2.out.hr.thr (by kernel_rfl) (all_oneCell_toArray (by simp [Value.oneCell'])) ?_
   (try simp only [lz])
   refine wpList_nil ?_
   try simp only [List.toList_toArray]
   have HR3 : Hid (Blk (w2.setCells gr 0 [.int .i64 ki, .int .i64 fr, .int .i64 tt, .int .i64 di, .int .i64 b.au, .int .i64 b.n, .slice bA bn bc, .int .i64 hd.au, .int .i64 hd.ro, .slice xA xn xc, .slice yA yn yc, .int .i64 cc.h.au, .int .i64 cc.h.ro, .slice cA cn cd, .slice dA dn dc, .int .i64 cc.di, .slice sA sn sc, .slice zA zn zc]) gr 49 [.int .i64 ki, .int .i64 fr, .int .i64 tt, .int .i64 di, .int .i64 b.au, .int .i64 b.n, .slice bA bn bc, .int .i64 hd.au, .int .i64 hd.ro, .slice xA xn xc, .slice yA yn yc, .int .i64 cc.h.au, .int .i64 cc.h.ro, .slice cA cn cd, .slice dA dn dc, .int .i64 cc.di, .slice sA sn sc, .slice zA zn zc]) := ħ (HF2.out.hr.setsAll [.int .i64 ki, .int .i64 fr, .int .i64 tt, .int .i64 di, .int .i64 b.au, .int .i64 b.n, .slice bA bn bc, .int .i64 hd.au, .int .i64 hd.ro, .slice xA xn xc, .slice yA yn yc, .int .i64 cc.h.au, .int .i64 cc.h.ro, .slice cA cn cd, .slice dA dn dc, .int .i64 cc.di, .slice sA sn sc, .slice zA zn zc] rfl)
   have hb3 : Below w.heap.size w (w2.setCells gr 0 [.int .i64 ki, .int .i64 fr, .int .i64 tt, .int .i64 di, .int .i64 b.au, .int .i64 b.n, .slice bA bn bc, .int .i64 hd.au, .int .i64 hd.ro, .slice xA xn xc, .slice yA yn yc, .int .i64 cc.h.au, .int .i64 cc.h.ro, .slice cA cn cd, .slice dA dn dc, .int .i64 cc.di, .slice sA sn sc, .slice zA zn zc]) := bel_setCells HF2.out.g4 _ _ _ HF2.out.hb
   have HO3 := ħ (HF2.out.ho.tkT (TKeep.setsAll HF2.out.hr [.int .i64 ki, .int .i64 fr, .int .i64 tt, .int .i64 di, .int .i64 b.au, .int .i64 b.n, .slice bA bn bc, .int .i64 hd.au, .int .i64 hd.ro, .slice xA xn xc, .slice yA yn yc, .int .i64 cc.h.au, .int .i64 cc.h.ro, .slice cA cn cd, .slice dA dn dc, .int .i64 cc.di, .slice sA sn sc, .slice zA zn zc] 0))
   obtain ⟨U, hU⟩ : ∃ U, U = w2.setCells gr 0 [.int .i64 ki, .int .i64 fr, .int .i64 tt, .int .i64 di, .int .i64 b.au, .int .i64 b.n, .slice bA bn bc, .int .i64 hd.au, .int .i64 hd.ro, .slice xA xn xc, .slice yA yn yc, .int .i64 cc.h.au, .int .i64 cc.h.ro, .slice cA cn cd, .slice dA dn dc, .int .i64 cc.di, .slice sA sn sc, .slice zA zn zc] := ⟨_, rfl⟩
   rw [← hU] at HR3 hb3 HO3 ⊢
   clear hU HMB
   rename_i Ka hKa
   refine hKa _ _ ?_
   clear hKa Ka
   have c0 := HR3.out.box.2 0 _ rfl
   have c1 := HR3.out.box.2 1 _ rfl
   have c2 := HR3.out.box.2 2 _ rfl
   have c3 := HR3.out.box.2 3 _ rfl
   have c4 := HR3.out.box.2 4 _ rfl
   have c5 := HR3.out.box.2 5 _ rfl
   have c6 := HR3.out.box.2 6 _ rfl
   have c7 := HR3.out.box.2 7 _ rfl
   have c8 := HR3.out.box.2 8 _ rfl
   have c9 := HR3.out.box.2 9 _ rfl
   have c10 := HR3.out.box.2 10 _ rfl
   have c11 := HR3.out.box.2 11 _ rfl
   have c12 := HR3.out.box.2 12 _ rfl
   have c13 := HR3.out.box.2 13 _ rfl
   have c14 := HR3.out.box.2 14 _ rfl
   have c15 := HR3.out.box.2 15 _ rfl
   have c16 := HR3.out.box.2 16 _ rfl
   have c17 := HR3.out.box.2 17 _ rfl
   go_wp2_with fail
   exact bodyPost_ret (v := .agg #[.int .i64 ki, .int .i64 fr, .int .i64 tt, .int .i64 di, .int .i64 b.au, .int .i64 b.n, .slice bA bn bc, .int .i64 hd.au, .int .i64 hd.ro, .slice xA xn xc, .slice yA yn yc, .int .i64 cc.h.au, .int .i64 cc.h.ro, .slice cA cn cd, .slice dA dn dc, .int .i64 cc.di, .slice sA sn sc, .slice zA zn zc]) (by simp [results, Tryz.results48, go_sem, c0, c1, c2, c3, c4, c5, c6, c7, c8, c9, c10, c11, c12, c13, c14, c15, c16, c17]) rfl ⟨⟨⟨bA, bn, bc⟩, ⟨⟨xA, xn, xc⟩, ⟨yA, yn, yc⟩⟩, ⟨⟨⟨cA, cn, cd⟩, ⟨dA, dn, dc⟩⟩, ⟨sA, sn, sc⟩⟩, ⟨zA, zn, zc⟩⟩, ⟨ki, fr, tt, di, b, hd, cc, ds⟩, rfl, rfl, HO3.out, HML.out, hb3⟩
 have hd2 : decide (D.nodes < 2) = false := decide_eq_false hn2
 as_aux_lemma =>
  go_wp2_with (go_at_call 18; refine (ref13_May P D true _ (HWK.out.up HF.out.hb) HMY.out).mono ?_; rintro e w2 ⟨rfl, hb2⟩; have w1_ := (hb2.cell (p := ⟨gw, 1, none⟩) hwl).trans w1_; have w0 := (hb2.cell (p := ⟨gw, 0, none⟩) hwl).trans w0; have HF2 := ħ (HF.out.up hb2))
  show K _ _
  apply HK.out
  exact fit_3 w _ gw ga gm gr P D ad _ _ HF2.out HWK.out HN.out.1 HN.out.2 (by omega) (by omega) ⟨hi1, by omega⟩
set_option maxHeartbeats 8000000 in
theorem law13_fit (P : WorkP) (D : WorkD) (MP : MsgP) (SP : SlP) (a : JobD) (w : World) (h : WorkR w P D) (hp : MsgR w MP a.m) (hl : MilM a.m) (hwn : D.wa.length ≤ 1000000) (hhn : D.he.length ≤ 1000000) :
  Calls Tryz.prog 48 #[P.val D, J26 MP SP a] w fun e w' => ∃ Q' M', e = .returned (M18 Q' M') ∧ M'.ki = a.m.ki ∧ OwnM w' w.heap.size Q' M' ∧ MilM M' ∧ Below w.heap.size w w' := by
 have HWK := ħ h
 have HMM := ħ hp
 have HML := ħ hl
 have HN := ħ (And.intro hwn hhn)
 clear h hp hl hwn hhn
 show Calls Tryz.prog 48 #[.agg #[.int .i64 D.id, .int .i64 D.nodes, .int .i64 D.next, .slice P.op.A P.op.n P.op.c, .int .i64 D.age, .int .i64 D.clock, .slice P.wa.A P.wa.n P.wa.c, .slice P.he.A P.he.n P.he.c, .slice P.re.A P.re.n P.re.c], .agg #[.int .i64 a.doo, .int .i64 a.d, .int .i64 a.t.se, .int .i64 a.t.sq, .string a.t.k, .string a.t.v, .int .i64 a.m.ki, .int .i64 a.m.fr, .int .i64 a.m.tt, .int .i64 a.m.di, .int .i64 a.m.b.au, .int .i64 a.m.b.n, .slice MP.b.A MP.b.n MP.b.c, .int .i64 a.m.h.au, .int .i64 a.m.h.ro, .slice MP.h.b.A MP.h.b.n MP.h.b.c, .slice MP.h.p.A MP.h.p.n MP.h.p.c, .int .i64 a.m.c.h.au, .int .i64 a.m.c.h.ro, .slice MP.c.h.b.A MP.c.h.b.n MP.c.h.b.c, .slice MP.c.h.p.A MP.c.h.p.n MP.c.h.p.c, .int .i64 a.m.c.di, .slice MP.c.s.A MP.c.s.n MP.c.s.c, .slice MP.ds.A MP.ds.n MP.ds.c, .bool a.fit, .slice SP.A SP.n SP.c]] w _
 go_enter Tryz.func48, Tryz.ntmps48
 go_upto_region 1 with fail
 refine wp_world (fun W hW => ?_)
 have HA0 : Hid (Blk W w.heap.size 27 [.int .i64 D.id, .int .i64 D.nodes, .int .i64 D.next, .slice P.op.A P.op.n P.op.c, .int .i64 D.age, .int .i64 D.clock, .slice P.wa.A P.wa.n P.wa.c, .slice P.he.A P.he.n P.he.c, .slice P.re.A P.re.n P.re.c]) := ħ (by rw [hW]; exact (Blk.new w 27 [.int .i64 D.id, .int .i64 D.nodes, .int .i64 D.next, .slice P.op.A P.op.n P.op.c, .int .i64 D.age, .int .i64 D.clock, .slice P.wa.A P.wa.n P.wa.c, .slice P.he.A P.he.n P.he.c, .slice P.re.A P.re.n P.re.c]).up (belA))
 have HB0 : Hid (Blk W (w.heap.size + 1) 51 [.int .i64 a.doo, .int .i64 a.d, .int .i64 a.t.se, .int .i64 a.t.sq, .string a.t.k, .string a.t.v, .int .i64 a.m.ki, .int .i64 a.m.fr, .int .i64 a.m.tt, .int .i64 a.m.di, .int .i64 a.m.b.au, .int .i64 a.m.b.n, .slice MP.b.A MP.b.n MP.b.c, .int .i64 a.m.h.au, .int .i64 a.m.h.ro, .slice MP.h.b.A MP.h.b.n MP.h.b.c, .slice MP.h.p.A MP.h.p.n MP.h.p.c, .int .i64 a.m.c.h.au, .int .i64 a.m.c.h.ro, .slice MP.c.h.b.A MP.c.h.b.n MP.c.h.b.c, .slice MP.c.h.p.A MP.c.h.p.n MP.c.h.p.c, .int .i64 a.m.c.di, .slice MP.c.s.A MP.c.s.n MP.c.s.c, .slice MP.ds.A MP.ds.n MP.ds.c, .bool a.fit, .slice SP.A SP.n SP.c]) := ħ (by rw [hW]; exact (Blk.new1 w 27 51 [.int .i64 D.id, .int .i64 D.nodes, .int .i64 D.next, .slice P.op.A P.op.n P.op.c, .int .i64 D.age, .int .i64 D.clock, .slice P.wa.A P.wa.n P.wa.c, .slice P.he.A P.he.n P.he.c, .slice P.re.A P.re.n P.re.c] [.int .i64 a.doo, .int .i64 a.d, .int .i64 a.t.se, .int .i64 a.t.sq, .string a.t.k, .string a.t.v, .int .i64 a.m.ki, .int .i64 a.m.fr, .int .i64 a.m.tt, .int .i64 a.m.di, .int .i64 a.m.b.au, .int .i64 a.m.b.n, .slice MP.b.A MP.b.n MP.b.c, .int .i64 a.m.h.au, .int .i64 a.m.h.ro, .slice MP.h.b.A MP.h.b.n MP.h.b.c, .slice MP.h.p.A MP.h.p.n MP.h.p.c, .int .i64 a.m.c.h.au, .int .i64 a.m.c.h.ro, .slice MP.c.h.b.A MP.c.h.b.n MP.c.h.b.c, .slice MP.c.h.p.A MP.c.h.p.n MP.c.h.p.c, .int .i64 a.m.c.di, .slice MP.c.s.A MP.c.s.n MP.c.s.c, .slice MP.ds.A MP.ds.n MP.ds.c, .bool a.fit, .slice SP.A SP.n SP.c]).up (bel_alloc (Below.refl _ _)))
 have HR0 : Hid (Blk W (w.heap.size + 1 + 1) 49 [.int .i64 0, .int .i64 0, .int .i64 0, .int .i64 0, .int .i64 0, .int .i64 0, .slice none 0 0, .int .i64 0, .int .i64 0, .slice none 0 0, .slice none 0 0, .int .i64 0, .int .i64 0, .slice none 0 0, .slice none 0 0, .int .i64 0, .slice none 0 0, .slice none 0 0]) := ħ (by
  rw [hW]
  have h9 := Blk.new1 (w.alloc (.cells #[.int .i64 D.id, .int .i64 D.nodes, .int .i64 D.next, .slice P.op.A P.op.n P.op.c, .int .i64 D.age, .int .i64 D.clock, .slice P.wa.A P.wa.n P.wa.c, .slice P.he.A P.he.n P.he.c, .slice P.re.A P.re.n P.re.c] 27)) 51 49 [.int .i64 a.doo, .int .i64 a.d, .int .i64 a.t.se, .int .i64 a.t.sq, .string a.t.k, .string a.t.v, .int .i64 a.m.ki, .int .i64 a.m.fr, .int .i64 a.m.tt, .int .i64 a.m.di, .int .i64 a.m.b.au, .int .i64 a.m.b.n, .slice MP.b.A MP.b.n MP.b.c, .int .i64 a.m.h.au, .int .i64 a.m.h.ro, .slice MP.h.b.A MP.h.b.n MP.h.b.c, .slice MP.h.p.A MP.h.p.n MP.h.p.c, .int .i64 a.m.c.h.au, .int .i64 a.m.c.h.ro, .slice MP.c.h.b.A MP.c.h.b.n MP.c.h.b.c, .slice MP.c.h.p.A MP.c.h.p.n MP.c.h.p.c, .int .i64 a.m.c.di, .slice MP.c.s.A MP.c.s.n MP.c.s.c, .slice MP.ds.A MP.ds.n MP.ds.c, .bool a.fit, .slice SP.A SP.n SP.c] [.int .i64 0, .int .i64 0, .int .i64 0, .int .i64 0, .int .i64 0, .int .i64 0, .slice none 0 0, .int .i64 0, .int .i64 0, .slice none 0 0, .slice none 0 0, .int .i64 0, .int .i64 0, .slice none 0 0, .slice none 0 0, .int .i64 0, .slice none 0 0, .slice none 0 0]
  rwa [show (w.alloc (.cells #[.int .i64 D.id, .int .i64 D.nodes, .int .i64 D.next, .slice P.op.A P.op.n P.op.c, .int .i64 D.age, .int .i64 D.clock, .slice P.wa.A P.wa.n P.wa.c, .slice P.he.A P.he.n P.he.c, .slice P.re.A P.re.n P.re.c] 27)).heap.size = w.heap.size + 1 by simp] at h9)
 have hbW : Below w.heap.size w W := by rw [hW]; exact bel_alloc (bel_alloc (bel_alloc (Below.refl _ _)))
 clear hW
 obtain ⟨gr, hgr⟩ : ∃ g, g = w.heap.size + 1 + 1 := ⟨_, rfl⟩
 obtain ⟨ga, hga⟩ : ∃ g, g = w.heap.size + 1 := ⟨_, rfl⟩
 obtain ⟨gw, hgw⟩ : ∃ g, g = w.heap.size := ⟨_, rfl⟩
 have hE : (Value.pointer (some ⟨w.heap.size, 0, none⟩)) = .pointer (some ⟨gw, 0, none⟩) := by rw [hgw]
 have HA : Hid (Blk W gw 27 [.int .i64 D.id, .int .i64 D.nodes, .int .i64 D.next, .slice P.op.A P.op.n P.op.c, .int .i64 D.age, .int .i64 D.clock, .slice P.wa.A P.wa.n P.wa.c, .slice P.he.A P.he.n P.he.c, .slice P.re.A P.re.n P.re.c]) := ħ (by rw [hgw]; exact HA0.out)
 rw [← hgr] at HR0
 rw [← hga] at HB0
 have hgr3 : gr = w.heap.size + 2 := by rw [hgr]
 try rw [← hgr]
 try rw [← hga]
 try rw [← hgr3]
 try simp only [hE]
 have k1 : gw < ga := by omega
 have k2 : ga < gr := by omega
 have k3 : w.heap.size ≤ gw := by omega
 clear hgr hga hgw hgr3 hE HA0
 refine wp_region_list ?_
 simp only [List.toList_toArray]
 refine wpList_plain rfl (fun K hK => ?_)
 go_simp
 refine hK _ _ ?_
 clear hK K
 (try simp only [lz])
 refine wpList_load_mid rfl 49 _ rfl ga 6 (by simp [Act.eval, Act.put]) [.int .i64 a.m.ki, .int .i64 a.m.fr, .int .i64 a.m.tt, .int .i64 a.m.di, .int .i64 a.m.b.au, .int .i64 a.m.b.n, .slice MP.b.A MP.b.n MP.b.c, .int .i64 a.m.h.au, .int .i64 a.m.h.ro, .slice MP.h.b.A MP.h.b.n MP.h.b.c, .slice MP.h.p.A MP.h.p.n MP.h.p.c, .int .i64 a.m.c.h.au, .int .i64 a.m.c.h.ro, .slice MP.c.h.b.A MP.c.h.b.n MP.c.h.b.c, .slice MP.c.h.p.A MP.c.h.p.n MP.c.h.p.c, .int .i64 a.m.c.di, .slice MP.c.s.A MP.c.s.n MP.c.s.c, .slice MP.ds.A MP.ds.n MP.ds.c] _ (fun j v hv => HB0.out.box.2 (6 + j) v (job_mid MP SP a j hv)) Tryz.underlying49 (by rfl) (by kernel_rfl) ?_
 (try simp only [lz])
 refine wpList_plain rfl (fun K hK => ?_)
 go_simp
 refine (ref0_CopyMessageO MP a.m _ (HMM.out.up hbW) (HML.out.big)).mono ?_
 rintro e w1 ⟨⟨⟨bA, bn, bc⟩, ⟨⟨xA, xn, xc⟩, ⟨yA, yn, yc⟩⟩, ⟨⟨⟨cA, cn, cd⟩, ⟨dA, dn, dc⟩⟩, ⟨sA, sn, sc⟩⟩, ⟨zA, zn, zc⟩⟩, he1, hO1, hb1⟩
 simp only [M18] at he1
 subst he1
 dsimp only
 have HO1 := ħ (hO1.mono (B' := w.heap.size) hbW.size)
 clear hO1
 refine hK _ _ ?_
 clear hK K
 (try simp only [lz])
 refine wpList_plain rfl (fun K hK => ?_)
 go_simp
 refine hK _ _ ?_
 clear hK K
 (try simp only [lz])
 refine wpList_store_mid rfl 49 _ _ rfl w1.heap.size 0 ([.int .i64 a.m.ki, .int .i64 a.m.fr, .int .i64 a.m.tt, .int .i64 a.m.di, .int .i64 a.m.b.au, .int .i64 a.m.b.n, .slice bA bn bc, .int .i64 a.m.h.au, .int .i64 a.m.h.ro, .slice xA xn xc, .slice yA yn yc, .int .i64 a.m.c.h.au, .int .i64 a.m.c.h.ro, .slice cA cn cd, .slice dA dn dc, .int .i64 a.m.c.di, .slice sA sn sc, .slice zA zn zc]).toArray (by simp [Act.eval, Act.put]) (by simp [Act.eval, Act.put]) (Blk.new w1 49 [.int .i64 0, .int .i64 0, .int .i64 0, .int .i64 0, .int .i64 0, .int .i64 0, .slice none 0 0, .int .i64 0, .int .i64 0, .slice none 0 0, .slice none 0 0, .int .i64 0, .int .i64 0, .slice none 0 0, .slice none 0 0, .int .i64 0, .slice none 0 0, .slice none 0 0]).thr (by kernel_rfl) (all_oneCell_toArray (by simp [Value.oneCell'])) ?_
 (try simp only [lz])
 try simp only [List.toList_toArray]
 have hb1' := bel_trans hbW hb1
 refine wpList_nil ?_
 rename_i K hK
 have HK := ħ hK
 clear hK
 refine wp_world (fun V hV => ?_)
 obtain ⟨gm, hgm⟩ : ∃ g, g = w1.heap.size := ⟨_, rfl⟩
 rw [← hgm] at hV ⊢
 have hB1 : Blk (w1.alloc (.cells #[.int .i64 0, .int .i64 0, .int .i64 0, .int .i64 0, .int .i64 0, .int .i64 0, .slice none 0 0, .int .i64 0, .int .i64 0, .slice none 0 0, .slice none 0 0, .int .i64 0, .int .i64 0, .slice none 0 0, .slice none 0 0, .int .i64 0, .slice none 0 0, .slice none 0 0] 49)) gm 49 [.int .i64 0, .int .i64 0, .int .i64 0, .int .i64 0, .int .i64 0, .int .i64 0, .slice none 0 0, .int .i64 0, .int .i64 0, .slice none 0 0, .slice none 0 0, .int .i64 0, .int .i64 0, .slice none 0 0, .slice none 0 0, .int .i64 0, .slice none 0 0, .slice none 0 0] := by rw [hgm]; exact Blk.new w1 49 [.int .i64 0, .int .i64 0, .int .i64 0, .int .i64 0, .int .i64 0, .int .i64 0, .slice none 0 0, .int .i64 0, .int .i64 0, .slice none 0 0, .slice none 0 0, .int .i64 0, .int .i64 0, .slice none 0 0, .slice none 0 0, .int .i64 0, .slice none 0 0, .slice none 0 0]
 have HX : Hid (Blk V gm 49 [.int .i64 a.m.ki, .int .i64 a.m.fr, .int .i64 a.m.tt, .int .i64 a.m.di, .int .i64 a.m.b.au, .int .i64 a.m.b.n, .slice bA bn bc, .int .i64 a.m.h.au, .int .i64 a.m.h.ro, .slice xA xn xc, .slice yA yn yc, .int .i64 a.m.c.h.au, .int .i64 a.m.c.h.ro, .slice cA cn cd, .slice dA dn dc, .int .i64 a.m.c.di, .slice sA sn sc, .slice zA zn zc]) := ħ (by rw [hV]; exact hB1.setsAll [.int .i64 a.m.ki, .int .i64 a.m.fr, .int .i64 a.m.tt, .int .i64 a.m.di, .int .i64 a.m.b.au, .int .i64 a.m.b.n, .slice bA bn bc, .int .i64 a.m.h.au, .int .i64 a.m.h.ro, .slice xA xn xc, .slice yA yn yc, .int .i64 a.m.c.h.au, .int .i64 a.m.c.h.ro, .slice cA cn cd, .slice dA dn dc, .int .i64 a.m.c.di, .slice sA sn sc, .slice zA zn zc] rfl)
 have hz : gr < gm := by have := (HR0.out.up hb1).lt; omega
 have hal : Below w1.heap.size w1 (w1.alloc (.cells #[.int .i64 0, .int .i64 0, .int .i64 0, .int .i64 0, .int .i64 0, .int .i64 0, .slice none 0 0, .int .i64 0, .int .i64 0, .slice none 0 0, .slice none 0 0, .int .i64 0, .int .i64 0, .slice none 0 0, .slice none 0 0, .int .i64 0, .slice none 0 0, .slice none 0 0] 49)) := bel_alloc (Below.refl _ _)
 have HA2 : Hid (Blk V gw 27 [.int .i64 D.id, .int .i64 D.nodes, .int .i64 D.next, .slice P.op.A P.op.n P.op.c, .int .i64 D.age, .int .i64 D.clock, .slice P.wa.A P.wa.n P.wa.c, .slice P.he.A P.he.n P.he.c, .slice P.re.A P.re.n P.re.c]) := ħ (by rw [hV]; exact ((HA.out.up hb1).up hal).setsFar (by omega))
 have HB2 : Hid (Blk V ga 51 [.int .i64 a.doo, .int .i64 a.d, .int .i64 a.t.se, .int .i64 a.t.sq, .string a.t.k, .string a.t.v, .int .i64 a.m.ki, .int .i64 a.m.fr, .int .i64 a.m.tt, .int .i64 a.m.di, .int .i64 a.m.b.au, .int .i64 a.m.b.n, .slice MP.b.A MP.b.n MP.b.c, .int .i64 a.m.h.au, .int .i64 a.m.h.ro, .slice MP.h.b.A MP.h.b.n MP.h.b.c, .slice MP.h.p.A MP.h.p.n MP.h.p.c, .int .i64 a.m.c.h.au, .int .i64 a.m.c.h.ro, .slice MP.c.h.b.A MP.c.h.b.n MP.c.h.b.c, .slice MP.c.h.p.A MP.c.h.p.n MP.c.h.p.c, .int .i64 a.m.c.di, .slice MP.c.s.A MP.c.s.n MP.c.s.c, .slice MP.ds.A MP.ds.n MP.ds.c, .bool a.fit, .slice SP.A SP.n SP.c]) := ħ (by rw [hV]; exact ((HB0.out.up hb1).up hal).setsFar (by omega))
 have HR2 : Hid (Blk V gr 49 [.int .i64 0, .int .i64 0, .int .i64 0, .int .i64 0, .int .i64 0, .int .i64 0, .slice none 0 0, .int .i64 0, .int .i64 0, .slice none 0 0, .slice none 0 0, .int .i64 0, .int .i64 0, .slice none 0 0, .slice none 0 0, .int .i64 0, .slice none 0 0, .slice none 0 0]) := ħ (by rw [hV]; exact ((HR0.out.up hb1).up hal).setsFar (by omega))
 have hbV : Below w.heap.size w V := by rw [hV]; exact bel_setCells (by omega) _ _ _ (bel_trans hb1' hal)
 have HO2 : Hid (OwnM V w.heap.size ⟨⟨bA, bn, bc⟩, ⟨⟨xA, xn, xc⟩, ⟨yA, yn, yc⟩⟩, ⟨⟨⟨cA, cn, cd⟩, ⟨dA, dn, dc⟩⟩, ⟨sA, sn, sc⟩⟩, ⟨zA, zn, zc⟩⟩ a.m) := ħ (by rw [hV]; exact (HO1.out.up hal).tkT (TKeep.setsAll hB1 _ _))
 clear hV hgm hB1 hal hb1 hb1' HA HB0 HR0 HO1 hbW W
 have HFS : Hid (FitS w V gw ga gm gr P D a.d ⟨⟨bA, bn, bc⟩, ⟨⟨xA, xn, xc⟩, ⟨yA, yn, yc⟩⟩, ⟨⟨⟨cA, cn, cd⟩, ⟨dA, dn, dc⟩⟩, ⟨sA, sn, sc⟩⟩, ⟨zA, zn, zc⟩⟩ a.m) := ħ { hw := HA2.out, ha := HB2.out.box.2 1 _ rfl, hal := HB2.out.lt, hm := HX.out, hr := HR2.out, ho := HO2.out, mil := HML.out, hb := hbV, g1 := by omega, g2 := by omega, g3 := hz, g4 := by omega }
 have q24 := HB2.out.box.2 24 _ rfl
 show K _ _
 apply HK.out
 exact fit_2 w V gw ga gm gr P D a.d _ a.m HFS.out a.fit q24 HWK.out HN.out
end Go.Proofs.YtgfakefcmbpboaaGreat
