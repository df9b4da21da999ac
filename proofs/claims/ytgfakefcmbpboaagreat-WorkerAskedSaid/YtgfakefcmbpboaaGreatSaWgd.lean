/- droverref4.Message: kinds 1, 3, 7. -/
import Derived.Test.YtgfakefcmbpboaaGreatSaWgc
namespace Go.Proofs.YtgfakefcmbpboaaGreat
open Go.RowKit
set_option linter.unusedSimpArgs false
set_option linter.unusedVariables false

noncomputable def msgEnd : Code := cAfter 5 (Tryz.f90.body.getD .skip)
set_option maxRecDepth 100000 in
set_option maxHeartbeats 8000000 in
theorem msg_tail {K : Act → World → Prop} (g N : Nat) (P Q : MsgP) (M X : MsgD) (yo y : Bool) (w V : World) {u0 u1 u3 u4 u7 u8 u9 u10 u11 u12 u13 u14 u15 u16 u17 u18 u19 u20 u21 u22 u23 u24 u25 u26 u27 u28 u29 u30 u31 u32 u33 u34 u35 u36 u37 u38 u39 u40 u41 u42 u43 u44 u45 u46 u47 u48 u49 u50 u51 u52 u53 u54 u55 u56 u57 u58 u59 u60 u61 u62 u63 u64 u65 u66 u67 u68 u69 u70 u71 u72 u73 u74 u75 u76 u77 u78 u79 u80 u81 u82 u83 u84 u85 u86 u87 u88 u89 u90 u91 u92 u93 u94 u95 u96 u97 u98 u99 u100 u101 u102 u103 u104 u105 u106 u107 u108 u109 u110 u111 u112 u113 u114 u115 u116 u117 u118 u119 u120 u121 u122 u123 u124 u125 u126 u127 u128 u129 u130 u131 u132 u133 u134 u135 : Value}
    (hK : ∀ a' w', Code.wp Tryz.prog (cSnd msgEnd) (bodyPost Tryz.prog Tryz.f90 (fun e w' => e = .returned (.bool y) ∧ Below w.heap.size w w')) a' w' → K a' w') (hb2 : Below w.heap.size w V) (hM : Blk V g 49 (msgCells P M)) (hX : Blk V N 49 (msgCells Q X)) (hp : MsgR w P M) (hq : MsgR w Q X) (hx : X.b.tx = M.b.tx ∨ X.b.tx = []) (hy : y = true ↔ yo = true ∧ X = M) :
    Code.wp Tryz.prog (cFst msgEnd) (Exit.then K (bodyPost Tryz.prog Tryz.f90 (fun e w' => e = .returned (.bool y) ∧ Below w.heap.size w w'))) { tmps := #[u0, u1, .pointer (some ⟨g, 0, none⟩), u3, u4, .pointer (some ⟨N, 0, none⟩), .bool yo, u7, u8, u9, u10, u11, u12, u13, u14, u15, u16, u17, u18, u19, u20, u21, u22, u23, u24, u25, u26, u27, u28, u29, u30, u31, u32, u33, u34, u35, u36, u37, u38, u39, u40, u41, u42, u43, u44, u45, u46, u47, u48, u49, u50, u51, u52, u53, u54, u55, u56, u57, u58, u59, u60, u61, u62, u63, u64, u65, u66, u67, u68, u69, u70, u71, u72, u73, u74, u75, u76, u77, u78, u79, u80, u81, u82, u83, u84, u85, u86, u87, u88, u89, u90, u91, u92, u93, u94, u95, u96, u97, u98, u99, u100, u101, u102, u103, u104, u105, u106, u107, u108, u109, u110, u111, u112, u113, u114, u115, u116, u117, u118, u119, u120, u121, u122, u123, u124, u125, u126, u127, u128, u129, u130, u131, u132, u133, u134, u135], defers := [] } V := by
  obtain ⟨⟨bA, bn, bc⟩, ⟨⟨xA, xn, xc⟩, ⟨yA, yn, yc⟩⟩, ⟨⟨⟨cA, cn, cd⟩, ⟨dA, dn, dc⟩⟩, ⟨sA, sn, sc⟩⟩, ⟨eA, en, ec⟩⟩ := P
  obtain ⟨⟨bA', bn', bc'⟩, ⟨⟨xA', xn', xc'⟩, ⟨yA', yn', yc'⟩⟩, ⟨⟨⟨cA', cn', cd'⟩, ⟨dA', dn', dc'⟩⟩, ⟨sA', sn', sc'⟩⟩, ⟨eA', en', ec'⟩⟩ := Q
  obtain ⟨ki, fr, tt, di, b, hd, cc, ds⟩ := M
  obtain ⟨ki', fr', tt', di', b', hd', cc', ds'⟩ := X
  have HVM : Hid (Blk V g 49 [.int .i64 ki, .int .i64 fr, .int .i64 tt, .int .i64 di, .int .i64 b.au, .int .i64 b.n, .slice bA bn bc, .int .i64 hd.au, .int .i64 hd.ro, .slice xA xn xc, .slice yA yn yc, .int .i64 cc.h.au, .int .i64 cc.h.ro, .slice cA cn cd, .slice dA dn dc, .int .i64 cc.di, .slice sA sn sc, .slice eA en ec]) := Lib.hid hM
  have HVX : Hid (Blk V N 49 [.int .i64 ki', .int .i64 fr', .int .i64 tt', .int .i64 di', .int .i64 b'.au, .int .i64 b'.n, .slice bA' bn' bc', .int .i64 hd'.au, .int .i64 hd'.ro, .slice xA' xn' xc', .slice yA' yn' yc', .int .i64 cc'.h.au, .int .i64 cc'.h.ro, .slice cA' cn' cd', .slice dA' dn' dc', .int .i64 cc'.di, .slice sA' sn' sc', .slice eA' en' ec']) := Lib.hid hX
  have HM := Lib.hid (hp.up hb2)
  have HX := Lib.hid (hq.up hb2)
  have HXX := Lib.hid hx
  have HK := Lib.hid hK
  have HB := Lib.hid hb2
  have HY := Lib.hid hy
  clear hX hK hM hp hq hx hb2 hy
  dsimp only [msgEnd, cAfter, cSnd, cFst, Tryz.f90, Option.getD]
  cases yo
  · obtain rfl : y = false := by have := HY.out; simpa using this
    clear HY HXX HM HX HVM HVX
    go_wp2_with fail
    show K _ _
    apply HK.out
    clear HK
    dsimp only [msgEnd, cAfter, cSnd, cFst, Tryz.f90, Option.getD]
    go_wp2_with fail
    go_ret
    exact ⟨rfl, HB.out⟩
  · have hE : dec ((⟨ki', fr', tt', di', b', hd', cc', ds'⟩ : MsgD) = ⟨ki, fr, tt, di, b, hd, cc, ds⟩) = y := by rw [Bool.eq_iff_iff, dec_iff, HY.out]; simp
    have HE := Lib.hid hE
    clear HY hE
    refine wp_region_list ?_
    simp only [List.toList_toArray]
    iterate 2 ((refine wpList_plain rfl (fun K hK => ?_)); go_simp; refine hK _ _ ?_; clear hK K; (try simp only [Act.put, lzT, lzZ, lzS]))
    refine wpList_load_midG (by kernel_rfl) 49 _ rfl N 0 (by simp [Act.eval, Act.put]) [.int .i64 ki', .int .i64 fr', .int .i64 tt', .int .i64 di', .int .i64 b'.au, .int .i64 b'.n, .slice bA' bn' bc', .int .i64 hd'.au, .int .i64 hd'.ro, .slice xA' xn' xc', .slice yA' yn' yc', .int .i64 cc'.h.au, .int .i64 cc'.h.ro, .slice cA' cn' cd', .slice dA' dn' dc', .int .i64 cc'.di, .slice sA' sn' sc', .slice eA' en' ec'] _ HVX.out.rng Tryz.underlying49 (by rfl) (by kernel_rfl) ?_
    (try simp only [Act.put, lzT, lzZ, lzS])
    refine wpList_load_midG (by kernel_rfl) 49 _ rfl g 0 (by simp [Act.eval, Act.put]) [.int .i64 ki, .int .i64 fr, .int .i64 tt, .int .i64 di, .int .i64 b.au, .int .i64 b.n, .slice bA bn bc, .int .i64 hd.au, .int .i64 hd.ro, .slice xA xn xc, .slice yA yn yc, .int .i64 cc.h.au, .int .i64 cc.h.ro, .slice cA cn cd, .slice dA dn dc, .int .i64 cc.di, .slice sA sn sc, .slice eA en ec] _ HVM.out.rng Tryz.underlying49 (by rfl) (by kernel_rfl) ?_
    (try simp only [Act.put, lzT, lzZ, lzS, List.toList_toArray])
    go_wp2_with fail
    refine (ref0_EqMessageX ⟨⟨bA', bn', bc'⟩, ⟨⟨xA', xn', xc'⟩, ⟨yA', yn', yc'⟩⟩, ⟨⟨⟨cA', cn', cd'⟩, ⟨dA', dn', dc'⟩⟩, ⟨sA', sn', sc'⟩⟩, ⟨eA', en', ec'⟩⟩ ⟨⟨bA, bn, bc⟩, ⟨⟨xA, xn, xc⟩, ⟨yA, yn, yc⟩⟩, ⟨⟨⟨cA, cn, cd⟩, ⟨dA, dn, dc⟩⟩, ⟨sA, sn, sc⟩⟩, ⟨eA, en, ec⟩⟩ ⟨ki', fr', tt', di', b', hd', cc', ds'⟩ ⟨ki, fr, tt, di, b, hd, cc, ds⟩ _ HX.out HM.out HXX.out).mono ?_
    rintro e w9 ⟨rfl, hb9⟩
    rw [HE.out]
    have hb9' := bel_trans HB.out hb9
    go_wp2_with fail
    show K _ _
    apply HK.out
    clear HK
    dsimp only [msgEnd, cAfter, cSnd, cFst, Tryz.f90, Option.getD]
    go_wp2_with fail
    go_ret
    exact ⟨rfl, hb9'⟩

end Go.Proofs.YtgfakefcmbpboaaGreat
