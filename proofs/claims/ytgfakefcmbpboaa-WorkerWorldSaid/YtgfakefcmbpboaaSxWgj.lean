/- worker.Takes, worker.Take. -/
import Derived.Test.YtgfakefcmbpboaaSxWgi
namespace Go.Proofs.Ytgfakefcmbpboaa
open Go.RowKit
set_option linter.unusedSimpArgs false
set_option linter.unusedVariables false

theorem wpList_skipG {P : Program} {ops : Array Oper} {Q : Exit → Act → World → Prop} {a : Act} {w : World} {rest : List Oper} {o : Oper} (hg : Region.wanted o (yielded ops a.tmps) = false)
    (h : wpList P ops Q rest (a.put o.dst undef) w) : wpList P ops Q (o :: rest) a w :=
  wpList_step fun K hK => by rw [if_neg (by rw [hg]; simp)]; exact hK _ _ h
set_option maxRecDepth 100000 in
set_option maxHeartbeats 4000000 in
theorem worker_Takes4 (k : Int) (w : World) (hk : takes4 k) : Calls Try.prog 26 #[.int .i64 k] w fun e w' => e = .returned (.bool true) ∧ Below w.heap.size w w' := by
  have hm : memS [1, 2, 3, 7] k = true := by rcases hk with rfl | rfl | rfl | rfl <;> (unfold memS; decide)
  have HM := Lib.hid hm
  clear hm hk
  go_enter Try.func26, Try.ntmps26
  go_wp2_with fail
  refine (slices_Contains (some ⟨w.heap.size, 0, none⟩) 4 4 [1, 2, 3, 7] k true _ ⟨rfl, by omega, fun _ => ⟨w.heap.size, 0, rfl, by simp, fun j hj => (by rw [Nat.zero_add]; exact (Blk.new w 3 [.int .i64 1, .int .i64 2, .int .i64 3, .int .i64 7]).box.2 j _ (by match j, hj with | 0, _ => rfl | 1, _ => rfl | 2, _ => rfl | 3, _ => rfl))⟩⟩ HM.out).mono ?_
  rintro e w7 ⟨rfl, hb7⟩
  go_wp2_with fail
  go_ret
  exact ⟨rfl, belB⟩
set_option maxRecDepth 100000 in
set_option maxHeartbeats 8000000 in
theorem worker_Take_no (P : WorkP) (D : WorkD) (Pm : MsgP) (M : MsgD) (w : World) (h : WorkR w P D) (hp : MsgR w Pm M) (hk : TakesK M.ki) (hn : ¬ (mayW D = true ∧ msgB M D.nodes = true ∧ M.tt = D.id)) :
    Calls Try.prog 13 #[P.val D, M18 Pm M] w fun e w' => e = .returned (.tuple #[zeroW, .slice none 0 0, .int .i64 1]) ∧ Below w.heap.size w w' := by
  obtain ⟨⟨oA, on, oc⟩, ⟨tA, tn, tc⟩, ⟨eA, en, ec⟩, ⟨rA, rn, rc⟩⟩ := P
  obtain ⟨⟨bA, bn, bc⟩, ⟨⟨xA, xn, xc⟩, ⟨yA, yn, yc⟩⟩, ⟨⟨⟨cA, cn, cd⟩, ⟨dA, dn, dc⟩⟩, ⟨sA, sn, sc⟩⟩, ⟨zA, zn, zc⟩⟩ := Pm
  obtain ⟨ki, fr, tt, di, b, hd, cc, ds⟩ := M
  have HWK := Lib.hid h
  have HMM := Lib.hid hp
  have HK4 := Lib.hid hk
  dsimp only at hk hn
  obtain ⟨ym, hym⟩ : ∃ y, mayW D = y := ⟨_, rfl⟩
  obtain ⟨yb, hyb⟩ : ∃ y, msgB ⟨ki, fr, tt, di, b, hd, cc, ds⟩ D.nodes = y := ⟨_, rfl⟩
  rw [hym, hyb] at hn
  have HMY := Lib.hid hym
  have HBY := Lib.hid hyb
  have HN := Lib.hid hn
  clear h hp hk hym hyb hn
  show Calls Try.prog 13 #[.agg #[.int .i64 D.id, .int .i64 D.nodes, .int .i64 D.next, .slice oA on oc, .int .i64 D.age, .int .i64 D.clock, .slice tA tn tc, .slice eA en ec, .slice rA rn rc], .agg #[.int .i64 ki, .int .i64 fr, .int .i64 tt, .int .i64 di, .int .i64 b.au, .int .i64 b.n, .slice bA bn bc, .int .i64 hd.au, .int .i64 hd.ro, .slice xA xn xc, .slice yA yn yc, .int .i64 cc.h.au, .int .i64 cc.h.ro, .slice cA cn cd, .slice dA dn dc, .int .i64 cc.di, .slice sA sn sc, .slice zA zn zc]] w _
  go_enter Try.func13, Try.ntmps13
  go_upto_region 1 with fail
  refine wp_world (fun W hW => ?_)
  have HW00 : Hid (Blk W w.heap.size 27 [.int .i64 D.id, .int .i64 D.nodes, .int .i64 D.next, .slice oA on oc, .int .i64 D.age, .int .i64 D.clock, .slice tA tn tc, .slice eA en ec, .slice rA rn rc]) := Lib.hid (by rw [hW]; exact (Blk.new w 27 [.int .i64 D.id, .int .i64 D.nodes, .int .i64 D.next, .slice oA on oc, .int .i64 D.age, .int .i64 D.clock, .slice tA tn tc, .slice eA en ec, .slice rA rn rc]).up (belA))
  have HBM : Hid (Blk W (w.heap.size + 1) 54 [.int .i64 ki, .int .i64 fr, .int .i64 tt, .int .i64 di, .int .i64 b.au, .int .i64 b.n, .slice bA bn bc, .int .i64 hd.au, .int .i64 hd.ro, .slice xA xn xc, .slice yA yn yc, .int .i64 cc.h.au, .int .i64 cc.h.ro, .slice cA cn cd, .slice dA dn dc, .int .i64 cc.di, .slice sA sn sc, .slice zA zn zc]) := Lib.hid (by rw [hW]; exact (Blk.new1 w 27 54 [.int .i64 D.id, .int .i64 D.nodes, .int .i64 D.next, .slice oA on oc, .int .i64 D.age, .int .i64 D.clock, .slice tA tn tc, .slice eA en ec, .slice rA rn rc] [.int .i64 ki, .int .i64 fr, .int .i64 tt, .int .i64 di, .int .i64 b.au, .int .i64 b.n, .slice bA bn bc, .int .i64 hd.au, .int .i64 hd.ro, .slice xA xn xc, .slice yA yn yc, .int .i64 cc.h.au, .int .i64 cc.h.ro, .slice cA cn cd, .slice dA dn dc, .int .i64 cc.di, .slice sA sn sc, .slice zA zn zc]).up (bel_alloc (Below.refl _ _)))
  have HR : Hid (Blk W (w.heap.size + 1 + 1) 27 [.int .i64 0, .int .i64 0, .int .i64 0, .slice none 0 0, .int .i64 0, .int .i64 0, .slice none 0 0, .slice none 0 0, .slice none 0 0]) := Lib.hid (by
    rw [hW]
    have h9 := Blk.new1 (w.alloc (.cells #[.int .i64 D.id, .int .i64 D.nodes, .int .i64 D.next, .slice oA on oc, .int .i64 D.age, .int .i64 D.clock, .slice tA tn tc, .slice eA en ec, .slice rA rn rc] 27)) 54 27 [.int .i64 ki, .int .i64 fr, .int .i64 tt, .int .i64 di, .int .i64 b.au, .int .i64 b.n, .slice bA bn bc, .int .i64 hd.au, .int .i64 hd.ro, .slice xA xn xc, .slice yA yn yc, .int .i64 cc.h.au, .int .i64 cc.h.ro, .slice cA cn cd, .slice dA dn dc, .int .i64 cc.di, .slice sA sn sc, .slice zA zn zc] [.int .i64 0, .int .i64 0, .int .i64 0, .slice none 0 0, .int .i64 0, .int .i64 0, .slice none 0 0, .slice none 0 0, .slice none 0 0]
    rwa [show (w.alloc (.cells #[.int .i64 D.id, .int .i64 D.nodes, .int .i64 D.next, .slice oA on oc, .int .i64 D.age, .int .i64 D.clock, .slice tA tn tc, .slice eA en ec, .slice rA rn rc] 27)).heap.size = w.heap.size + 1 by simp] at h9)
  have hb0 : Below w.heap.size w W := by rw [hW]; exact bel_alloc (bel_alloc (bel_alloc (Below.refl _ _)))
  clear hW
  obtain ⟨gr, hgr⟩ : ∃ g, g = w.heap.size + 1 + 1 := ⟨_, rfl⟩
  obtain ⟨gm, hgm⟩ : ∃ g, g = w.heap.size + 1 := ⟨_, rfl⟩
  obtain ⟨gw, hgw⟩ : ∃ g, g = w.heap.size := ⟨_, rfl⟩
  rw [← hgr] at HR
  rw [← hgm] at HBM
  have hgr3 : gr = w.heap.size + 2 := by rw [hgr]
  have HW0 : Hid (Blk W gw 27 [.int .i64 D.id, .int .i64 D.nodes, .int .i64 D.next, .slice oA on oc, .int .i64 D.age, .int .i64 D.clock, .slice tA tn tc, .slice eA en ec, .slice rA rn rc]) := Lib.hid (by rw [hgw]; exact HW00.out)
  clear HW00
  try rw [← hgr]
  try rw [← hgm]
  try rw [← hgr3]
  have hE : (Value.pointer (some ⟨w.heap.size, 0, none⟩)) = .pointer (some ⟨gw, 0, none⟩) := by rw [hgw]
  try simp only [hE]
  have hgmr : gm < gr := by omega
  have hgwm : gw < gm := by omega
  have hgww : w.heap.size ≤ gw := by omega
  clear hgr hgm hgr3 hgw hE
  refine wp_region_list ?_
  simp only [List.append_eq, List.append, List.cons_append, List.nil_append, List.toList_toArray]
  cases ym
  · skip
    refine wpList_load_mid rfl 27 _ rfl gw 0 (by simp [Act.eval, Act.put]) [.int .i64 D.id, .int .i64 D.nodes, .int .i64 D.next, .slice oA on oc, .int .i64 D.age, .int .i64 D.clock, .slice tA tn tc, .slice eA en ec, .slice rA rn rc] _ HW0.out.rng Try.underlying27 (by rfl) (by kernel_rfl) ?_
    (try simp only [Act.put, lzT, lzZ, lzS, List.toList_toArray])
    refine wpList_plain rfl (fun K hK => ?_)
    go_simp
    refine (worker_May ⟨⟨oA, on, oc⟩, ⟨tA, tn, tc⟩, ⟨eA, en, ec⟩, ⟨rA, rn, rc⟩⟩ D false _ (HWK.out.up hb0) HMY.out).mono ?_
    rintro e w1 ⟨rfl, hb1⟩
    dsimp only
    refine hK _ _ ?_
    clear hK K
    (try simp only [Act.put, lzT, lzZ, lzS])
    have HW1 := Lib.hid (HW0.out.up hb1)
    have HB1 := Lib.hid (HBM.out.up hb1)
    have HR1 := Lib.hid (HR.out.up hb1)
    have hb01 := bel_trans hb0 hb1
    clear hb1
    iterate 2 ((refine wpList_plain rfl (fun K hK => ?_)); go_simp; refine hK _ _ ?_; clear hK K; (try simp only [Act.put, lzT, lzZ, lzS]))
    refine wpList_skipG (by kernel_rfl) ?_
    (try simp only [Act.put, lzT, lzZ, lzS])
    refine wpList_skipG (by kernel_rfl) ?_
    (try simp only [Act.put, lzT, lzZ, lzS])
    refine wpList_skipG (by kernel_rfl) ?_
    (try simp only [Act.put, lzT, lzZ, lzS])
    refine wpList_skipG (by kernel_rfl) ?_
    (try simp only [Act.put, lzT, lzZ, lzS])
    refine wpList_skipG (by kernel_rfl) ?_
    (try simp only [Act.put, lzT, lzZ, lzS])
    iterate 2 ((refine wpList_plain rfl (fun K hK => ?_)); go_simp; refine hK _ _ ?_; clear hK K; (try simp only [Act.put, lzT, lzZ, lzS]))
    refine wpList_skipG (by kernel_rfl) ?_
    (try simp only [Act.put, lzT, lzZ, lzS])
    refine wpList_skipG (by kernel_rfl) ?_
    (try simp only [Act.put, lzT, lzZ, lzS])
    refine wpList_skipG (by kernel_rfl) ?_
    (try simp only [Act.put, lzT, lzZ, lzS])
    refine wpList_skipG (by kernel_rfl) ?_
    (try simp only [Act.put, lzT, lzZ, lzS])
    refine wpList_skipG (by kernel_rfl) ?_
    (try simp only [Act.put, lzT, lzZ, lzS])
    iterate 2 ((refine wpList_plain rfl (fun K hK => ?_)); go_simp; refine hK _ _ ?_; clear hK K; (try simp only [Act.put, lzT, lzZ, lzS]))
    refine wpList_nil ?_
    rename_i Ka hKa
    refine hKa _ _ ?_
    clear hKa Ka
    have hRl := HR1.out.lt
    have hRf := HR1.out.frozen
    have r_0 := (HR1.out.box).2 0 _ rfl; have r_1 := (HR1.out.box).2 1 _ rfl; have r_2 := (HR1.out.box).2 2 _ rfl; have r_3 := (HR1.out.box).2 3 _ rfl; have r_4 := (HR1.out.box).2 4 _ rfl; have r_5 := (HR1.out.box).2 5 _ rfl; have r_6 := (HR1.out.box).2 6 _ rfl; have r_7 := (HR1.out.box).2 7 _ rfl; have r_8 := (HR1.out.box).2 8 _ rfl
    go_wp2_with fail
    exact bodyPost_ret (v := .tuple #[.agg #[.int .i64 0, .int .i64 0, .int .i64 0, .slice none 0 0, .int .i64 0, .int .i64 0, .slice none 0 0, .slice none 0 0, .slice none 0 0], .slice none 0 0, .int .i64 1]) (by simp [results, Try.results13, go_sem, *]) rfl ⟨rfl, by (have hbe := hb01; repeat (first | (with_reducible exact hbe) | ((with_reducible refine bel_set3 ?_ ?_); rotate_left; omega)))⟩
  refine wpList_load_mid rfl 27 _ rfl gw 0 (by simp [Act.eval, Act.put]) [.int .i64 D.id, .int .i64 D.nodes, .int .i64 D.next, .slice oA on oc, .int .i64 D.age, .int .i64 D.clock, .slice tA tn tc, .slice eA en ec, .slice rA rn rc] _ HW0.out.rng Try.underlying27 (by rfl) (by kernel_rfl) ?_
  (try simp only [Act.put, lzT, lzZ, lzS, List.toList_toArray])
  refine wpList_plain rfl (fun K hK => ?_)
  go_simp
  refine (worker_May ⟨⟨oA, on, oc⟩, ⟨tA, tn, tc⟩, ⟨eA, en, ec⟩, ⟨rA, rn, rc⟩⟩ D true _ (HWK.out.up hb0) HMY.out).mono ?_
  rintro e w1 ⟨rfl, hb1⟩
  dsimp only
  refine hK _ _ ?_
  clear hK K
  (try simp only [Act.put, lzT, lzZ, lzS])
  have HW1 := Lib.hid (HW0.out.up hb1)
  have HB1 := Lib.hid (HBM.out.up hb1)
  have HR1 := Lib.hid (HR.out.up hb1)
  have hb01 := bel_trans hb0 hb1
  clear hb1
  iterate 2 ((refine wpList_plain rfl (fun K hK => ?_)); go_simp; refine hK _ _ ?_; clear hK K; (try simp only [Act.put, lzT, lzZ, lzS]))
  cases yb
  · skip
    refine wpList_load_midG (by kernel_rfl) 54 _ rfl gm 0 (by simp [Act.eval, Act.put]) [.int .i64 ki, .int .i64 fr, .int .i64 tt, .int .i64 di, .int .i64 b.au, .int .i64 b.n, .slice bA bn bc, .int .i64 hd.au, .int .i64 hd.ro, .slice xA xn xc, .slice yA yn yc, .int .i64 cc.h.au, .int .i64 cc.h.ro, .slice cA cn cd, .slice dA dn dc, .int .i64 cc.di, .slice sA sn sc, .slice zA zn zc] _ HB1.out.rng Try.underlying54 (by rfl) (by kernel_rfl) ?_
    (try simp only [Act.put, lzT, lzZ, lzS, List.toList_toArray])
    refine wpList_takeG (by kernel_rfl) (fun K hK => ?_)
    go_simp
    refine hK _ _ ?_
    clear hK K
    (try simp only [Act.put, lzT, lzZ, lzS])
    refine wpList_takeG (by kernel_rfl) (fun K hK => ?_)
    have r1 := HW1.out.box.2 1 _ rfl
    go_simp
    refine hK _ _ ?_
    clear hK K
    clear r1
    (try simp only [Act.put, lzT, lzZ, lzS])
    refine wpList_takeG (by kernel_rfl) (fun K hK => ?_)
    go_simp
    refine (message_May4 ⟨⟨bA, bn, bc⟩, ⟨⟨xA, xn, xc⟩, ⟨yA, yn, yc⟩⟩, ⟨⟨⟨cA, cn, cd⟩, ⟨dA, dn, dc⟩⟩, ⟨sA, sn, sc⟩⟩, ⟨zA, zn, zc⟩⟩ ⟨ki, fr, tt, di, b, hd, cc, ds⟩ D.nodes false _ (HMM.out.up hb01) HK4.out HBY.out).mono ?_
    rintro e w2 ⟨rfl, hb2⟩
    dsimp only
    refine hK _ _ ?_
    clear hK K
    (try simp only [Act.put, lzT, lzZ, lzS])
    have HW2 := Lib.hid (HW1.out.up hb2)
    have HB2 := Lib.hid (HB1.out.up hb2)
    have HR2 := Lib.hid (HR1.out.up hb2)
    have hb02 := bel_trans hb01 hb2
    clear hb2
    iterate 3 (((first | refine wpList_plain rfl (fun K hK => ?_) | refine wpList_takeG (by kernel_rfl) (fun K hK => ?_))); go_simp; refine hK _ _ ?_; clear hK K; (try simp only [Act.put, lzT, lzZ, lzS]))
    refine wpList_skipG (by kernel_rfl) ?_
    (try simp only [Act.put, lzT, lzZ, lzS])
    refine wpList_skipG (by kernel_rfl) ?_
    (try simp only [Act.put, lzT, lzZ, lzS])
    refine wpList_skipG (by kernel_rfl) ?_
    (try simp only [Act.put, lzT, lzZ, lzS])
    refine wpList_skipG (by kernel_rfl) ?_
    (try simp only [Act.put, lzT, lzZ, lzS])
    refine wpList_skipG (by kernel_rfl) ?_
    (try simp only [Act.put, lzT, lzZ, lzS])
    iterate 2 ((refine wpList_plain rfl (fun K hK => ?_)); go_simp; refine hK _ _ ?_; clear hK K; (try simp only [Act.put, lzT, lzZ, lzS]))
    refine wpList_nil ?_
    rename_i Ka hKa
    refine hKa _ _ ?_
    clear hKa Ka
    have hRl := HR2.out.lt
    have hRf := HR2.out.frozen
    have r_0 := (HR2.out.box).2 0 _ rfl; have r_1 := (HR2.out.box).2 1 _ rfl; have r_2 := (HR2.out.box).2 2 _ rfl; have r_3 := (HR2.out.box).2 3 _ rfl; have r_4 := (HR2.out.box).2 4 _ rfl; have r_5 := (HR2.out.box).2 5 _ rfl; have r_6 := (HR2.out.box).2 6 _ rfl; have r_7 := (HR2.out.box).2 7 _ rfl; have r_8 := (HR2.out.box).2 8 _ rfl
    go_wp2_with fail
    exact bodyPost_ret (v := .tuple #[.agg #[.int .i64 0, .int .i64 0, .int .i64 0, .slice none 0 0, .int .i64 0, .int .i64 0, .slice none 0 0, .slice none 0 0, .slice none 0 0], .slice none 0 0, .int .i64 1]) (by simp [results, Try.results13, go_sem, *]) rfl ⟨rfl, by (have hbe := hb02; repeat (first | (with_reducible exact hbe) | ((with_reducible refine bel_set3 ?_ ?_); rotate_left; omega)))⟩
  refine wpList_load_midG (by kernel_rfl) 54 _ rfl gm 0 (by simp [Act.eval, Act.put]) [.int .i64 ki, .int .i64 fr, .int .i64 tt, .int .i64 di, .int .i64 b.au, .int .i64 b.n, .slice bA bn bc, .int .i64 hd.au, .int .i64 hd.ro, .slice xA xn xc, .slice yA yn yc, .int .i64 cc.h.au, .int .i64 cc.h.ro, .slice cA cn cd, .slice dA dn dc, .int .i64 cc.di, .slice sA sn sc, .slice zA zn zc] _ HB1.out.rng Try.underlying54 (by rfl) (by kernel_rfl) ?_
  (try simp only [Act.put, lzT, lzZ, lzS, List.toList_toArray])
  refine wpList_takeG (by kernel_rfl) (fun K hK => ?_)
  go_simp
  refine hK _ _ ?_
  clear hK K
  (try simp only [Act.put, lzT, lzZ, lzS])
  refine wpList_takeG (by kernel_rfl) (fun K hK => ?_)
  have r1 := HW1.out.box.2 1 _ rfl
  go_simp
  refine hK _ _ ?_
  clear hK K
  clear r1
  (try simp only [Act.put, lzT, lzZ, lzS])
  refine wpList_takeG (by kernel_rfl) (fun K hK => ?_)
  go_simp
  refine (message_May4 ⟨⟨bA, bn, bc⟩, ⟨⟨xA, xn, xc⟩, ⟨yA, yn, yc⟩⟩, ⟨⟨⟨cA, cn, cd⟩, ⟨dA, dn, dc⟩⟩, ⟨sA, sn, sc⟩⟩, ⟨zA, zn, zc⟩⟩ ⟨ki, fr, tt, di, b, hd, cc, ds⟩ D.nodes true _ (HMM.out.up hb01) HK4.out HBY.out).mono ?_
  rintro e w2 ⟨rfl, hb2⟩
  dsimp only
  refine hK _ _ ?_
  clear hK K
  (try simp only [Act.put, lzT, lzZ, lzS])
  have HW2 := Lib.hid (HW1.out.up hb2)
  have HB2 := Lib.hid (HB1.out.up hb2)
  have HR2 := Lib.hid (HR1.out.up hb2)
  have hb02 := bel_trans hb01 hb2
  clear hb2
  iterate 3 (((first | refine wpList_plain rfl (fun K hK => ?_) | refine wpList_takeG (by kernel_rfl) (fun K hK => ?_))); go_simp; refine hK _ _ ?_; clear hK K; (try simp only [Act.put, lzT, lzZ, lzS]))
  have ht : ¬ tt = D.id := fun e => HN.out ⟨rfl, rfl, e⟩
  have hd1 : (tt != D.id) = true := by simpa using ht
  refine wpList_takeG (by kernel_rfl) (fun K hK => ?_)
  go_simp
  refine hK _ _ ?_
  clear hK K
  (try simp only [Act.put, lzT, lzZ, lzS])
  refine wpList_takeG (by kernel_rfl) (fun K hK => ?_)
  have r2 := HB2.out.box.2 2 _ rfl
  go_simp
  refine hK _ _ ?_
  clear hK K
  clear r2
  (try simp only [Act.put, lzT, lzZ, lzS])
  refine wpList_takeG (by kernel_rfl) (fun K hK => ?_)
  go_simp
  refine hK _ _ ?_
  clear hK K
  (try simp only [Act.put, lzT, lzZ, lzS])
  refine wpList_takeG (by kernel_rfl) (fun K hK => ?_)
  have r0 := HW2.out.box.2 0 _ rfl
  go_simp
  refine hK _ _ ?_
  clear hK K
  clear r0
  (try simp only [Act.put, lzT, lzZ, lzS])
  iterate 3 (((first | refine wpList_plain rfl (fun K hK => ?_) | refine wpList_takeG (by kernel_rfl) (fun K hK => ?_))); go_simp; refine hK _ _ ?_; clear hK K; (try simp only [Act.put, lzT, lzZ, lzS]))
  refine wpList_nil ?_
  rename_i Ka hKa
  refine hKa _ _ ?_
  clear hKa Ka
  have hRl := HR2.out.lt
  have hRf := HR2.out.frozen
  have r_0 := (HR2.out.box).2 0 _ rfl; have r_1 := (HR2.out.box).2 1 _ rfl; have r_2 := (HR2.out.box).2 2 _ rfl; have r_3 := (HR2.out.box).2 3 _ rfl; have r_4 := (HR2.out.box).2 4 _ rfl; have r_5 := (HR2.out.box).2 5 _ rfl; have r_6 := (HR2.out.box).2 6 _ rfl; have r_7 := (HR2.out.box).2 7 _ rfl; have r_8 := (HR2.out.box).2 8 _ rfl
  go_wp2_with fail
  exact bodyPost_ret (v := .tuple #[.agg #[.int .i64 0, .int .i64 0, .int .i64 0, .slice none 0 0, .int .i64 0, .int .i64 0, .slice none 0 0, .slice none 0 0, .slice none 0 0], .slice none 0 0, .int .i64 1]) (by simp [results, Try.results13, go_sem, *]) rfl ⟨rfl, by (have hbe := hb02; repeat (first | (with_reducible exact hbe) | ((with_reducible refine bel_set3 ?_ ?_); rotate_left; omega)))⟩
set_option maxRecDepth 100000 in
set_option maxHeartbeats 8000000 in
theorem worker_Take_ok (P : WorkP) (D : WorkD) (Pm : MsgP) (M : MsgD) (D' : WorkD) (L' : List MsgD) (w : World) (h : WorkR w P D) (hs : BigD D) (hp : MsgR w Pm M) (hk : TakesK M.ki) (hm : mayW D = true) (hb : msgB M D.nodes = true) (ht : M.tt = D.id)
    (hgot : ∀ P1 u, Below w.heap.size w u → WorkO u w.heap.size P1 D → Calls Try.prog 27 #[P1.val D, M18 Pm M] u fun e w' => ∃ P' A n c, e = .returned (.tuple #[P'.val D', .slice A n c]) ∧ WorkO w' w.heap.size P' D' ∧ OwnMs w' u.heap.size (.slice A n c) L' ∧ Below u.heap.size u w') :
    Calls Try.prog 13 #[P.val D, M18 Pm M] w fun e w' => ∃ P' A n c, e = .returned (.tuple #[P'.val D', .slice A n c, .int .i64 0]) ∧ WorkO w' w.heap.size P' D' ∧ OwnMs w' w.heap.size (.slice A n c) L' ∧ Below w.heap.size w w' := by
  obtain ⟨⟨oA, on, oc⟩, ⟨tA, tn, tc⟩, ⟨eA, en, ec⟩, ⟨rA, rn, rc⟩⟩ := P
  obtain ⟨⟨bA, bn, bc⟩, ⟨⟨xA, xn, xc⟩, ⟨yA, yn, yc⟩⟩, ⟨⟨⟨cA, cn, cd⟩, ⟨dA, dn, dc⟩⟩, ⟨sA, sn, sc⟩⟩, ⟨zA, zn, zc⟩⟩ := Pm
  obtain ⟨ki, fr, tt, di, b, hd, cc, ds⟩ := M
  have HWK := Lib.hid h
  have HMM := Lib.hid hp
  have HK4 := Lib.hid hk
  dsimp only at hk ht
  have HMY := Lib.hid hm
  have HBY := Lib.hid hb
  have HS := Lib.hid hs
  have HGOT := Lib.hid hgot
  have hd1 : (tt != D.id) = false := by simp [ht]
  clear h hp hk hm hb ht hgot hs
  show Calls Try.prog 13 #[.agg #[.int .i64 D.id, .int .i64 D.nodes, .int .i64 D.next, .slice oA on oc, .int .i64 D.age, .int .i64 D.clock, .slice tA tn tc, .slice eA en ec, .slice rA rn rc], .agg #[.int .i64 ki, .int .i64 fr, .int .i64 tt, .int .i64 di, .int .i64 b.au, .int .i64 b.n, .slice bA bn bc, .int .i64 hd.au, .int .i64 hd.ro, .slice xA xn xc, .slice yA yn yc, .int .i64 cc.h.au, .int .i64 cc.h.ro, .slice cA cn cd, .slice dA dn dc, .int .i64 cc.di, .slice sA sn sc, .slice zA zn zc]] w _
  go_enter Try.func13, Try.ntmps13
  go_upto_region 1 with fail
  refine wp_world (fun W hW => ?_)
  have HW00 : Hid (Blk W w.heap.size 27 [.int .i64 D.id, .int .i64 D.nodes, .int .i64 D.next, .slice oA on oc, .int .i64 D.age, .int .i64 D.clock, .slice tA tn tc, .slice eA en ec, .slice rA rn rc]) := Lib.hid (by rw [hW]; exact (Blk.new w 27 [.int .i64 D.id, .int .i64 D.nodes, .int .i64 D.next, .slice oA on oc, .int .i64 D.age, .int .i64 D.clock, .slice tA tn tc, .slice eA en ec, .slice rA rn rc]).up (belA))
  have HBM : Hid (Blk W (w.heap.size + 1) 54 [.int .i64 ki, .int .i64 fr, .int .i64 tt, .int .i64 di, .int .i64 b.au, .int .i64 b.n, .slice bA bn bc, .int .i64 hd.au, .int .i64 hd.ro, .slice xA xn xc, .slice yA yn yc, .int .i64 cc.h.au, .int .i64 cc.h.ro, .slice cA cn cd, .slice dA dn dc, .int .i64 cc.di, .slice sA sn sc, .slice zA zn zc]) := Lib.hid (by rw [hW]; exact (Blk.new1 w 27 54 [.int .i64 D.id, .int .i64 D.nodes, .int .i64 D.next, .slice oA on oc, .int .i64 D.age, .int .i64 D.clock, .slice tA tn tc, .slice eA en ec, .slice rA rn rc] [.int .i64 ki, .int .i64 fr, .int .i64 tt, .int .i64 di, .int .i64 b.au, .int .i64 b.n, .slice bA bn bc, .int .i64 hd.au, .int .i64 hd.ro, .slice xA xn xc, .slice yA yn yc, .int .i64 cc.h.au, .int .i64 cc.h.ro, .slice cA cn cd, .slice dA dn dc, .int .i64 cc.di, .slice sA sn sc, .slice zA zn zc]).up (bel_alloc (Below.refl _ _)))
  have HR : Hid (Blk W (w.heap.size + 1 + 1) 27 [.int .i64 0, .int .i64 0, .int .i64 0, .slice none 0 0, .int .i64 0, .int .i64 0, .slice none 0 0, .slice none 0 0, .slice none 0 0]) := Lib.hid (by
    rw [hW]
    have h9 := Blk.new1 (w.alloc (.cells #[.int .i64 D.id, .int .i64 D.nodes, .int .i64 D.next, .slice oA on oc, .int .i64 D.age, .int .i64 D.clock, .slice tA tn tc, .slice eA en ec, .slice rA rn rc] 27)) 54 27 [.int .i64 ki, .int .i64 fr, .int .i64 tt, .int .i64 di, .int .i64 b.au, .int .i64 b.n, .slice bA bn bc, .int .i64 hd.au, .int .i64 hd.ro, .slice xA xn xc, .slice yA yn yc, .int .i64 cc.h.au, .int .i64 cc.h.ro, .slice cA cn cd, .slice dA dn dc, .int .i64 cc.di, .slice sA sn sc, .slice zA zn zc] [.int .i64 0, .int .i64 0, .int .i64 0, .slice none 0 0, .int .i64 0, .int .i64 0, .slice none 0 0, .slice none 0 0, .slice none 0 0]
    rwa [show (w.alloc (.cells #[.int .i64 D.id, .int .i64 D.nodes, .int .i64 D.next, .slice oA on oc, .int .i64 D.age, .int .i64 D.clock, .slice tA tn tc, .slice eA en ec, .slice rA rn rc] 27)).heap.size = w.heap.size + 1 by simp] at h9)
  have hb0 : Below w.heap.size w W := by rw [hW]; exact bel_alloc (bel_alloc (bel_alloc (Below.refl _ _)))
  clear hW
  obtain ⟨gr, hgr⟩ : ∃ g, g = w.heap.size + 1 + 1 := ⟨_, rfl⟩
  obtain ⟨gm, hgm⟩ : ∃ g, g = w.heap.size + 1 := ⟨_, rfl⟩
  obtain ⟨gw, hgw⟩ : ∃ g, g = w.heap.size := ⟨_, rfl⟩
  rw [← hgr] at HR
  rw [← hgm] at HBM
  have hgr3 : gr = w.heap.size + 2 := by rw [hgr]
  have HW0 : Hid (Blk W gw 27 [.int .i64 D.id, .int .i64 D.nodes, .int .i64 D.next, .slice oA on oc, .int .i64 D.age, .int .i64 D.clock, .slice tA tn tc, .slice eA en ec, .slice rA rn rc]) := Lib.hid (by rw [hgw]; exact HW00.out)
  clear HW00
  try rw [← hgr]
  try rw [← hgm]
  try rw [← hgr3]
  have hE : (Value.pointer (some ⟨w.heap.size, 0, none⟩)) = .pointer (some ⟨gw, 0, none⟩) := by rw [hgw]
  try simp only [hE]
  have hgmr : gm < gr := by omega
  have hgwm : gw < gm := by omega
  have hgww : w.heap.size ≤ gw := by omega
  clear hgr hgm hgr3 hgw hE
  refine wp_region_list ?_
  simp only [List.append_eq, List.append, List.cons_append, List.nil_append, List.toList_toArray]
  refine wpList_load_mid rfl 27 _ rfl gw 0 (by simp [Act.eval, Act.put]) [.int .i64 D.id, .int .i64 D.nodes, .int .i64 D.next, .slice oA on oc, .int .i64 D.age, .int .i64 D.clock, .slice tA tn tc, .slice eA en ec, .slice rA rn rc] _ HW0.out.rng Try.underlying27 (by rfl) (by kernel_rfl) ?_
  (try simp only [Act.put, lzT, lzZ, lzS, List.toList_toArray])
  refine wpList_plain rfl (fun K hK => ?_)
  go_simp
  refine (worker_May ⟨⟨oA, on, oc⟩, ⟨tA, tn, tc⟩, ⟨eA, en, ec⟩, ⟨rA, rn, rc⟩⟩ D true _ (HWK.out.up hb0) HMY.out).mono ?_
  rintro e w1 ⟨rfl, hb1⟩
  dsimp only
  refine hK _ _ ?_
  clear hK K
  (try simp only [Act.put, lzT, lzZ, lzS])
  have HW1 := Lib.hid (HW0.out.up hb1)
  have HB1 := Lib.hid (HBM.out.up hb1)
  have HR1 := Lib.hid (HR.out.up hb1)
  have hb01 := bel_trans hb0 hb1
  clear hb1
  iterate 2 ((refine wpList_plain rfl (fun K hK => ?_)); go_simp; refine hK _ _ ?_; clear hK K; (try simp only [Act.put, lzT, lzZ, lzS]))
  refine wpList_load_midG (by kernel_rfl) 54 _ rfl gm 0 (by simp [Act.eval, Act.put]) [.int .i64 ki, .int .i64 fr, .int .i64 tt, .int .i64 di, .int .i64 b.au, .int .i64 b.n, .slice bA bn bc, .int .i64 hd.au, .int .i64 hd.ro, .slice xA xn xc, .slice yA yn yc, .int .i64 cc.h.au, .int .i64 cc.h.ro, .slice cA cn cd, .slice dA dn dc, .int .i64 cc.di, .slice sA sn sc, .slice zA zn zc] _ HB1.out.rng Try.underlying54 (by rfl) (by kernel_rfl) ?_
  (try simp only [Act.put, lzT, lzZ, lzS, List.toList_toArray])
  refine wpList_takeG (by kernel_rfl) (fun K hK => ?_)
  go_simp
  refine hK _ _ ?_
  clear hK K
  (try simp only [Act.put, lzT, lzZ, lzS])
  refine wpList_takeG (by kernel_rfl) (fun K hK => ?_)
  have r1 := HW1.out.box.2 1 _ rfl
  go_simp
  refine hK _ _ ?_
  clear hK K
  clear r1
  (try simp only [Act.put, lzT, lzZ, lzS])
  refine wpList_takeG (by kernel_rfl) (fun K hK => ?_)
  go_simp
  refine (message_May4 ⟨⟨bA, bn, bc⟩, ⟨⟨xA, xn, xc⟩, ⟨yA, yn, yc⟩⟩, ⟨⟨⟨cA, cn, cd⟩, ⟨dA, dn, dc⟩⟩, ⟨sA, sn, sc⟩⟩, ⟨zA, zn, zc⟩⟩ ⟨ki, fr, tt, di, b, hd, cc, ds⟩ D.nodes true _ (HMM.out.up hb01) HK4.out HBY.out).mono ?_
  rintro e w2 ⟨rfl, hb2⟩
  dsimp only
  refine hK _ _ ?_
  clear hK K
  (try simp only [Act.put, lzT, lzZ, lzS])
  have HW2 := Lib.hid (HW1.out.up hb2)
  have HB2 := Lib.hid (HB1.out.up hb2)
  have HR2 := Lib.hid (HR1.out.up hb2)
  have hb02 := bel_trans hb01 hb2
  clear hb2
  iterate 4 (((first | refine wpList_plain rfl (fun K hK => ?_) | refine wpList_takeG (by kernel_rfl) (fun K hK => ?_))); go_simp; refine hK _ _ ?_; clear hK K; (try simp only [Act.put, lzT, lzZ, lzS]))
  refine wpList_takeG (by kernel_rfl) (fun K hK => ?_)
  have r2 := HB2.out.box.2 2 _ rfl
  go_simp
  refine hK _ _ ?_
  clear hK K
  clear r2
  (try simp only [Act.put, lzT, lzZ, lzS])
  refine wpList_takeG (by kernel_rfl) (fun K hK => ?_)
  go_simp
  refine hK _ _ ?_
  clear hK K
  (try simp only [Act.put, lzT, lzZ, lzS])
  refine wpList_takeG (by kernel_rfl) (fun K hK => ?_)
  have r0 := HW2.out.box.2 0 _ rfl
  go_simp
  refine hK _ _ ?_
  clear hK K
  clear r0
  (try simp only [Act.put, lzT, lzZ, lzS])
  iterate 3 (((first | refine wpList_plain rfl (fun K hK => ?_) | refine wpList_takeG (by kernel_rfl) (fun K hK => ?_))); go_simp; refine hK _ _ ?_; clear hK K; (try simp only [Act.put, lzT, lzZ, lzS]))
  refine wpList_nil ?_
  rename_i Ka hKa
  refine hKa _ _ ?_
  clear hKa Ka
  have m0 := HB2.out.box.2 0 _ rfl
  go_upto_region 5 with (go_at_call 26; (with_reducible refine (worker_Takes4 ki _ HK4.out.in4).mono ?_); rintro e w3 ⟨rfl, hb3⟩)
  have HW3 := Lib.hid (HW2.out.up hb3)
  have HB3 := Lib.hid (HB2.out.up hb3)
  have HR3 := Lib.hid (HR2.out.up hb3)
  have hb03 := bel_trans hb02 hb3
  clear m0 hb3 HW2 HB2 HR2 HW1 HB1 HR1 HW0 HBM HR hb0 hb01 hb02
  obtain ⟨S, hSd⟩ : ∃ S : World → Prop, S = fun Q => Q.rangeAt gm 0 [.int .i64 ki, .int .i64 fr, .int .i64 tt, .int .i64 di, .int .i64 b.au, .int .i64 b.n, .slice bA bn bc, .int .i64 hd.au, .int .i64 hd.ro, .slice xA xn xc, .slice yA yn yc, .int .i64 cc.h.au, .int .i64 cc.h.ro, .slice cA cn cd, .slice dA dn dc, .int .i64 cc.di, .slice sA sn sc, .slice zA zn zc] := ⟨_, rfl⟩
  have hS1 : ∀ Q, S Q → Q.rangeAt gm 0 [.int .i64 ki, .int .i64 fr, .int .i64 tt, .int .i64 di, .int .i64 b.au, .int .i64 b.n, .slice bA bn bc, .int .i64 hd.au, .int .i64 hd.ro, .slice xA xn xc, .slice yA yn yc, .int .i64 cc.h.au, .int .i64 cc.h.ro, .slice cA cn cd, .slice dA dn dc, .int .i64 cc.di, .slice sA sn sc, .slice zA zn zc] := fun Q h => by rw [hSd] at h; exact h
  have hS : ∀ Q, Below w3.heap.size w3 Q → S Q := fun Q hQ => by rw [hSd]; exact (HB3.out.up hQ).rng
  have hS5 : ∀ Q, S Q → ∀ b0 b1 b2 b3 b4 b5 b6 b7 b8 : Value, S (((((((((Q.setCell ⟨gw, 0, none⟩ b0).setCell ⟨gw, 1, none⟩ b1).setCell ⟨gw, 2, none⟩ b2).setCell ⟨gw, 3, none⟩ b3).setCell ⟨gw, 4, none⟩ b4).setCell ⟨gw, 5, none⟩ b5).setCell ⟨gw, 6, none⟩ b6).setCell ⟨gw, 7, none⟩ b7).setCell ⟨gw, 8, none⟩ b8) := fun Q h b0 b1 b2 b3 b4 b5 b6 b7 b8 => by
    rw [hSd] at h ⊢
    have one : ∀ (Q : World) (o : Nat) (u : Value), Q.rangeAt gm 0 [.int .i64 ki, .int .i64 fr, .int .i64 tt, .int .i64 di, .int .i64 b.au, .int .i64 b.n, .slice bA bn bc, .int .i64 hd.au, .int .i64 hd.ro, .slice xA xn xc, .slice yA yn yc, .int .i64 cc.h.au, .int .i64 cc.h.ro, .slice cA cn cd, .slice dA dn dc, .int .i64 cc.di, .slice sA sn sc, .slice zA zn zc] → (Q.setCell ⟨gw, o, none⟩ u).rangeAt gm 0 [.int .i64 ki, .int .i64 fr, .int .i64 tt, .int .i64 di, .int .i64 b.au, .int .i64 b.n, .slice bA bn bc, .int .i64 hd.au, .int .i64 hd.ro, .slice xA xn xc, .slice yA yn yc, .int .i64 cc.h.au, .int .i64 cc.h.ro, .slice cA cn cd, .slice dA dn dc, .int .i64 cc.di, .slice sA sn sc, .slice zA zn zc] := fun Q o u h j v hv => (World.cell?_setCell_other _ _ _ _ (by intro e; simp only [Addr.mk.injEq] at e; omega)).trans (h j v hv)
    exact one _ _ _ (one _ _ _ (one _ _ _ (one _ _ _ (one _ _ _ (one _ _ _ (one _ _ _ (one _ _ _ (one _ _ _ h))))))))
  clear hSd
  have hbd : Below w3.heap.size w3 w3.drew := bel_drew (Below.refl _ _)
  refine wp_region_held_drew (S := S) (by kernel_rfl) (hS _ hbd) (fun hHeld => ?_)
  have hZ := hHeld
  generalize w3.drew = Z at *
  refine wpAnyH_takeD (i := 2) (d := (some 36)) (v := .agg ([.int .i64 ki, .int .i64 fr, .int .i64 tt, .int .i64 di, .int .i64 b.au, .int .i64 b.n, .slice bA bn bc, .int .i64 hd.au, .int .i64 hd.ro, .slice xA xn xc, .slice yA yn yc, .int .i64 cc.h.au, .int .i64 cc.h.ro, .slice cA cn cd, .slice dA dn dc, .int .i64 cc.di, .slice sA sn sc, .slice zA zn zc]).toArray) rfl rfl (by kernel_rfl) (by kernel_rfl) (by kernel_rfl) (fun _ _ _ h => h) (yieldsIf_load_mid (by rfl) 54 _ rfl gm 0 (by simp [Act.eval, Act.put]) ([.int .i64 ki, .int .i64 fr, .int .i64 tt, .int .i64 di, .int .i64 b.au, .int .i64 b.n, .slice bA bn bc, .int .i64 hd.au, .int .i64 hd.ro, .slice xA xn xc, .slice yA yn yc, .int .i64 cc.h.au, .int .i64 cc.h.ro, .slice cA cn cd, .slice dA dn dc, .int .i64 cc.di, .slice sA sn sc, .slice zA zn zc]) _ (hS1) Try.underlying54 (by rfl) (by kernel_rfl)) (by assumption) ?_
  simp only [Act.put, lzT, lzZ, lzS]
  refine wpAnyH_ready (rs := [0]) (by kernel_rfl) (by simp) ?_
  refine AllReadyH.cons (o := _) rfl (fun K hK => ?_) AllReadyH.nil
  have h9 := (HW3.out.up (hbd)).box
  have q0 := h9.2 0 _ rfl
  have q1 := h9.2 1 _ rfl
  have q2 := h9.2 2 _ rfl
  have q3 := h9.2 3 _ rfl
  have q4 := h9.2 4 _ rfl
  have q5 := h9.2 5 _ rfl
  have q6 := h9.2 6 _ rfl
  have q7 := h9.2 7 _ rfl
  have q8 := h9.2 8 _ rfl
  clear h9
  go_simp
  clear q0 q1 q2 q3 q4 q5 q6 q7 q8
  refine hK.out _ _ (hS _ (hbd)) (fun hHeld => ?_)
  clear hK K
  (try simp only [Act.put, lzT, lzZ, lzS])
  refine wpAnyH_ready (rs := [1]) (by kernel_rfl) (by simp) ?_
  refine AllReadyH.cons (o := _) rfl (fun K hK => ?_) AllReadyH.nil
  go_simp
  (go_at_call 22; refine (worker_Own ⟨⟨oA, on, oc⟩, ⟨tA, tn, tc⟩, ⟨eA, en, ec⟩, ⟨rA, rn, rc⟩⟩ D _ (HWK.out.up (bel_trans hb03 (hbd))) HS.out).mono ?_; rintro e w4 ⟨⟨⟨oA2, on2, oc2⟩, ⟨tA2, tn2, tc2⟩, ⟨eA2, en2, ec2⟩, ⟨rA2, rn2, rc2⟩⟩, he4, hO4, -, hb4⟩; simp only [WorkP.val] at he4; subst he4)
  have hb4' := bel_trans (hbd) hb4
  have HO4 := Lib.hid (hO4.mono (B' := w.heap.size) (Nat.le_trans hb03.size (hbd).size))
  refine hK.out _ _ (hS _ hb4') (fun hHeld => ?_)
  clear hK K
  (try simp only [Act.put, lzT, lzZ, lzS])
  refine wpAnyH_ready (rs := [3]) (by kernel_rfl) (by simp) ?_
  refine AllReadyH.cons (o := _) rfl (fun K hK => ?_) AllReadyH.nil
  go_simp
  (go_at_call 27; refine (HGOT.out ⟨⟨oA2, on2, oc2⟩, ⟨tA2, tn2, tc2⟩, ⟨eA2, en2, ec2⟩, ⟨rA2, rn2, rc2⟩⟩ _ (bel_trans hb03 (hb4')) HO4.out).mono ?_; rintro e w5 ⟨⟨⟨oA3, on3, oc3⟩, ⟨tA3, tn3, tc3⟩, ⟨eA3, en3, ec3⟩, ⟨rA3, rn3, rc3⟩⟩, A, n, c, he5, hO5, hM5, hb5⟩; simp only [WorkP.val] at he5; subst he5)
  have hb5' := bel_trans (hb4') hb5
  have HO5 := Lib.hid hO5
  have HM5 := Lib.hid (hM5.mono (B' := w.heap.size) (Nat.le_trans hb03.size (hb4').size))
  refine hK.out _ _ (hS _ hb5') (fun hHeld => ?_)
  clear hK K
  (try simp only [Act.put, lzT, lzZ, lzS])
  (refine wpAnyH_tk 4 (some 33) (v := ?_) rfl rfl ?_ ?_; rotate_left; (focus (intro wq hSw; clear hSw; go_simp; all_goals (with_reducible rfl))); simp only [Act.put, lzT, lzZ, lzS])
  (refine wpAnyH_tk 5 (some 38) (v := ?_) rfl rfl ?_ ?_; rotate_left; (focus (intro wq hSw; clear hSw; go_simp; all_goals (with_reducible rfl))); simp only [Act.put, lzT, lzZ, lzS])
  (refine wpAnyH_tk 6 (some 39) (v := ?_) rfl rfl ?_ ?_; rotate_left; (focus (intro wq hSw; clear hSw; go_simp; all_goals (with_reducible rfl))); simp only [Act.put, lzT, lzZ, lzS])
  refine wpAnyH_ready (rs := [7]) (by kernel_rfl) (by simp) ?_
  refine AllReadyH.cons (o := _) rfl (fun K hK => ?_) AllReadyH.nil
  have hVz := HW3.out.up (hb5')
  have qf := hVz.frozen
  have ql := hVz.lt
  have h9 := hVz.box
  have q0 := h9.2 0 _ rfl
  have q1 := h9.2 1 _ rfl
  have q2 := h9.2 2 _ rfl
  have q3 := h9.2 3 _ rfl
  have q4 := h9.2 4 _ rfl
  have q5 := h9.2 5 _ rfl
  have q6 := h9.2 6 _ rfl
  have q7 := h9.2 7 _ rfl
  have q8 := h9.2 8 _ rfl
  clear h9
  go_simp
  clear qf ql q0 q1 q2 q3 q4 q5 q6 q7 q8
  have hW9 := set9 hVz rfl (.int .i64 D'.id) (.int .i64 D'.nodes) (.int .i64 D'.next) (.slice oA3 on3 oc3) (.int .i64 D'.age) (.int .i64 D'.clock) (.slice tA3 tn3 tc3) (.slice eA3 en3 ec3) (.slice rA3 rn3 rc3)
  have htz := TKeep.sets9 hVz (.int .i64 D'.id) (.int .i64 D'.nodes) (.int .i64 D'.next) (.slice oA3 on3 oc3) (.int .i64 D'.age) (.int .i64 D'.clock) (.slice tA3 tn3 tc3) (.slice eA3 en3 ec3) (.slice rA3 rn3 rc3)
  have hs6 := hS5 _ (hS _ (hb5')) (.int .i64 D'.id) (.int .i64 D'.nodes) (.int .i64 D'.next) (.slice oA3 on3 oc3) (.int .i64 D'.age) (.int .i64 D'.clock) (.slice tA3 tn3 tc3) (.slice eA3 en3 ec3) (.slice rA3 rn3 rc3)
  have hb6 := bel_sets9 (bel_trans hb03 (hb5')) hgww (.int .i64 D'.id) (.int .i64 D'.nodes) (.int .i64 D'.next) (.slice oA3 on3 oc3) (.int .i64 D'.age) (.int .i64 D'.clock) (.slice tA3 tn3 tc3) (.slice eA3 en3 ec3) (.slice rA3 rn3 rc3)
  refine hK.out _ _ (hs6) (fun hHeld => ?_)
  clear hK K
  (try simp only [Act.put, lzT, lzZ, lzS])
  (refine wpAnyH_tk 8 (some 7) (v := ?_) rfl rfl ?_ ?_; rotate_left; (focus (intro wq hSw; clear hSw; go_simp; all_goals (with_reducible rfl))); simp only [Act.put, lzT, lzZ, lzS])
  refine wpAnyH_done (by kernel_rfl) ?_ _
  refine wp_world (fun V hV => ?_)
  rw [← hV] at hW9 htz hb6
  have hR6 := (HR3.out.up (hb5'))
  have HR6 : Hid (Blk V gr 27 [.int .i64 0, .int .i64 0, .int .i64 0, .slice none 0 0, .int .i64 0, .int .i64 0, .slice none 0 0, .slice none 0 0, .slice none 0 0]) := Lib.hid (by rw [hV]; exact Blk.sets9 hR6 (by omega) (.int .i64 D'.id) (.int .i64 D'.nodes) (.int .i64 D'.next) (.slice oA3 on3 oc3) (.int .i64 D'.age) (.int .i64 D'.clock) (.slice tA3 tn3 tc3) (.slice eA3 en3 ec3) (.slice rA3 rn3 rc3))
  have HW6 := Lib.hid hW9
  have HO6 := Lib.hid (HO5.out.tk htz twWork)
  have HM6 := Lib.hid (HM5.out.tk htz twWork)
  clear hV hR6 hW9 htz hs6 hHeld hZ hb5' hb5 hb4' hb4 hO4 hO5 hM5 hS hS1 hS5 HO4 HO5 HM5 HR3 HW3 HB3
  have h9 := HW6.out.box
  have q0 := h9.2 0 _ rfl
  have q1 := h9.2 1 _ rfl
  have q2 := h9.2 2 _ rfl
  have q3 := h9.2 3 _ rfl
  have q4 := h9.2 4 _ rfl
  have q5 := h9.2 5 _ rfl
  have q6 := h9.2 6 _ rfl
  have q7 := h9.2 7 _ rfl
  have q8 := h9.2 8 _ rfl
  have h8 := HR6.out.box
  have p0 := h8.2 0 _ rfl
  have p1 := h8.2 1 _ rfl
  have p2 := h8.2 2 _ rfl
  have p3 := h8.2 3 _ rfl
  have p4 := h8.2 4 _ rfl
  have p5 := h8.2 5 _ rfl
  have p6 := h8.2 6 _ rfl
  have p7 := h8.2 7 _ rfl
  have p8 := h8.2 8 _ rfl
  have hRl := HR6.out.lt
  have hRf := HR6.out.frozen
  have hWl := HW6.out.lt
  clear h9 h8
  go_wp2_with fail
  have hR7 := set9 HR6.out rfl (.int .i64 D'.id) (.int .i64 D'.nodes) (.int .i64 D'.next) (.slice oA3 on3 oc3) (.int .i64 D'.age) (.int .i64 D'.clock) (.slice tA3 tn3 tc3) (.slice eA3 en3 ec3) (.slice rA3 rn3 rc3)
  have htz := TKeep.sets9 HR6.out (.int .i64 D'.id) (.int .i64 D'.nodes) (.int .i64 D'.next) (.slice oA3 on3 oc3) (.int .i64 D'.age) (.int .i64 D'.clock) (.slice tA3 tn3 tc3) (.slice eA3 en3 ec3) (.slice rA3 rn3 rc3)
  have r_0 := (hR7.box).2 0 _ rfl; have r_1 := (hR7.box).2 1 _ rfl; have r_2 := (hR7.box).2 2 _ rfl; have r_3 := (hR7.box).2 3 _ rfl; have r_4 := (hR7.box).2 4 _ rfl; have r_5 := (hR7.box).2 5 _ rfl; have r_6 := (hR7.box).2 6 _ rfl; have r_7 := (hR7.box).2 7 _ rfl; have r_8 := (hR7.box).2 8 _ rfl
  exact bodyPost_ret (v := .tuple #[.agg #[.int .i64 D'.id, .int .i64 D'.nodes, .int .i64 D'.next, .slice oA3 on3 oc3, .int .i64 D'.age, .int .i64 D'.clock, .slice tA3 tn3 tc3, .slice eA3 en3 ec3, .slice rA3 rn3 rc3], .slice A n c, .int .i64 0]) (by simp [results, Try.results13, go_sem, r_0, r_1, r_2, r_3, r_4, r_5, r_6, r_7, r_8]) rfl ⟨⟨⟨oA3, on3, oc3⟩, ⟨tA3, tn3, tc3⟩, ⟨eA3, en3, ec3⟩, ⟨rA3, rn3, rc3⟩⟩, A, n, c, rfl, HO6.out.tk htz twWork, HM6.out.tk htz twWork, bel_sets9 hb6 (by omega) (.int .i64 D'.id) (.int .i64 D'.nodes) (.int .i64 D'.next) (.slice oA3 on3 oc3) (.int .i64 D'.age) (.int .i64 D'.clock) (.slice tA3 tn3 tc3) (.slice eA3 en3 ec3) (.slice rA3 rn3 rc3)⟩
end Go.Proofs.Ytgfakefcmbpboaa
