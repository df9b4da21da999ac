/- droverlaw13.step where a transaction is added. -/
import Derived.Test.YtgfakefcmbpboaaGreatSuWsf
import Derived.Test.YtgfakefcmbpboaaGreatSuWgj
import Derived.Test.YtgfakefcmbpboaaGreatSuWrh
import Derived.Test.YtgfakefcmbpboaaGreatSuWro
namespace Go.Proofs.YtgfakefcmbpboaaGreat
set_option linter.all false
set_option maxRecDepth 100000
open Go.RowKit

def zeroWD : WorkD := ⟨0, 0, 0, [], 0, 0, [], [], []⟩
theorem zeroW_R (w : World) : WorkR w nilP zeroWD :=
  ⟨⟨rfl, by simp [flat, zeroWD, nilP], by show 0 ≤ _; omega, fun h => absurd h (by show ¬ 0 < 0; omega)⟩, ⟨rfl, by show 0 ≤ _; omega, fun h => absurd h (by show ¬ 0 < 0; omega)⟩, ⟨rfl, by show 0 ≤ _; omega, fun h => absurd h (by show ¬ 0 < 0; omega)⟩, ⟨rfl, by show 0 ≤ _; omega, fun h => absurd h (by show ¬ 0 < 0; omega)⟩, Nat.le_refl _, by show 0 ≤ _; omega, Nat.le_refl _⟩
theorem zeroW_O (w : World) (B : Nat) : WorkO w B nilP zeroWD := ⟨OwnX.nil _ _, OwnWs.nil _ _, OwnHs.nil _ _, OwnI.nil _ _⟩
theorem zeroW_big : BigD zeroWD := ⟨by decide, ⟨by decide, fun x h => by simp [zeroWD] at h⟩, ⟨by decide, fun x h => by simp [zeroWD] at h⟩, by decide⟩
theorem tk_belB {T : TypeId} {a b c : World} (h : TKeep T a b) (k : Below a.heap.size b c) : TKeep T a c := fun q cur t ht hq => (k.block q (Array.getElem?_eq_some_iff.1 hq).1).trans (h q cur t ht hq)
open Go.RowKit

set_option maxHeartbeats 8000000 in
theorem ref13_Take_no (P : WorkP) (D : WorkD) (Pm : MsgP) (M : MsgD) (w : World) (h : WorkR w P D) (hs : BigD D) (hp : MsgR w Pm M) (hk : TakesK M.ki) (hn : ¬ (msgB M D.nodes = true ∧ M.tt = D.id)) :
    Calls Tryz.prog 49 #[P.val D, M18 Pm M] w fun e w' => ∃ gs, e = .returned (.tuple #[.pointer (some ⟨gs, 0, none⟩), .int .i64 1]) ∧ Below w.heap.size w w' := by
  obtain ⟨⟨oA, on, oc⟩, ⟨tA, tn, tc⟩, ⟨eA, en, ec⟩, ⟨rA, rn, rc⟩⟩ := P
  obtain ⟨⟨bA, bn, bc⟩, ⟨⟨xA, xn, xc⟩, ⟨yA, yn, yc⟩⟩, ⟨⟨⟨cA, cn, cd⟩, ⟨dA, dn, dc⟩⟩, ⟨sA, sn, sc⟩⟩, ⟨zA, zn, zc⟩⟩ := Pm
  obtain ⟨ki, fr, tt, di, b, hd, cc, ds⟩ := M
  have HWK := ħ h
  have HMM := ħ hp
  have HK4 := ħ hk
  have HS := ħ hs
  dsimp only at hk hn
  obtain ⟨yb, hyb⟩ : ∃ y, msgB ⟨ki, fr, tt, di, b, hd, cc, ds⟩ D.nodes = y := ⟨_, rfl⟩
  rw [hyb] at hn
  have HBY := ħ hyb
  have HN := ħ hn
  clear h hp hk hyb hn hs
  show Calls Tryz.prog 49 #[.agg #[.int .i64 D.id, .int .i64 D.nodes, .int .i64 D.next, .slice oA on oc, .int .i64 D.age, .int .i64 D.clock, .slice tA tn tc, .slice eA en ec, .slice rA rn rc], .agg #[.int .i64 ki, .int .i64 fr, .int .i64 tt, .int .i64 di, .int .i64 b.au, .int .i64 b.n, .slice bA bn bc, .int .i64 hd.au, .int .i64 hd.ro, .slice xA xn xc, .slice yA yn yc, .int .i64 cc.h.au, .int .i64 cc.h.ro, .slice cA cn cd, .slice dA dn dc, .int .i64 cc.di, .slice sA sn sc, .slice zA zn zc]] w _
  go_enter Tryz.func49, Tryz.ntmps49
  go_upto_region 1 with fail
  refine wp_world (fun W hW => ?_)
  have HA0 : Hid (Blk W w.heap.size 27 [.int .i64 D.id, .int .i64 D.nodes, .int .i64 D.next, .slice oA on oc, .int .i64 D.age, .int .i64 D.clock, .slice tA tn tc, .slice eA en ec, .slice rA rn rc]) := ħ (by rw [hW]; exact (Blk.new w 27 [.int .i64 D.id, .int .i64 D.nodes, .int .i64 D.next, .slice oA on oc, .int .i64 D.age, .int .i64 D.clock, .slice tA tn tc, .slice eA en ec, .slice rA rn rc]).up (belA))
  have HB0 : Hid (Blk W (w.heap.size + 1) 49 [.int .i64 ki, .int .i64 fr, .int .i64 tt, .int .i64 di, .int .i64 b.au, .int .i64 b.n, .slice bA bn bc, .int .i64 hd.au, .int .i64 hd.ro, .slice xA xn xc, .slice yA yn yc, .int .i64 cc.h.au, .int .i64 cc.h.ro, .slice cA cn cd, .slice dA dn dc, .int .i64 cc.di, .slice sA sn sc, .slice zA zn zc]) := ħ (by rw [hW]; exact Blk.new1 w 27 49 [.int .i64 D.id, .int .i64 D.nodes, .int .i64 D.next, .slice oA on oc, .int .i64 D.age, .int .i64 D.clock, .slice tA tn tc, .slice eA en ec, .slice rA rn rc] [.int .i64 ki, .int .i64 fr, .int .i64 tt, .int .i64 di, .int .i64 b.au, .int .i64 b.n, .slice bA bn bc, .int .i64 hd.au, .int .i64 hd.ro, .slice xA xn xc, .slice yA yn yc, .int .i64 cc.h.au, .int .i64 cc.h.ro, .slice cA cn cd, .slice dA dn dc, .int .i64 cc.di, .slice sA sn sc, .slice zA zn zc])
  have hbW : Below w.heap.size w W := by rw [hW]; exact bel_alloc (bel_alloc (Below.refl _ _))
  clear hW
  have hql := HA0.out.lt
  have hqb := HA0.out.box
  have q0 := hqb.2 0 _ rfl; have q1 := hqb.2 1 _ rfl; have q2 := hqb.2 2 _ rfl; have q3 := hqb.2 3 _ rfl; have q4 := hqb.2 4 _ rfl; have q5 := hqb.2 5 _ rfl; have q6 := hqb.2 6 _ rfl; have q7 := hqb.2 7 _ rfl; have q8 := hqb.2 8 _ rfl
  clear hqb
  go_upto_region 2 with (go_at_call 17; refine (ref0_CopyWorker ⟨⟨oA, on, oc⟩, ⟨tA, tn, tc⟩, ⟨eA, en, ec⟩, ⟨rA, rn, rc⟩⟩ D _ (HWK.out.up hbW) HS.out).mono ?_; rintro e w1 ⟨⟨⟨oA2, on2, oc2⟩, ⟨tA2, tn2, tc2⟩, ⟨eA2, en2, ec2⟩, ⟨rA2, rn2, rc2⟩⟩, he1, hO1, hb1⟩; simp only [WorkP.val] at he1; subst he1)
  clear q0 q1 q2 q3 q4 q5 q6 q7 q8 hql
  refine wp_world (fun W2 hW2 => ?_)
  have HG : Hid (Blk W2 w1.heap.size 70 [.int .i64 D.id, .int .i64 D.nodes, .int .i64 D.next, .slice oA2 on2 oc2, .int .i64 D.age, .int .i64 D.clock, .slice tA2 tn2 tc2, .slice eA2 en2 ec2, .slice rA2 rn2 rc2, .slice none 0 0]) := ħ (by rw [hW2]; exact Blk.new w1 70 [.int .i64 D.id, .int .i64 D.nodes, .int .i64 D.next, .slice oA2 on2 oc2, .int .i64 D.age, .int .i64 D.clock, .slice tA2 tn2 tc2, .slice eA2 en2 ec2, .slice rA2 rn2 rc2, .slice none 0 0])
  have hb2 : Below w1.heap.size w1 W2 := by rw [hW2]; exact bel_alloc (Below.refl _ _)
  clear hW2
  obtain ⟨gs, hgs⟩ : ∃ g, g = w1.heap.size := ⟨_, rfl⟩
  obtain ⟨gm, hgm⟩ : ∃ g, g = w.heap.size + 1 := ⟨_, rfl⟩
  obtain ⟨gw, hgw⟩ : ∃ g, g = w.heap.size := ⟨_, rfl⟩
  have hE : (Value.pointer (some ⟨w.heap.size, 0, none⟩)) = .pointer (some ⟨gw, 0, none⟩) := by rw [hgw]
  have hz1 : w.heap.size + 2 ≤ w1.heap.size := by have := (HB0.out.up hb1).lt; omega
  have HW0 : Hid (Blk W2 gw 27 [.int .i64 D.id, .int .i64 D.nodes, .int .i64 D.next, .slice oA on oc, .int .i64 D.age, .int .i64 D.clock, .slice tA tn tc, .slice eA en ec, .slice rA rn rc]) := ħ (by rw [hgw]; exact (HA0.out.up hb1).up hb2)
  have HBM : Hid (Blk W2 gm 49 [.int .i64 ki, .int .i64 fr, .int .i64 tt, .int .i64 di, .int .i64 b.au, .int .i64 b.n, .slice bA bn bc, .int .i64 hd.au, .int .i64 hd.ro, .slice xA xn xc, .slice yA yn yc, .int .i64 cc.h.au, .int .i64 cc.h.ro, .slice cA cn cd, .slice dA dn dc, .int .i64 cc.di, .slice sA sn sc, .slice zA zn zc]) := ħ (by rw [hgm]; exact (HB0.out.up hb1).up hb2)
  have HO2 := ħ ((hO1.mono (B' := w.heap.size) hbW.size).up hb2)
  have hb0 : Below w.heap.size w W2 := bel_trans (bel_trans hbW hb1) hb2
  rw [← hgs] at HG ⊢
  rw [← hgm]
  try simp only [hE]
  have hgmr : gm < gs := by omega
  have hgwm : gw < gm := by omega
  have hgww : w.heap.size ≤ gw := by omega
  clear hgs hgm hgw hE HA0 HB0 hbW hb1 hb2 hO1 hz1
  cases yb
  · skip
    refine wp_region_list ?_
    simp only [List.append_eq, List.append, List.cons_append, List.nil_append, List.toList_toArray]
    refine wpList_load_mid rfl 49 _ rfl gm 0 (by simp [Act.eval, Act.put]) [.int .i64 ki, .int .i64 fr, .int .i64 tt, .int .i64 di, .int .i64 b.au, .int .i64 b.n, .slice bA bn bc, .int .i64 hd.au, .int .i64 hd.ro, .slice xA xn xc, .slice yA yn yc, .int .i64 cc.h.au, .int .i64 cc.h.ro, .slice cA cn cd, .slice dA dn dc, .int .i64 cc.di, .slice sA sn sc, .slice zA zn zc] _ HBM.out.rng Tryz.underlying49 (by rfl) (by kernel_rfl) ?_
    (try simp only [lz, List.toList_toArray])
    refine wpList_plain rfl (fun K hK => ?_)
    go_simp
    refine hK _ _ ?_
    clear hK K
    (try simp only [lz])
    refine wpList_plain rfl (fun K hK => ?_)
    have r1 := HW0.out.box.2 1 _ rfl
    go_simp
    refine hK _ _ ?_
    clear hK K
    clear r1
    (try simp only [lz])
    refine wpList_plain rfl (fun K hK => ?_)
    go_simp
    refine (ref4_Message4 ⟨⟨bA, bn, bc⟩, ⟨⟨xA, xn, xc⟩, ⟨yA, yn, yc⟩⟩, ⟨⟨⟨cA, cn, cd⟩, ⟨dA, dn, dc⟩⟩, ⟨sA, sn, sc⟩⟩, ⟨zA, zn, zc⟩⟩ ⟨ki, fr, tt, di, b, hd, cc, ds⟩ D.nodes false _ (HMM.out.up hb0) HK4.out HBY.out).mono ?_
    rintro e w3 ⟨rfl, hb3⟩
    dsimp only
    refine hK _ _ ?_
    clear hK K
    (try simp only [lz])
    have HW3 := ħ (HW0.out.up hb3)
    have HB3 := ħ (HBM.out.up hb3)
    have HG3 := ħ (HG.out.up hb3)
    have HO3 := ħ (HO2.out.up hb3)
    have hb03 := bel_trans hb0 hb3
    clear hb3 HW0 HBM HG HO2 hb0
    iterate 2 ((refine wpList_plain rfl (fun K hK => ?_)); go_simp; refine hK _ _ ?_; clear hK K; (try simp only [lz]))
    refine wpList_skipG (by kernel_rfl) ?_
    (try simp only [lz])
    refine wpList_skipG (by kernel_rfl) ?_
    (try simp only [lz])
    refine wpList_skipG (by kernel_rfl) ?_
    (try simp only [lz])
    refine wpList_skipG (by kernel_rfl) ?_
    (try simp only [lz])
    refine wpList_skipG (by kernel_rfl) ?_
    (try simp only [lz])
    refine wpList_plain rfl (fun K hK => ?_)
    go_simp
    refine hK _ _ ?_
    clear hK K
    (try simp only [lz])
    refine wpList_nil ?_
    rename_i Ka hKa
    refine hKa _ _ ?_
    clear hKa Ka
    go_wp2_with fail
    exact bodyPost_ret (v := .tuple #[.pointer (some ⟨gs, 0, none⟩), .int .i64 1]) (by simp [results, Tryz.results49, go_sem]) rfl (by first | exact ⟨gs, rfl, hb03⟩ | exact ⟨⟨gs, rfl⟩, hb03⟩)
  refine wp_region_list ?_
  simp only [List.append_eq, List.append, List.cons_append, List.nil_append, List.toList_toArray]
  refine wpList_load_mid rfl 49 _ rfl gm 0 (by simp [Act.eval, Act.put]) [.int .i64 ki, .int .i64 fr, .int .i64 tt, .int .i64 di, .int .i64 b.au, .int .i64 b.n, .slice bA bn bc, .int .i64 hd.au, .int .i64 hd.ro, .slice xA xn xc, .slice yA yn yc, .int .i64 cc.h.au, .int .i64 cc.h.ro, .slice cA cn cd, .slice dA dn dc, .int .i64 cc.di, .slice sA sn sc, .slice zA zn zc] _ HBM.out.rng Tryz.underlying49 (by rfl) (by kernel_rfl) ?_
  (try simp only [lz, List.toList_toArray])
  refine wpList_plain rfl (fun K hK => ?_)
  go_simp
  refine hK _ _ ?_
  clear hK K
  (try simp only [lz])
  refine wpList_plain rfl (fun K hK => ?_)
  have r1 := HW0.out.box.2 1 _ rfl
  go_simp
  refine hK _ _ ?_
  clear hK K
  clear r1
  (try simp only [lz])
  refine wpList_plain rfl (fun K hK => ?_)
  go_simp
  refine (ref4_Message4 ⟨⟨bA, bn, bc⟩, ⟨⟨xA, xn, xc⟩, ⟨yA, yn, yc⟩⟩, ⟨⟨⟨cA, cn, cd⟩, ⟨dA, dn, dc⟩⟩, ⟨sA, sn, sc⟩⟩, ⟨zA, zn, zc⟩⟩ ⟨ki, fr, tt, di, b, hd, cc, ds⟩ D.nodes true _ (HMM.out.up hb0) HK4.out HBY.out).mono ?_
  rintro e w3 ⟨rfl, hb3⟩
  dsimp only
  refine hK _ _ ?_
  clear hK K
  (try simp only [lz])
  have HW3 := ħ (HW0.out.up hb3)
  have HB3 := ħ (HBM.out.up hb3)
  have HG3 := ħ (HG.out.up hb3)
  have HO3 := ħ (HO2.out.up hb3)
  have hb03 := bel_trans hb0 hb3
  clear hb3 HW0 HBM HG HO2 hb0
  iterate 2 ((refine wpList_plain rfl (fun K hK => ?_)); go_simp; refine hK _ _ ?_; clear hK K; (try simp only [lz]))
  have ht : ¬ tt = D.id := fun e => HN.out ⟨rfl, e⟩
  have hd1 : (tt != D.id) = true := by simpa using ht
  refine wpList_takeG (by kernel_rfl) (fun K hK => ?_)
  go_simp
  refine hK _ _ ?_
  clear hK K
  (try simp only [lz])
  refine wpList_takeG (by kernel_rfl) (fun K hK => ?_)
  have r2 := HB3.out.box.2 2 _ rfl
  go_simp
  refine hK _ _ ?_
  clear hK K
  clear r2
  (try simp only [lz])
  refine wpList_takeG (by kernel_rfl) (fun K hK => ?_)
  go_simp
  refine hK _ _ ?_
  clear hK K
  (try simp only [lz])
  refine wpList_takeG (by kernel_rfl) (fun K hK => ?_)
  have r0 := HW3.out.box.2 0 _ rfl
  go_simp
  refine hK _ _ ?_
  clear hK K
  clear r0
  (try simp only [lz])
  iterate 2 (((first | refine wpList_plain rfl (fun K hK => ?_) | refine wpList_takeG (by kernel_rfl) (fun K hK => ?_))); go_simp; refine hK _ _ ?_; clear hK K; (try simp only [lz]))
  refine wpList_nil ?_
  rename_i Ka hKa
  refine hKa _ _ ?_
  clear hKa Ka
  go_wp2_with fail
  exact bodyPost_ret (v := .tuple #[.pointer (some ⟨gs, 0, none⟩), .int .i64 1]) (by simp [results, Tryz.results49, go_sem]) rfl (by first | exact ⟨gs, rfl, hb03⟩ | exact ⟨⟨gs, rfl⟩, hb03⟩)
end Go.Proofs.YtgfakefcmbpboaaGreat
