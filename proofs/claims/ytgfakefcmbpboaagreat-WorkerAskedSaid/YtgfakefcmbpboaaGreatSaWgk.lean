/- droverlaw13.step where a transaction is added. -/
import Derived.Test.YtgfakefcmbpboaaGreatSaWsf
import Derived.Test.YtgfakefcmbpboaaGreatSaWgj
import Derived.Test.YtgfakefcmbpboaaGreatSaWrh
import Derived.Test.YtgfakefcmbpboaaGreatSaWro
namespace Go.Proofs.YtgfakefcmbpboaaGreat
open Go.RowKit
set_option linter.unusedSimpArgs false
set_option linter.unusedVariables false

def zeroWD : WorkD := ⟨0, 0, 0, [], 0, 0, [], [], []⟩
theorem zeroW_R (w : World) : WorkR w nilP zeroWD :=
  ⟨⟨rfl, by simp [flat, zeroWD, nilP], by show 0 ≤ _; omega, fun h => absurd h (by show ¬ 0 < 0; omega)⟩, ⟨rfl, by show 0 ≤ _; omega, fun h => absurd h (by show ¬ 0 < 0; omega)⟩, ⟨rfl, by show 0 ≤ _; omega, fun h => absurd h (by show ¬ 0 < 0; omega)⟩, ⟨rfl, by show 0 ≤ _; omega, fun h => absurd h (by show ¬ 0 < 0; omega)⟩, Nat.le_refl _, by show 0 ≤ _; omega, Nat.le_refl _⟩
theorem zeroW_O (w : World) (B : Nat) : WorkO w B nilP zeroWD := ⟨OwnX.nil _ _, OwnWs.nil _ _, OwnHs.nil _ _, OwnI.nil _ _⟩
theorem zeroW_big : BigD zeroWD := ⟨by decide, ⟨by decide, fun x h => by simp [zeroWD] at h⟩, ⟨by decide, fun x h => by simp [zeroWD] at h⟩, by decide⟩
theorem tk_belB {T : TypeId} {a b c : World} (h : TKeep T a b) (k : Below a.heap.size b c) : TKeep T a c := fun q cur t ht hq => (k.block q (Array.getElem?_eq_some_iff.1 hq).1).trans (h q cur t ht hq)
theorem OwnHs.tkR {w w' : World} {B : Nat} {v : Value} {l : List HeldD} (h : OwnHs w B v l) (hk : TKeep 70 w w') : OwnHs w' B v l := by
  obtain ⟨ps, h1, h2, h3⟩ := h
  exact ⟨ps, own_tk h1 hk (by decide), h2, fun j hj => own_tk (h3 j hj) hk (by decide)⟩
theorem OwnWs.tkR {w w' : World} {B : Nat} {v : Value} {l : List WaitD} (h : OwnWs w B v l) (hk : TKeep 70 w w') : OwnWs w' B v l := by
  obtain ⟨ps, h1, h2, h3⟩ := h
  exact ⟨ps, own_tk h1 hk (by decide), h2, fun j hj => own_tk (h3 j hj) hk (by decide)⟩
theorem WorkO.tkR {w w' : World} {B : Nat} {P : WorkP} {D : WorkD} (h : WorkO w B P D) (hk : TKeep 70 w w') : WorkO w' B P D := ⟨own_tk h.op hk (by decide), h.wa.tkR hk, h.he.tkR hk, own_tk h.re hk (by decide)⟩
end Go.Proofs.YtgfakefcmbpboaaGreat
namespace Go.Proofs.YtgfakefcmbpboaaGreat
open Go.RowKit
set_option linter.unusedSimpArgs false
set_option linter.unusedVariables false

theorem OwnT.tkR {w w' : World} {B : Nat} {v : Value} {ps : List MsgP} {l : List MsgD} (h : OwnT dMsg w B v ps l) (hk : TKeep 70 w w') : OwnT dMsg w' B v ps l := ⟨own_tk h.1 hk (by decide), h.2.1, fun j hj => let z : OwnM w B _ _ := h.2.2 j hj; (⟨own_tk z.b hk (by decide), own_tk z.h1 hk (by decide), own_tk z.h2 hk (by decide), own_tk z.c1 hk (by decide), own_tk z.c2 hk (by decide), own_tk z.c3 hk (by decide), own_tk z.ds hk (by decide)⟩ : OwnM w' B _ _)⟩
theorem hth_ins {l : List HeldD} {p : Nat} {x : HeldD} (hp : p ≤ l.length) (i : Nat) : hth (insAt l p x) i = if i < p then hth l i else if i = p then x else hth l (i - 1) := by
  have hlt : (l.take p).length = p := by rw [List.length_take]; omega
  unfold insAt hth
  simp only [List.getD_eq_getElem?_getD]
  by_cases h1 : i < p
  · rw [if_pos h1, List.getElem?_append_left (by omega), List.getElem?_take, if_pos h1]
  · rw [if_neg h1, List.getElem?_append_right (by omega), hlt]
    by_cases h2 : i = p
    · rw [if_pos h2, h2, Nat.sub_self]; rfl
    · rw [if_neg h2, show i - p = (i - p - 1) + 1 by omega, List.getElem?_cons_succ, List.getElem?_drop, show p + (i - p - 1) = i - 1 by omega]
theorem kposH_low {l : List HeldD} {d : Int} {i : Nat} (h : i < kposH l d) : (hth l i).di < d := by
  have hl : kposH l d ≤ l.length := cnt_le _ _
  have hm := cnt_take (fun x : HeldD => ltI x.di d) l (hth l i) (by
    have e : hth l i = (l.take (kposH l d)).getD i default := by
      unfold hth; simp only [List.getD_eq_getElem?_getD, List.getElem?_take, if_pos h]
    rw [e]; exact getD_mem (by rw [List.length_take]; show i < min (kposH l d) _; omega))
  simpa [ltI] using hm
theorem kposH_high {l : List HeldD} (hs : SortedH l) {d : Int} (hk : khasH l d = false) {i : Nat} (h : kposH l d ≤ i) (hi : i < l.length) : d < (hth l i).di := by
  have h0 := cnt_stop (fun x : HeldD => ltI x.di d) l (by exact Nat.lt_of_le_of_lt h hi)
  have h1 : ¬ (hth l (kposH l d)).di < d := by
    intro g
    have : ltI (hth l (kposH l d)).di d = true := by simpa [ltI] using g
    rw [show ltI (hth l (kposH l d)).di d = false from h0] at this
    cases this
  have h2 : ¬ (hth l i).di = d := fun e => by have := (khasH_iff hs).2 ⟨i, hi, e⟩; rw [hk] at this; cases this
  rcases Nat.lt_or_ge (kposH l d) i with g | g
  · have := hs _ _ g hi
    simp only [ltI, decide_eq_true_eq] at this
    omega
  · have e : kposH l d = i := by omega
    rw [e] at h1; omega
theorem SortedH.ins {l : List HeldD} (hs : SortedH l) {d : Int} {b : BatchD} (hk : khasH l d = false) : SortedH (insAt l (kposH l d) ⟨d, b⟩) := by
  have hp : kposH l d ≤ l.length := cnt_le _ _
  intro i j hij hj
  rw [insAt_len hp] at hj
  rw [hth_ins hp, hth_ins hp]
  simp only [ltI, decide_eq_true_eq]
  by_cases h1 : i < kposH l d
  · rw [if_pos h1]
    have a1 := kposH_low h1
    by_cases h2 : j < kposH l d
    · rw [if_pos h2]
      have := hs i j hij (by omega)
      simpa [ltI] using this
    · rw [if_neg h2]
      by_cases h3 : j = kposH l d
      · rw [if_pos h3]; exact a1
      · rw [if_neg h3]
        have := kposH_high hs hk (i := j - 1) (by omega) (by omega)
        omega
  · rw [if_neg h1]
    by_cases h2 : i = kposH l d
    · rw [if_pos h2, if_neg (by omega), if_neg (by omega)]
      exact kposH_high hs hk (by omega) (by omega)
    · rw [if_neg h2, if_neg (by omega), if_neg (by omega)]
      have := hs (i - 1) (j - 1) (by omega) (by omega)
      simpa [ltI] using this
theorem khasH_ins {l : List HeldD} (hs : SortedH l) {d : Int} {b : BatchD} (hk : khasH l d = false) : khasH (insAt l (kposH l d) ⟨d, b⟩) d = true := by
  have hp : kposH l d ≤ l.length := cnt_le _ _
  refine (khasH_iff (hs.ins hk)).2 ⟨kposH l d, by rw [insAt_len hp]; omega, ?_⟩
  rw [hth_ins hp, if_neg (by omega), if_pos rfl]
theorem findI_yes {l : List HeldD} {d : Int} (h : khasH l d = true) : decide (findI l d ≥ 0) = true := by unfold findI; rw [if_pos h]; simp
theorem findI_no {l : List HeldD} {d : Int} (h : khasH l d = false) : decide (findI l d ≥ 0) = false := by unfold findI; rw [if_neg (by rw [h]; simp)]; simp
set_option maxRecDepth 100000 in
set_option maxHeartbeats 8000000 in
theorem ref13_Take_no (P : WorkP) (D : WorkD) (Pm : MsgP) (M : MsgD) (w : World) (h : WorkR w P D) (hs : BigD D) (hp : MsgR w Pm M) (hk : TakesK M.ki) (hn : ¬ (msgB M D.nodes = true ∧ M.tt = D.id)) :
    Calls Tryz.prog 49 #[P.val D, M18 Pm M] w fun e w' => ∃ gs, e = .returned (.tuple #[.pointer (some ⟨gs, 0, none⟩), .int .i64 1]) ∧ Below w.heap.size w w' := by
  obtain ⟨⟨oA, on, oc⟩, ⟨tA, tn, tc⟩, ⟨eA, en, ec⟩, ⟨rA, rn, rc⟩⟩ := P
  obtain ⟨⟨bA, bn, bc⟩, ⟨⟨xA, xn, xc⟩, ⟨yA, yn, yc⟩⟩, ⟨⟨⟨cA, cn, cd⟩, ⟨dA, dn, dc⟩⟩, ⟨sA, sn, sc⟩⟩, ⟨zA, zn, zc⟩⟩ := Pm
  obtain ⟨ki, fr, tt, di, b, hd, cc, ds⟩ := M
  have HWK := Lib.hid h
  have HMM := Lib.hid hp
  have HK4 := Lib.hid hk
  have HS := Lib.hid hs
  dsimp only at hk hn
  obtain ⟨yb, hyb⟩ : ∃ y, msgB ⟨ki, fr, tt, di, b, hd, cc, ds⟩ D.nodes = y := ⟨_, rfl⟩
  rw [hyb] at hn
  have HBY := Lib.hid hyb
  have HN := Lib.hid hn
  clear h hp hk hyb hn hs
  show Calls Tryz.prog 49 #[.agg #[.int .i64 D.id, .int .i64 D.nodes, .int .i64 D.next, .slice oA on oc, .int .i64 D.age, .int .i64 D.clock, .slice tA tn tc, .slice eA en ec, .slice rA rn rc], .agg #[.int .i64 ki, .int .i64 fr, .int .i64 tt, .int .i64 di, .int .i64 b.au, .int .i64 b.n, .slice bA bn bc, .int .i64 hd.au, .int .i64 hd.ro, .slice xA xn xc, .slice yA yn yc, .int .i64 cc.h.au, .int .i64 cc.h.ro, .slice cA cn cd, .slice dA dn dc, .int .i64 cc.di, .slice sA sn sc, .slice zA zn zc]] w _
  go_enter Tryz.func49, Tryz.ntmps49
  go_upto_region 1 with fail
  refine wp_world (fun W hW => ?_)
  have HA0 : Hid (Blk W w.heap.size 27 [.int .i64 D.id, .int .i64 D.nodes, .int .i64 D.next, .slice oA on oc, .int .i64 D.age, .int .i64 D.clock, .slice tA tn tc, .slice eA en ec, .slice rA rn rc]) := Lib.hid (by rw [hW]; exact (Blk.new w 27 [.int .i64 D.id, .int .i64 D.nodes, .int .i64 D.next, .slice oA on oc, .int .i64 D.age, .int .i64 D.clock, .slice tA tn tc, .slice eA en ec, .slice rA rn rc]).up (belA))
  have HB0 : Hid (Blk W (w.heap.size + 1) 49 [.int .i64 ki, .int .i64 fr, .int .i64 tt, .int .i64 di, .int .i64 b.au, .int .i64 b.n, .slice bA bn bc, .int .i64 hd.au, .int .i64 hd.ro, .slice xA xn xc, .slice yA yn yc, .int .i64 cc.h.au, .int .i64 cc.h.ro, .slice cA cn cd, .slice dA dn dc, .int .i64 cc.di, .slice sA sn sc, .slice zA zn zc]) := Lib.hid (by rw [hW]; exact Blk.new1 w 27 49 [.int .i64 D.id, .int .i64 D.nodes, .int .i64 D.next, .slice oA on oc, .int .i64 D.age, .int .i64 D.clock, .slice tA tn tc, .slice eA en ec, .slice rA rn rc] [.int .i64 ki, .int .i64 fr, .int .i64 tt, .int .i64 di, .int .i64 b.au, .int .i64 b.n, .slice bA bn bc, .int .i64 hd.au, .int .i64 hd.ro, .slice xA xn xc, .slice yA yn yc, .int .i64 cc.h.au, .int .i64 cc.h.ro, .slice cA cn cd, .slice dA dn dc, .int .i64 cc.di, .slice sA sn sc, .slice zA zn zc])
  have hbW : Below w.heap.size w W := by rw [hW]; exact bel_alloc (bel_alloc (Below.refl _ _))
  clear hW
  have hql := HA0.out.lt
  have hqb := HA0.out.box
  have q0 := hqb.2 0 _ rfl; have q1 := hqb.2 1 _ rfl; have q2 := hqb.2 2 _ rfl; have q3 := hqb.2 3 _ rfl; have q4 := hqb.2 4 _ rfl; have q5 := hqb.2 5 _ rfl; have q6 := hqb.2 6 _ rfl; have q7 := hqb.2 7 _ rfl; have q8 := hqb.2 8 _ rfl
  clear hqb
  go_upto_region 2 with (go_at_call 17; refine (ref0_CopyWorker ⟨⟨oA, on, oc⟩, ⟨tA, tn, tc⟩, ⟨eA, en, ec⟩, ⟨rA, rn, rc⟩⟩ D _ (HWK.out.up hbW) HS.out).mono ?_; rintro e w1 ⟨⟨⟨oA2, on2, oc2⟩, ⟨tA2, tn2, tc2⟩, ⟨eA2, en2, ec2⟩, ⟨rA2, rn2, rc2⟩⟩, he1, hO1, hb1⟩; simp only [WorkP.val] at he1; subst he1)
  clear q0 q1 q2 q3 q4 q5 q6 q7 q8 hql
  refine wp_world (fun W2 hW2 => ?_)
  have HG : Hid (Blk W2 w1.heap.size 70 [.int .i64 D.id, .int .i64 D.nodes, .int .i64 D.next, .slice oA2 on2 oc2, .int .i64 D.age, .int .i64 D.clock, .slice tA2 tn2 tc2, .slice eA2 en2 ec2, .slice rA2 rn2 rc2, .slice none 0 0]) := Lib.hid (by rw [hW2]; exact Blk.new w1 70 [.int .i64 D.id, .int .i64 D.nodes, .int .i64 D.next, .slice oA2 on2 oc2, .int .i64 D.age, .int .i64 D.clock, .slice tA2 tn2 tc2, .slice eA2 en2 ec2, .slice rA2 rn2 rc2, .slice none 0 0])
  have hb2 : Below w1.heap.size w1 W2 := by rw [hW2]; exact bel_alloc (Below.refl _ _)
  clear hW2
  obtain ⟨gs, hgs⟩ : ∃ g, g = w1.heap.size := ⟨_, rfl⟩
  obtain ⟨gm, hgm⟩ : ∃ g, g = w.heap.size + 1 := ⟨_, rfl⟩
  obtain ⟨gw, hgw⟩ : ∃ g, g = w.heap.size := ⟨_, rfl⟩
  have hE : (Value.pointer (some ⟨w.heap.size, 0, none⟩)) = .pointer (some ⟨gw, 0, none⟩) := by rw [hgw]
  have hz1 : w.heap.size + 2 ≤ w1.heap.size := by have := (HB0.out.up hb1).lt; omega
  have HW0 : Hid (Blk W2 gw 27 [.int .i64 D.id, .int .i64 D.nodes, .int .i64 D.next, .slice oA on oc, .int .i64 D.age, .int .i64 D.clock, .slice tA tn tc, .slice eA en ec, .slice rA rn rc]) := Lib.hid (by rw [hgw]; exact (HA0.out.up hb1).up hb2)
  have HBM : Hid (Blk W2 gm 49 [.int .i64 ki, .int .i64 fr, .int .i64 tt, .int .i64 di, .int .i64 b.au, .int .i64 b.n, .slice bA bn bc, .int .i64 hd.au, .int .i64 hd.ro, .slice xA xn xc, .slice yA yn yc, .int .i64 cc.h.au, .int .i64 cc.h.ro, .slice cA cn cd, .slice dA dn dc, .int .i64 cc.di, .slice sA sn sc, .slice zA zn zc]) := Lib.hid (by rw [hgm]; exact (HB0.out.up hb1).up hb2)
  have HO2 := Lib.hid ((hO1.mono (B' := w.heap.size) hbW.size).up hb2)
  have hb0 : Below w.heap.size w W2 := bel_trans (bel_trans hbW hb1) hb2
  rw [← hgs] at HG ⊢
  rw [← hgm]
  try simp only [hE]
  have hgmr : gm < gs := by omega
  have hgwm : gw < gm := by omega
  have hgww : w.heap.size ≤ gw := by omega
  clear hgs hgm hgw hE HA0 HB0 hbW hb1 hb2 hO1 hz1
  cases yb
  · skip
    refine wp_region_list ?_
    simp only [List.append_eq, List.append, List.cons_append, List.nil_append, List.toList_toArray]
    refine wpList_load_mid rfl 49 _ rfl gm 0 (by simp [Act.eval, Act.put]) [.int .i64 ki, .int .i64 fr, .int .i64 tt, .int .i64 di, .int .i64 b.au, .int .i64 b.n, .slice bA bn bc, .int .i64 hd.au, .int .i64 hd.ro, .slice xA xn xc, .slice yA yn yc, .int .i64 cc.h.au, .int .i64 cc.h.ro, .slice cA cn cd, .slice dA dn dc, .int .i64 cc.di, .slice sA sn sc, .slice zA zn zc] _ HBM.out.rng Tryz.underlying49 (by rfl) (by kernel_rfl) ?_
    (try simp only [Act.put, lzT, lzZ, lzS, List.toList_toArray])
    refine wpList_plain rfl (fun K hK => ?_)
    go_simp
    refine hK _ _ ?_
    clear hK K
    (try simp only [Act.put, lzT, lzZ, lzS])
    refine wpList_plain rfl (fun K hK => ?_)
    have r1 := HW0.out.box.2 1 _ rfl
    go_simp
    refine hK _ _ ?_
    clear hK K
    clear r1
    (try simp only [Act.put, lzT, lzZ, lzS])
    refine wpList_plain rfl (fun K hK => ?_)
    go_simp
    refine (ref4_Message4 ⟨⟨bA, bn, bc⟩, ⟨⟨xA, xn, xc⟩, ⟨yA, yn, yc⟩⟩, ⟨⟨⟨cA, cn, cd⟩, ⟨dA, dn, dc⟩⟩, ⟨sA, sn, sc⟩⟩, ⟨zA, zn, zc⟩⟩ ⟨ki, fr, tt, di, b, hd, cc, ds⟩ D.nodes false _ (HMM.out.up hb0) HK4.out HBY.out).mono ?_
    rintro e w3 ⟨rfl, hb3⟩
    dsimp only
    refine hK _ _ ?_
    clear hK K
    (try simp only [Act.put, lzT, lzZ, lzS])
    have HW3 := Lib.hid (HW0.out.up hb3)
    have HB3 := Lib.hid (HBM.out.up hb3)
    have HG3 := Lib.hid (HG.out.up hb3)
    have HO3 := Lib.hid (HO2.out.up hb3)
    have hb03 := bel_trans hb0 hb3
    clear hb3 HW0 HBM HG HO2 hb0
    iterate 2 ((refine wpList_plain rfl (fun K hK => ?_)); go_simp; refine hK _ _ ?_; clear hK K; (try simp only [Act.put, lzT, lzZ, lzS]))
    refine wpList_skipG (by kernel_rfl) ?_
    (try simp only [Act.put, lzT, lzZ, lzS])
    refine wpList_skipG (by kernel_rfl) ?_
    (try simp only [Act.put, lzT, lzZ, lzS])
    refine wpList_skipG (by kernel_rfl) ?_
    (try simp only [Act.put, lzT, lzZ, lzS])
    refine wpList_skipG (by kernel_rfl) ?_
    (try simp only [Act.put, lzT, lzZ, lzS])
    refine wpList_skipG (by kernel_rfl) ?_
    (try simp only [Act.put, lzT, lzZ, lzS])
    refine wpList_plain rfl (fun K hK => ?_)
    go_simp
    refine hK _ _ ?_
    clear hK K
    (try simp only [Act.put, lzT, lzZ, lzS])
    refine wpList_nil ?_
    rename_i Ka hKa
    refine hKa _ _ ?_
    clear hKa Ka
    go_wp2_with fail
    exact bodyPost_ret (v := .tuple #[.pointer (some ⟨gs, 0, none⟩), .int .i64 1]) (by simp [results, Tryz.results49, go_sem]) rfl (by first | exact ⟨gs, rfl, hb03⟩ | exact ⟨⟨gs, rfl⟩, hb03⟩)
  refine wp_region_list ?_
  simp only [List.append_eq, List.append, List.cons_append, List.nil_append, List.toList_toArray]
  refine wpList_load_mid rfl 49 _ rfl gm 0 (by simp [Act.eval, Act.put]) [.int .i64 ki, .int .i64 fr, .int .i64 tt, .int .i64 di, .int .i64 b.au, .int .i64 b.n, .slice bA bn bc, .int .i64 hd.au, .int .i64 hd.ro, .slice xA xn xc, .slice yA yn yc, .int .i64 cc.h.au, .int .i64 cc.h.ro, .slice cA cn cd, .slice dA dn dc, .int .i64 cc.di, .slice sA sn sc, .slice zA zn zc] _ HBM.out.rng Tryz.underlying49 (by rfl) (by kernel_rfl) ?_
  (try simp only [Act.put, lzT, lzZ, lzS, List.toList_toArray])
  refine wpList_plain rfl (fun K hK => ?_)
  go_simp
  refine hK _ _ ?_
  clear hK K
  (try simp only [Act.put, lzT, lzZ, lzS])
  refine wpList_plain rfl (fun K hK => ?_)
  have r1 := HW0.out.box.2 1 _ rfl
  go_simp
  refine hK _ _ ?_
  clear hK K
  clear r1
  (try simp only [Act.put, lzT, lzZ, lzS])
  refine wpList_plain rfl (fun K hK => ?_)
  go_simp
  refine (ref4_Message4 ⟨⟨bA, bn, bc⟩, ⟨⟨xA, xn, xc⟩, ⟨yA, yn, yc⟩⟩, ⟨⟨⟨cA, cn, cd⟩, ⟨dA, dn, dc⟩⟩, ⟨sA, sn, sc⟩⟩, ⟨zA, zn, zc⟩⟩ ⟨ki, fr, tt, di, b, hd, cc, ds⟩ D.nodes true _ (HMM.out.up hb0) HK4.out HBY.out).mono ?_
  rintro e w3 ⟨rfl, hb3⟩
  dsimp only
  refine hK _ _ ?_
  clear hK K
  (try simp only [Act.put, lzT, lzZ, lzS])
  have HW3 := Lib.hid (HW0.out.up hb3)
  have HB3 := Lib.hid (HBM.out.up hb3)
  have HG3 := Lib.hid (HG.out.up hb3)
  have HO3 := Lib.hid (HO2.out.up hb3)
  have hb03 := bel_trans hb0 hb3
  clear hb3 HW0 HBM HG HO2 hb0
  iterate 2 ((refine wpList_plain rfl (fun K hK => ?_)); go_simp; refine hK _ _ ?_; clear hK K; (try simp only [Act.put, lzT, lzZ, lzS]))
  have ht : ¬ tt = D.id := fun e => HN.out ⟨rfl, e⟩
  have hd1 : (tt != D.id) = true := by simpa using ht
  refine wpList_takeG (by kernel_rfl) (fun K hK => ?_)
  go_simp
  refine hK _ _ ?_
  clear hK K
  (try simp only [Act.put, lzT, lzZ, lzS])
  refine wpList_takeG (by kernel_rfl) (fun K hK => ?_)
  have r2 := HB3.out.box.2 2 _ rfl
  go_simp
  refine hK _ _ ?_
  clear hK K
  clear r2
  (try simp only [Act.put, lzT, lzZ, lzS])
  refine wpList_takeG (by kernel_rfl) (fun K hK => ?_)
  go_simp
  refine hK _ _ ?_
  clear hK K
  (try simp only [Act.put, lzT, lzZ, lzS])
  refine wpList_takeG (by kernel_rfl) (fun K hK => ?_)
  have r0 := HW3.out.box.2 0 _ rfl
  go_simp
  refine hK _ _ ?_
  clear hK K
  clear r0
  (try simp only [Act.put, lzT, lzZ, lzS])
  iterate 2 (((first | refine wpList_plain rfl (fun K hK => ?_) | refine wpList_takeG (by kernel_rfl) (fun K hK => ?_))); go_simp; refine hK _ _ ?_; clear hK K; (try simp only [Act.put, lzT, lzZ, lzS]))
  refine wpList_nil ?_
  rename_i Ka hKa
  refine hKa _ _ ?_
  clear hKa Ka
  go_wp2_with fail
  exact bodyPost_ret (v := .tuple #[.pointer (some ⟨gs, 0, none⟩), .int .i64 1]) (by simp [results, Tryz.results49, go_sem]) rfl (by first | exact ⟨gs, rfl, hb03⟩ | exact ⟨⟨gs, rfl⟩, hb03⟩)
set_option maxRecDepth 100000 in
set_option maxHeartbeats 8000000 in
theorem ref13_Take13 (P : WorkP) (D : WorkD) (Pm : MsgP) (M : MsgD) (w : World) (h : WorkR w P D) (hs : BigD D) (hp : MsgR w Pm M) (hbn : Pm.b.n ≤ 800000000) (hk : M.ki = 1 ∨ M.ki = 3) (h4 : TakesK M.ki) (hm : mayW D = true) (hb : msgB M D.nodes = true) (ht : M.tt = D.id) :
    Calls Tryz.prog 49 #[P.val D, M18 Pm M] w fun e w' => ∃ gs P' A n c ps, e = .returned (.tuple #[.pointer (some ⟨gs, 0, none⟩), .int .i64 0]) ∧ Blk w' gs 70 [.int .i64 (heldD D M).id, .int .i64 (heldD D M).nodes, .int .i64 (heldD D M).next, .slice P'.op.A P'.op.n P'.op.c, .int .i64 (heldD D M).age, .int .i64 (heldD D M).clock, .slice P'.wa.A P'.wa.n P'.wa.c, .slice P'.he.A P'.he.n P'.he.c, .slice P'.re.A P'.re.n P'.re.c, .slice A n c] ∧ WorkO w' w.heap.size P' (heldD D M) ∧ OwnT dMsg w' w.heap.size (.slice A n c) ps (heldL D M) ∧ w.heap.size ≤ gs ∧ Below w.heap.size w w' := by
  obtain ⟨⟨oA, on, oc⟩, ⟨tA, tn, tc⟩, ⟨eA, en, ec⟩, ⟨rA, rn, rc⟩⟩ := P
  obtain ⟨⟨bA, bn, bc⟩, ⟨⟨xA, xn, xc⟩, ⟨yA, yn, yc⟩⟩, ⟨⟨⟨cA, cn, cd⟩, ⟨dA, dn, dc⟩⟩, ⟨sA, sn, sc⟩⟩, ⟨zA, zn, zc⟩⟩ := Pm
  obtain ⟨ki, fr, tt, di, b, hd, cc, ds⟩ := M
  have HWK := Lib.hid h
  have HMM := Lib.hid hp
  have HK4 : Hid (TakesK ki) := Lib.hid h4
  have HS := Lib.hid hs
  dsimp only at hk ht hbn
  have HBY := Lib.hid hb
  have hd1 : (tt != D.id) = false := by simp [ht]
  have HM := Lib.hid (mayW_iff.1 hm)
  have HTX : Hid (TxsR w bA bn b.tx) := Lib.hid hp.tx
  obtain ⟨yh, hyh⟩ : ∃ y, khasH D.he di = y := ⟨_, rfl⟩
  have HYH := Lib.hid hyh
  have HSO : Hid (SortedH D.he) := Lib.hid (hdB_iff.1 HM.out.2.2.2.2.2.2.2.2.2.2.1).sorted
  have hhe : D.he.length ≤ 1024 := HM.out.2.2.2.2.2.2.2.1
  have hD : heldD D ⟨ki, fr, tt, di, b, hd, cc, ds⟩ = if yh = false ∧ D.he.length < 1024 then holdD D di b else D := by unfold heldD; rw [hyh]
  have hL : heldL D ⟨ki, fr, tt, di, b, hd, cc, ds⟩ = if ki = 1 ∧ (yh = true ∨ D.he.length < 1024) then [tellM D.id fr di] else [] := by unfold heldL; rw [hyh]
  rw [hD, hL]
  obtain ⟨D1, hD1⟩ : ∃ z, (if yh = false ∧ D.he.length < 1024 then holdD D di b else D) = z := ⟨_, rfl⟩
  obtain ⟨L1, hL1⟩ : ∃ z, (if ki = 1 ∧ (yh = true ∨ D.he.length < 1024) then [tellM D.id fr di] else []) = z := ⟨_, rfl⟩
  rw [hD1, hL1]
  have HD1 := Lib.hid hD1
  have HL1 := Lib.hid hL1
  have HS2 := Lib.hid hs
  have HBIG : Hid (D.he.length < 1024 → BigD (holdD D di b)) := Lib.hid (fun hr => ⟨hs.op, hs.wa, ⟨by show (insAt D.he (kposH D.he di) _).length ≤ _; rw [insAt_len (show kposH D.he di ≤ D.he.length from cnt_le _ _)]; omega, fun x hx => by
    rcases insAt_mem hx with rfl | hx
    · have e : b.tx.length = bn := HTX.out.1
      show b.tx.length ≤ _; omega
    · exact hs.he.2 x hx⟩, hs.re⟩)
  clear hD1 hL1 hD hL h hp hyh hb ht hm hs h4
  show Calls Tryz.prog 49 #[.agg #[.int .i64 D.id, .int .i64 D.nodes, .int .i64 D.next, .slice oA on oc, .int .i64 D.age, .int .i64 D.clock, .slice tA tn tc, .slice eA en ec, .slice rA rn rc], .agg #[.int .i64 ki, .int .i64 fr, .int .i64 tt, .int .i64 di, .int .i64 b.au, .int .i64 b.n, .slice bA bn bc, .int .i64 hd.au, .int .i64 hd.ro, .slice xA xn xc, .slice yA yn yc, .int .i64 cc.h.au, .int .i64 cc.h.ro, .slice cA cn cd, .slice dA dn dc, .int .i64 cc.di, .slice sA sn sc, .slice zA zn zc]] w _
  go_enter Tryz.func49, Tryz.ntmps49
  go_upto_region 1 with fail
  refine wp_world (fun W hW => ?_)
  have HA0 : Hid (Blk W w.heap.size 27 [.int .i64 D.id, .int .i64 D.nodes, .int .i64 D.next, .slice oA on oc, .int .i64 D.age, .int .i64 D.clock, .slice tA tn tc, .slice eA en ec, .slice rA rn rc]) := Lib.hid (by rw [hW]; exact (Blk.new w 27 [.int .i64 D.id, .int .i64 D.nodes, .int .i64 D.next, .slice oA on oc, .int .i64 D.age, .int .i64 D.clock, .slice tA tn tc, .slice eA en ec, .slice rA rn rc]).up (belA))
  have HB0 : Hid (Blk W (w.heap.size + 1) 49 [.int .i64 ki, .int .i64 fr, .int .i64 tt, .int .i64 di, .int .i64 b.au, .int .i64 b.n, .slice bA bn bc, .int .i64 hd.au, .int .i64 hd.ro, .slice xA xn xc, .slice yA yn yc, .int .i64 cc.h.au, .int .i64 cc.h.ro, .slice cA cn cd, .slice dA dn dc, .int .i64 cc.di, .slice sA sn sc, .slice zA zn zc]) := Lib.hid (by rw [hW]; exact Blk.new1 w 27 49 [.int .i64 D.id, .int .i64 D.nodes, .int .i64 D.next, .slice oA on oc, .int .i64 D.age, .int .i64 D.clock, .slice tA tn tc, .slice eA en ec, .slice rA rn rc] [.int .i64 ki, .int .i64 fr, .int .i64 tt, .int .i64 di, .int .i64 b.au, .int .i64 b.n, .slice bA bn bc, .int .i64 hd.au, .int .i64 hd.ro, .slice xA xn xc, .slice yA yn yc, .int .i64 cc.h.au, .int .i64 cc.h.ro, .slice cA cn cd, .slice dA dn dc, .int .i64 cc.di, .slice sA sn sc, .slice zA zn zc])
  have hbW : Below w.heap.size w W := by rw [hW]; exact bel_alloc (bel_alloc (Below.refl _ _))
  clear hW
  have hql := HA0.out.lt
  have hqb := HA0.out.box
  have q0 := hqb.2 0 _ rfl; have q1 := hqb.2 1 _ rfl; have q2 := hqb.2 2 _ rfl; have q3 := hqb.2 3 _ rfl; have q4 := hqb.2 4 _ rfl; have q5 := hqb.2 5 _ rfl; have q6 := hqb.2 6 _ rfl; have q7 := hqb.2 7 _ rfl; have q8 := hqb.2 8 _ rfl
  clear hqb
  go_upto_region 2 with (go_at_call 17; refine (ref0_CopyWorker ⟨⟨oA, on, oc⟩, ⟨tA, tn, tc⟩, ⟨eA, en, ec⟩, ⟨rA, rn, rc⟩⟩ D _ (HWK.out.up hbW) HS.out).mono ?_; rintro e w1 ⟨⟨⟨oA2, on2, oc2⟩, ⟨tA2, tn2, tc2⟩, ⟨eA2, en2, ec2⟩, ⟨rA2, rn2, rc2⟩⟩, he1, hO1, hb1⟩; simp only [WorkP.val] at he1; subst he1)
  clear q0 q1 q2 q3 q4 q5 q6 q7 q8 hql
  refine wp_world (fun W2 hW2 => ?_)
  have HG : Hid (Blk W2 w1.heap.size 70 [.int .i64 D.id, .int .i64 D.nodes, .int .i64 D.next, .slice oA2 on2 oc2, .int .i64 D.age, .int .i64 D.clock, .slice tA2 tn2 tc2, .slice eA2 en2 ec2, .slice rA2 rn2 rc2, .slice none 0 0]) := Lib.hid (by rw [hW2]; exact Blk.new w1 70 [.int .i64 D.id, .int .i64 D.nodes, .int .i64 D.next, .slice oA2 on2 oc2, .int .i64 D.age, .int .i64 D.clock, .slice tA2 tn2 tc2, .slice eA2 en2 ec2, .slice rA2 rn2 rc2, .slice none 0 0])
  have hb2 : Below w1.heap.size w1 W2 := by rw [hW2]; exact bel_alloc (Below.refl _ _)
  clear hW2
  obtain ⟨gs, hgs⟩ : ∃ g, g = w1.heap.size := ⟨_, rfl⟩
  obtain ⟨gm, hgm⟩ : ∃ g, g = w.heap.size + 1 := ⟨_, rfl⟩
  obtain ⟨gw, hgw⟩ : ∃ g, g = w.heap.size := ⟨_, rfl⟩
  have hE : (Value.pointer (some ⟨w.heap.size, 0, none⟩)) = .pointer (some ⟨gw, 0, none⟩) := by rw [hgw]
  have hz1 : w.heap.size + 2 ≤ w1.heap.size := by have := (HB0.out.up hb1).lt; omega
  have HW0 : Hid (Blk W2 gw 27 [.int .i64 D.id, .int .i64 D.nodes, .int .i64 D.next, .slice oA on oc, .int .i64 D.age, .int .i64 D.clock, .slice tA tn tc, .slice eA en ec, .slice rA rn rc]) := Lib.hid (by rw [hgw]; exact (HA0.out.up hb1).up hb2)
  have HBM : Hid (Blk W2 gm 49 [.int .i64 ki, .int .i64 fr, .int .i64 tt, .int .i64 di, .int .i64 b.au, .int .i64 b.n, .slice bA bn bc, .int .i64 hd.au, .int .i64 hd.ro, .slice xA xn xc, .slice yA yn yc, .int .i64 cc.h.au, .int .i64 cc.h.ro, .slice cA cn cd, .slice dA dn dc, .int .i64 cc.di, .slice sA sn sc, .slice zA zn zc]) := Lib.hid (by rw [hgm]; exact (HB0.out.up hb1).up hb2)
  have HO2 := Lib.hid ((hO1.mono (B' := w.heap.size) hbW.size).up hb2)
  have hb0 : Below w.heap.size w W2 := bel_trans (bel_trans hbW hb1) hb2
  rw [← hgs] at HG ⊢
  rw [← hgm]
  try simp only [hE]
  have hgmr : gm < gs := by omega
  have hgwm : gw < gm := by omega
  have hgww : w.heap.size ≤ gw := by omega
  clear hgs hgm hgw hE HA0 HB0 hbW hb1 hb2 hO1 hz1
  refine wp_region_list ?_
  simp only [List.append_eq, List.append, List.cons_append, List.nil_append, List.toList_toArray]
  refine wpList_load_mid rfl 49 _ rfl gm 0 (by simp [Act.eval, Act.put]) [.int .i64 ki, .int .i64 fr, .int .i64 tt, .int .i64 di, .int .i64 b.au, .int .i64 b.n, .slice bA bn bc, .int .i64 hd.au, .int .i64 hd.ro, .slice xA xn xc, .slice yA yn yc, .int .i64 cc.h.au, .int .i64 cc.h.ro, .slice cA cn cd, .slice dA dn dc, .int .i64 cc.di, .slice sA sn sc, .slice zA zn zc] _ HBM.out.rng Tryz.underlying49 (by rfl) (by kernel_rfl) ?_
  (try simp only [Act.put, lzT, lzZ, lzS, List.toList_toArray])
  refine wpList_plain rfl (fun K hK => ?_)
  go_simp
  refine hK _ _ ?_
  clear hK K
  (try simp only [Act.put, lzT, lzZ, lzS])
  refine wpList_plain rfl (fun K hK => ?_)
  have r1 := HW0.out.box.2 1 _ rfl
  go_simp
  refine hK _ _ ?_
  clear hK K
  clear r1
  (try simp only [Act.put, lzT, lzZ, lzS])
  refine wpList_plain rfl (fun K hK => ?_)
  go_simp
  refine (ref4_Message4 ⟨⟨bA, bn, bc⟩, ⟨⟨xA, xn, xc⟩, ⟨yA, yn, yc⟩⟩, ⟨⟨⟨cA, cn, cd⟩, ⟨dA, dn, dc⟩⟩, ⟨sA, sn, sc⟩⟩, ⟨zA, zn, zc⟩⟩ ⟨ki, fr, tt, di, b, hd, cc, ds⟩ D.nodes true _ (HMM.out.up hb0) HK4.out HBY.out).mono ?_
  rintro e w3 ⟨rfl, hb3⟩
  dsimp only
  refine hK _ _ ?_
  clear hK K
  (try simp only [Act.put, lzT, lzZ, lzS])
  have HW3 := Lib.hid (HW0.out.up hb3)
  have HB3 := Lib.hid (HBM.out.up hb3)
  have HG3 := Lib.hid (HG.out.up hb3)
  have HO3 := Lib.hid (HO2.out.up hb3)
  have hb03 := bel_trans hb0 hb3
  clear hb3 HW0 HBM HG HO2 hb0
  iterate 3 (((first | refine wpList_plain rfl (fun K hK => ?_) | refine wpList_takeG (by kernel_rfl) (fun K hK => ?_))); go_simp; refine hK _ _ ?_; clear hK K; (try simp only [Act.put, lzT, lzZ, lzS]))
  refine wpList_takeG (by kernel_rfl) (fun K hK => ?_)
  have r2 := HB3.out.box.2 2 _ rfl
  go_simp
  refine hK _ _ ?_
  clear hK K
  clear r2
  (try simp only [Act.put, lzT, lzZ, lzS])
  refine wpList_takeG (by kernel_rfl) (fun K hK => ?_)
  go_simp
  refine hK _ _ ?_
  clear hK K
  (try simp only [Act.put, lzT, lzZ, lzS])
  refine wpList_takeG (by kernel_rfl) (fun K hK => ?_)
  have r0 := HW3.out.box.2 0 _ rfl
  go_simp
  refine hK _ _ ?_
  clear hK K
  clear r0
  (try simp only [Act.put, lzT, lzZ, lzS])
  iterate 2 (((first | refine wpList_plain rfl (fun K hK => ?_) | refine wpList_takeG (by kernel_rfl) (fun K hK => ?_))); go_simp; refine hK _ _ ?_; clear hK K; (try simp only [Act.put, lzT, lzZ, lzS]))
  refine wpList_nil ?_
  rename_i Ka hKa
  refine hKa _ _ ?_
  clear hKa Ka
  clear hhe hd1
  rcases hk with hk | hk
  · subst hk
    cases yh
    · by_cases hr : D.he.length < 1024
      · skip
        obtain rfl : holdD D di b = D1 := by rw [← HD1.out]; exact Eq.symm (if_pos ⟨rfl, hr⟩)
        obtain rfl : [tellM D.id fr di] = L1 := by rw [← HL1.out]; exact Eq.symm (if_pos ⟨rfl, .inr hr⟩)
        have m0 := HB3.out.box.2 0 _ rfl
        have m3 := HB3.out.box.2 3 _ rfl
        have m4 := HB3.out.box.2 4 _ rfl
        have m5 := HB3.out.box.2 5 _ rfl
        have m6 := HB3.out.box.2 6 _ rfl
        have hgl := HG3.out.lt
        go_upto_region 9 with (go_at_call 84; refine (ref13_holds_yes gs w.heap.size _ _ _ _ _ _ _ _ _ eA2 bA en2 ec2 bn bc D.he di b w3 HG3.out hb03.size HO3.out.he HS2.out.he HSO.out (HTX.out.up hb03) hbn HYH.out hr).mono ?_; rintro e wh ⟨Xh, A3, n3, c3, rfl, rfl, hbh, hhe3⟩)
        clear m0 m3 m4 m5 m6 hgl
        have hGh := HG3.out.up hbh
        refine wp_world (fun Y hY => ?_)
        have HGY : Hid (Blk Y gs 70 [.int .i64 D.id, .int .i64 D.nodes, .int .i64 D.next, .slice oA2 on2 oc2, .int .i64 D.age, .int .i64 D.clock, .slice tA2 tn2 tc2, .slice A3 n3 c3, .slice rA2 rn2 rc2, .slice none 0 0]) := Lib.hid (by rw [hY]; exact hGh.set_ 7 (.slice A3 n3 c3))
        have htY : TKeep 70 w3 Y := by rw [hY]; exact (TKeep.of_below hbh).trans (TKeep.setg hGh)
        have HHY : Hid (OwnHs Y w.heap.size (.slice A3 n3 c3) (insAt D.he (kposH D.he di) ⟨di, b⟩)) := Lib.hid (by rw [hY]; exact OwnHs.tkR hhe3 (TKeep.setg hGh))
        have HMY := Lib.hid (HB3.out.tk htY (by decide))
        have hbY : Below w.heap.size w Y := by rw [hY]; exact (bel_trans hb03 hbh).setCell (p := ⟨gs, 7, none⟩) (by show w.heap.size ≤ gs; omega) _
        have HOY : Hid (WorkO Y w.heap.size ⟨⟨oA2, on2, oc2⟩, ⟨tA2, tn2, tc2⟩, ⟨A3, n3, c3⟩, ⟨rA2, rn2, rc2⟩⟩ (holdD D di b)) := Lib.hid (let h9 := HO3.out.tkR htY; ⟨h9.op, h9.wa, HHY.out, h9.re⟩)
        clear hY hbh hhe3 hGh htY HHY HG3 HB3 HO3 hb03 HW3
        have m0 := HMY.out.box.2 0 _ rfl
        have hgl := HGY.out.lt
        have m3 := HMY.out.box.2 3 _ rfl
        have hfi := findI_yes (l := (insAt D.he (kposH D.he di) ⟨di, b⟩)) (d := di) (khasH_ins HSO.out HYH.out)
        obtain ⟨zf, hzf⟩ : ∃ z, findI (insAt D.he (kposH D.he di) ⟨di, b⟩) di = z := ⟨_, rfl⟩
        rw [hzf] at hfi
        have HZF := Lib.hid hzf
        clear hzf
        have HSB : Hid (BigD (holdD D di b)) := Lib.hid (HBIG.out hr)
        go_upto_region 10 with (go_at_call 83; refine (ref13_find gs _ _ _ _ _ _ _ _ _ A3 n3 c3 (insAt D.he (kposH D.he di) ⟨di, b⟩) di _ HGY.out (HOY.out.work HSB.out).he (HSO.out.ins HYH.out)).mono ?_; rintro e w' ⟨rfl, rfl⟩; rw [HZF.out])
        clear m0
        have m1 := HMY.out.box.2 1 _ rfl
        go_wp2_with (go_at_call 85; refine (ref13_tells gs Y.heap.size D.id _ _ _ _ _ _ _ _ none 0 0 [] [] ⟨⟨none, 0, 0⟩, ⟨⟨none, 0, 0⟩, ⟨none, 0, 0⟩⟩, ⟨⟨⟨none, 0, 0⟩, ⟨none, 0, 0⟩⟩, ⟨none, 0, 0⟩⟩, ⟨none, 0, 0⟩⟩ ⟨2, 0, fr, di, ⟨0, 0, []⟩, ⟨0, 0, [], []⟩, ⟨⟨0, 0, [], []⟩, 0, []⟩, []⟩ Y HGY.out hgl (Nat.le_refl _) (OwnT.nil _ _) (by simp) ⟨OwnX.nil _ _, OwnI.nil _ _, OwnI.nil _ _, OwnI.nil _ _, OwnI.nil _ _, OwnI.nil _ _, OwnI.nil _ _⟩).mono ?_; rintro e wz ⟨Xz, A9, n9, c9, rfl, rfl, hbz, -, hOz⟩)
        have hGz := HGY.out.up hbz
        have HGZ := Lib.hid (hGz.set_ 9 (.slice A9 n9 c9))
        have htZ := (TKeep.of_below hbz).trans (TKeep.setg (o := 9) (u := .slice A9 n9 c9) hGz)
        have hbZ : Below w.heap.size w _ := (bel_trans hbY hbz).setCell (p := ⟨gs, 9, none⟩) (by show w.heap.size ≤ gs; omega) (.slice A9 n9 c9)
        have HOZ := Lib.hid (HOY.out.tkR htZ)
        have HMZ : Hid (OwnT dMsg _ w.heap.size (.slice A9 n9 c9) [⟨⟨none, 0, 0⟩, ⟨⟨none, 0, 0⟩, ⟨none, 0, 0⟩⟩, ⟨⟨⟨none, 0, 0⟩, ⟨none, 0, 0⟩⟩, ⟨none, 0, 0⟩⟩, ⟨none, 0, 0⟩⟩] [tellM D.id fr di]) := Lib.hid ((hOz.tkR (TKeep.setg (o := 9) (u := .slice A9 n9 c9) hGz)).mono hbY.size)
        exact bodyPost_ret (v := .tuple #[.pointer (some ⟨gs, 0, none⟩), .int .i64 0]) (by simp [results, Tryz.results49, go_sem]) rfl ⟨gs, ⟨⟨oA2, on2, oc2⟩, ⟨tA2, tn2, tc2⟩, ⟨A3, n3, c3⟩, ⟨rA2, rn2, rc2⟩⟩, A9, n9, c9, _, rfl, HGZ.out, HOZ.out, HMZ.out, by omega, hbZ⟩
      · skip
        obtain rfl : D = D1 := by rw [← HD1.out]; exact Eq.symm (if_neg (fun g => hr g.2))
        obtain rfl : [] = L1 := by rw [← HL1.out]; exact Eq.symm (if_neg (fun g => g.2.elim (fun g2 => by cases g2) hr))
        have m0 := HB3.out.box.2 0 _ rfl
        have m3 := HB3.out.box.2 3 _ rfl
        have m4 := HB3.out.box.2 4 _ rfl
        have m5 := HB3.out.box.2 5 _ rfl
        have m6 := HB3.out.box.2 6 _ rfl
        have hgl := HG3.out.lt
        go_upto_region 9 with (go_at_call 84; refine (ref13_holds_no gs _ _ _ _ _ _ _ _ _ eA2 bA en2 ec2 bn bc D.he di b w3 HG3.out (HO3.out.work HS2.out).he HSO.out (.inr ⟨HYH.out, by omega⟩)).mono ?_; rintro e Y ⟨rfl, hbh⟩)
        clear m0 m3 m4 m5 m6 hgl
        have HGY := Lib.hid (HG3.out.up hbh)
        have HMY := Lib.hid (HB3.out.up hbh)
        have HOY := Lib.hid (HO3.out.up hbh)
        have hbY := bel_trans hb03 hbh
        clear hbh HG3 HB3 HO3 hb03 HW3
        have m0 := HMY.out.box.2 0 _ rfl
        have hgl := HGY.out.lt
        have m3 := HMY.out.box.2 3 _ rfl
        have hfi := findI_no (l := D.he) (d := di) HYH.out
        obtain ⟨zf, hzf⟩ : ∃ z, findI D.he di = z := ⟨_, rfl⟩
        rw [hzf] at hfi
        have HZF := Lib.hid hzf
        clear hzf
        have HSB : Hid (BigD D) := Lib.hid HS2.out
        go_wp2_with (go_at_call 83; refine (ref13_find gs _ _ _ _ _ _ _ _ _ eA2 en2 ec2 D.he di _ HGY.out (HOY.out.work HSB.out).he HSO.out).mono ?_; rintro e w' ⟨rfl, rfl⟩; rw [HZF.out])
        exact bodyPost_ret (v := .tuple #[.pointer (some ⟨gs, 0, none⟩), .int .i64 0]) (by simp [results, Tryz.results49, go_sem]) rfl ⟨gs, ⟨⟨oA2, on2, oc2⟩, ⟨tA2, tn2, tc2⟩, ⟨eA2, en2, ec2⟩, ⟨rA2, rn2, rc2⟩⟩, none, 0, 0, [], rfl, HGY.out, HOY.out, OwnT.nil _ _, by omega, hbY⟩
    · skip
      obtain rfl : D = D1 := by rw [← HD1.out]; exact Eq.symm (if_neg (fun g => by cases g.1))
      obtain rfl : [tellM D.id fr di] = L1 := by rw [← HL1.out]; exact Eq.symm (if_pos ⟨rfl, .inl rfl⟩)
      have m0 := HB3.out.box.2 0 _ rfl
      have m3 := HB3.out.box.2 3 _ rfl
      have m4 := HB3.out.box.2 4 _ rfl
      have m5 := HB3.out.box.2 5 _ rfl
      have m6 := HB3.out.box.2 6 _ rfl
      have hgl := HG3.out.lt
      go_upto_region 9 with (go_at_call 84; refine (ref13_holds_no gs _ _ _ _ _ _ _ _ _ eA2 bA en2 ec2 bn bc D.he di b w3 HG3.out (HO3.out.work HS2.out).he HSO.out (.inl HYH.out)).mono ?_; rintro e Y ⟨rfl, hbh⟩)
      clear m0 m3 m4 m5 m6 hgl
      have HGY := Lib.hid (HG3.out.up hbh)
      have HMY := Lib.hid (HB3.out.up hbh)
      have HOY := Lib.hid (HO3.out.up hbh)
      have hbY := bel_trans hb03 hbh
      clear hbh HG3 HB3 HO3 hb03 HW3
      have m0 := HMY.out.box.2 0 _ rfl
      have hgl := HGY.out.lt
      have m3 := HMY.out.box.2 3 _ rfl
      have hfi := findI_yes (l := D.he) (d := di) HYH.out
      obtain ⟨zf, hzf⟩ : ∃ z, findI D.he di = z := ⟨_, rfl⟩
      rw [hzf] at hfi
      have HZF := Lib.hid hzf
      clear hzf
      have HSB : Hid (BigD D) := Lib.hid HS2.out
      go_upto_region 10 with (go_at_call 83; refine (ref13_find gs _ _ _ _ _ _ _ _ _ eA2 en2 ec2 D.he di _ HGY.out (HOY.out.work HSB.out).he HSO.out).mono ?_; rintro e w' ⟨rfl, rfl⟩; rw [HZF.out])
      clear m0
      have m1 := HMY.out.box.2 1 _ rfl
      go_wp2_with (go_at_call 85; refine (ref13_tells gs Y.heap.size D.id _ _ _ _ _ _ _ _ none 0 0 [] [] ⟨⟨none, 0, 0⟩, ⟨⟨none, 0, 0⟩, ⟨none, 0, 0⟩⟩, ⟨⟨⟨none, 0, 0⟩, ⟨none, 0, 0⟩⟩, ⟨none, 0, 0⟩⟩, ⟨none, 0, 0⟩⟩ ⟨2, 0, fr, di, ⟨0, 0, []⟩, ⟨0, 0, [], []⟩, ⟨⟨0, 0, [], []⟩, 0, []⟩, []⟩ Y HGY.out hgl (Nat.le_refl _) (OwnT.nil _ _) (by simp) ⟨OwnX.nil _ _, OwnI.nil _ _, OwnI.nil _ _, OwnI.nil _ _, OwnI.nil _ _, OwnI.nil _ _, OwnI.nil _ _⟩).mono ?_; rintro e wz ⟨Xz, A9, n9, c9, rfl, rfl, hbz, -, hOz⟩)
      have hGz := HGY.out.up hbz
      have HGZ := Lib.hid (hGz.set_ 9 (.slice A9 n9 c9))
      have htZ := (TKeep.of_below hbz).trans (TKeep.setg (o := 9) (u := .slice A9 n9 c9) hGz)
      have hbZ : Below w.heap.size w _ := (bel_trans hbY hbz).setCell (p := ⟨gs, 9, none⟩) (by show w.heap.size ≤ gs; omega) (.slice A9 n9 c9)
      have HOZ := Lib.hid (HOY.out.tkR htZ)
      have HMZ : Hid (OwnT dMsg _ w.heap.size (.slice A9 n9 c9) [⟨⟨none, 0, 0⟩, ⟨⟨none, 0, 0⟩, ⟨none, 0, 0⟩⟩, ⟨⟨⟨none, 0, 0⟩, ⟨none, 0, 0⟩⟩, ⟨none, 0, 0⟩⟩, ⟨none, 0, 0⟩⟩] [tellM D.id fr di]) := Lib.hid ((hOz.tkR (TKeep.setg (o := 9) (u := .slice A9 n9 c9) hGz)).mono hbY.size)
      exact bodyPost_ret (v := .tuple #[.pointer (some ⟨gs, 0, none⟩), .int .i64 0]) (by simp [results, Tryz.results49, go_sem]) rfl ⟨gs, ⟨⟨oA2, on2, oc2⟩, ⟨tA2, tn2, tc2⟩, ⟨eA2, en2, ec2⟩, ⟨rA2, rn2, rc2⟩⟩, A9, n9, c9, _, rfl, HGZ.out, HOZ.out, HMZ.out, by omega, hbZ⟩
  · subst hk
    cases yh
    · by_cases hr : D.he.length < 1024
      · skip
        obtain rfl : holdD D di b = D1 := by rw [← HD1.out]; exact Eq.symm (if_pos ⟨rfl, hr⟩)
        obtain rfl : [] = L1 := by rw [← HL1.out]; exact Eq.symm (if_neg (by simp))
        have m0 := HB3.out.box.2 0 _ rfl
        have m3 := HB3.out.box.2 3 _ rfl
        have m4 := HB3.out.box.2 4 _ rfl
        have m5 := HB3.out.box.2 5 _ rfl
        have m6 := HB3.out.box.2 6 _ rfl
        have hgl := HG3.out.lt
        go_upto_region 9 with (go_at_call 84; refine (ref13_holds_yes gs w.heap.size _ _ _ _ _ _ _ _ _ eA2 bA en2 ec2 bn bc D.he di b w3 HG3.out hb03.size HO3.out.he HS2.out.he HSO.out (HTX.out.up hb03) hbn HYH.out hr).mono ?_; rintro e wh ⟨Xh, A3, n3, c3, rfl, rfl, hbh, hhe3⟩)
        clear m0 m3 m4 m5 m6 hgl
        have hGh := HG3.out.up hbh
        refine wp_world (fun Y hY => ?_)
        have HGY : Hid (Blk Y gs 70 [.int .i64 D.id, .int .i64 D.nodes, .int .i64 D.next, .slice oA2 on2 oc2, .int .i64 D.age, .int .i64 D.clock, .slice tA2 tn2 tc2, .slice A3 n3 c3, .slice rA2 rn2 rc2, .slice none 0 0]) := Lib.hid (by rw [hY]; exact hGh.set_ 7 (.slice A3 n3 c3))
        have htY : TKeep 70 w3 Y := by rw [hY]; exact (TKeep.of_below hbh).trans (TKeep.setg hGh)
        have HHY : Hid (OwnHs Y w.heap.size (.slice A3 n3 c3) (insAt D.he (kposH D.he di) ⟨di, b⟩)) := Lib.hid (by rw [hY]; exact OwnHs.tkR hhe3 (TKeep.setg hGh))
        have HMY := Lib.hid (HB3.out.tk htY (by decide))
        have hbY : Below w.heap.size w Y := by rw [hY]; exact (bel_trans hb03 hbh).setCell (p := ⟨gs, 7, none⟩) (by show w.heap.size ≤ gs; omega) _
        have HOY : Hid (WorkO Y w.heap.size ⟨⟨oA2, on2, oc2⟩, ⟨tA2, tn2, tc2⟩, ⟨A3, n3, c3⟩, ⟨rA2, rn2, rc2⟩⟩ (holdD D di b)) := Lib.hid (let h9 := HO3.out.tkR htY; ⟨h9.op, h9.wa, HHY.out, h9.re⟩)
        clear hY hbh hhe3 hGh htY HHY HG3 HB3 HO3 hb03 HW3
        have m0 := HMY.out.box.2 0 _ rfl
        have hgl := HGY.out.lt
        go_wp2_with fail
        exact bodyPost_ret (v := .tuple #[.pointer (some ⟨gs, 0, none⟩), .int .i64 0]) (by simp [results, Tryz.results49, go_sem]) rfl ⟨gs, ⟨⟨oA2, on2, oc2⟩, ⟨tA2, tn2, tc2⟩, ⟨A3, n3, c3⟩, ⟨rA2, rn2, rc2⟩⟩, none, 0, 0, [], rfl, HGY.out, HOY.out, OwnT.nil _ _, by omega, hbY⟩
      · skip
        obtain rfl : D = D1 := by rw [← HD1.out]; exact Eq.symm (if_neg (fun g => hr g.2))
        obtain rfl : [] = L1 := by rw [← HL1.out]; exact Eq.symm (if_neg (fun g => g.2.elim (fun g2 => by cases g2) hr))
        have m0 := HB3.out.box.2 0 _ rfl
        have m3 := HB3.out.box.2 3 _ rfl
        have m4 := HB3.out.box.2 4 _ rfl
        have m5 := HB3.out.box.2 5 _ rfl
        have m6 := HB3.out.box.2 6 _ rfl
        have hgl := HG3.out.lt
        go_upto_region 9 with (go_at_call 84; refine (ref13_holds_no gs _ _ _ _ _ _ _ _ _ eA2 bA en2 ec2 bn bc D.he di b w3 HG3.out (HO3.out.work HS2.out).he HSO.out (.inr ⟨HYH.out, by omega⟩)).mono ?_; rintro e Y ⟨rfl, hbh⟩)
        clear m0 m3 m4 m5 m6 hgl
        have HGY := Lib.hid (HG3.out.up hbh)
        have HMY := Lib.hid (HB3.out.up hbh)
        have HOY := Lib.hid (HO3.out.up hbh)
        have hbY := bel_trans hb03 hbh
        clear hbh HG3 HB3 HO3 hb03 HW3
        have m0 := HMY.out.box.2 0 _ rfl
        have hgl := HGY.out.lt
        go_wp2_with fail
        exact bodyPost_ret (v := .tuple #[.pointer (some ⟨gs, 0, none⟩), .int .i64 0]) (by simp [results, Tryz.results49, go_sem]) rfl ⟨gs, ⟨⟨oA2, on2, oc2⟩, ⟨tA2, tn2, tc2⟩, ⟨eA2, en2, ec2⟩, ⟨rA2, rn2, rc2⟩⟩, none, 0, 0, [], rfl, HGY.out, HOY.out, OwnT.nil _ _, by omega, hbY⟩
    · skip
      obtain rfl : D = D1 := by rw [← HD1.out]; exact Eq.symm (if_neg (fun g => by cases g.1))
      obtain rfl : [] = L1 := by rw [← HL1.out]; exact Eq.symm (if_neg (fun g => by cases g.1))
      have m0 := HB3.out.box.2 0 _ rfl
      have m3 := HB3.out.box.2 3 _ rfl
      have m4 := HB3.out.box.2 4 _ rfl
      have m5 := HB3.out.box.2 5 _ rfl
      have m6 := HB3.out.box.2 6 _ rfl
      have hgl := HG3.out.lt
      go_upto_region 9 with (go_at_call 84; refine (ref13_holds_no gs _ _ _ _ _ _ _ _ _ eA2 bA en2 ec2 bn bc D.he di b w3 HG3.out (HO3.out.work HS2.out).he HSO.out (.inl HYH.out)).mono ?_; rintro e Y ⟨rfl, hbh⟩)
      clear m0 m3 m4 m5 m6 hgl
      have HGY := Lib.hid (HG3.out.up hbh)
      have HMY := Lib.hid (HB3.out.up hbh)
      have HOY := Lib.hid (HO3.out.up hbh)
      have hbY := bel_trans hb03 hbh
      clear hbh HG3 HB3 HO3 hb03 HW3
      have m0 := HMY.out.box.2 0 _ rfl
      have hgl := HGY.out.lt
      go_wp2_with fail
      exact bodyPost_ret (v := .tuple #[.pointer (some ⟨gs, 0, none⟩), .int .i64 0]) (by simp [results, Tryz.results49, go_sem]) rfl ⟨gs, ⟨⟨oA2, on2, oc2⟩, ⟨tA2, tn2, tc2⟩, ⟨eA2, en2, ec2⟩, ⟨rA2, rn2, rc2⟩⟩, none, 0, 0, [], rfl, HGY.out, HOY.out, OwnT.nil _ _, by omega, hbY⟩
end Go.Proofs.YtgfakefcmbpboaaGreat
