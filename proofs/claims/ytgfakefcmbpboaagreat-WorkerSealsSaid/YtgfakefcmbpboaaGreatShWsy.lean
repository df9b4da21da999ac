/- Sealing at the page, whole. -/
import Derived.Test.YtgfakefcmbpboaaGreatShWsu
import Derived.Test.YtgfakefcmbpboaaGreatShWma
namespace Go.Proofs.YtgfakefcmbpboaaGreat
open Go.RowKit
set_option linter.unusedSimpArgs false
set_option linter.unusedVariables false

noncomputable def midEnd : Code := cAfter 7 (Tryz.f46.body.getD .skip)
set_option maxRecDepth 100000 in
set_option maxHeartbeats 16000000 in
theorem sealed_mid {K : Act → World → Prop} (P : WorkP) (D : WorkD) (d : Int) (b : BatchD) (op2 : List TxD) (wa2 : List WaitD) (ps : List Value) (w W : World) (gw gs gb : Nat) (oA tA eA rA bA : Option Addr) (on oc tn tc en ec rn rc bn bc : Nat) {u0 u3 u4 u5 u8 u9 u10 u11 u12 u13 u14 u15 u16 u17 u18 u19 u20 u21 u22 u23 u24 u25 u26 u27 u28 u29 u30 u31 u32 u33 u34 u35 u36 u37 u38 u39 u40 u41 u42 u43 u44 u45 u46 u47 u48 u49 u50 u51 u52 u53 u54 u55 u56 u57 u58 u59 u60 u61 u62 u63 u64 u65 u66 u67 u68 u69 u70 u71 u72 u73 u74 u75 u76 u77 u78 u79 u80 u81 u82 u83 u84 u85 u86 u87 u88 u89 u90 u91 u92 u93 u94 u95 u96 u97 u98 u99 u100 u101 u102 u103 u104 u105 u106 u107 u108 u109 u110 u111 u112 u113 u114 u115 u116 u117 u118 u119 u120 u121 u122 u123 u124 u125 u126 u127 u128 u129 u130 u131 u132 u133 u134 u135 u136 u137 u138 u139 u140 u141 u142 u143 u144 u145 u146 u147 u148 u149 u150 u151 u152 u153 u154 u155 : Value}
    (hK : ∀ a' w', Code.wp Tryz.prog (cSnd midEnd) (bodyPost Tryz.prog Tryz.f46 (fun e w' => ∃ gs P' uA un uc us, e = .returned (.tuple #[.pointer (some ⟨gs, 0, none⟩), .int .i64 0]) ∧ Blk w' gs 70 [.int .i64 ({ D with op := op2, next := D.next + 1, age := 0, he := (insAt D.he (kposH D.he d) ⟨d, b⟩), wa := keptW D.nodes wa2, re := keptR D.nodes D.re wa2 } : WorkD).id, .int .i64 ({ D with op := op2, next := D.next + 1, age := 0, he := (insAt D.he (kposH D.he d) ⟨d, b⟩), wa := keptW D.nodes wa2, re := keptR D.nodes D.re wa2 } : WorkD).nodes, .int .i64 ({ D with op := op2, next := D.next + 1, age := 0, he := (insAt D.he (kposH D.he d) ⟨d, b⟩), wa := keptW D.nodes wa2, re := keptR D.nodes D.re wa2 } : WorkD).next, .slice P'.op.A P'.op.n P'.op.c, .int .i64 ({ D with op := op2, next := D.next + 1, age := 0, he := (insAt D.he (kposH D.he d) ⟨d, b⟩), wa := keptW D.nodes wa2, re := keptR D.nodes D.re wa2 } : WorkD).age, .int .i64 ({ D with op := op2, next := D.next + 1, age := 0, he := (insAt D.he (kposH D.he d) ⟨d, b⟩), wa := keptW D.nodes wa2, re := keptR D.nodes D.re wa2 } : WorkD).clock, .slice P'.wa.A P'.wa.n P'.wa.c, .slice P'.he.A P'.he.n P'.he.c, .slice P'.re.A P'.re.n P'.re.c, .slice uA un uc] ∧ WorkQ w' w.heap.size P' ({ D with op := op2, next := D.next + 1, age := 0, he := (insAt D.he (kposH D.he d) ⟨d, b⟩), wa := keptW D.nodes wa2, re := keptR D.nodes D.re wa2 } : WorkD) ∧ OwnT dMsg w' w.heap.size (.slice uA un uc) us (askL D.id d b [] D.nodes.toNat) ∧ w.heap.size ≤ gs ∧ Below w.heap.size w w')) a' w' → K a' w')
    (hbW : Below w.heap.size w W) (hgw0 : gw < w.heap.size + 1) (hgs0 : w.heap.size ≤ gs) (hgwne : gw ≠ gs) (hgbne : gb ≠ gs) (hgww : w.heap.size ≤ gw)
    (hw : Blk W gw 27 [.int .i64 D.id, .int .i64 D.nodes, .int .i64 D.next, .slice P.op.A P.op.n P.op.c, .int .i64 D.age, .int .i64 D.clock, .slice P.wa.A P.wa.n P.wa.c, .slice P.he.A P.he.n P.he.c, .slice P.re.A P.re.n P.re.c]) (hbx : Blk W gb 43 [.int .i64 b.au, .int .i64 b.n, .slice bA bn bc]) (hg : Blk W gs 70 [.int .i64 D.id, .int .i64 D.nodes, .int .i64 D.next, .slice oA on oc, .int .i64 D.age, .int .i64 D.clock, .slice tA tn tc, .slice eA en ec, .slice rA rn rc, .slice none 0 0])
    (hTx : OwnX W w.heap.size (.slice bA bn bc) b.tx) (hbn : bn ≤ 800000000)
    (hT : OwnT dWait W w.heap.size (.slice tA tn tc) ps D.wa) (hR : OwnI W w.heap.size (.slice rA rn rc) D.re) (hap : ApartW ps D.wa (Value.slice rA rn rc).ownBlock) (hH : OwnHs W w.heap.size (.slice eA en ec) D.he) (hO : TxsT W oA on op2) (hoc : on ≤ oc) (hom : oc ≤ 9223372036854775807)
    (hbw : BigW D.wa) (hwl : D.wa.length ≤ 700000000) (hre : D.re.length + D.wa.length ≤ 700000000) (hris : ∀ x ∈ wa2, RisesIn x.ak D.nodes) (hns : isS D.nodes = true)
    (hwe : sealW D d = wa2) (hsW : SortedW D.wa) (hsH : SortedH D.he) (hbh : BigH D.he) (hkh : khasH D.he d = false) (hhl : D.he.length < 1024) (hn1 : 1 ≤ D.next) (hn2 : D.next ≤ 1099511627776) :
    Code.wp Tryz.prog (cFst midEnd) (Exit.then K (bodyPost Tryz.prog Tryz.f46 (fun e w' => ∃ gs P' uA un uc us, e = .returned (.tuple #[.pointer (some ⟨gs, 0, none⟩), .int .i64 0]) ∧ Blk w' gs 70 [.int .i64 ({ D with op := op2, next := D.next + 1, age := 0, he := (insAt D.he (kposH D.he d) ⟨d, b⟩), wa := keptW D.nodes wa2, re := keptR D.nodes D.re wa2 } : WorkD).id, .int .i64 ({ D with op := op2, next := D.next + 1, age := 0, he := (insAt D.he (kposH D.he d) ⟨d, b⟩), wa := keptW D.nodes wa2, re := keptR D.nodes D.re wa2 } : WorkD).nodes, .int .i64 ({ D with op := op2, next := D.next + 1, age := 0, he := (insAt D.he (kposH D.he d) ⟨d, b⟩), wa := keptW D.nodes wa2, re := keptR D.nodes D.re wa2 } : WorkD).next, .slice P'.op.A P'.op.n P'.op.c, .int .i64 ({ D with op := op2, next := D.next + 1, age := 0, he := (insAt D.he (kposH D.he d) ⟨d, b⟩), wa := keptW D.nodes wa2, re := keptR D.nodes D.re wa2 } : WorkD).age, .int .i64 ({ D with op := op2, next := D.next + 1, age := 0, he := (insAt D.he (kposH D.he d) ⟨d, b⟩), wa := keptW D.nodes wa2, re := keptR D.nodes D.re wa2 } : WorkD).clock, .slice P'.wa.A P'.wa.n P'.wa.c, .slice P'.he.A P'.he.n P'.he.c, .slice P'.re.A P'.re.n P'.re.c, .slice uA un uc] ∧ WorkQ w' w.heap.size P' ({ D with op := op2, next := D.next + 1, age := 0, he := (insAt D.he (kposH D.he d) ⟨d, b⟩), wa := keptW D.nodes wa2, re := keptR D.nodes D.re wa2 } : WorkD) ∧ OwnT dMsg w' w.heap.size (.slice uA un uc) us (askL D.id d b [] D.nodes.toNat) ∧ w.heap.size ≤ gs ∧ Below w.heap.size w w'))) { tmps := #[u0, .int .i64 d, .pointer (some ⟨gw, 0, none⟩), u3, u4, u5, .pointer (some ⟨gs, 0, none⟩), .pointer (some ⟨gb, 0, none⟩), u8, u9, u10, u11, u12, u13, u14, u15, u16, u17, u18, u19, u20, u21, u22, u23, u24, u25, u26, u27, u28, u29, u30, u31, u32, u33, u34, u35, u36, u37, u38, u39, u40, u41, u42, u43, u44, u45, u46, u47, u48, u49, u50, u51, u52, u53, u54, u55, u56, u57, u58, u59, u60, u61, u62, u63, u64, u65, u66, u67, u68, u69, u70, u71, u72, u73, u74, u75, u76, u77, u78, u79, u80, u81, u82, u83, u84, u85, u86, u87, u88, u89, u90, u91, u92, u93, u94, u95, u96, u97, u98, u99, u100, u101, u102, u103, u104, u105, u106, u107, u108, u109, u110, u111, u112, u113, u114, u115, u116, u117, u118, u119, u120, u121, u122, u123, u124, u125, u126, u127, u128, u129, u130, u131, u132, u133, u134, u135, u136, u137, u138, u139, u140, u141, u142, u143, u144, u145, u146, u147, u148, u149, u150, u151, u152, u153, u154, u155], defers := [] } W := by
  have HTN : Hid (D.wa.length = tn) := Lib.hid (by obtain ⟨A', c', e', _⟩ := hT.read; injection e' with _ e2 _; exact e2.symm)
  have htn : tn ≤ 700000000 := by rw [← HTN.out]; exact hwl
  have HK := Lib.hid hK
  have HWE := Lib.hid hwe
  have HSW := Lib.hid hsW
  have hwW := hbW.size
  have hgsW := hg.lt
  have hgf := hg.frozen
  have a_0 := (hg.box).2 0 _ rfl; have a_1 := (hg.box).2 1 _ rfl; have a_2 := (hg.box).2 2 _ rfl; have a_3 := (hg.box).2 3 _ rfl; have a_4 := (hg.box).2 4 _ rfl; have a_5 := (hg.box).2 5 _ rfl; have a_6 := (hg.box).2 6 _ rfl; have a_7 := (hg.box).2 7 _ rfl; have a_8 := (hg.box).2 8 _ rfl; have a_9 := (hg.box).2 9 _ rfl
  clear hK hwe hsW
  dsimp only [midEnd, cAfter, cSnd, cFst, Tryz.f46, Option.getD]
  go_wp2_with fail
  show K _ _
  apply HK.out
  dsimp only [midEnd, cAfter, cSnd, cFst, Tryz.f46, Option.getD]
  go_upto_region 12 with fail
  have hG1 := (hg.set_ 2 (.int .i64 (D.next + 1))).set_ 4 (.int .i64 0)
  have htg : TKeep 70 W ((W.setCell ⟨gs, 2, none⟩ (.int .i64 (D.next + 1))).setCell ⟨gs, 4, none⟩ (.int .i64 0)) := (TKeep.setg (o := 2) (u := .int .i64 (D.next + 1)) hg).trans (TKeep.setg (o := 4) (u := .int .i64 0) (hg.set_ 2 (.int .i64 (D.next + 1))))
  have hbt : But W.heap.size gs W ((W.setCell ⟨gs, 2, none⟩ (.int .i64 (D.next + 1))).setCell ⟨gs, 4, none⟩ (.int .i64 0)) := ((But.refl _ _ _).setg).setg
  obtain ⟨W1, hW1⟩ : ∃ Z, Z = (W.setCell ⟨gs, 2, none⟩ (.int .i64 (D.next + 1))).setCell ⟨gs, 4, none⟩ (.int .i64 0) := ⟨_, rfl⟩
  rw [← hW1] at hG1 htg hbt ⊢
  have hwsz : W.heap.size ≤ W1.heap.size := hbt.size
  have hgwW := hw.lt
  have hgbW := hbx.lt
  have hw1 := But.blkT hbt hw hgwW hgwne
  have hbx1 := But.blkT hbt hbx hgbW hgbne
  have hT1 : OwnT dWait W1 w.heap.size (.slice tA tn tc) ps D.wa := ⟨own_tk hT.1 htg (by decide), hT.2.1, fun j hj => own_tk (show World.ownsRow _ _ 3 1 _ _ _ from hT.2.2 j hj) htg (by decide)⟩
  have hR1 : OwnI W1 w.heap.size (.slice rA rn rc) D.re := own_tk (show World.ownsRow _ _ 3 1 _ _ _ from hR) htg (by decide)
  have hH1 := hH.tkR htg
  have hO1 := hO.tk htg hwsz (by decide)
  have hX1 : OwnX W1 w.heap.size (.slice bA bn bc) b.tx := own_tk (show World.ownsRow _ _ 41 4 _ _ _ from hTx) htg (by decide)
  have hbW1 : Below w.heap.size w W1 := hbW.trans ((hbt.below (Nat.le_of_lt hgsW)).mono hgs0)
  clear hW1 hg hw hbx hT hR hH hO hTx htg hbt a_0 a_1 a_2 a_3 a_4 a_5 a_6 a_7 a_8 a_9 hgf
  have lb := hbx1.lt
  have lg1 := hG1.lt
  have fg1 := hG1.frozen
  have b_0 := (hbx1.box).2 0 _ rfl; have b_1 := (hbx1.box).2 1 _ rfl; have b_2 := (hbx1.box).2 2 _ rfl
  have HH1 := Lib.hid hH1
  have HG1 := Lib.hid hG1
  have HX1 := Lib.hid hX1
  have hB1 := hbW1.size
  have HBH := Lib.hid hbh
  have HSH := Lib.hid hsH
  have HKH := Lib.hid hkh
  have hapH := Lib.hid hap
  have hrisH := Lib.hid hris
  have hbwH := Lib.hid hbw
  have hnsH := Lib.hid hns
  have hT1H := Lib.hid hT1
  have hR1H := Lib.hid hR1
  have hO1H := Lib.hid hO1
  clear hH1 hG1 hX1 hbh hsH hkh hap hris hbw hns hT1 hR1 hO1
  go_upto_region 13 with (go_at_call 84; refine (ref13_holds_yes gs w.heap.size (.int .i64 D.id) (.int .i64 D.nodes) (.int .i64 (D.next + 1)) (.slice oA on oc) (.int .i64 0) (.int .i64 D.clock) (.slice tA tn tc) (.slice rA rn rc) (.slice none 0 0) eA bA en ec bn bc D.he d b _ HG1.out hB1 HH1.out HBH.out HSH.out (ownX_txs HX1.out hbn) hbn HKH.out hhl).mono ?_; rintro e w5 ⟨X, A3, n3, c3, rfl, rfl, hbX, hH3⟩)
  have hGX := HG1.out.up hbX
  have hG2 := hGX.set_ 7 (.slice A3 n3 c3)
  have htg2 := TKeep.setg (o := 7) (u := .slice A3 n3 c3) hGX
  have hw2 := (hw1.up hbX).far (p := ⟨gs, 7, none⟩) hgwne (.slice A3 n3 c3)
  have hbx2 := (hbx1.up hbX).far (p := ⟨gs, 7, none⟩) hgbne (.slice A3 n3 c3)
  have hT2 : OwnT dWait (X.setCell ⟨gs, 7, none⟩ (.slice A3 n3 c3)) w.heap.size (.slice tA tn tc) ps D.wa := ⟨own_tk (own_up hT1H.out.1 hbX) htg2 (by decide), hT1H.out.2.1, fun j hj => own_tk (own_up (show World.ownsRow _ _ 3 1 _ _ _ from hT1H.out.2.2 j hj) hbX) htg2 (by decide)⟩
  have hR2 : OwnI (X.setCell ⟨gs, 7, none⟩ (.slice A3 n3 c3)) w.heap.size (.slice rA rn rc) D.re := own_tk (own_up (show World.ownsRow _ _ 3 1 _ _ _ from hR1H.out) hbX) htg2 (by decide)
  have hH2 := hH3.tkR htg2
  have hO2 := (hO1H.out.up hbX).tk htg2 (by simp [World.setCell]) (by decide)
  have hX2 : OwnX (X.setCell ⟨gs, 7, none⟩ (.slice A3 n3 c3)) w.heap.size (.slice bA bn bc) b.tx := own_tk (own_up (show World.ownsRow _ _ 41 4 _ _ _ from HX1.out) hbX) htg2 (by decide)
  have hbW2 := (hbW1.trans (hbX.mono hB1)).setCell (p := ⟨gs, 7, none⟩) hgs0 (.slice A3 n3 c3)
  obtain ⟨W2, hW2⟩ : ∃ Z, Z = X.setCell ⟨gs, 7, none⟩ (.slice A3 n3 c3) := ⟨_, rfl⟩
  rw [← hW2] at hG2 hw2 hbx2 hT2 hR2 hH2 hO2 hX2 hbW2 ⊢
  clear hW2 hGX htg2 hw1 hbx1 hbW1 hB1 HH1 HG1 HX1 hT1H hR1H hO1H hbX hH3 b_0 b_1 b_2 lb lg1 fg1
  obtain ⟨lw, hlw⟩ : ∃ x, kposW D.wa d = x := ⟨_, rfl⟩
  have HLW := Lib.hid hlw
  have hlwt : lw ≤ tn := by rw [← hlw, ← HTN.out]; exact cnt_le _ _
  have HLT : Hid (∀ k, k < lw → decide ((wth D.wa k).di < d) = true) := Lib.hid (fun k hk => by rw [← hlw] at hk; exact cnt_lt _ D.wa hk)
  have HST : Hid (lw < tn → decide ((wth D.wa lw).di < d) = false) := Lib.hid (fun h => by (have h2 := cnt_stop (fun x : WaitD => ltI x.di d) D.wa (by show kposW D.wa d < D.wa.length; rw [hlw, HTN.out]; exact h)); rw [show cnt (fun x : WaitD => ltI x.di d) D.wa = lw from hlw] at h2; exact h2)
  have lg2 := hG2.lt
  have a_0 := (hG2.box).2 0 _ rfl; have a_1 := (hG2.box).2 1 _ rfl; have a_2 := (hG2.box).2 2 _ rfl; have a_3 := (hG2.box).2 3 _ rfl; have a_4 := (hG2.box).2 4 _ rfl; have a_5 := (hG2.box).2 5 _ rfl; have a_6 := (hG2.box).2 6 _ rfl; have a_7 := (hG2.box).2 7 _ rfl; have a_8 := (hG2.box).2 8 _ rfl; have a_9 := (hG2.box).2 9 _ rfl
  have HT2 := Lib.hid hT2
  clear hlw hT2
  go_wp2_with fail
  go_loop [9] (fun iv => ∃ k : Nat, k ≤ lw ∧ iv = .int .i64 k) (fun iv => lw - (intOf iv).toNat)
  case atStart => exact ⟨0, Nat.zero_le _, rfl⟩
  case round =>
    obtain ⟨k, hk, rfl⟩ := hrel
    have hrow : ∀ k, k < tn → ∃ gt, tA = some ⟨gt, 0, none⟩ ∧ gt < W2.heap.size ∧ W2.cell? ⟨gt, k * 2, none⟩ = some (.int .i64 (wth D.wa k).di) := fun k hk => by
      have hT1 := HT2.out.1
      rw [HTN.out] at hT1
      obtain ⟨gt, eA, hgtB, hgtl⟩ := own_nz hT1 (by omega)
      subst eA
      obtain ⟨gg, _⟩ := own_get hT1
      exact ⟨gt, rfl, hgtl, gg _ _ (by have := dcells_at dWait HT2.out.2.1 (j := k) (by rw [HTN.out]; exact hk) (r := 0) (by show 0 < 2; omega); rw [show k * 2 = k * dWait.k + 0 from rfl, this]; rfl)⟩
    by_cases hlt : k < lw
    · obtain ⟨gt, eA, hgtl, c0⟩ := hrow k (by omega)
      subst eA
      have hdt : decide ((wth D.wa k).di < d) = true := HLT.out k hlt
      have hkl : decide ((k : Int) < (tn : Int)) = true := by simp only [decide_eq_true_eq]; omega
      have hkl2 : (k : Int) < (tn : Int) := by omega
      clear hrow
      go_wp2_with fail
      (first | (go_round; (case rel => exact ⟨k + 1, by omega, by go_num⟩); (case measure => (simp [intOf] <;> omega))) | (go_roundw; (case rel => exact ⟨k + 1, by omega, by go_num⟩); (case measure => (simp [intOf] <;> omega))) | (refine ⟨?_, by simp [intOf] <;> omega⟩; (repeat apply Exists.intro); refine ⟨?rel, ?fr⟩; (case fr => ((repeat' apply And.intro) <;> rfl)); (case rel => exact ⟨k + 1, by omega, by go_num⟩)))
    · have ekn : lw = k := by omega
      subst ekn
      rcases Nat.lt_or_ge lw tn with hkn | hkn
      · obtain ⟨gt, eA, hgtl, c0⟩ := hrow lw hkn
        subst eA
        have hdt : decide ((wth D.wa lw).di < d) = false := HST.out hkn
        have hkl : decide ((lw : Int) < (tn : Int)) = true := by simp only [decide_eq_true_eq]; omega
        have hkl2 : (lw : Int) < (tn : Int) := by omega
        clear hrow
        go_upto_region 16 with fail
        rename_i K0 hK0 K1 hK1
        exact sealed_ins P D d (D.next + 1) b op2 (insAt D.he (kposH D.he d) ⟨d, b⟩) wa2 ps w W2 gw gs gb lw oA _ A3 rA bA on oc tn tc n3 c3 rn rc bn bc hK0 hK1 hbW2 hgw0 hgs0 hgwne hgbne hgww hw2 hbx2 hG2 hX2 hbn HT2.out hR2 hapH.out hH2 hO2 hoc hom hbwH.out hwl hre hrisH.out hnsH.out HWE.out HLW.out HSW.out
      · have hkl : decide ((lw : Int) < (tn : Int)) = false := by simp only [decide_eq_false_iff_not]; omega
        clear hrow
        go_upto_region 16 with fail
        rename_i K0 hK0 K1 hK1
        exact sealed_ins P D d (D.next + 1) b op2 (insAt D.he (kposH D.he d) ⟨d, b⟩) wa2 ps w W2 gw gs gb lw oA _ A3 rA bA on oc tn tc n3 c3 rn rc bn bc hK0 hK1 hbW2 hgw0 hgs0 hgwne hgbne hgww hw2 hbx2 hG2 hX2 hbn HT2.out hR2 hapH.out hH2 hO2 hoc hom hbwH.out hwl hre hrisH.out hnsH.out HWE.out HLW.out HSW.out
set_option maxRecDepth 100000 in
set_option maxHeartbeats 16000000 in
theorem ref13_Sealed_ok (P : WorkP) (D : WorkD) (d : Int) (w : World) (h : WorkR w P D) (hs : BigD D) (hm : mayW D = true) (hE : nxE D = 0) (hd : digS d = true) (hk : khasH D.he d = false) (hre : D.re.length + D.wa.length ≤ 700000000) :
    Calls Tryz.prog 46 #[P.val D, .int .i64 d] w fun e w' => ∃ gs P' uA un uc us, e = .returned (.tuple #[.pointer (some ⟨gs, 0, none⟩), .int .i64 0]) ∧ Blk w' gs 70 [.int .i64 ({ D with op := D.op.drop 8, next := D.next + 1, age := 0, he := (insAt D.he (kposH D.he d) ⟨d, nxD D⟩), wa := keptW D.nodes (sealW D d), re := keptR D.nodes D.re (sealW D d) } : WorkD).id, .int .i64 ({ D with op := D.op.drop 8, next := D.next + 1, age := 0, he := (insAt D.he (kposH D.he d) ⟨d, nxD D⟩), wa := keptW D.nodes (sealW D d), re := keptR D.nodes D.re (sealW D d) } : WorkD).nodes, .int .i64 ({ D with op := D.op.drop 8, next := D.next + 1, age := 0, he := (insAt D.he (kposH D.he d) ⟨d, nxD D⟩), wa := keptW D.nodes (sealW D d), re := keptR D.nodes D.re (sealW D d) } : WorkD).next, .slice P'.op.A P'.op.n P'.op.c, .int .i64 ({ D with op := D.op.drop 8, next := D.next + 1, age := 0, he := (insAt D.he (kposH D.he d) ⟨d, nxD D⟩), wa := keptW D.nodes (sealW D d), re := keptR D.nodes D.re (sealW D d) } : WorkD).age, .int .i64 ({ D with op := D.op.drop 8, next := D.next + 1, age := 0, he := (insAt D.he (kposH D.he d) ⟨d, nxD D⟩), wa := keptW D.nodes (sealW D d), re := keptR D.nodes D.re (sealW D d) } : WorkD).clock, .slice P'.wa.A P'.wa.n P'.wa.c, .slice P'.he.A P'.he.n P'.he.c, .slice P'.re.A P'.re.n P'.re.c, .slice uA un uc] ∧ WorkQ w' w.heap.size P' ({ D with op := D.op.drop 8, next := D.next + 1, age := 0, he := (insAt D.he (kposH D.he d) ⟨d, nxD D⟩), wa := keptW D.nodes (sealW D d), re := keptR D.nodes D.re (sealW D d) } : WorkD) ∧ OwnT dMsg w' w.heap.size (.slice uA un uc) us (askL D.id d (nxD D) [] D.nodes.toNat) ∧ w.heap.size ≤ gs ∧ Below w.heap.size w w' := by
  have hM := mayW_iff.1 hm
  obtain ⟨hn1, hn2⟩ := numB_iff.1 hM.2.2.2.1
  obtain ⟨hz1, hz2, hhl⟩ := nxE_zero hE
  have HNS := Lib.hid hM.1
  have HSH : Hid (SortedH D.he) := Lib.hid (hdB_iff.1 hM.2.2.2.2.2.2.2.2.2.2.1).sorted
  have HSW : Hid (SortedW D.wa) := Lib.hid (WaitsOk.sorted hM.2.2.2.2.2.2.2.2.2.1)
  have HRIS : Hid (∀ x ∈ sealW D d, RisesIn x.ak D.nodes) := Lib.hid (sealW_rise hM.2.2.2.2.2.2.2.2.2.1 hM.2.1 hM.2.2.1)
  have hop0 : 0 < D.op.length := by omega
  have H := Lib.hid h
  have HS := Lib.hid hs
  have HE := Lib.hid hE
  have HD := Lib.hid hd
  have HKH := Lib.hid hk
  have hF : findI D.he d = -1 := by unfold findI; rw [if_neg (by rw [hk]; simp)]
  have HFI := Lib.hid hF
  clear h hs hm hE hd hk hM hF hz1
  show Calls Tryz.prog 46 #[.agg #[.int .i64 D.id, .int .i64 D.nodes, .int .i64 D.next, .slice P.op.A P.op.n P.op.c, .int .i64 D.age, .int .i64 D.clock, .slice P.wa.A P.wa.n P.wa.c, .slice P.he.A P.he.n P.he.c, .slice P.re.A P.re.n P.re.c], .int .i64 d] w _
  go_enter Tryz.func46, Tryz.ntmps46
  go_wp2_with fail
  have hX1 : Blk (w.alloc (.cells #[.int .i64 D.id, .int .i64 D.nodes, .int .i64 D.next, .slice P.op.A P.op.n P.op.c, .int .i64 D.age, .int .i64 D.clock, .slice P.wa.A P.wa.n P.wa.c, .slice P.he.A P.he.n P.he.c, .slice P.re.A P.re.n P.re.c] 27)) w.heap.size 27 [.int .i64 D.id, .int .i64 D.nodes, .int .i64 D.next, .slice P.op.A P.op.n P.op.c, .int .i64 D.age, .int .i64 D.clock, .slice P.wa.A P.wa.n P.wa.c, .slice P.he.A P.he.n P.he.c, .slice P.re.A P.re.n P.re.c] := Blk.new w 27 [.int .i64 D.id, .int .i64 D.nodes, .int .i64 D.next, .slice P.op.A P.op.n P.op.c, .int .i64 D.age, .int .i64 D.clock, .slice P.wa.A P.wa.n P.wa.c, .slice P.he.A P.he.n P.he.c, .slice P.re.A P.re.n P.re.c]
  have hbX : Below w.heap.size w (w.alloc (.cells #[.int .i64 D.id, .int .i64 D.nodes, .int .i64 D.next, .slice P.op.A P.op.n P.op.c, .int .i64 D.age, .int .i64 D.clock, .slice P.wa.A P.wa.n P.wa.c, .slice P.he.A P.he.n P.he.c, .slice P.re.A P.re.n P.re.c] 27)) := by (repeat (first | (with_reducible exact Below.refl _ _) | (with_reducible assumption) | (with_reducible apply bel_alloc) | (with_reducible apply bel_drew) | (with_reducible apply bel_drewN) | (with_reducible refine bel_trans ?_ (by with_reducible assumption)) | (with_reducible refine bel_trans ?_ (HF.out _)) | (with_reducible refine bel_set ?_ (by simp) _) | (with_reducible refine bel_set ?_ (by simp; omega) _) | (with_reducible refine bel_set ?_ (by omega) _)))
  have hzX : w.heap.size < (w.alloc (.cells #[.int .i64 D.id, .int .i64 D.nodes, .int .i64 D.next, .slice P.op.A P.op.n P.op.c, .int .i64 D.age, .int .i64 D.clock, .slice P.wa.A P.wa.n P.wa.c, .slice P.he.A P.he.n P.he.c, .slice P.re.A P.re.n P.re.c] 27)).heap.size := by simp
  generalize (w.alloc (.cells #[.int .i64 D.id, .int .i64 D.nodes, .int .i64 D.next, .slice P.op.A P.op.n P.op.c, .int .i64 D.age, .int .i64 D.clock, .slice P.wa.A P.wa.n P.wa.c, .slice P.he.A P.he.n P.he.c, .slice P.re.A P.re.n P.re.c] 27)) = X at *
  refine (ref0_CopyWorker3 P D _ (H.out.up hbX) HS.out).mono ?_
  rintro e w1 ⟨⟨⟨oA, on, oc⟩, ⟨tA, tn, tc⟩, ⟨eA, en, ec⟩, ⟨rA, rn, rc⟩⟩, he1, hO1, ⟨ps, hT1, hap⟩, hb1⟩
  simp only [WorkP.val] at he1
  subst he1
  have hB1 := hX1.up hb1
  have lb1 := hB1.lt
  have a_0 := (hB1.box).2 0 _ rfl; have a_1 := (hB1.box).2 1 _ rfl; have a_2 := (hB1.box).2 2 _ rfl; have a_3 := (hB1.box).2 3 _ rfl; have a_4 := (hB1.box).2 4 _ rfl; have a_5 := (hB1.box).2 5 _ rfl; have a_6 := (hB1.box).2 6 _ rfl; have a_7 := (hB1.box).2 7 _ rfl; have a_8 := (hB1.box).2 8 _ rfl
  have hbw1 := bel_trans hbX hb1
  have HO1 := Lib.hid (hO1.mono (Nat.le_of_lt hzX))
  have HT1 := Lib.hid (hT1.mono (Nat.le_of_lt hzX))
  have HAP := Lib.hid hap
  have HB1 := Lib.hid hB1
  clear hX1 hO1 hT1 hap hb1 hbX hzX hB1
  go_upto_region 2 with fail
  have hba : Below w1.heap.size w1 (w1.alloc (.cells #[.int .i64 D.id, .int .i64 D.nodes, .int .i64 D.next, .slice oA on oc, .int .i64 D.age, .int .i64 D.clock, .slice tA tn tc, .slice eA en ec, .slice rA rn rc, .slice none 0 0] 70)) := bel_alloc (Below.refl _ _)
  have HG2 : Hid (Blk (w1.alloc (.cells #[.int .i64 D.id, .int .i64 D.nodes, .int .i64 D.next, .slice oA on oc, .int .i64 D.age, .int .i64 D.clock, .slice tA tn tc, .slice eA en ec, .slice rA rn rc, .slice none 0 0] 70)) w1.heap.size 70 [.int .i64 D.id, .int .i64 D.nodes, .int .i64 D.next, .slice oA on oc, .int .i64 D.age, .int .i64 D.clock, .slice tA tn tc, .slice eA en ec, .slice rA rn rc, .slice none 0 0]) := Lib.hid (Blk.new w1 70 [.int .i64 D.id, .int .i64 D.nodes, .int .i64 D.next, .slice oA on oc, .int .i64 D.age, .int .i64 D.clock, .slice tA tn tc, .slice eA en ec, .slice rA rn rc, .slice none 0 0])
  obtain ⟨gs, hgs⟩ : ∃ g, g = w1.heap.size := ⟨_, rfl⟩
  obtain ⟨W2, hW2⟩ : ∃ Z, Z = w1.alloc (.cells #[.int .i64 D.id, .int .i64 D.nodes, .int .i64 D.next, .slice oA on oc, .int .i64 D.age, .int .i64 D.clock, .slice tA tn tc, .slice eA en ec, .slice rA rn rc, .slice none 0 0] 70) := ⟨_, rfl⟩
  rw [← hW2, ← hgs] at HG2 ⊢
  rw [← hW2] at hba
  have hgsw : w.heap.size < gs := by omega
  have hgs0 : w.heap.size ≤ gs := by omega
  clear hW2 hgs a_0 a_1 a_2 a_3 a_4 a_5 a_6 a_7 a_8 lb1
  have hbw2 := bel_trans hbw1 hba
  have hB2 := HB1.out.up hba
  have lb2 := hB2.lt
  have a_0 := (hB2.box).2 0 _ rfl; have a_1 := (hB2.box).2 1 _ rfl; have a_2 := (hB2.box).2 2 _ rfl; have a_3 := (hB2.box).2 3 _ rfl; have a_4 := (hB2.box).2 4 _ rfl; have a_5 := (hB2.box).2 5 _ rfl; have a_6 := (hB2.box).2 6 _ rfl; have a_7 := (hB2.box).2 7 _ rfl; have a_8 := (hB2.box).2 8 _ rfl
  have HB2 := Lib.hid hB2
  have HO2 := Lib.hid (HO1.out.up hba)
  have HT2 := Lib.hid (HT1.out.up hba)
  clear hB2 HB1 HO1 HT1 hbw1 hba
  go_upto_region 3 with (go_at_call 41; refine (ref13_Make_ok P D _ (H.out.up hbw2) HE.out HS.out.op).mono ?_; rintro e w3 ⟨v3, rfl, ho3, hb3⟩; obtain ⟨bA, bc, rfl, -⟩ := ho3.txs (by rw [List.length_take]; omega); have HX3 := Lib.hid ho3; clear ho3)
  obtain ⟨bn, hbn⟩ : ∃ n, (D.op.take 8).length = n := ⟨_, rfl⟩
  have hbn2 : bn = min 8 D.op.length := by rw [← hbn, List.length_take]
  rw [hbn] at HX3
  first | rw [hbn] | rw [← hbn2] | rw [Nat.min_comm, ← hbn2]
  have HBN2 := Lib.hid hbn2
  have hbn8 : bn ≤ 8 := by omega
  clear hbn2
  have hba : Below w3.heap.size w3 (w3.alloc (.cells #[.int .i64 D.id, .int .i64 D.next, .slice bA bn bc] 43)) := bel_alloc (Below.refl _ _)
  have HBX4 : Hid (Blk (w3.alloc (.cells #[.int .i64 D.id, .int .i64 D.next, .slice bA bn bc] 43)) w3.heap.size 43 [.int .i64 D.id, .int .i64 D.next, .slice bA bn bc]) := Lib.hid (Blk.new w3 43 [.int .i64 D.id, .int .i64 D.next, .slice bA bn bc])
  obtain ⟨gb, hgb⟩ : ∃ g, g = w3.heap.size := ⟨_, rfl⟩
  obtain ⟨W4, hW4⟩ : ∃ Z, Z = w3.alloc (.cells #[.int .i64 D.id, .int .i64 D.next, .slice bA bn bc] 43) := ⟨_, rfl⟩
  rw [← hW4, ← hgb] at HBX4 ⊢
  rw [← hW4] at hba
  have hgsb : gs < gb := by have := (HG2.out.up hb3).lt; omega
  clear hW4 hgb hbn a_0 a_1 a_2 a_3 a_4 a_5 a_6 a_7 a_8 lb2
  have hb24 := bel_trans hb3 hba
  have HG4 := Lib.hid (HG2.out.up hb24)
  have HW4 := Lib.hid (HB2.out.up hb24)
  have HO4 := Lib.hid (HO2.out.up hb24)
  have HT4 := Lib.hid (HT2.out.up hb24)
  have HX4 : Hid (OwnX W4 w.heap.size (.slice bA bn bc) (D.op.take 8)) := Lib.hid ((HX3.out.up hba).mono (by have := hbw2.size; omega))
  have hbw4 := bel_trans hbw2 hb24
  have hHR : HeldsR W4 eA en D.he := (HO4.out.work HS.out).he
  have HHR := Lib.hid hHR
  clear hHR HG2 HB2 HO2 HT2 HX3 hba hb3 hb24 hbw2
  go_upto_region 9 with (first
    | (go_at_call 36; refine (refd_Digest d true _ HD.out).mono ?_; rintro e w' ⟨rfl, rfl⟩)
    | (go_at_call 83; refine (ref13_find gs _ _ _ _ _ _ _ _ _ eA en ec D.he d _ HG4.out HHR.out HSH.out).mono ?_; rintro e w' ⟨rfl, rfl⟩; rw [HFI.out]))
  have hOo := HO4.out.op
  have hon : D.op.length = on := by
    rcases hOo.2 with ⟨e, e2⟩ | ⟨g, cap, cur, e, _⟩
    · unfold SlP.v at e; injection e with _ e3 _; dsimp only at e3; omega
    · unfold SlP.v at e; injection e with _ e3 _; exact e3.symm
  have hon0 : 0 < on := by omega
  have hrow : World.ownsRow W4 w.heap.size 41 4 (.slice oA on oc) on (flat encX D.op) := by have h9 : World.ownsRow W4 w.heap.size 41 4 (.slice oA on oc) D.op.length (flat encX D.op) := hOo; rw [hon] at h9; exact h9
  obtain ⟨go, eA, hgoB, hgol⟩ := own_nz hrow hon0
  subst eA
  have honc : on ≤ oc ∧ oc ≤ 9223372036854775807 := by
    obtain ⟨A2, c2, e2, _, _, h6, h7⟩ := own_row hrow (by have := HS.out.op; omega)
    injection e2 with _ _ e5; omega
  have hbno : bn ≤ on := by have := HBN2.out; omega
  have hTX : TxsR W4 (some ⟨go, 0, none⟩) on D.op := ownX_txs (by unfold OwnX; rw [hon]; exact hrow) (by have := HS.out.op; omega)
  have hblk : ∃ cur, W4.heap[go]? = some (.cells cur 41 (0, 0)) := by
    obtain ⟨_, c2, h2⟩ := own_typeB hrow go rfl
    exact ⟨_, h2⟩
  have HBLK := Lib.hid hblk
  have HON := Lib.hid hon
  clear hblk
  have HTT : Hid (bn < oc → TxsT W4 (some ⟨go, bn * 4, none⟩) (on - bn) (D.op.drop 8)) := Lib.hid (fun _ => by
    refine ⟨?_, fun _ b off s e => by injection e with e; injection e with e1 e2 e3; subst e1; exact HBLK.out⟩
    obtain ⟨t1, t2, t3, t4⟩ := hTX
    have hb88 := HBN2.out
    refine ⟨by rw [List.length_drop]; omega, ?_, by omega, fun h0 => ?_⟩
    · rw [flat_len encX_len, List.length_drop]; omega
    · obtain ⟨b, off, e, hb, hc⟩ := t4 (by omega)
      injection e with e; injection e with e1 e2 e3
      subst e1; subst e2
      refine ⟨go, bn * 4, rfl, hb, fun j u hj => ?_⟩
      have hb8 : bn = 8 := by have := HBN2.out; omega
      rw [flat_drop encX_len, List.getElem?_drop] at hj
      have := hc _ _ hj
      rw [Nat.zero_add] at this
      rw [hb8]; exact this)
  have HTE : Hid (on = bn → TxsT W4 (some ⟨go, 0, none⟩) 0 (D.op.drop 8)) := Lib.hid (fun e => by
    have e2 : D.op.drop 8 = [] := List.drop_eq_nil_of_le (by have := HBN2.out; omega)
    rw [e2]
    exact ⟨⟨rfl, by simp [flat], by omega, fun h => absurd h (by omega)⟩, fun h => absurd h (by omega)⟩)
  obtain ⟨S, hSd⟩ : ∃ S : World → Prop, S = fun Q => Q.cell? ⟨gb, 2, none⟩ = some (.slice bA bn bc) := ⟨_, rfl⟩
  have hS2 : ∀ Q, S Q → Q.cell? ⟨gb, 2, none⟩ = some (.slice bA bn bc) := fun Q h => by rw [hSd] at h; exact h
  have hS : ∀ Q, Below W4.heap.size W4 Q → S Q := fun Q hQ => by rw [hSd]; exact (HBX4.out.up hQ).box.2 2 _ rfl
  have hSs : ∀ Q, S Q → ∀ (A : Option Addr) (n c : Nat), S (Q.setCell ⟨gs, 3, none⟩ (.slice A n c)) := fun Q h A n c => by rw [hSd] at h ⊢; show (Q.setCell ⟨gs, 3, none⟩ (.slice A n c)).cell? ⟨gb, 2, none⟩ = _; rw [World.cell?_setCell_other _ _ _ _ (by intro e; simp only [Addr.mk.injEq] at e; omega)]; exact h
  clear hSd hOo hrow hTX hon HHR
  refine wp_region_held_drew (S := S) (by kernel_rfl) (hS _ (bel_drew (Below.refl _ _))) (fun hHeld => ?_)
  have hbd : Below W4.heap.size W4 W4.drew := bel_drew (Below.refl _ _)
  have hZ := hHeld
  generalize W4.drew = Z at *
  obtain ⟨honc1, honc2⟩ := honc
  by_cases hce : oc = bn
  · have hob : on = bn := by omega
    subst hce
    subst hob
    (refine wpAnyH_tk 0 (some 34) (v := ?_) rfl rfl ?_ ?_; rotate_left; (focus (intro wq hSw; clear hSw; go_simp; all_goals (with_reducible rfl))); simp only [Act.put, List.setIfInBounds_toArray, List.set_cons_zero, List.set_cons_succ])
    (refine wpAnyH_tk 1 (some 35) (v := ?_) rfl rfl ?_ ?_; rotate_left; (focus (intro wq hSw; clear hSw; go_simp; all_goals (with_reducible rfl))); simp only [Act.put, List.setIfInBounds_toArray, List.set_cons_zero, List.set_cons_succ])
    (refine wpAnyH_tk 2 (some 36) (v := ?_) rfl rfl ?_ ?_; rotate_left; (focus (intro wq hSw; clear hSw; go_simp; all_goals (with_reducible rfl))); simp only [Act.put, List.setIfInBounds_toArray, List.set_cons_zero, List.set_cons_succ])
    (refine wpAnyH_tk 3 (some 37) (v := ?_) rfl rfl ?_ ?_; rotate_left; (focus (intro wq hSw; clear hSw; go_simp; all_goals (with_reducible rfl))); simp only [Act.put, List.setIfInBounds_toArray, List.set_cons_zero, List.set_cons_succ])
    (refine wpAnyH_tk 4 (some 38) (v := ?_) rfl rfl ?_ ?_; rotate_left; (focus (intro wq hSw; clear hSw; go_simp; all_goals (with_reducible rfl))); simp only [Act.put, List.setIfInBounds_toArray, List.set_cons_zero, List.set_cons_succ])
    (refine wpAnyH_tk 6 (some 40) (v := ?_) rfl rfl ?_ ?_; rotate_left; (focus (intro wq hSw; clear hSw; go_simp; all_goals (with_reducible rfl))); simp only [Act.put, List.setIfInBounds_toArray, List.set_cons_zero, List.set_cons_succ])
    (refine wpAnyH_tk 7 (some 41) (v := ?_) rfl rfl ?_ ?_; rotate_left; (focus (intro wq hSw; have q1 := hS2 wq hSw; clear hSw; go_simp; all_goals (with_reducible rfl))); simp only [Act.put, List.setIfInBounds_toArray, List.set_cons_zero, List.set_cons_succ])
    (refine wpAnyH_tk 8 (some 42) (v := ?_) rfl rfl ?_ ?_; rotate_left; (focus (intro wq hSw; clear hSw; go_simp; all_goals (with_reducible rfl))); simp only [Act.put, List.setIfInBounds_toArray, List.set_cons_zero, List.set_cons_succ])
    refine wpAnyH_ready (rs := [5]) (by kernel_rfl) (by simp) ?_
    refine AllReadyH.cons (o := _) rfl (fun K hK => ?_) AllReadyH.nil
    have q9 := (HG4.out.up hbd).box.2 3 _ rfl
    have q8 := (HG4.out.up hbd).lt
    go_simp
    clear q9 q8
    refine hK.out _ _ (hS _ hbd) (fun hHeld => ?_)
    clear hK K
    (try simp only [Act.put, List.setIfInBounds_toArray, List.set_cons_zero, List.set_cons_succ])
    (refine wpAnyH_tk 9 (some 43) (v := ?_) rfl rfl ?_ ?_; rotate_left; (focus (intro wq hSw; clear hSw; go_simp; all_goals (with_reducible rfl))); simp only [Act.put, List.setIfInBounds_toArray, List.set_cons_zero, List.set_cons_succ])
    (refine wpAnyH_tk 10 (some 44) (v := ?_) rfl rfl ?_ ?_; rotate_left; (focus (intro wq hSw; clear hSw; go_simp; all_goals (with_reducible rfl))); simp only [Act.put, List.setIfInBounds_toArray, List.set_cons_zero, List.set_cons_succ])
    (refine wpAnyH_tk 11 (some 45) (v := ?_) rfl rfl ?_ ?_; rotate_left; (focus (intro wq hSw; clear hSw; go_simp; all_goals (with_reducible rfl))); simp only [Act.put, List.setIfInBounds_toArray, List.set_cons_zero, List.set_cons_succ])
    (refine wpAnyH_tk 12 (some 46) (v := ?_) rfl rfl ?_ ?_; rotate_left; (focus (intro wq hSw; clear hSw; go_simp; all_goals (with_reducible rfl))); simp only [Act.put, List.setIfInBounds_toArray, List.set_cons_zero, List.set_cons_succ])
    refine wpAnyH_ready (rs := [13]) (by kernel_rfl) (by simp) ?_
    refine AllReadyH.cons (o := _) rfl (fun K hK => ?_) AllReadyH.nil
    have hGz := HG4.out.up hbd
    have qf := hGz.frozen
    have ql := hGz.lt
    have q9 := hGz.box.2 3 _ rfl
    go_simp
    clear qf ql q9
    refine hK.out _ _ (hSs _ (hS _ hbd) ((some ⟨go, 0, none⟩)) (0) (0)) (fun hHeld => ?_)
    clear hK K
    (try simp only [Act.put, List.setIfInBounds_toArray, List.set_cons_zero, List.set_cons_succ])
    refine wpAnyH_done (by kernel_rfl) ?_ _
    clear hHeld hZ hS hS2 hSs
    go_upto_region 10 with fail
    rename_i K hK
    have hGz := HG4.out.up hbd
    have hG5 := hGz.set_ 3 (.slice (some ⟨go, 0, none⟩) 0 0)
    have htg := TKeep.setg (o := 3) (u := .slice (some ⟨go, 0, none⟩) 0 0) hGz
    have hw5 := (HW4.out.up hbd).far (p := ⟨gs, 3, none⟩) (by show w.heap.size ≠ gs; omega) (.slice (some ⟨go, 0, none⟩) 0 0)
    have hbx5 := (HBX4.out.up hbd).far (p := ⟨gs, 3, none⟩) (by show gb ≠ gs; omega) (.slice (some ⟨go, 0, none⟩) 0 0)
    have hT5 : OwnT dWait (Z.setCell ⟨gs, 3, none⟩ (.slice (some ⟨go, 0, none⟩) 0 0)) w.heap.size (.slice tA tn tc) ps D.wa := ⟨own_tk (own_up HT4.out.1 hbd) htg (by decide), HT4.out.2.1, fun j hj => own_tk (own_up (show World.ownsRow _ _ 3 1 _ _ _ from HT4.out.2.2 j hj) hbd) htg (by decide)⟩
    have hR5 : OwnI (Z.setCell ⟨gs, 3, none⟩ (.slice (some ⟨go, 0, none⟩) 0 0)) w.heap.size (.slice rA rn rc) D.re := own_tk (own_up (show World.ownsRow _ _ 3 1 _ _ _ from HO4.out.re) hbd) htg (by decide)
    have hH5 := (HO4.out.he.up hbd).tkR htg
    have hO5 : TxsT (Z.setCell ⟨gs, 3, none⟩ (.slice (some ⟨go, 0, none⟩) 0 0)) ((some ⟨go, 0, none⟩)) (0) (D.op.drop 8) := TxsT.tk (w := Z) ((HTE.out rfl).up hbd) htg (by simp [World.setCell]) (by decide)
    have hX5 : OwnX (Z.setCell ⟨gs, 3, none⟩ (.slice (some ⟨go, 0, none⟩) 0 0)) w.heap.size (.slice bA on bc) (D.op.take 8) := own_tk (own_up (show World.ownsRow _ _ 41 4 _ _ _ from HX4.out) hbd) htg (by decide)
    have hb5 := (hbw4.trans (hbd.mono hbw4.size)).setCell (p := ⟨gs, 3, none⟩) hgs0 (.slice (some ⟨go, 0, none⟩) 0 0)
    exact sealed_mid P D d (nxD D) (D.op.drop 8) (sealW D d) ps w _ w.heap.size gs gb _ tA eA rA bA (0) (0) tn tc en ec rn rc on bc hK hb5 (by omega) hgs0 (by omega) (by omega) (Nat.le_refl _) hw5 hbx5 hG5 hX5 (by omega) hT5 hR5 HAP.out hH5 hO5 (by omega) (by omega) HS.out.wa (by omega) hre HRIS.out HNS.out rfl HSW.out HSH.out HS.out.he HKH.out hhl hn1 hn2
  · have hce2 : ¬ bn = oc := fun e => hce e.symm
    (refine wpAnyH_tk 0 (some 34) (v := ?_) rfl rfl ?_ ?_; rotate_left; (focus (intro wq hSw; clear hSw; go_simp; all_goals (with_reducible rfl))); simp only [Act.put, List.setIfInBounds_toArray, List.set_cons_zero, List.set_cons_succ])
    (refine wpAnyH_tk 1 (some 35) (v := ?_) rfl rfl ?_ ?_; rotate_left; (focus (intro wq hSw; clear hSw; go_simp; all_goals (with_reducible rfl))); simp only [Act.put, List.setIfInBounds_toArray, List.set_cons_zero, List.set_cons_succ])
    (refine wpAnyH_tk 2 (some 36) (v := ?_) rfl rfl ?_ ?_; rotate_left; (focus (intro wq hSw; clear hSw; go_simp; all_goals (with_reducible rfl))); simp only [Act.put, List.setIfInBounds_toArray, List.set_cons_zero, List.set_cons_succ])
    (refine wpAnyH_tk 3 (some 37) (v := ?_) rfl rfl ?_ ?_; rotate_left; (focus (intro wq hSw; clear hSw; go_simp; all_goals (with_reducible rfl))); simp only [Act.put, List.setIfInBounds_toArray, List.set_cons_zero, List.set_cons_succ])
    (refine wpAnyH_tk 4 (some 38) (v := ?_) rfl rfl ?_ ?_; rotate_left; (focus (intro wq hSw; clear hSw; go_simp; all_goals (with_reducible rfl))); simp only [Act.put, List.setIfInBounds_toArray, List.set_cons_zero, List.set_cons_succ])
    (refine wpAnyH_tk 6 (some 40) (v := ?_) rfl rfl ?_ ?_; rotate_left; (focus (intro wq hSw; clear hSw; go_simp; all_goals (with_reducible rfl))); simp only [Act.put, List.setIfInBounds_toArray, List.set_cons_zero, List.set_cons_succ])
    (refine wpAnyH_tk 7 (some 41) (v := ?_) rfl rfl ?_ ?_; rotate_left; (focus (intro wq hSw; have q1 := hS2 wq hSw; clear hSw; go_simp; all_goals (with_reducible rfl))); simp only [Act.put, List.setIfInBounds_toArray, List.set_cons_zero, List.set_cons_succ])
    (refine wpAnyH_tk 8 (some 42) (v := ?_) rfl rfl ?_ ?_; rotate_left; (focus (intro wq hSw; clear hSw; go_simp; all_goals (with_reducible rfl))); simp only [Act.put, List.setIfInBounds_toArray, List.set_cons_zero, List.set_cons_succ])
    refine wpAnyH_ready (rs := [5]) (by kernel_rfl) (by simp) ?_
    refine AllReadyH.cons (o := _) rfl (fun K hK => ?_) AllReadyH.nil
    have q9 := (HG4.out.up hbd).box.2 3 _ rfl
    have q8 := (HG4.out.up hbd).lt
    go_simp
    clear q9 q8
    refine hK.out _ _ (hS _ hbd) (fun hHeld => ?_)
    clear hK K
    (try simp only [Act.put, List.setIfInBounds_toArray, List.set_cons_zero, List.set_cons_succ])
    (refine wpAnyH_tk 9 (some 43) (v := ?_) rfl rfl ?_ ?_; rotate_left; (focus (intro wq hSw; clear hSw; go_simp; all_goals (with_reducible rfl))); simp only [Act.put, List.setIfInBounds_toArray, List.set_cons_zero, List.set_cons_succ])
    (refine wpAnyH_tk 10 (some 44) (v := ?_) rfl rfl ?_ ?_; rotate_left; (focus (intro wq hSw; clear hSw; go_simp; all_goals (with_reducible rfl))); simp only [Act.put, List.setIfInBounds_toArray, List.set_cons_zero, List.set_cons_succ])
    (refine wpAnyH_tk 11 (some 45) (v := ?_) rfl rfl ?_ ?_; rotate_left; (focus (intro wq hSw; clear hSw; go_simp; all_goals (with_reducible rfl))); simp only [Act.put, List.setIfInBounds_toArray, List.set_cons_zero, List.set_cons_succ])
    (refine wpAnyH_tk 12 (some 46) (v := ?_) rfl rfl ?_ ?_; rotate_left; (focus (intro wq hSw; clear hSw; go_simp; all_goals (with_reducible rfl))); simp only [Act.put, List.setIfInBounds_toArray, List.set_cons_zero, List.set_cons_succ])
    refine wpAnyH_ready (rs := [13]) (by kernel_rfl) (by simp) ?_
    refine AllReadyH.cons (o := _) rfl (fun K hK => ?_) AllReadyH.nil
    have hGz := HG4.out.up hbd
    have qf := hGz.frozen
    have ql := hGz.lt
    have q9 := hGz.box.2 3 _ rfl
    go_simp
    clear qf ql q9
    refine hK.out _ _ (hSs _ (hS _ hbd) ((some ⟨go, bn * 4, none⟩)) ((on - bn)) ((oc - bn))) (fun hHeld => ?_)
    clear hK K
    (try simp only [Act.put, List.setIfInBounds_toArray, List.set_cons_zero, List.set_cons_succ])
    refine wpAnyH_done (by kernel_rfl) ?_ _
    clear hHeld hZ hS hS2 hSs
    go_upto_region 10 with fail
    rename_i K hK
    have hGz := HG4.out.up hbd
    have hG5 := hGz.set_ 3 (.slice (some ⟨go, bn * 4, none⟩) (on - bn) (oc - bn))
    have htg := TKeep.setg (o := 3) (u := .slice (some ⟨go, bn * 4, none⟩) (on - bn) (oc - bn)) hGz
    have hw5 := (HW4.out.up hbd).far (p := ⟨gs, 3, none⟩) (by show w.heap.size ≠ gs; omega) (.slice (some ⟨go, bn * 4, none⟩) (on - bn) (oc - bn))
    have hbx5 := (HBX4.out.up hbd).far (p := ⟨gs, 3, none⟩) (by show gb ≠ gs; omega) (.slice (some ⟨go, bn * 4, none⟩) (on - bn) (oc - bn))
    have hT5 : OwnT dWait (Z.setCell ⟨gs, 3, none⟩ (.slice (some ⟨go, bn * 4, none⟩) (on - bn) (oc - bn))) w.heap.size (.slice tA tn tc) ps D.wa := ⟨own_tk (own_up HT4.out.1 hbd) htg (by decide), HT4.out.2.1, fun j hj => own_tk (own_up (show World.ownsRow _ _ 3 1 _ _ _ from HT4.out.2.2 j hj) hbd) htg (by decide)⟩
    have hR5 : OwnI (Z.setCell ⟨gs, 3, none⟩ (.slice (some ⟨go, bn * 4, none⟩) (on - bn) (oc - bn))) w.heap.size (.slice rA rn rc) D.re := own_tk (own_up (show World.ownsRow _ _ 3 1 _ _ _ from HO4.out.re) hbd) htg (by decide)
    have hH5 := (HO4.out.he.up hbd).tkR htg
    have hO5 : TxsT (Z.setCell ⟨gs, 3, none⟩ (.slice (some ⟨go, bn * 4, none⟩) (on - bn) (oc - bn))) ((some ⟨go, bn * 4, none⟩)) ((on - bn)) (D.op.drop 8) := TxsT.tk (w := Z) ((HTT.out (by omega)).up hbd) htg (by simp [World.setCell]) (by decide)
    have hX5 : OwnX (Z.setCell ⟨gs, 3, none⟩ (.slice (some ⟨go, bn * 4, none⟩) (on - bn) (oc - bn))) w.heap.size (.slice bA bn bc) (D.op.take 8) := own_tk (own_up (show World.ownsRow _ _ 41 4 _ _ _ from HX4.out) hbd) htg (by decide)
    have hb5 := (hbw4.trans (hbd.mono hbw4.size)).setCell (p := ⟨gs, 3, none⟩) hgs0 (.slice (some ⟨go, bn * 4, none⟩) (on - bn) (oc - bn))
    exact sealed_mid P D d (nxD D) (D.op.drop 8) (sealW D d) ps w _ w.heap.size gs gb _ tA eA rA bA ((on - bn)) ((oc - bn)) tn tc en ec rn rc bn bc hK hb5 (by omega) hgs0 (by omega) (by omega) (Nat.le_refl _) hw5 hbx5 hG5 hX5 (by omega) hT5 hR5 HAP.out hH5 hO5 (by omega) (by omega) HS.out.wa (by omega) hre HRIS.out HNS.out rfl HSW.out HSH.out HS.out.he HKH.out hhl hn1 hn2
end Go.Proofs.YtgfakefcmbpboaaGreat
