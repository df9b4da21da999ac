/- Sealing at the page, from where others are asked. -/
import Derived.Test.YtgfakefcmbpboaaGreatShWsw
namespace Go.Proofs.YtgfakefcmbpboaaGreat
open Go.RowKit
set_option linter.unusedSimpArgs false
set_option linter.unusedVariables false

theorem But.blkT {B g k : Nat} {w w' : World} {t : TypeId} {cs : List Value} (h : But B g w w') (hb : Blk w k t cs) (hk : k < B) (hne : k ≠ g) : Blk w' k t cs := hb.of_heap (h.block k hk hne)
noncomputable def sealedEnd : Code := cAfter 13 (Tryz.f46.body.getD .skip)
set_option maxRecDepth 100000 in
set_option maxHeartbeats 16000000 in
theorem sealed_tail {K0 K1 : Act → World → Prop} (P : WorkP) (D : WorkD) (d n2 : Int) (b : BatchD) (op2 : List TxD) (he2 : List HeldD) (wa2 : List WaitD) (ps : List Value) (w W : World) (gw gs gb : Nat) (oA tA eA rA bA : Option Addr) (on oc tn tc en ec rn rc bn bc : Nat) {u0 u3 u4 u5 u8 u9 u10 u11 u12 u13 u14 u15 u16 u17 u18 u19 u20 u21 u22 u23 u24 u25 u26 u27 u28 u29 u30 u31 u32 u33 u34 u35 u36 u37 u38 u39 u40 u41 u42 u43 u44 u45 u46 u47 u48 u49 u50 u51 u52 u53 u54 u55 u56 u57 u58 u59 u60 u61 u62 u63 u64 u65 u66 u67 u68 u69 u70 u71 u72 u73 u74 u75 u76 u77 u78 u79 u80 u81 u82 u83 u84 u85 u86 u87 u88 u89 u90 u91 u92 u93 u94 u95 u96 u97 u98 u99 u100 u101 u102 u103 u104 u105 u106 u107 u108 u109 u110 u111 u112 u113 u114 u115 u116 u117 u118 u119 u120 u121 u122 u123 u124 u125 u126 u127 u128 u129 u130 u131 u132 u133 u134 u135 u136 u137 u138 u139 u140 u141 u142 u143 u144 u145 u146 u147 u148 u149 u150 u151 u152 u153 u154 u155 : Value}
    (hK0 : ∀ a' w', Code.wp Tryz.prog (cSnd sealedEnd) (bodyPost Tryz.prog Tryz.f46 (fun e w' => ∃ gs P' uA un uc us, e = .returned (.tuple #[.pointer (some ⟨gs, 0, none⟩), .int .i64 0]) ∧ Blk w' gs 70 [.int .i64 ({ D with op := op2, next := n2, age := 0, he := he2, wa := keptW D.nodes wa2, re := keptR D.nodes D.re wa2 } : WorkD).id, .int .i64 ({ D with op := op2, next := n2, age := 0, he := he2, wa := keptW D.nodes wa2, re := keptR D.nodes D.re wa2 } : WorkD).nodes, .int .i64 ({ D with op := op2, next := n2, age := 0, he := he2, wa := keptW D.nodes wa2, re := keptR D.nodes D.re wa2 } : WorkD).next, .slice P'.op.A P'.op.n P'.op.c, .int .i64 ({ D with op := op2, next := n2, age := 0, he := he2, wa := keptW D.nodes wa2, re := keptR D.nodes D.re wa2 } : WorkD).age, .int .i64 ({ D with op := op2, next := n2, age := 0, he := he2, wa := keptW D.nodes wa2, re := keptR D.nodes D.re wa2 } : WorkD).clock, .slice P'.wa.A P'.wa.n P'.wa.c, .slice P'.he.A P'.he.n P'.he.c, .slice P'.re.A P'.re.n P'.re.c, .slice uA un uc] ∧ WorkQ w' w.heap.size P' ({ D with op := op2, next := n2, age := 0, he := he2, wa := keptW D.nodes wa2, re := keptR D.nodes D.re wa2 } : WorkD) ∧ OwnT dMsg w' w.heap.size (.slice uA un uc) us (askL D.id d b [] D.nodes.toNat) ∧ w.heap.size ≤ gs ∧ Below w.heap.size w w')) a' w' → K0 a' w')
    (hK1 : ∀ a' w', Code.wp Tryz.prog (cSnd (cFst sealedEnd)) (Exit.then K0 (bodyPost Tryz.prog Tryz.f46 (fun e w' => ∃ gs P' uA un uc us, e = .returned (.tuple #[.pointer (some ⟨gs, 0, none⟩), .int .i64 0]) ∧ Blk w' gs 70 [.int .i64 ({ D with op := op2, next := n2, age := 0, he := he2, wa := keptW D.nodes wa2, re := keptR D.nodes D.re wa2 } : WorkD).id, .int .i64 ({ D with op := op2, next := n2, age := 0, he := he2, wa := keptW D.nodes wa2, re := keptR D.nodes D.re wa2 } : WorkD).nodes, .int .i64 ({ D with op := op2, next := n2, age := 0, he := he2, wa := keptW D.nodes wa2, re := keptR D.nodes D.re wa2 } : WorkD).next, .slice P'.op.A P'.op.n P'.op.c, .int .i64 ({ D with op := op2, next := n2, age := 0, he := he2, wa := keptW D.nodes wa2, re := keptR D.nodes D.re wa2 } : WorkD).age, .int .i64 ({ D with op := op2, next := n2, age := 0, he := he2, wa := keptW D.nodes wa2, re := keptR D.nodes D.re wa2 } : WorkD).clock, .slice P'.wa.A P'.wa.n P'.wa.c, .slice P'.he.A P'.he.n P'.he.c, .slice P'.re.A P'.re.n P'.re.c, .slice uA un uc] ∧ WorkQ w' w.heap.size P' ({ D with op := op2, next := n2, age := 0, he := he2, wa := keptW D.nodes wa2, re := keptR D.nodes D.re wa2 } : WorkD) ∧ OwnT dMsg w' w.heap.size (.slice uA un uc) us (askL D.id d b [] D.nodes.toNat) ∧ w.heap.size ≤ gs ∧ Below w.heap.size w w'))) a' w' → K1 a' w')
    (hbW : Below w.heap.size w W) (hgw0 : gw < W.heap.size) (hgs0 : w.heap.size ≤ gs) (hgwne : gw ≠ gs) (hgbne : gb ≠ gs)
    (hw : Blk W gw 27 [.int .i64 D.id, .int .i64 D.nodes, .int .i64 D.next, .slice P.op.A P.op.n P.op.c, .int .i64 D.age, .int .i64 D.clock, .slice P.wa.A P.wa.n P.wa.c, .slice P.he.A P.he.n P.he.c, .slice P.re.A P.re.n P.re.c]) (hbx : Blk W gb 43 [.int .i64 b.au, .int .i64 b.n, .slice bA bn bc]) (hg : Blk W gs 70 [.int .i64 D.id, .int .i64 D.nodes, .int .i64 n2, .slice oA on oc, .int .i64 0, .int .i64 D.clock, .slice tA tn tc, .slice eA en ec, .slice rA rn rc, .slice none 0 0])
    (hTx : TxsR W bA bn b.tx) (hTb : ∀ X, But W.heap.size gs W X → TxsR X bA bn b.tx) (hbn : bn ≤ 800000000)
    (hT : OwnT dWait W w.heap.size (.slice tA tn tc) ps wa2) (hR : OwnI W w.heap.size (.slice rA rn rc) D.re) (hap : ApartW ps wa2 (Value.slice rA rn rc).ownBlock) (hH : OwnHs W w.heap.size (.slice eA en ec) he2) (hO : TxsT W oA on op2) (hoc : on ≤ oc) (hom : oc ≤ 9223372036854775807)
    (hbw : BigW wa2) (hre : D.re.length + wa2.length ≤ 800000000) (hris : ∀ x ∈ wa2, RisesIn x.ak D.nodes) (hns : isS D.nodes = true) :
    Code.wp Tryz.prog (cFst (cFst sealedEnd)) (Exit.then K1 (Exit.then K0 (bodyPost Tryz.prog Tryz.f46 (fun e w' => ∃ gs P' uA un uc us, e = .returned (.tuple #[.pointer (some ⟨gs, 0, none⟩), .int .i64 0]) ∧ Blk w' gs 70 [.int .i64 ({ D with op := op2, next := n2, age := 0, he := he2, wa := keptW D.nodes wa2, re := keptR D.nodes D.re wa2 } : WorkD).id, .int .i64 ({ D with op := op2, next := n2, age := 0, he := he2, wa := keptW D.nodes wa2, re := keptR D.nodes D.re wa2 } : WorkD).nodes, .int .i64 ({ D with op := op2, next := n2, age := 0, he := he2, wa := keptW D.nodes wa2, re := keptR D.nodes D.re wa2 } : WorkD).next, .slice P'.op.A P'.op.n P'.op.c, .int .i64 ({ D with op := op2, next := n2, age := 0, he := he2, wa := keptW D.nodes wa2, re := keptR D.nodes D.re wa2 } : WorkD).age, .int .i64 ({ D with op := op2, next := n2, age := 0, he := he2, wa := keptW D.nodes wa2, re := keptR D.nodes D.re wa2 } : WorkD).clock, .slice P'.wa.A P'.wa.n P'.wa.c, .slice P'.he.A P'.he.n P'.he.c, .slice P'.re.A P'.re.n P'.re.c, .slice uA un uc] ∧ WorkQ w' w.heap.size P' ({ D with op := op2, next := n2, age := 0, he := he2, wa := keptW D.nodes wa2, re := keptR D.nodes D.re wa2 } : WorkD) ∧ OwnT dMsg w' w.heap.size (.slice uA un uc) us (askL D.id d b [] D.nodes.toNat) ∧ w.heap.size ≤ gs ∧ Below w.heap.size w w')))) { tmps := #[u0, .int .i64 d, .pointer (some ⟨gw, 0, none⟩), u3, u4, u5, .pointer (some ⟨gs, 0, none⟩), .pointer (some ⟨gb, 0, none⟩), u8, u9, u10, u11, u12, u13, u14, u15, u16, u17, u18, u19, u20, u21, u22, u23, u24, u25, u26, u27, u28, u29, u30, u31, u32, u33, u34, u35, u36, u37, u38, u39, u40, u41, u42, u43, u44, u45, u46, u47, u48, u49, u50, u51, u52, u53, u54, u55, u56, u57, u58, u59, u60, u61, u62, u63, u64, u65, u66, u67, u68, u69, u70, u71, u72, u73, u74, u75, u76, u77, u78, u79, u80, u81, u82, u83, u84, u85, u86, u87, u88, u89, u90, u91, u92, u93, u94, u95, u96, u97, u98, u99, u100, u101, u102, u103, u104, u105, u106, u107, u108, u109, u110, u111, u112, u113, u114, u115, u116, u117, u118, u119, u120, u121, u122, u123, u124, u125, u126, u127, u128, u129, u130, u131, u132, u133, u134, u135, u136, u137, u138, u139, u140, u141, u142, u143, u144, u145, u146, u147, u148, u149, u150, u151, u152, u153, u154, u155], defers := [] } W := by
  have hn1 := (isS_bd hns).1
  have hn16 := (isS_bd hns).2
  have HK0 := Lib.hid hK0
  have HK1 := Lib.hid hK1
  have HW := Lib.hid hw
  have HBX := Lib.hid hbx
  have HG := Lib.hid hg
  have HTB := Lib.hid hTb
  have HBN : Hid (b.tx.length = bn) := Lib.hid hTx.1
  have HT := Lib.hid hT
  have HR := Lib.hid hR
  have HAP := Lib.hid hap
  have HH := Lib.hid hH
  have HO := Lib.hid hO
  have HBW := Lib.hid hbw
  have HRE := Lib.hid hre
  have HRIS := Lib.hid hris
  have HNS := Lib.hid hns
  have HRL : Hid (∀ q, (Value.slice rA rn rc).ownBlock = some q → q < W.heap.size) := Lib.hid (fun q hq => (own_lt (show World.ownsRow _ _ 3 1 _ _ _ from hR) q hq).2)
  have hgsW := hg.lt
  have hgbW := hbx.lt
  clear hK0 hK1 hw hbx hg hTx hTb hT hR hap hH hO hbw hre hris hns
  dsimp only [sealedEnd, cAfter, cSnd, cFst, Tryz.f46, Option.getD]
  go_wp2_with fail
  show K1 _ _
  apply HK1.out
  dsimp only [sealedEnd, cAfter, cSnd, cFst, Tryz.f46, Option.getD]
  go_wp2_with fail
  go_loopw [11] (fun nv wr => ∃ (m : Nat) (uA : Option Addr) (un uc : Nat) (us : List MsgP), nv = .int .i64 ((m : Int) + 1) ∧ (m : Int) ≤ D.nodes ∧ Hid (Blk wr gs 70 [.int .i64 D.id, .int .i64 D.nodes, .int .i64 n2, .slice oA on oc, .int .i64 0, .int .i64 D.clock, .slice tA tn tc, .slice eA en ec, .slice rA rn rc, .slice uA un uc]) ∧ Hid (OwnT dMsg wr W.heap.size (.slice uA un uc) us (askL D.id d b [] m)) ∧ But W.heap.size gs W wr) (fun nv _ => 18 - (intOf nv).toNat)
  case atStart => exact ⟨0, none, 0, 0, [], by go_num, by omega, HG, Lib.hid (OwnT.nil _ _), But.refl _ _ _⟩
  case round =>
    obtain ⟨m, uA, un, uc, us, rfl, hm16, HGS, HU, hbut⟩ := hrel
    (obtain ⟨wm, hwm⟩ : ∃ x, x = wr := ⟨_, rfl⟩); subst hwm
    have hszm := hbut.size
    have hWm := But.blkT hbut HW.out hgw0 hgwne
    have hBm := But.blkT hbut HBX.out hgbW hgbne
    have lwm := hWm.lt
    have lbm := hBm.lt
    have w_0 := hWm.box.2 0 _ rfl
    have w_1 := hWm.box.2 1 _ rfl
    have b_0 := (hBm.box).2 0 _ rfl; have b_1 := (hBm.box).2 1 _ rfl; have b_2 := (hBm.box).2 2 _ rfl
    clear hWm hBm
    by_cases hmn : (m : Int) < D.nodes
    · have hle : decide ((m : Int) + 1 ≤ D.nodes) = true := by simp only [decide_eq_true_eq]; omega
      by_cases hid : (m : Int) + 1 = D.id
      · have hs2 : askL D.id d b [] (m + 1) = askL D.id d b [] m ++ [] := by rw [askL, if_neg (fun h => h.1 hid)]
        have HS2 := Lib.hid hs2
        have hne : (((m : Int) + 1) != D.id) = false := by simp [hid]
        clear hid hs2
        go_wp2_with fail
        (first | (go_round; (case rel => exact ⟨m + 1, uA, un, uc, us, by go_num, by omega, HGS, by (rw [HS2.out, List.append_nil]; exact HU), hbut⟩); (case measure => (simp [intOf] <;> omega))) | (go_roundw; (case rel => exact ⟨m + 1, uA, un, uc, us, by go_num, by omega, HGS, by (rw [HS2.out, List.append_nil]; exact HU), hbut⟩); (case measure => (simp [intOf] <;> omega))) | (refine ⟨?_, by simp [intOf] <;> omega⟩; (repeat apply Exists.intro); refine ⟨?rel, ?fr⟩; (case fr => ((repeat' apply And.intro) <;> rfl)); (case rel => exact ⟨m + 1, uA, un, uc, us, by go_num, by omega, HGS, by (rw [HS2.out, List.append_nil]; exact HU), hbut⟩)))
      · have hne : (((m : Int) + 1) != D.id) = true := by simp [hid]
        have hs2 : askL D.id d b [] (m + 1) = askL D.id d b [] m ++ [askM D.id d b ((m : Int) + 1)] := by rw [askL, if_pos ⟨hid, by simp [memS]⟩]
        have HS2 := Lib.hid hs2
        have hlen : (askL D.id d b [] m).length ≤ 800000000 := by have := askL_len D.id d b [] m; omega
        clear hid hs2
        go_wp2_with (first
          | (go_at_call 86; refine (ref0_CopyBatchO b bA bn bc _ (HTB.out _ hbut) hbn).mono ?_; rintro e w7 ⟨v7, rfl, ho7, hb7⟩; obtain ⟨A7, c7, rfl, -⟩ := ho7.txs (by rw [HBN.out]; omega); rw [HBN.out] at ho7 ⊢; have hM7 : OwnM w7 W.heap.size (⟨⟨A7, bn, c7⟩, ⟨⟨none, 0, 0⟩, ⟨none, 0, 0⟩⟩, ⟨⟨⟨none, 0, 0⟩, ⟨none, 0, 0⟩⟩, ⟨none, 0, 0⟩⟩, ⟨none, 0, 0⟩⟩ : MsgP) (⟨1, 0, (m : Int) + 1, d, b, ⟨0, 0, [], []⟩, ⟨⟨0, 0, [], []⟩, 0, []⟩, []⟩ : MsgD) := ⟨ho7.mono hszm, OwnI.nil _ _, OwnI.nil _ _, OwnI.nil _ _, OwnI.nil _ _, OwnI.nil _ _, OwnI.nil _ _⟩; have HM7 := Lib.hid hM7; clear hM7 ho7)
          | (go_at_call 85; refine (ref13_tells gs W.heap.size D.id (.int .i64 D.nodes) (.int .i64 n2) (.slice oA on oc) (.int .i64 0) (.int .i64 D.clock) (.slice tA tn tc) (.slice eA en ec) (.slice rA rn rc) uA un uc us (askL D.id d b [] m) (⟨⟨A7, bn, c7⟩, ⟨⟨none, 0, 0⟩, ⟨none, 0, 0⟩⟩, ⟨⟨⟨none, 0, 0⟩, ⟨none, 0, 0⟩⟩, ⟨none, 0, 0⟩⟩, ⟨none, 0, 0⟩⟩ : MsgP) (⟨1, 0, (m : Int) + 1, d, b, ⟨0, 0, [], []⟩, ⟨⟨0, 0, [], []⟩, 0, []⟩, []⟩ : MsgD) _ (HGS.out.up hb7) hgsW (Nat.le_trans hszm hb7.size) (HU.out.up hb7) hlen HM7.out).mono ?_; rintro e w8 ⟨X, A8, n8, c8, rfl, rfl, hbX8, hkX, hoX⟩))
        have hkw := (KeepM.of_below hb7).trans hkX
        have HGX := Lib.hid ((hkw _ _ _ (by decide) HGS.out).set_ 9 (.slice A8 n8 c8))
        have hbt8 := (hbut.trans ((But.of_below (g := gs) (hb7.mono hszm)).trans (But.of_below hbX8))).setg (o := 9) (u := .slice A8 n8 c8)
        have HOX : Hid (OwnT dMsg (X.setCell ⟨gs, 9, none⟩ (.slice A8 n8 c8)) W.heap.size (.slice A8 n8 c8) (us ++ [(⟨⟨A7, bn, c7⟩, ⟨⟨none, 0, 0⟩, ⟨none, 0, 0⟩⟩, ⟨⟨⟨none, 0, 0⟩, ⟨none, 0, 0⟩⟩, ⟨none, 0, 0⟩⟩, ⟨none, 0, 0⟩⟩ : MsgP)]) (askL D.id d b [] (m + 1))) := Lib.hid (by (rw [HS2.out]; exact hoX.low hgsW))
        clear hoX hkw hkX hbX8 hb7 HM7
        (first | (go_round; (case rel => exact ⟨m + 1, A8, n8, c8, _, by go_num, by omega, HGX, HOX, hbt8⟩); (case measure => (simp [intOf] <;> omega))) | (go_roundw; (case rel => exact ⟨m + 1, A8, n8, c8, _, by go_num, by omega, HGX, HOX, hbt8⟩); (case measure => (simp [intOf] <;> omega))) | (refine ⟨?_, by simp [intOf] <;> omega⟩; (repeat apply Exists.intro); refine ⟨?rel, ?fr⟩; (case fr => ((repeat' apply And.intro) <;> rfl)); (case rel => exact ⟨m + 1, A8, n8, c8, _, by go_num, by omega, HGX, HOX, hbt8⟩)))
    · have hle : decide ((m : Int) + 1 ≤ D.nodes) = false := by simp only [decide_eq_false_iff_not]; omega
      have hmt : D.nodes.toNat = m := by omega
      have HMT := Lib.hid hmt
      clear hmt
      go_wp2_with fail
      show K0 _ _
      apply HK0.out
      dsimp only [sealedEnd, cAfter, cSnd, cFst, Tryz.f46, Option.getD]
      have htk : TKeep 70 W wm := TKeep.of_but HG.out hbut
      have hTm : OwnT dWait wm w.heap.size (.slice tA tn tc) ps wa2 := ⟨own_tk HT.out.1 htk (by decide), HT.out.2.1, fun j hj => own_tk (show World.ownsRow _ _ 3 1 _ _ _ from HT.out.2.2 j hj) htk (by decide)⟩
      have hRm : OwnI wm w.heap.size (.slice rA rn rc) D.re := own_tk (show World.ownsRow _ _ 3 1 _ _ _ from HR.out) htk (by decide)
      have hHm : OwnHs wm w.heap.size (.slice eA en ec) he2 := HH.out.tkR htk
      have hOm : TxsT wm oA on op2 := HO.out.tk htk hszm (by decide)
      have HTM := Lib.hid hTm
      have HRM := Lib.hid hRm
      have HHM := Lib.hid hHm
      have HOM := Lib.hid hOm
      have hwsz := hbW.size
      have hBm : w.heap.size ≤ wm.heap.size := Nat.le_trans hwsz hszm
      clear htk hTm hRm hHm hOm b_0 b_1 b_2 w_0 w_1 lwm lbm
      go_wp2_with (go_at_call 87; refine (ref13_kept gs w.heap.size oA tA eA rA uA on oc tn tc en ec rn rc un uc ({ D with next := n2, age := 0, wa := wa2 } : WorkD) ps _ HGS.out hBm HTM.out HRM.out HAP.out HBW.out HRE.out HRIS.out HNS.out).mono ?_; rintro e w9 ⟨A1, m1, c1, A2, m2, c2, rfl, hG9, hK9, hW9, hR9⟩)
      have HG9 := Lib.hid hG9
      have HH9 := Lib.hid (OwnT.kbW hK9 HHM.out HGS.out (show World.ownsRow _ _ 3 1 _ _ _ from HRM.out) rfl)
      have HO9 := Lib.hid (HOM.out.kb hK9 HGS.out (by decide) (show World.ownsRow _ _ 3 1 _ _ _ from HRM.out) rfl)
      have HU9 := Lib.hid (msgs_kb hK9 HU.out hgsW (fun q e => HRL.out q e))
      have HW9 := Lib.hid hW9
      have HR9 := Lib.hid hR9
      have hbe : Below w.heap.size w w9 := (hbW.trans ((hbut.below (Nat.le_of_lt hgsW)).mono hgs0)).trans ⟨hK9.os, hK9.tape, hK9.output, hK9.size, fun k hk => hK9.block k (by omega) (by omega) (fun e => by have := (own_lt (show World.ownsRow _ _ 3 1 _ _ _ from HRM.out) k e).1; omega)⟩
      have HBE := Lib.hid hbe
      clear hG9 hK9 hW9 hR9 hbe hbut
      go_wp2_with fail
      exact bodyPost_ret (v := .tuple #[.pointer (some ⟨gs, 0, none⟩), .int .i64 0]) (by simp [results, Tryz.results46, go_sem]) rfl ⟨gs, ⟨⟨oA, on, oc⟩, ⟨A1, m1, c1⟩, ⟨eA, en, ec⟩, ⟨A2, m2, c2⟩⟩, uA, un, uc, us, rfl, HG9.out, ⟨HO9.out, HW9.out, HH9.out, HR9.out, hoc, hom⟩, by (rw [HMT.out]; exact HU9.out.mono hwsz), hgs0, HBE.out⟩
end Go.Proofs.YtgfakefcmbpboaaGreat
