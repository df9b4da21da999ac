/- Sealing at the page: one more that waits. -/
import Derived.Test.YtgfakefcmbpboaaGreatShWst
namespace Go.Proofs.YtgfakefcmbpboaaGreat
open Go.RowKit
set_option linter.unusedSimpArgs false
set_option linter.unusedVariables false

def cThen : Code → Code
  | .cond _ a _ => a
  | c => c
noncomputable def insEnd : Code := cAfter 12 (Tryz.f46.body.getD .skip)
theorem khasW_lt {l : List WaitD} {key : Int} {lo : Nat} (hlo : kposW l key = lo) (h : khasW l key = true) : lo < l.length ∧ (wth l lo).di = key := by
  unfold khasW at h; rw [hlo] at h; exact dec_iff.1 h
theorem khasW_iff {l : List WaitD} (hs : SortedW l) {key : Int} : khasW l key = true ↔ ∃ j, j < l.length ∧ (wth l j).di = key := by
  constructor
  · intro h; exact ⟨_, khasW_lt rfl h⟩
  · rintro ⟨j, hj, e⟩
    have hpos : kposW l key = j := cnt_eq _ l j (by omega) (fun t ht => by have := hs t j ht hj; rw [e] at this; exact this) (fun _ => by show ltI (wth l j).di key = false; rw [e]; simp [ltI])
    unfold khasW; rw [hpos]; exact dec_iff.2 ⟨hj, e⟩
theorem ownX_txs {w : World} {B : Nat} {A : Option Addr} {n c : Nat} {l : List TxD} (h : OwnX w B (.slice A n c) l) (hn : n ≤ 800000000) : TxsR w A n l := by
  have e1 : l.length = n := by
    rcases h.2 with ⟨e, e2⟩ | ⟨g, cap, cur, e, _⟩
    · injection e with _ e3 _; omega
    · injection e with _ e3 _; exact e3.symm
  obtain ⟨A2, c2, e2, ht, _⟩ := h.txs (by omega)
  injection e2 with e3 e4 e5
  rw [e3, e4]; exact ht
theorem apart_ins {qs ps : List Value} {p : Value} {l : List WaitD} {x : WaitD} {lo : Nat} {rq : Option Nat} (hq : qs.length = lo) (hlo : lo ≤ l.length) (h : ApartW ps l rq) (h1 : ∀ j, j < lo → ∀ q, rq = some q → (qs.getD j default).ownBlock ≠ some q) (h2 : ∀ q, rq = some q → p.ownBlock ≠ some q) : ApartW (qs ++ p :: ps.drop lo) (insAt l lo x) rq := by
  intro j hj q e
  rw [insAt_len hlo] at hj
  rcases Nat.lt_trichotomy j lo with h9 | h9 | h9
  · have a1 : (qs ++ p :: ps.drop lo).getD j default = qs.getD j default := by simp [List.getElem?_append, hq, h9]
    rw [a1]; exact h1 j h9 q e
  · subst h9
    have a1 : (qs ++ p :: ps.drop j).getD j default = p := by
      simp only [List.getD_eq_getElem?_getD]
      rw [List.getElem?_append_right (by omega), hq, Nat.sub_self]; rfl
    rw [a1]; exact h2 q e
  · obtain ⟨i, rfl⟩ : ∃ i, j = lo + 1 + i := ⟨j - lo - 1, by omega⟩
    have a1 : (qs ++ p :: ps.drop lo).getD (lo + 1 + i) default = ps.getD (lo + i) default := by
      simp only [List.getD_eq_getElem?_getD]
      rw [List.getElem?_append_right (by omega), hq, show lo + 1 + i - lo = i + 1 by omega, List.getElem?_cons_succ, List.getElem?_drop]
    rw [a1]; exact h (lo + i) (by omega) q e
set_option maxRecDepth 100000 in
set_option maxHeartbeats 16000000 in
theorem ins_store {K0 : Act → World → Prop} (P : WorkP) (D : WorkD) (d n2 : Int) (b : BatchD) (op2 : List TxD) (he2 : List HeldD) (wa2 : List WaitD) (ps : List Value) (w W : World) (gw gs gb lw : Nat) (oA tA eA rA bA : Option Addr) (on oc tn tc en ec rn rc bn bc : Nat) (NI : Nat) (v7 : Value) (qs : List Value) (w7 : World) {u0 u3 u4 u5 u8 u11 u12 u13 u14 u15 u16 u17 u18 u19 u20 u21 u22 u23 u24 u25 u26 u27 u28 u29 u30 u31 u32 u33 u34 u35 u36 u37 u38 u39 u40 u41 u42 u43 u44 u45 u46 u47 u48 u49 u50 u51 u52 u53 u54 u55 u56 u57 u58 u59 u60 u61 u62 u63 u64 u65 u66 u67 u68 u69 u70 u71 u72 u73 u74 u75 u76 u77 u78 u79 u80 u81 u82 u83 u84 u85 u86 u87 u88 u89 u90 u91 u92 u93 u94 u95 u96 u97 u98 u99 u100 u101 u102 u103 u104 u105 u106 u107 u108 u109 u110 u111 u112 u113 u114 u115 u116 u117 u118 u119 u120 u121 u122 u123 u124 u125 u126 u127 u128 u129 u130 u131 u132 u133 u134 u135 u136 u137 u138 u139 u140 u141 u142 u143 u144 u145 u146 u147 u148 u149 u150 u151 u152 u153 u154 u155 : Value}
    (hK0 : ∀ a' w', Code.wp Tryz.prog (cSnd insEnd) (bodyPost Tryz.prog Tryz.f46 (fun e w' => ∃ gs P' uA un uc us, e = .returned (.tuple #[.pointer (some ⟨gs, 0, none⟩), .int .i64 0]) ∧ Blk w' gs 70 [.int .i64 ({ D with op := op2, next := n2, age := 0, he := he2, wa := keptW D.nodes wa2, re := keptR D.nodes D.re wa2 } : WorkD).id, .int .i64 ({ D with op := op2, next := n2, age := 0, he := he2, wa := keptW D.nodes wa2, re := keptR D.nodes D.re wa2 } : WorkD).nodes, .int .i64 ({ D with op := op2, next := n2, age := 0, he := he2, wa := keptW D.nodes wa2, re := keptR D.nodes D.re wa2 } : WorkD).next, .slice P'.op.A P'.op.n P'.op.c, .int .i64 ({ D with op := op2, next := n2, age := 0, he := he2, wa := keptW D.nodes wa2, re := keptR D.nodes D.re wa2 } : WorkD).age, .int .i64 ({ D with op := op2, next := n2, age := 0, he := he2, wa := keptW D.nodes wa2, re := keptR D.nodes D.re wa2 } : WorkD).clock, .slice P'.wa.A P'.wa.n P'.wa.c, .slice P'.he.A P'.he.n P'.he.c, .slice P'.re.A P'.re.n P'.re.c, .slice uA un uc] ∧ WorkQ w' w.heap.size P' ({ D with op := op2, next := n2, age := 0, he := he2, wa := keptW D.nodes wa2, re := keptR D.nodes D.re wa2 } : WorkD) ∧ OwnT dMsg w' w.heap.size (.slice uA un uc) us (askL D.id d b [] D.nodes.toNat) ∧ w.heap.size ≤ gs ∧ Below w.heap.size w w')) a' w' → K0 a' w')
    (hbW : Below w.heap.size w W) (hgw0 : gw < w.heap.size + 1) (hgs0 : w.heap.size ≤ gs) (hgwne : gw ≠ gs) (hgbne : gb ≠ gs) (hgww : w.heap.size ≤ gw)
    (hw : Blk W gw 27 [.int .i64 D.id, .int .i64 D.nodes, .int .i64 D.next, .slice P.op.A P.op.n P.op.c, .int .i64 D.age, .int .i64 D.clock, .slice P.wa.A P.wa.n P.wa.c, .slice P.he.A P.he.n P.he.c, .slice P.re.A P.re.n P.re.c]) (hbx : Blk W gb 43 [.int .i64 b.au, .int .i64 b.n, .slice bA bn bc]) (hg : Blk W gs 70 [.int .i64 D.id, .int .i64 D.nodes, .int .i64 n2, .slice oA on oc, .int .i64 0, .int .i64 D.clock, .slice tA tn tc, .slice eA en ec, .slice rA rn rc, .slice none 0 0])
    (hTx : OwnX W w.heap.size (.slice bA bn bc) b.tx) (hbn : bn ≤ 800000000)
    (hT : OwnT dWait W w.heap.size (.slice tA tn tc) ps D.wa) (hR : OwnI W w.heap.size (.slice rA rn rc) D.re) (hap : ApartW ps D.wa (Value.slice rA rn rc).ownBlock) (hH : OwnHs W w.heap.size (.slice eA en ec) he2) (hO : TxsT W oA on op2) (hoc : on ≤ oc) (hom : oc ≤ 9223372036854775807)
    (hbw : BigW D.wa) (hwl : D.wa.length ≤ 700000000) (hre : D.re.length + D.wa.length ≤ 700000000) (hris : ∀ x ∈ wa2, RisesIn x.ak D.nodes) (hns : isS D.nodes = true)
    (hw2 : insAt D.wa lw ⟨d, [D.id]⟩ = wa2) (hlwt : lw ≤ tn) (hb7 : Below W.heap.size W w7) (hsz7 : W.heap.size ≤ w7.heap.size) (h7 : w7.ownsRow W.heap.size 56 2 v7 (lw + 1) (dcells dWait (D.wa.take lw) qs ++ [.int .i64 d, .slice (some ⟨NI, 0, none⟩) 1 1])) (hql : qs.length = lw) (hq : ∀ j, j < lw → OwnI w7 W.heap.size (qs.getD j default) (D.wa.getD j default).ak) (hi : OwnI w7 W.heap.size (.slice (some ⟨NI, 0, none⟩) 1 1) [D.id]) :
    Code.wp Tryz.prog (cSnd (cThen (cSnd (cFst insEnd)))) (Exit.then K0 (bodyPost Tryz.prog Tryz.f46 (fun e w' => ∃ gs P' uA un uc us, e = .returned (.tuple #[.pointer (some ⟨gs, 0, none⟩), .int .i64 0]) ∧ Blk w' gs 70 [.int .i64 ({ D with op := op2, next := n2, age := 0, he := he2, wa := keptW D.nodes wa2, re := keptR D.nodes D.re wa2 } : WorkD).id, .int .i64 ({ D with op := op2, next := n2, age := 0, he := he2, wa := keptW D.nodes wa2, re := keptR D.nodes D.re wa2 } : WorkD).nodes, .int .i64 ({ D with op := op2, next := n2, age := 0, he := he2, wa := keptW D.nodes wa2, re := keptR D.nodes D.re wa2 } : WorkD).next, .slice P'.op.A P'.op.n P'.op.c, .int .i64 ({ D with op := op2, next := n2, age := 0, he := he2, wa := keptW D.nodes wa2, re := keptR D.nodes D.re wa2 } : WorkD).age, .int .i64 ({ D with op := op2, next := n2, age := 0, he := he2, wa := keptW D.nodes wa2, re := keptR D.nodes D.re wa2 } : WorkD).clock, .slice P'.wa.A P'.wa.n P'.wa.c, .slice P'.he.A P'.he.n P'.he.c, .slice P'.re.A P'.re.n P'.re.c, .slice uA un uc] ∧ WorkQ w' w.heap.size P' ({ D with op := op2, next := n2, age := 0, he := he2, wa := keptW D.nodes wa2, re := keptR D.nodes D.re wa2 } : WorkD) ∧ OwnT dMsg w' w.heap.size (.slice uA un uc) us (askL D.id d b [] D.nodes.toNat) ∧ w.heap.size ≤ gs ∧ Below w.heap.size w w'))) { tmps := #[u0, .int .i64 d, .pointer (some ⟨gw, 0, none⟩), u3, u4, u5, .pointer (some ⟨gs, 0, none⟩), .pointer (some ⟨gb, 0, none⟩), u8, .int .i64 (lw : Int), v7, u11, u12, u13, u14, u15, u16, u17, u18, u19, u20, u21, u22, u23, u24, u25, u26, u27, u28, u29, u30, u31, u32, u33, u34, u35, u36, u37, u38, u39, u40, u41, u42, u43, u44, u45, u46, u47, u48, u49, u50, u51, u52, u53, u54, u55, u56, u57, u58, u59, u60, u61, u62, u63, u64, u65, u66, u67, u68, u69, u70, u71, u72, u73, u74, u75, u76, u77, u78, u79, u80, u81, u82, u83, u84, u85, u86, u87, u88, u89, u90, u91, u92, u93, u94, u95, u96, u97, u98, u99, u100, u101, u102, u103, u104, u105, u106, u107, u108, u109, u110, u111, u112, u113, u114, u115, u116, u117, u118, u119, u120, u121, u122, u123, u124, u125, u126, u127, u128, u129, u130, u131, u132, u133, u134, u135, u136, u137, u138, u139, u140, u141, u142, u143, u144, u145, u146, u147, u148, u149, u150, u151, u152, u153, u154, u155], defers := [] } w7 := by
  have HTN : Hid (D.wa.length = tn) := Lib.hid (by obtain ⟨A', c', e', _⟩ := hT.read; injection e' with _ e2 _; exact e2.symm)
  have htcn : tn ≤ tc := by
    rcases own_shape hT.1 with ⟨e, _⟩ | ⟨q1, c1, e, _, h⟩
    · injection e with e1 e2 e3; omega
    · injection e with e1 e2 e3; have := HTN.out; omega
  have htn : tn ≤ 700000000 := by rw [← HTN.out]; exact hwl
  have hbw2 : BigW wa2 := by
    rw [← hw2]
    refine ⟨by rw [insAt_len (by rw [HTN.out]; exact hlwt)]; omega, fun x hx => ?_⟩
    rcases insAt_mem hx with rfl | hx
    · simp
    · exact hbw.2 x hx
  have hre2 : D.re.length + wa2.length ≤ 800000000 := by rw [← hw2, insAt_len (by rw [HTN.out]; exact hlwt)]; omega
  have hRV : RowV W tA tn 2 (dcells dWait D.wa ps) := by
    obtain ⟨A2, c2, e2, hrv, _⟩ := own_row hT.1 (by omega)
    injection e2 with e3 e4 e5
    rw [HTN.out] at hrv
    rw [e3]; exact hrv
  have HON := Lib.hid hT.one
  have HRV7 := Lib.hid (hRV.up hb7)
  have HW := Lib.hid hw
  have HBX := Lib.hid hbx
  have HG7 := Lib.hid (hg.up hb7)
  have HX := Lib.hid hTx
  have HT := Lib.hid hT
  have HR := Lib.hid hR
  have HAP := Lib.hid hap
  have HH := Lib.hid hH
  have HO := Lib.hid hO
  have HRIS := Lib.hid hris
  have HNS := Lib.hid hns
  have HRL : Hid (∀ q, (Value.slice rA rn rc).ownBlock = some q → q < W.heap.size) := Lib.hid (fun q hq => (own_lt (show World.ownsRow _ _ 3 1 _ _ _ from hR) q hq).2)
  have H7 := Lib.hid h7
  have HQ := Lib.hid hq
  have HI := Lib.hid hi
  have HQL := Lib.hid hql
  have HB7 := Lib.hid hb7
  have HW2 := Lib.hid hw2
  have HK0 := Lib.hid hK0
  have hgsW := hg.lt
  have hwW := hbW.size
  have lG7 := HG7.out.lt
  have fG7 := HG7.out.frozen
  have a_0 := (HG7.out.box).2 0 _ rfl; have a_1 := (HG7.out.box).2 1 _ rfl; have a_2 := (HG7.out.box).2 2 _ rfl; have a_3 := (HG7.out.box).2 3 _ rfl; have a_4 := (HG7.out.box).2 4 _ rfl; have a_5 := (HG7.out.box).2 5 _ rfl; have a_6 := (HG7.out.box).2 6 _ rfl; have a_7 := (HG7.out.box).2 7 _ rfl; have a_8 := (HG7.out.box).2 8 _ rfl; have a_9 := (HG7.out.box).2 9 _ rfl
  clear hRV hw hbx hg hTx hT hR hap hH hO hris hns h7 hq hi hql hb7 hw2 hK0 hbw hre hwl
  dsimp only [insEnd, cAfter, cSnd, cFst, cThen, Tryz.f46, Option.getD]
  rcases own_shape HT.out.1 with ⟨e, h0⟩ | ⟨gt, ce, e, hgt, hce0⟩
  · injection e with e1 e2 e3
    subst e1; subst e2; subst e3
    have hlw0 : lw = 0 := by omega
    subst hlw0
    rcases own_shape H7.out with ⟨_, h0⟩ | ⟨g7, c7, e7, hg7B, hc7⟩
    · omega
    · subst e7
      have hc8 : ¬ c7 < 0 + 1 := by omega
      go_wp2_with fail
      have HG9 := HG7
      have hb79 : Below W.heap.size W w7 := HB7.out
      have hT9 : OwnT dWait w7 w.heap.size (.slice (some ⟨g7, 0, none⟩) (0 + 1) c7) (qs ++ (.slice (some ⟨NI, 0, none⟩) 1 1) :: ps.drop 0) wa2 := by
        rw [← HW2.out]
        exact ownT_ins dWait HQL.out (by rw [HTN.out]; exact hlwt) HT.out.2.1 (by (rw [show D.wa.length - 0 = 0 by have := HTN.out; omega, List.drop_of_length_le (by rw [HRV7.out.1]; first | exact Nat.le_refl _ | simp), List.append_nil]); exact own_mono H7.out hwW) (fun j hj => own_mono (show World.ownsRow _ _ 3 1 _ _ _ from HQ.out j hj) hwW) (own_mono (show World.ownsRow _ _ 3 1 _ _ _ from HI.out) hwW) (fun j _ hj => own_up (show World.ownsRow _ w.heap.size 3 1 _ _ _ from HT.out.2.2 j hj) hb79)
      have hap9 : ApartW (qs ++ (.slice (some ⟨NI, 0, none⟩) 1 1) :: ps.drop 0) wa2 (Value.slice rA rn rc).ownBlock := by
        rw [← HW2.out]
        exact apart_ins HQL.out (by rw [HTN.out]; exact hlwt) HAP.out (fun j hj q e e2 => by have h1 := (own_lt (show World.ownsRow _ _ 3 1 _ _ _ from HQ.out j hj) q e2).1; have h2 := HRL.out q e; omega) (fun q e e2 => by have h1 := (own_lt (show World.ownsRow _ _ 3 1 _ _ _ from HI.out) q e2).1; have h2 := HRL.out q e; omega)
      have hT9l := hT9.1
      have HT9 := Lib.hid hT9
      have HAP9 := Lib.hid hap9
      have HB9 := Lib.hid hb79
      clear hT9l hT9 hap9 hb79
      show K0 _ _
      apply HK0.out
      dsimp only [insEnd, cAfter, cSnd, cFst, Tryz.f46, Option.getD]
      go_upto_region 19 with fail
      rename_i K0' hK0' K1' hK1'
      obtain ⟨Wf, hWf⟩ : ∃ Z, Z = w7.setCell ⟨gs, 6, none⟩ (.slice (some ⟨g7, 0, none⟩) (0 + 1) c7) := ⟨_, rfl⟩
      have hGf := HG9.out.set_ 6 (.slice (some ⟨g7, 0, none⟩) (0 + 1) c7)
      have htg := TKeep.setg (o := 6) (u := .slice (some ⟨g7, 0, none⟩) (0 + 1) c7) HG9.out
      have hTf : OwnT dWait _ w.heap.size (.slice (some ⟨g7, 0, none⟩) (0 + 1) c7) _ wa2 := ⟨own_tk HT9.out.1 htg (by decide), HT9.out.2.1, fun j hj => own_tk (show World.ownsRow _ _ 3 1 _ _ _ from HT9.out.2.2 j hj) htg (by decide)⟩
      have hRf : OwnI _ w.heap.size (.slice rA rn rc) D.re := own_tk (own_up (show World.ownsRow _ _ 3 1 _ _ _ from HR.out) HB9.out) htg (by decide)
      have hHf := (HH.out.up HB9.out).tkR htg
      have hOf := (HO.out.up HB9.out).tk htg (by simp [World.setCell]) (by decide)
      have hWbf := (HW.out.up HB9.out).far (p := ⟨gs, 6, none⟩) hgwne (.slice (some ⟨g7, 0, none⟩) (0 + 1) c7)
      have hBbf := (HBX.out.up HB9.out).far (p := ⟨gs, 6, none⟩) hgbne (.slice (some ⟨g7, 0, none⟩) (0 + 1) c7)
      have hXf : OwnX _ w.heap.size (.slice bA bn bc) b.tx := own_tk (own_up (show World.ownsRow _ _ 41 4 _ _ _ from HX.out) HB9.out) htg (by decide)
      have hbf := (hbW.trans (HB9.out.mono hwW)).setCell (p := ⟨gs, 6, none⟩) hgs0 (.slice (some ⟨g7, 0, none⟩) (0 + 1) c7)
      rw [← hWf] at hGf hTf hRf hHf hOf hWbf hBbf hXf hbf ⊢
      have hgwf := hWbf.lt
      exact sealed_tail P D d n2 b op2 he2 wa2 _ w Wf gw gs gb oA (some ⟨g7, 0, none⟩) eA rA bA on oc (0 + 1) c7 en ec rn rc bn bc hK0' hK1' hbf hgwf hgs0 hgwne hgbne hWbf hBbf hGf (ownX_txs hXf hbn) (fun X hX => ownX_txs (own_tk (show World.ownsRow _ _ 41 4 _ _ _ from hXf) (TKeep.of_but hGf hX) (by decide)) hbn) hbn hTf hRf HAP9.out hHf hOf hoc hom hbw2 hre2 HRIS.out HNS.out
  · injection e with e1 e2 e3
    subst e1
    clear e2 e3
    by_cases hce : tc = lw
    · have htn2 : tn = tc := by omega
      subst htn2
      subst hce
      rcases own_shape H7.out with ⟨_, h0⟩ | ⟨g7, c7, e7, hg7B, hc7⟩
      · omega
      · subst e7
        have hc8 : ¬ c7 < tn + 1 := by omega
        go_wp2_with fail
        have HG9 := HG7
        have hb79 : Below W.heap.size W w7 := HB7.out
        have hT9 : OwnT dWait w7 w.heap.size (.slice (some ⟨g7, 0, none⟩) (tn + 1) c7) (qs ++ (.slice (some ⟨NI, 0, none⟩) 1 1) :: ps.drop tn) wa2 := by
          rw [← HW2.out]
          exact ownT_ins dWait HQL.out (by rw [HTN.out]; exact hlwt) HT.out.2.1 (by (rw [show D.wa.length - tn = 0 by have := HTN.out; omega, List.drop_of_length_le (by rw [HRV7.out.1]; first | exact Nat.le_refl _ | simp), List.append_nil]); exact own_mono H7.out hwW) (fun j hj => own_mono (show World.ownsRow _ _ 3 1 _ _ _ from HQ.out j hj) hwW) (own_mono (show World.ownsRow _ _ 3 1 _ _ _ from HI.out) hwW) (fun j _ hj => own_up (show World.ownsRow _ w.heap.size 3 1 _ _ _ from HT.out.2.2 j hj) hb79)
        have hap9 : ApartW (qs ++ (.slice (some ⟨NI, 0, none⟩) 1 1) :: ps.drop tn) wa2 (Value.slice rA rn rc).ownBlock := by
          rw [← HW2.out]
          exact apart_ins HQL.out (by rw [HTN.out]; exact hlwt) HAP.out (fun j hj q e e2 => by have h1 := (own_lt (show World.ownsRow _ _ 3 1 _ _ _ from HQ.out j hj) q e2).1; have h2 := HRL.out q e; omega) (fun q e e2 => by have h1 := (own_lt (show World.ownsRow _ _ 3 1 _ _ _ from HI.out) q e2).1; have h2 := HRL.out q e; omega)
        have hT9l := hT9.1
        have HT9 := Lib.hid hT9
        have HAP9 := Lib.hid hap9
        have HB9 := Lib.hid hb79
        clear hT9l hT9 hap9 hb79
        show K0 _ _
        apply HK0.out
        dsimp only [insEnd, cAfter, cSnd, cFst, Tryz.f46, Option.getD]
        go_upto_region 19 with fail
        rename_i K0' hK0' K1' hK1'
        obtain ⟨Wf, hWf⟩ : ∃ Z, Z = w7.setCell ⟨gs, 6, none⟩ (.slice (some ⟨g7, 0, none⟩) (tn + 1) c7) := ⟨_, rfl⟩
        have hGf := HG9.out.set_ 6 (.slice (some ⟨g7, 0, none⟩) (tn + 1) c7)
        have htg := TKeep.setg (o := 6) (u := .slice (some ⟨g7, 0, none⟩) (tn + 1) c7) HG9.out
        have hTf : OwnT dWait _ w.heap.size (.slice (some ⟨g7, 0, none⟩) (tn + 1) c7) _ wa2 := ⟨own_tk HT9.out.1 htg (by decide), HT9.out.2.1, fun j hj => own_tk (show World.ownsRow _ _ 3 1 _ _ _ from HT9.out.2.2 j hj) htg (by decide)⟩
        have hRf : OwnI _ w.heap.size (.slice rA rn rc) D.re := own_tk (own_up (show World.ownsRow _ _ 3 1 _ _ _ from HR.out) HB9.out) htg (by decide)
        have hHf := (HH.out.up HB9.out).tkR htg
        have hOf := (HO.out.up HB9.out).tk htg (by simp [World.setCell]) (by decide)
        have hWbf := (HW.out.up HB9.out).far (p := ⟨gs, 6, none⟩) hgwne (.slice (some ⟨g7, 0, none⟩) (tn + 1) c7)
        have hBbf := (HBX.out.up HB9.out).far (p := ⟨gs, 6, none⟩) hgbne (.slice (some ⟨g7, 0, none⟩) (tn + 1) c7)
        have hXf : OwnX _ w.heap.size (.slice bA bn bc) b.tx := own_tk (own_up (show World.ownsRow _ _ 41 4 _ _ _ from HX.out) HB9.out) htg (by decide)
        have hbf := (hbW.trans (HB9.out.mono hwW)).setCell (p := ⟨gs, 6, none⟩) hgs0 (.slice (some ⟨g7, 0, none⟩) (tn + 1) c7)
        rw [← hWf] at hGf hTf hRf hHf hOf hWbf hBbf hXf hbf ⊢
        have hgwf := hWbf.lt
        exact sealed_tail P D d n2 b op2 he2 wa2 _ w Wf gw gs gb oA (some ⟨g7, 0, none⟩) eA rA bA on oc (tn + 1) c7 en ec rn rc bn bc hK0' hK1' hbf hgwf hgs0 hgwne hgbne hWbf hBbf hGf (ownX_txs hXf hbn) (fun X hX => ownX_txs (own_tk (show World.ownsRow _ _ 41 4 _ _ _ from hXf) (TKeep.of_but hGf hX) (by decide)) hbn) hbn hTf hRf HAP9.out hHf hOf hoc hom hbw2 hre2 HRIS.out HNS.out
    · have hce2 : ¬ lw = tc := fun e => hce e.symm
      go_wp2_with (at_builtin; refine wpList_appRow_Wait rfl (.tmp 124) (.tmp 131) rfl rfl W.heap.size v7 _ _ rfl H7.out _ (tn - lw) _ ((dcells dWait D.wa ps).drop (lw * 2)) rfl (HRV7.out.dropK hlwt) (fun u hu => HON.out u (List.mem_of_mem_drop hu)) (by omega) hsz7 ?_; intro v9 w9 hown9 hg9 hb9; (obtain ⟨A9, n9, c9, e9⟩ := own_slice hown9); subst e9; have hG9 := HG7.out.below hb9 hgsW; have fG := hG9.frozen; have lG := hG9.lt; clear a_0 a_1 a_2 a_3 a_4 a_5 a_6 a_7 a_8 a_9; have a_0 := (hG9.box).2 0 _ rfl; have a_1 := (hG9.box).2 1 _ rfl; have a_2 := (hG9.box).2 2 _ rfl; have a_3 := (hG9.box).2 3 _ rfl; have a_4 := (hG9.box).2 4 _ rfl; have a_5 := (hG9.box).2 5 _ rfl; have a_6 := (hG9.box).2 6 _ rfl; have a_7 := (hG9.box).2 7 _ rfl; have a_8 := (hG9.box).2 8 _ rfl; have a_9 := (hG9.box).2 9 _ rfl; have HG9 := Lib.hid hG9; clear hG9)
      have hrow9 := hown9
      have hb79 : Below W.heap.size W w9 := HB7.out.trans hb9
      have hq9 : ∀ j, j < lw → OwnI w9 W.heap.size (qs.getD j default) (D.wa.getD j default).ak := fun j hj => own_farT (show World.ownsRow _ _ 3 1 _ _ _ from HQ.out j hj) H7.out (by decide) hg9
      have hi9 : OwnI w9 W.heap.size (.slice (some ⟨NI, 0, none⟩) 1 1) [D.id] := own_farT (show World.ownsRow _ _ 3 1 _ _ _ from HI.out) H7.out (by decide) hg9
      have hT9 : OwnT dWait w9 w.heap.size (.slice A9 n9 c9) (qs ++ (.slice (some ⟨NI, 0, none⟩) 1 1) :: ps.drop lw) wa2 := by
        rw [← HW2.out]
        exact ownT_ins dWait HQL.out (by rw [HTN.out]; exact hlwt) HT.out.2.1 (by (have e1 : lw + 1 + (D.wa.length - lw) = lw + 1 + (tn - lw) := by rw [HTN.out]); rw [e1]; exact own_mono hrow9 hwW) (fun j hj => own_mono (show World.ownsRow _ _ 3 1 _ _ _ from hq9 j hj) hwW) (own_mono (show World.ownsRow _ _ 3 1 _ _ _ from hi9) hwW) (fun j _ hj => own_up (show World.ownsRow _ w.heap.size 3 1 _ _ _ from HT.out.2.2 j hj) hb79)
      have hap9 : ApartW (qs ++ (.slice (some ⟨NI, 0, none⟩) 1 1) :: ps.drop lw) wa2 (Value.slice rA rn rc).ownBlock := by
        rw [← HW2.out]
        exact apart_ins HQL.out (by rw [HTN.out]; exact hlwt) HAP.out (fun j hj q e e2 => by have h1 := (own_lt (show World.ownsRow _ _ 3 1 _ _ _ from hq9 j hj) q e2).1; have h2 := HRL.out q e; omega) (fun q e e2 => by have h1 := (own_lt (show World.ownsRow _ _ 3 1 _ _ _ from hi9) q e2).1; have h2 := HRL.out q e; omega)
      have hT9l := hT9.1
      have HT9 := Lib.hid hT9
      have HAP9 := Lib.hid hap9
      have HB9 := Lib.hid hb79
      clear hT9l hT9 hap9 hb79
      show K0 _ _
      apply HK0.out
      dsimp only [insEnd, cAfter, cSnd, cFst, Tryz.f46, Option.getD]
      go_upto_region 19 with fail
      rename_i K0' hK0' K1' hK1'
      obtain ⟨Wf, hWf⟩ : ∃ Z, Z = w9.setCell ⟨gs, 6, none⟩ (.slice A9 n9 c9) := ⟨_, rfl⟩
      have hGf := HG9.out.set_ 6 (.slice A9 n9 c9)
      have htg := TKeep.setg (o := 6) (u := .slice A9 n9 c9) HG9.out
      have hTf : OwnT dWait _ w.heap.size (.slice A9 n9 c9) _ wa2 := ⟨own_tk HT9.out.1 htg (by decide), HT9.out.2.1, fun j hj => own_tk (show World.ownsRow _ _ 3 1 _ _ _ from HT9.out.2.2 j hj) htg (by decide)⟩
      have hRf : OwnI _ w.heap.size (.slice rA rn rc) D.re := own_tk (own_up (show World.ownsRow _ _ 3 1 _ _ _ from HR.out) HB9.out) htg (by decide)
      have hHf := (HH.out.up HB9.out).tkR htg
      have hOf := (HO.out.up HB9.out).tk htg (by simp [World.setCell]) (by decide)
      have hWbf := (HW.out.up HB9.out).far (p := ⟨gs, 6, none⟩) hgwne (.slice A9 n9 c9)
      have hBbf := (HBX.out.up HB9.out).far (p := ⟨gs, 6, none⟩) hgbne (.slice A9 n9 c9)
      have hXf : OwnX _ w.heap.size (.slice bA bn bc) b.tx := own_tk (own_up (show World.ownsRow _ _ 41 4 _ _ _ from HX.out) HB9.out) htg (by decide)
      have hbf := (hbW.trans (HB9.out.mono hwW)).setCell (p := ⟨gs, 6, none⟩) hgs0 (.slice A9 n9 c9)
      rw [← hWf] at hGf hTf hRf hHf hOf hWbf hBbf hXf hbf ⊢
      have hgwf := hWbf.lt
      exact sealed_tail P D d n2 b op2 he2 wa2 _ w Wf gw gs gb oA A9 eA rA bA on oc n9 c9 en ec rn rc bn bc hK0' hK1' hbf hgwf hgs0 hgwne hgbne hWbf hBbf hGf (ownX_txs hXf hbn) (fun X hX => ownX_txs (own_tk (show World.ownsRow _ _ 41 4 _ _ _ from hXf) (TKeep.of_but hGf hX) (by decide)) hbn) hbn hTf hRf HAP9.out hHf hOf hoc hom hbw2 hre2 HRIS.out HNS.out
set_option maxRecDepth 100000 in
set_option maxHeartbeats 16000000 in
theorem ins_part {K0 K2 : Act → World → Prop} (P : WorkP) (D : WorkD) (d n2 : Int) (b : BatchD) (op2 : List TxD) (he2 : List HeldD) (wa2 : List WaitD) (ps : List Value) (w W : World) (gw gs gb lw : Nat) (oA tA eA rA bA : Option Addr) (on oc tn tc en ec rn rc bn bc : Nat) {u0 u3 u4 u5 u8 u10 u11 u12 u13 u14 u15 u16 u17 u18 u19 u20 u21 u22 u23 u24 u25 u26 u27 u28 u29 u30 u31 u32 u33 u34 u35 u36 u37 u38 u39 u40 u41 u42 u43 u44 u45 u46 u47 u48 u49 u50 u51 u52 u53 u54 u55 u56 u57 u58 u59 u60 u61 u62 u63 u64 u65 u66 u67 u68 u69 u70 u71 u72 u73 u74 u75 u76 u77 u78 u79 u80 u81 u82 u83 u84 u85 u86 u87 u88 u89 u90 u91 u92 u93 u94 u95 u96 u97 u98 u99 u100 u101 u102 u103 u104 u105 u106 u107 u108 u109 u110 u111 u112 u113 u114 u115 u116 u117 u118 u119 u120 u121 u122 u123 u124 u125 u126 u127 u128 u129 u130 u131 u132 u133 u134 u135 u136 u137 u138 u139 u140 u141 u142 u143 u144 u145 u146 u147 u148 u149 u150 u151 u152 u153 u154 u155 : Value}
    (hK0 : ∀ a' w', Code.wp Tryz.prog (cSnd insEnd) (bodyPost Tryz.prog Tryz.f46 (fun e w' => ∃ gs P' uA un uc us, e = .returned (.tuple #[.pointer (some ⟨gs, 0, none⟩), .int .i64 0]) ∧ Blk w' gs 70 [.int .i64 ({ D with op := op2, next := n2, age := 0, he := he2, wa := keptW D.nodes wa2, re := keptR D.nodes D.re wa2 } : WorkD).id, .int .i64 ({ D with op := op2, next := n2, age := 0, he := he2, wa := keptW D.nodes wa2, re := keptR D.nodes D.re wa2 } : WorkD).nodes, .int .i64 ({ D with op := op2, next := n2, age := 0, he := he2, wa := keptW D.nodes wa2, re := keptR D.nodes D.re wa2 } : WorkD).next, .slice P'.op.A P'.op.n P'.op.c, .int .i64 ({ D with op := op2, next := n2, age := 0, he := he2, wa := keptW D.nodes wa2, re := keptR D.nodes D.re wa2 } : WorkD).age, .int .i64 ({ D with op := op2, next := n2, age := 0, he := he2, wa := keptW D.nodes wa2, re := keptR D.nodes D.re wa2 } : WorkD).clock, .slice P'.wa.A P'.wa.n P'.wa.c, .slice P'.he.A P'.he.n P'.he.c, .slice P'.re.A P'.re.n P'.re.c, .slice uA un uc] ∧ WorkQ w' w.heap.size P' ({ D with op := op2, next := n2, age := 0, he := he2, wa := keptW D.nodes wa2, re := keptR D.nodes D.re wa2 } : WorkD) ∧ OwnT dMsg w' w.heap.size (.slice uA un uc) us (askL D.id d b [] D.nodes.toNat) ∧ w.heap.size ≤ gs ∧ Below w.heap.size w w')) a' w' → K0 a' w')
    (hK2 : ∀ a' w', Code.wp Tryz.prog (cSnd (cThen (cSnd (cFst insEnd)))) (Exit.then K0 (bodyPost Tryz.prog Tryz.f46 (fun e w' => ∃ gs P' uA un uc us, e = .returned (.tuple #[.pointer (some ⟨gs, 0, none⟩), .int .i64 0]) ∧ Blk w' gs 70 [.int .i64 ({ D with op := op2, next := n2, age := 0, he := he2, wa := keptW D.nodes wa2, re := keptR D.nodes D.re wa2 } : WorkD).id, .int .i64 ({ D with op := op2, next := n2, age := 0, he := he2, wa := keptW D.nodes wa2, re := keptR D.nodes D.re wa2 } : WorkD).nodes, .int .i64 ({ D with op := op2, next := n2, age := 0, he := he2, wa := keptW D.nodes wa2, re := keptR D.nodes D.re wa2 } : WorkD).next, .slice P'.op.A P'.op.n P'.op.c, .int .i64 ({ D with op := op2, next := n2, age := 0, he := he2, wa := keptW D.nodes wa2, re := keptR D.nodes D.re wa2 } : WorkD).age, .int .i64 ({ D with op := op2, next := n2, age := 0, he := he2, wa := keptW D.nodes wa2, re := keptR D.nodes D.re wa2 } : WorkD).clock, .slice P'.wa.A P'.wa.n P'.wa.c, .slice P'.he.A P'.he.n P'.he.c, .slice P'.re.A P'.re.n P'.re.c, .slice uA un uc] ∧ WorkQ w' w.heap.size P' ({ D with op := op2, next := n2, age := 0, he := he2, wa := keptW D.nodes wa2, re := keptR D.nodes D.re wa2 } : WorkD) ∧ OwnT dMsg w' w.heap.size (.slice uA un uc) us (askL D.id d b [] D.nodes.toNat) ∧ w.heap.size ≤ gs ∧ Below w.heap.size w w'))) a' w' → K2 a' w')
    (hbW : Below w.heap.size w W) (hgw0 : gw < w.heap.size + 1) (hgs0 : w.heap.size ≤ gs) (hgwne : gw ≠ gs) (hgbne : gb ≠ gs) (hgww : w.heap.size ≤ gw)
    (hw : Blk W gw 27 [.int .i64 D.id, .int .i64 D.nodes, .int .i64 D.next, .slice P.op.A P.op.n P.op.c, .int .i64 D.age, .int .i64 D.clock, .slice P.wa.A P.wa.n P.wa.c, .slice P.he.A P.he.n P.he.c, .slice P.re.A P.re.n P.re.c]) (hbx : Blk W gb 43 [.int .i64 b.au, .int .i64 b.n, .slice bA bn bc]) (hg : Blk W gs 70 [.int .i64 D.id, .int .i64 D.nodes, .int .i64 n2, .slice oA on oc, .int .i64 0, .int .i64 D.clock, .slice tA tn tc, .slice eA en ec, .slice rA rn rc, .slice none 0 0])
    (hTx : OwnX W w.heap.size (.slice bA bn bc) b.tx) (hbn : bn ≤ 800000000)
    (hT : OwnT dWait W w.heap.size (.slice tA tn tc) ps D.wa) (hR : OwnI W w.heap.size (.slice rA rn rc) D.re) (hap : ApartW ps D.wa (Value.slice rA rn rc).ownBlock) (hH : OwnHs W w.heap.size (.slice eA en ec) he2) (hO : TxsT W oA on op2) (hoc : on ≤ oc) (hom : oc ≤ 9223372036854775807)
    (hbw : BigW D.wa) (hwl : D.wa.length ≤ 700000000) (hre : D.re.length + D.wa.length ≤ 700000000) (hris : ∀ x ∈ wa2, RisesIn x.ak D.nodes) (hns : isS D.nodes = true)
    (hw2 : insAt D.wa lw ⟨d, [D.id]⟩ = wa2) (hlwt : lw ≤ tn) :
    Code.wp Tryz.prog (cFst (cThen (cSnd (cFst insEnd)))) (Exit.then K2 (Exit.then K0 (bodyPost Tryz.prog Tryz.f46 (fun e w' => ∃ gs P' uA un uc us, e = .returned (.tuple #[.pointer (some ⟨gs, 0, none⟩), .int .i64 0]) ∧ Blk w' gs 70 [.int .i64 ({ D with op := op2, next := n2, age := 0, he := he2, wa := keptW D.nodes wa2, re := keptR D.nodes D.re wa2 } : WorkD).id, .int .i64 ({ D with op := op2, next := n2, age := 0, he := he2, wa := keptW D.nodes wa2, re := keptR D.nodes D.re wa2 } : WorkD).nodes, .int .i64 ({ D with op := op2, next := n2, age := 0, he := he2, wa := keptW D.nodes wa2, re := keptR D.nodes D.re wa2 } : WorkD).next, .slice P'.op.A P'.op.n P'.op.c, .int .i64 ({ D with op := op2, next := n2, age := 0, he := he2, wa := keptW D.nodes wa2, re := keptR D.nodes D.re wa2 } : WorkD).age, .int .i64 ({ D with op := op2, next := n2, age := 0, he := he2, wa := keptW D.nodes wa2, re := keptR D.nodes D.re wa2 } : WorkD).clock, .slice P'.wa.A P'.wa.n P'.wa.c, .slice P'.he.A P'.he.n P'.he.c, .slice P'.re.A P'.re.n P'.re.c, .slice uA un uc] ∧ WorkQ w' w.heap.size P' ({ D with op := op2, next := n2, age := 0, he := he2, wa := keptW D.nodes wa2, re := keptR D.nodes D.re wa2 } : WorkD) ∧ OwnT dMsg w' w.heap.size (.slice uA un uc) us (askL D.id d b [] D.nodes.toNat) ∧ w.heap.size ≤ gs ∧ Below w.heap.size w w')))) { tmps := #[u0, .int .i64 d, .pointer (some ⟨gw, 0, none⟩), u3, u4, u5, .pointer (some ⟨gs, 0, none⟩), .pointer (some ⟨gb, 0, none⟩), u8, .int .i64 (lw : Int), u10, u11, u12, u13, u14, u15, u16, u17, u18, u19, u20, u21, u22, u23, u24, u25, u26, u27, u28, u29, u30, u31, u32, u33, u34, u35, u36, u37, u38, u39, u40, u41, u42, u43, u44, u45, u46, u47, u48, u49, u50, u51, u52, u53, u54, u55, u56, u57, u58, u59, u60, u61, u62, u63, u64, u65, u66, u67, u68, u69, u70, u71, u72, u73, u74, u75, u76, u77, u78, u79, u80, u81, u82, u83, u84, u85, u86, u87, u88, u89, u90, u91, u92, u93, u94, u95, u96, u97, u98, u99, u100, u101, u102, u103, u104, u105, u106, u107, u108, u109, u110, u111, u112, u113, u114, u115, u116, u117, u118, u119, u120, u121, u122, u123, u124, u125, u126, u127, u128, u129, u130, u131, u132, u133, u134, u135, u136, u137, u138, u139, u140, u141, u142, u143, u144, u145, u146, u147, u148, u149, u150, u151, u152, u153, u154, u155], defers := [] } W := by
  have HTN : Hid (D.wa.length = tn) := Lib.hid (by obtain ⟨A', c', e', _⟩ := hT.read; injection e' with _ e2 _; exact e2.symm)
  have htcn : tn ≤ tc := by
    rcases own_shape hT.1 with ⟨e, _⟩ | ⟨q1, c1, e, _, h⟩
    · injection e with e1 e2 e3; omega
    · injection e with e1 e2 e3; have := HTN.out; omega
  have hlwc : lw ≤ tc := by omega
  have htn : tn ≤ 700000000 := by rw [← HTN.out]; exact hwl
  have HLL : Hid (lw ≤ D.wa.length) := Lib.hid (by rw [HTN.out]; exact hlwt)
  have HBT : Hid (BigW (D.wa.take lw)) := Lib.hid ⟨by rw [List.length_take]; omega, fun x hx => hbw.2 x (List.mem_of_mem_take hx)⟩
  have HWR : Hid (WaitsR W tA tn D.wa) := Lib.hid (by
    obtain ⟨A', c', e', hR', _⟩ := OwnWs.waits ⟨ps, hT⟩ hbw
    injection e' with e1 e2 _
    rw [e1, e2]; exact hR')
  have HK0 := Lib.hid hK0
  have HK2 := Lib.hid hK2
  clear hK0 hK2
  dsimp only [insEnd, cAfter, cSnd, cFst, cThen, Tryz.f46, Option.getD]
  obtain ⟨S, hSd⟩ : ∃ S : World → Prop, S = fun Q => Q.cell? ⟨gs, 6, none⟩ = some (.slice tA tn tc) ∧ Q.cell? ⟨gw, 0, none⟩ = some (.int .i64 D.id) := ⟨_, rfl⟩
  have hS6 : ∀ Q, S Q → Q.cell? ⟨gs, 6, none⟩ = some (.slice tA tn tc) := fun Q h => by rw [hSd] at h; exact h.1
  have hS0 : ∀ Q, S Q → Q.cell? ⟨gw, 0, none⟩ = some (.int .i64 D.id) := fun Q h => by rw [hSd] at h; exact h.2
  have hS : ∀ Q, Below W.heap.size W Q → S Q := fun Q hQ => by rw [hSd]; exact ⟨(hg.up hQ).box.2 6 _ rfl, (hw.up hQ).box.2 0 _ rfl⟩
  clear hSd
  refine wp_region_held_drew (S := S) (by kernel_rfl) (hS _ (bel_drew (Below.refl _ _))) (fun hHeld => ?_)
  have hbd : Below W.heap.size W W.drew := bel_drew (Below.refl _ _)
  have hZ := hHeld
  generalize W.drew = Z0 at *
  (refine wpAnyH_tk 0 (some 108) (v := ?_) rfl rfl ?_ ?_; rotate_left; (focus (intro wq hSw; clear hSw; go_simp; all_goals (with_reducible rfl))); simp only [Act.put, List.setIfInBounds_toArray, List.set_cons_zero, List.set_cons_succ])
  (refine wpAnyH_tk 1 (some 109) (v := ?_) rfl rfl ?_ ?_; rotate_left; (focus (intro wq hSw; clear hSw; go_simp; all_goals (with_reducible rfl))); simp only [Act.put, List.setIfInBounds_toArray, List.set_cons_zero, List.set_cons_succ])
  (refine wpAnyH_tk 2 (some 110) (v := ?_) rfl rfl ?_ ?_; rotate_left; (focus (intro wq hSw; clear hSw; go_simp; all_goals (with_reducible rfl))); simp only [Act.put, List.setIfInBounds_toArray, List.set_cons_zero, List.set_cons_succ])
  (refine wpAnyH_tk 3 (some 111) (v := ?_) rfl rfl ?_ ?_; rotate_left; (focus (intro wq hSw; clear hSw; go_simp; all_goals (with_reducible rfl))); simp only [Act.put, List.setIfInBounds_toArray, List.set_cons_zero, List.set_cons_succ])
  (refine wpAnyH_tk 4 (some 112) (v := ?_) rfl rfl ?_ ?_; rotate_left; (focus (intro wq hSw; have q1 := hS6 wq hSw; clear hSw; go_simp; all_goals (with_reducible rfl))); simp only [Act.put, List.setIfInBounds_toArray, List.set_cons_zero, List.set_cons_succ])
  (refine wpAnyH_tk 5 (some 113) (v := ?_) rfl rfl ?_ ?_; rotate_left; (focus (intro wq hSw; clear hSw; go_simp; all_goals (with_reducible rfl))); simp only [Act.put, List.setIfInBounds_toArray, List.set_cons_zero, List.set_cons_succ])
  (refine wpAnyH_tk 6 (some 114) (v := ?_) rfl rfl ?_ ?_; rotate_left; (focus (intro wq hSw; clear hSw; go_simp; all_goals (with_reducible rfl))); simp only [Act.put, List.setIfInBounds_toArray, List.set_cons_zero, List.set_cons_succ])
  (refine wpAnyH_tk 8 (some 116) (v := ?_) rfl rfl ?_ ?_; rotate_left; (focus (intro wq hSw; clear hSw; go_simp; all_goals (with_reducible rfl))); simp only [Act.put, List.setIfInBounds_toArray, List.set_cons_zero, List.set_cons_succ])
  (refine wpAnyH_tk 9 (some 117) (v := ?_) rfl rfl ?_ ?_; rotate_left; (focus (intro wq hSw; clear hSw; go_simp; all_goals (with_reducible rfl))); simp only [Act.put, List.setIfInBounds_toArray, List.set_cons_zero, List.set_cons_succ])
  (refine wpAnyH_tk 10 (some 118) (v := ?_) rfl rfl ?_ ?_; rotate_left; (focus (intro wq hSw; have q1 := hS0 wq hSw; clear hSw; go_simp; all_goals (with_reducible rfl))); simp only [Act.put, List.setIfInBounds_toArray, List.set_cons_zero, List.set_cons_succ])
  refine wpAnyH_ready (rs := [7, 11]) (by kernel_rfl) (by simp) ?_
  refine AllReadyH.cons (o := _) rfl (fun K hK => ?_) (AllReadyH.cons (o := _) rfl (fun K hK => ?_) AllReadyH.nil)
  · skip
    go_simp
    (go_at_call 27; refine (ref0_CopyWaits tA lw _ (D.wa.take lw) _ ((HWR.out.up (hbd)).takeN hlwt) HBT.out).mono ?_; rintro e w3 ⟨v3, rfl, ⟨qs, ho3⟩, hb3⟩)
    have hbC := bel_trans (hbd) hb3
    have HO3 : Hid (OwnT dWait w3 W.heap.size v3 qs (D.wa.take lw)) := Lib.hid (ho3.mono (hbd).size)
    clear ho3
    refine hK.out _ _ (hS _ hbC) (fun hHeld => ?_)
    clear hK K
    (try simp only [Act.put, List.setIfInBounds_toArray, List.set_cons_zero, List.set_cons_succ])
    refine wpAnyH_ready (rs := [11]) (by kernel_rfl) (by simp) ?_
    refine AllReadyH.cons (o := _) rfl (fun K hK => ?_) AllReadyH.nil
    go_simp
    obtain ⟨NI, hNI⟩ : ∃ N, N = w3.heap.size := ⟨_, rfl⟩
    obtain ⟨ZI, hZI⟩ : ∃ Zq : World, Zq = w3.alloc (.cells #[.int .i64 D.id] 3) := ⟨_, rfl⟩
    rw [← hNI, ← hZI]
    have hkI : Blk ZI NI 3 [.int .i64 D.id] := by rw [hZI, hNI]; exact Blk.new _ 3 [.int .i64 D.id]
    have hbI : Below w3.heap.size w3 ZI := by rw [hZI]; exact bel_alloc (Below.refl _ _)
    have hNW : W.heap.size ≤ NI := by rw [hNI]; exact (hbC).size
    have hbJ := bel_trans (hbC) hbI
    have HI1 := Lib.hid hkI
    clear hNI hZI hkI
    have HO3x := Lib.hid (HO3.out.up hbI)
    refine hK.out _ _ (hS _ hbJ) (fun hHeld => ?_)
    clear hK K
    (try simp only [Act.put, List.setIfInBounds_toArray, List.set_cons_zero, List.set_cons_succ])
    (refine wpAnyH_tk 12 (some 120) (v := ?_) rfl rfl ?_ ?_; rotate_left; (focus (intro wq hSw; clear hSw; go_simp; all_goals (with_reducible rfl))); simp only [Act.put, List.setIfInBounds_toArray, List.set_cons_zero, List.set_cons_succ])
    refine wpAnyH_ready (rs := [13]) (by kernel_rfl) (by simp) ?_
    refine AllReadyH.cons (o := _) rfl (fun K hK => ?_) AllReadyH.nil
    go_simp
    obtain ⟨NW, hNWe⟩ : ∃ N, N = ZI.heap.size := ⟨_, rfl⟩
    obtain ⟨ZW, hZW⟩ : ∃ Zq : World, Zq = ZI.alloc (.cells #[.int .i64 d, .slice (some ⟨NI, 0, none⟩) 1 1] 56) := ⟨_, rfl⟩
    rw [← hNWe, ← hZW]
    have hkW : Blk ZW NW 56 [.int .i64 d, .slice (some ⟨NI, 0, none⟩) 1 1] := by rw [hZW, hNWe]; exact Blk.new _ 56 [.int .i64 d, .slice (some ⟨NI, 0, none⟩) 1 1]
    have hbY : Below ZI.heap.size ZI ZW := by rw [hZW]; exact bel_alloc (Below.refl _ _)
    have hbZ9 := bel_trans (hbJ) hbY
    have HW1 := Lib.hid hkW
    clear hNWe hZW hkW
    have HO3xx := Lib.hid (HO3x.out.up hbY)
    have HI1x := Lib.hid (HI1.out.up hbY)
    refine hK.out _ _ (hS _ hbZ9) (fun hHeld => ?_)
    clear hK K
    (try simp only [Act.put, List.setIfInBounds_toArray, List.set_cons_zero, List.set_cons_succ])
    refine wpAnyH_ready (rs := [14]) (by kernel_rfl) (by simp) ?_
    refine AllReadyH.cons (o := _) rfl (fun K hK => ?_) AllReadyH.nil
    have hrow3 := HO3xx.out.1
    rw [List.length_take, Nat.min_eq_left HLL.out] at hrow3
    refine step_appRow_Wait rfl (.tmp 115) (.tmp 121) rfl rfl W.heap.size v3 lw _ (by simp [Act.eval, Act.put]) hrow3 (some ⟨NW, 0, none⟩) 1 1 [.int .i64 d, .slice (some ⟨NI, 0, none⟩) 1 1] (by simp [Act.eval, Act.put]) ⟨rfl, by omega, fun _ => ⟨NW, 0, rfl, HW1.out.lt, fun j u hu => by rw [Nat.zero_add]; exact HW1.out.box.2 j u hu⟩⟩ (by simp [Value.oneCell']) (by omega) (hbZ9).size ?_
    intro v7 w7 hown7 hg7 hb7
    have hb7W : Below W.heap.size W w7 := (hbZ9).trans hb7
    refine hK.out _ _ (hS _ hb7W) (fun hHeld => ?_)
    clear hK K
    (try simp only [Act.put, List.setIfInBounds_toArray, List.set_cons_zero, List.set_cons_succ])
    (refine wpAnyH_tk 15 (some 10) (v := ?_) rfl rfl ?_ ?_; rotate_left; (focus (intro wq hSw; clear hSw; go_simp; all_goals (with_reducible rfl))); simp only [Act.put, List.setIfInBounds_toArray, List.set_cons_zero, List.set_cons_succ])
    refine wpAnyH_done (by kernel_rfl) ?_ _
    show K2 _ _
    apply HK2.out
    have hql : qs.length = lw := by have := HO3.out.2.1; rw [List.length_take, Nat.min_eq_left HLL.out] at this; exact this
    have hq3 : ∀ j, j < lw → OwnI w7 W.heap.size (qs.getD j default) (D.wa.getD j default).ak := fun j hj => by
      have h1 := HO3xx.out.2.2 j (by rw [List.length_take, Nat.min_eq_left HLL.out]; exact hj)
      have e1 : (D.wa.take lw).getD j default = D.wa.getD j default := by simp [hj]
      rw [e1] at h1
      exact own_farT (show World.ownsRow _ _ 3 1 _ _ _ from h1) hrow3 (by decide) hg7
    have hi7 : OwnI w7 W.heap.size (.slice (some ⟨NI, 0, none⟩) 1 1) [D.id] := own_farT (show World.ownsRow _ _ 3 1 _ _ _ from own_box1 HI1x.out hNW) hrow3 (by decide) hg7
    exact ins_store P D d n2 b op2 he2 wa2 ps w W gw gs gb lw oA tA eA rA bA on oc tn tc en ec rn rc bn bc NI v7 qs w7 HK0.out hbW hgw0 hgs0 hgwne hgbne hgww hw hbx hg hTx hbn hT hR hap hH hO hoc hom hbw hwl hre hris hns hw2 hlwt hb7W hb7W.size hown7 hql hq3 hi7
  · skip
    go_simp
    obtain ⟨NI, hNI⟩ : ∃ N, N = Z0.heap.size := ⟨_, rfl⟩
    obtain ⟨ZI, hZI⟩ : ∃ Zq : World, Zq = Z0.alloc (.cells #[.int .i64 D.id] 3) := ⟨_, rfl⟩
    rw [← hNI, ← hZI]
    have hkI : Blk ZI NI 3 [.int .i64 D.id] := by rw [hZI, hNI]; exact Blk.new _ 3 [.int .i64 D.id]
    have hbI : Below Z0.heap.size Z0 ZI := by rw [hZI]; exact bel_alloc (Below.refl _ _)
    have hNW : W.heap.size ≤ NI := by rw [hNI]; exact (hbd).size
    have hbJ := bel_trans (hbd) hbI
    have HI1 := Lib.hid hkI
    clear hNI hZI hkI
    refine hK.out _ _ (hS _ hbJ) (fun hHeld => ?_)
    clear hK K
    (try simp only [Act.put, List.setIfInBounds_toArray, List.set_cons_zero, List.set_cons_succ])
    (refine wpAnyH_tk 12 (some 120) (v := ?_) rfl rfl ?_ ?_; rotate_left; (focus (intro wq hSw; clear hSw; go_simp; all_goals (with_reducible rfl))); simp only [Act.put, List.setIfInBounds_toArray, List.set_cons_zero, List.set_cons_succ])
    refine wpAnyH_ready (rs := [7, 13]) (by kernel_rfl) (by simp) ?_
    refine AllReadyH.cons (o := _) rfl (fun K hK => ?_) (AllReadyH.cons (o := _) rfl (fun K hK => ?_) AllReadyH.nil)
    · skip
      go_simp
      (go_at_call 27; refine (ref0_CopyWaits tA lw _ (D.wa.take lw) _ ((HWR.out.up (hbJ)).takeN hlwt) HBT.out).mono ?_; rintro e w3 ⟨v3, rfl, ⟨qs, ho3⟩, hb3⟩)
      have hbC := bel_trans (hbJ) hb3
      have HO3 : Hid (OwnT dWait w3 W.heap.size v3 qs (D.wa.take lw)) := Lib.hid (ho3.mono (hbJ).size)
      clear ho3
      have HI1x := Lib.hid (HI1.out.up hb3)
      refine hK.out _ _ (hS _ hbC) (fun hHeld => ?_)
      clear hK K
      (try simp only [Act.put, List.setIfInBounds_toArray, List.set_cons_zero, List.set_cons_succ])
      refine wpAnyH_ready (rs := [13]) (by kernel_rfl) (by simp) ?_
      refine AllReadyH.cons (o := _) rfl (fun K hK => ?_) AllReadyH.nil
      go_simp
      obtain ⟨NW, hNWe⟩ : ∃ N, N = w3.heap.size := ⟨_, rfl⟩
      obtain ⟨ZW, hZW⟩ : ∃ Zq : World, Zq = w3.alloc (.cells #[.int .i64 d, .slice (some ⟨NI, 0, none⟩) 1 1] 56) := ⟨_, rfl⟩
      rw [← hNWe, ← hZW]
      have hkW : Blk ZW NW 56 [.int .i64 d, .slice (some ⟨NI, 0, none⟩) 1 1] := by rw [hZW, hNWe]; exact Blk.new _ 56 [.int .i64 d, .slice (some ⟨NI, 0, none⟩) 1 1]
      have hbY : Below w3.heap.size w3 ZW := by rw [hZW]; exact bel_alloc (Below.refl _ _)
      have hbZ9 := bel_trans (hbC) hbY
      have HW1 := Lib.hid hkW
      clear hNWe hZW hkW
      have HO3x := Lib.hid (HO3.out.up hbY)
      have HI1xx := Lib.hid (HI1x.out.up hbY)
      refine hK.out _ _ (hS _ hbZ9) (fun hHeld => ?_)
      clear hK K
      (try simp only [Act.put, List.setIfInBounds_toArray, List.set_cons_zero, List.set_cons_succ])
      refine wpAnyH_ready (rs := [14]) (by kernel_rfl) (by simp) ?_
      refine AllReadyH.cons (o := _) rfl (fun K hK => ?_) AllReadyH.nil
      have hrow3 := HO3x.out.1
      rw [List.length_take, Nat.min_eq_left HLL.out] at hrow3
      refine step_appRow_Wait rfl (.tmp 115) (.tmp 121) rfl rfl W.heap.size v3 lw _ (by simp [Act.eval, Act.put]) hrow3 (some ⟨NW, 0, none⟩) 1 1 [.int .i64 d, .slice (some ⟨NI, 0, none⟩) 1 1] (by simp [Act.eval, Act.put]) ⟨rfl, by omega, fun _ => ⟨NW, 0, rfl, HW1.out.lt, fun j u hu => by rw [Nat.zero_add]; exact HW1.out.box.2 j u hu⟩⟩ (by simp [Value.oneCell']) (by omega) (hbZ9).size ?_
      intro v7 w7 hown7 hg7 hb7
      have hb7W : Below W.heap.size W w7 := (hbZ9).trans hb7
      refine hK.out _ _ (hS _ hb7W) (fun hHeld => ?_)
      clear hK K
      (try simp only [Act.put, List.setIfInBounds_toArray, List.set_cons_zero, List.set_cons_succ])
      (refine wpAnyH_tk 15 (some 10) (v := ?_) rfl rfl ?_ ?_; rotate_left; (focus (intro wq hSw; clear hSw; go_simp; all_goals (with_reducible rfl))); simp only [Act.put, List.setIfInBounds_toArray, List.set_cons_zero, List.set_cons_succ])
      refine wpAnyH_done (by kernel_rfl) ?_ _
      show K2 _ _
      apply HK2.out
      have hql : qs.length = lw := by have := HO3.out.2.1; rw [List.length_take, Nat.min_eq_left HLL.out] at this; exact this
      have hq3 : ∀ j, j < lw → OwnI w7 W.heap.size (qs.getD j default) (D.wa.getD j default).ak := fun j hj => by
        have h1 := HO3x.out.2.2 j (by rw [List.length_take, Nat.min_eq_left HLL.out]; exact hj)
        have e1 : (D.wa.take lw).getD j default = D.wa.getD j default := by simp [hj]
        rw [e1] at h1
        exact own_farT (show World.ownsRow _ _ 3 1 _ _ _ from h1) hrow3 (by decide) hg7
      have hi7 : OwnI w7 W.heap.size (.slice (some ⟨NI, 0, none⟩) 1 1) [D.id] := own_farT (show World.ownsRow _ _ 3 1 _ _ _ from own_box1 HI1xx.out hNW) hrow3 (by decide) hg7
      exact ins_store P D d n2 b op2 he2 wa2 ps w W gw gs gb lw oA tA eA rA bA on oc tn tc en ec rn rc bn bc NI v7 qs w7 HK0.out hbW hgw0 hgs0 hgwne hgbne hgww hw hbx hg hTx hbn hT hR hap hH hO hoc hom hbw hwl hre hris hns hw2 hlwt hb7W hb7W.size hown7 hql hq3 hi7
    · skip
      go_simp
      obtain ⟨NW, hNWe⟩ : ∃ N, N = ZI.heap.size := ⟨_, rfl⟩
      obtain ⟨ZW, hZW⟩ : ∃ Zq : World, Zq = ZI.alloc (.cells #[.int .i64 d, .slice (some ⟨NI, 0, none⟩) 1 1] 56) := ⟨_, rfl⟩
      rw [← hNWe, ← hZW]
      have hkW : Blk ZW NW 56 [.int .i64 d, .slice (some ⟨NI, 0, none⟩) 1 1] := by rw [hZW, hNWe]; exact Blk.new _ 56 [.int .i64 d, .slice (some ⟨NI, 0, none⟩) 1 1]
      have hbY : Below ZI.heap.size ZI ZW := by rw [hZW]; exact bel_alloc (Below.refl _ _)
      have hbZ9 := bel_trans (hbJ) hbY
      have HW1 := Lib.hid hkW
      clear hNWe hZW hkW
      have HI1x := Lib.hid (HI1.out.up hbY)
      refine hK.out _ _ (hS _ hbZ9) (fun hHeld => ?_)
      clear hK K
      (try simp only [Act.put, List.setIfInBounds_toArray, List.set_cons_zero, List.set_cons_succ])
      refine wpAnyH_ready (rs := [7]) (by kernel_rfl) (by simp) ?_
      refine AllReadyH.cons (o := _) rfl (fun K hK => ?_) AllReadyH.nil
      go_simp
      (go_at_call 27; refine (ref0_CopyWaits tA lw _ (D.wa.take lw) _ ((HWR.out.up (hbZ9)).takeN hlwt) HBT.out).mono ?_; rintro e w3 ⟨v3, rfl, ⟨qs, ho3⟩, hb3⟩)
      have hbC := bel_trans (hbZ9) hb3
      have HO3 : Hid (OwnT dWait w3 W.heap.size v3 qs (D.wa.take lw)) := Lib.hid (ho3.mono (hbZ9).size)
      clear ho3
      have HI1xx := Lib.hid (HI1x.out.up hb3)
      have HW1x := Lib.hid (HW1.out.up hb3)
      refine hK.out _ _ (hS _ hbC) (fun hHeld => ?_)
      clear hK K
      (try simp only [Act.put, List.setIfInBounds_toArray, List.set_cons_zero, List.set_cons_succ])
      refine wpAnyH_ready (rs := [14]) (by kernel_rfl) (by simp) ?_
      refine AllReadyH.cons (o := _) rfl (fun K hK => ?_) AllReadyH.nil
      have hrow3 := HO3.out.1
      rw [List.length_take, Nat.min_eq_left HLL.out] at hrow3
      refine step_appRow_Wait rfl (.tmp 115) (.tmp 121) rfl rfl W.heap.size v3 lw _ (by simp [Act.eval, Act.put]) hrow3 (some ⟨NW, 0, none⟩) 1 1 [.int .i64 d, .slice (some ⟨NI, 0, none⟩) 1 1] (by simp [Act.eval, Act.put]) ⟨rfl, by omega, fun _ => ⟨NW, 0, rfl, HW1x.out.lt, fun j u hu => by rw [Nat.zero_add]; exact HW1x.out.box.2 j u hu⟩⟩ (by simp [Value.oneCell']) (by omega) (hbC).size ?_
      intro v7 w7 hown7 hg7 hb7
      have hb7W : Below W.heap.size W w7 := (hbC).trans hb7
      refine hK.out _ _ (hS _ hb7W) (fun hHeld => ?_)
      clear hK K
      (try simp only [Act.put, List.setIfInBounds_toArray, List.set_cons_zero, List.set_cons_succ])
      (refine wpAnyH_tk 15 (some 10) (v := ?_) rfl rfl ?_ ?_; rotate_left; (focus (intro wq hSw; clear hSw; go_simp; all_goals (with_reducible rfl))); simp only [Act.put, List.setIfInBounds_toArray, List.set_cons_zero, List.set_cons_succ])
      refine wpAnyH_done (by kernel_rfl) ?_ _
      show K2 _ _
      apply HK2.out
      have hql : qs.length = lw := by have := HO3.out.2.1; rw [List.length_take, Nat.min_eq_left HLL.out] at this; exact this
      have hq3 : ∀ j, j < lw → OwnI w7 W.heap.size (qs.getD j default) (D.wa.getD j default).ak := fun j hj => by
        have h1 := HO3.out.2.2 j (by rw [List.length_take, Nat.min_eq_left HLL.out]; exact hj)
        have e1 : (D.wa.take lw).getD j default = D.wa.getD j default := by simp [hj]
        rw [e1] at h1
        exact own_farT (show World.ownsRow _ _ 3 1 _ _ _ from h1) hrow3 (by decide) hg7
      have hi7 : OwnI w7 W.heap.size (.slice (some ⟨NI, 0, none⟩) 1 1) [D.id] := own_farT (show World.ownsRow _ _ 3 1 _ _ _ from own_box1 HI1xx.out hNW) hrow3 (by decide) hg7
      exact ins_store P D d n2 b op2 he2 wa2 ps w W gw gs gb lw oA tA eA rA bA on oc tn tc en ec rn rc bn bc NI v7 qs w7 HK0.out hbW hgw0 hgs0 hgwne hgbne hgww hw hbx hg hTx hbn hT hR hap hH hO hoc hom hbw hwl hre hris hns hw2 hlwt hb7W hb7W.size hown7 hql hq3 hi7
set_option maxRecDepth 100000 in
set_option maxHeartbeats 16000000 in
theorem sealed_ins {K0 K1 : Act → World → Prop} (P : WorkP) (D : WorkD) (d n2 : Int) (b : BatchD) (op2 : List TxD) (he2 : List HeldD) (wa2 : List WaitD) (ps : List Value) (w W : World) (gw gs gb lw : Nat) (oA tA eA rA bA : Option Addr) (on oc tn tc en ec rn rc bn bc : Nat) {u0 u3 u4 u5 u8 u10 u11 u12 u13 u14 u15 u16 u17 u18 u19 u20 u21 u22 u23 u24 u25 u26 u27 u28 u29 u30 u31 u32 u33 u34 u35 u36 u37 u38 u39 u40 u41 u42 u43 u44 u45 u46 u47 u48 u49 u50 u51 u52 u53 u54 u55 u56 u57 u58 u59 u60 u61 u62 u63 u64 u65 u66 u67 u68 u69 u70 u71 u72 u73 u74 u75 u76 u77 u78 u79 u80 u81 u82 u83 u84 u85 u86 u87 u88 u89 u90 u91 u92 u93 u94 u95 u96 u97 u98 u99 u100 u101 u102 u103 u104 u105 u106 u107 u108 u109 u110 u111 u112 u113 u114 u115 u116 u117 u118 u119 u120 u121 u122 u123 u124 u125 u126 u127 u128 u129 u130 u131 u132 u133 u134 u135 u136 u137 u138 u139 u140 u141 u142 u143 u144 u145 u146 u147 u148 u149 u150 u151 u152 u153 u154 u155 : Value}
    (hK0 : ∀ a' w', Code.wp Tryz.prog (cSnd insEnd) (bodyPost Tryz.prog Tryz.f46 (fun e w' => ∃ gs P' uA un uc us, e = .returned (.tuple #[.pointer (some ⟨gs, 0, none⟩), .int .i64 0]) ∧ Blk w' gs 70 [.int .i64 ({ D with op := op2, next := n2, age := 0, he := he2, wa := keptW D.nodes wa2, re := keptR D.nodes D.re wa2 } : WorkD).id, .int .i64 ({ D with op := op2, next := n2, age := 0, he := he2, wa := keptW D.nodes wa2, re := keptR D.nodes D.re wa2 } : WorkD).nodes, .int .i64 ({ D with op := op2, next := n2, age := 0, he := he2, wa := keptW D.nodes wa2, re := keptR D.nodes D.re wa2 } : WorkD).next, .slice P'.op.A P'.op.n P'.op.c, .int .i64 ({ D with op := op2, next := n2, age := 0, he := he2, wa := keptW D.nodes wa2, re := keptR D.nodes D.re wa2 } : WorkD).age, .int .i64 ({ D with op := op2, next := n2, age := 0, he := he2, wa := keptW D.nodes wa2, re := keptR D.nodes D.re wa2 } : WorkD).clock, .slice P'.wa.A P'.wa.n P'.wa.c, .slice P'.he.A P'.he.n P'.he.c, .slice P'.re.A P'.re.n P'.re.c, .slice uA un uc] ∧ WorkQ w' w.heap.size P' ({ D with op := op2, next := n2, age := 0, he := he2, wa := keptW D.nodes wa2, re := keptR D.nodes D.re wa2 } : WorkD) ∧ OwnT dMsg w' w.heap.size (.slice uA un uc) us (askL D.id d b [] D.nodes.toNat) ∧ w.heap.size ≤ gs ∧ Below w.heap.size w w')) a' w' → K0 a' w')
    (hK1 : ∀ a' w', Code.wp Tryz.prog (cSnd (cFst insEnd)) (Exit.then K0 (bodyPost Tryz.prog Tryz.f46 (fun e w' => ∃ gs P' uA un uc us, e = .returned (.tuple #[.pointer (some ⟨gs, 0, none⟩), .int .i64 0]) ∧ Blk w' gs 70 [.int .i64 ({ D with op := op2, next := n2, age := 0, he := he2, wa := keptW D.nodes wa2, re := keptR D.nodes D.re wa2 } : WorkD).id, .int .i64 ({ D with op := op2, next := n2, age := 0, he := he2, wa := keptW D.nodes wa2, re := keptR D.nodes D.re wa2 } : WorkD).nodes, .int .i64 ({ D with op := op2, next := n2, age := 0, he := he2, wa := keptW D.nodes wa2, re := keptR D.nodes D.re wa2 } : WorkD).next, .slice P'.op.A P'.op.n P'.op.c, .int .i64 ({ D with op := op2, next := n2, age := 0, he := he2, wa := keptW D.nodes wa2, re := keptR D.nodes D.re wa2 } : WorkD).age, .int .i64 ({ D with op := op2, next := n2, age := 0, he := he2, wa := keptW D.nodes wa2, re := keptR D.nodes D.re wa2 } : WorkD).clock, .slice P'.wa.A P'.wa.n P'.wa.c, .slice P'.he.A P'.he.n P'.he.c, .slice P'.re.A P'.re.n P'.re.c, .slice uA un uc] ∧ WorkQ w' w.heap.size P' ({ D with op := op2, next := n2, age := 0, he := he2, wa := keptW D.nodes wa2, re := keptR D.nodes D.re wa2 } : WorkD) ∧ OwnT dMsg w' w.heap.size (.slice uA un uc) us (askL D.id d b [] D.nodes.toNat) ∧ w.heap.size ≤ gs ∧ Below w.heap.size w w'))) a' w' → K1 a' w')
    (hbW : Below w.heap.size w W) (hgw0 : gw < w.heap.size + 1) (hgs0 : w.heap.size ≤ gs) (hgwne : gw ≠ gs) (hgbne : gb ≠ gs) (hgww : w.heap.size ≤ gw)
    (hw : Blk W gw 27 [.int .i64 D.id, .int .i64 D.nodes, .int .i64 D.next, .slice P.op.A P.op.n P.op.c, .int .i64 D.age, .int .i64 D.clock, .slice P.wa.A P.wa.n P.wa.c, .slice P.he.A P.he.n P.he.c, .slice P.re.A P.re.n P.re.c]) (hbx : Blk W gb 43 [.int .i64 b.au, .int .i64 b.n, .slice bA bn bc]) (hg : Blk W gs 70 [.int .i64 D.id, .int .i64 D.nodes, .int .i64 n2, .slice oA on oc, .int .i64 0, .int .i64 D.clock, .slice tA tn tc, .slice eA en ec, .slice rA rn rc, .slice none 0 0])
    (hTx : OwnX W w.heap.size (.slice bA bn bc) b.tx) (hbn : bn ≤ 800000000)
    (hT : OwnT dWait W w.heap.size (.slice tA tn tc) ps D.wa) (hR : OwnI W w.heap.size (.slice rA rn rc) D.re) (hap : ApartW ps D.wa (Value.slice rA rn rc).ownBlock) (hH : OwnHs W w.heap.size (.slice eA en ec) he2) (hO : TxsT W oA on op2) (hoc : on ≤ oc) (hom : oc ≤ 9223372036854775807)
    (hbw : BigW D.wa) (hwl : D.wa.length ≤ 700000000) (hre : D.re.length + D.wa.length ≤ 700000000) (hris : ∀ x ∈ wa2, RisesIn x.ak D.nodes) (hns : isS D.nodes = true)
    (hwe : sealW D d = wa2) (hlw : kposW D.wa d = lw) (hsW : SortedW D.wa) :
    Code.wp Tryz.prog (cFst (cFst insEnd)) (Exit.then K1 (Exit.then K0 (bodyPost Tryz.prog Tryz.f46 (fun e w' => ∃ gs P' uA un uc us, e = .returned (.tuple #[.pointer (some ⟨gs, 0, none⟩), .int .i64 0]) ∧ Blk w' gs 70 [.int .i64 ({ D with op := op2, next := n2, age := 0, he := he2, wa := keptW D.nodes wa2, re := keptR D.nodes D.re wa2 } : WorkD).id, .int .i64 ({ D with op := op2, next := n2, age := 0, he := he2, wa := keptW D.nodes wa2, re := keptR D.nodes D.re wa2 } : WorkD).nodes, .int .i64 ({ D with op := op2, next := n2, age := 0, he := he2, wa := keptW D.nodes wa2, re := keptR D.nodes D.re wa2 } : WorkD).next, .slice P'.op.A P'.op.n P'.op.c, .int .i64 ({ D with op := op2, next := n2, age := 0, he := he2, wa := keptW D.nodes wa2, re := keptR D.nodes D.re wa2 } : WorkD).age, .int .i64 ({ D with op := op2, next := n2, age := 0, he := he2, wa := keptW D.nodes wa2, re := keptR D.nodes D.re wa2 } : WorkD).clock, .slice P'.wa.A P'.wa.n P'.wa.c, .slice P'.he.A P'.he.n P'.he.c, .slice P'.re.A P'.re.n P'.re.c, .slice uA un uc] ∧ WorkQ w' w.heap.size P' ({ D with op := op2, next := n2, age := 0, he := he2, wa := keptW D.nodes wa2, re := keptR D.nodes D.re wa2 } : WorkD) ∧ OwnT dMsg w' w.heap.size (.slice uA un uc) us (askL D.id d b [] D.nodes.toNat) ∧ w.heap.size ≤ gs ∧ Below w.heap.size w w')))) { tmps := #[u0, .int .i64 d, .pointer (some ⟨gw, 0, none⟩), u3, u4, u5, .pointer (some ⟨gs, 0, none⟩), .pointer (some ⟨gb, 0, none⟩), u8, .int .i64 (lw : Int), u10, u11, u12, u13, u14, u15, u16, u17, u18, u19, u20, u21, u22, u23, u24, u25, u26, u27, u28, u29, u30, u31, u32, u33, u34, u35, u36, u37, u38, u39, u40, u41, u42, u43, u44, u45, u46, u47, u48, u49, u50, u51, u52, u53, u54, u55, u56, u57, u58, u59, u60, u61, u62, u63, u64, u65, u66, u67, u68, u69, u70, u71, u72, u73, u74, u75, u76, u77, u78, u79, u80, u81, u82, u83, u84, u85, u86, u87, u88, u89, u90, u91, u92, u93, u94, u95, u96, u97, u98, u99, u100, u101, u102, u103, u104, u105, u106, u107, u108, u109, u110, u111, u112, u113, u114, u115, u116, u117, u118, u119, u120, u121, u122, u123, u124, u125, u126, u127, u128, u129, u130, u131, u132, u133, u134, u135, u136, u137, u138, u139, u140, u141, u142, u143, u144, u145, u146, u147, u148, u149, u150, u151, u152, u153, u154, u155], defers := [] } W := by
  have HTN : Hid (D.wa.length = tn) := Lib.hid (by obtain ⟨A', c', e', _⟩ := hT.read; injection e' with _ e2 _; exact e2.symm)
  have hlwt : lw ≤ tn := by rw [← hlw, ← HTN.out]; exact cnt_le _ _
  obtain ⟨y, hy⟩ : ∃ y, khasW D.wa d = y := ⟨_, rfl⟩
  have HY := Lib.hid hy
  have HWE := Lib.hid hwe
  have HLW := Lib.hid hlw
  have HSW := Lib.hid hsW
  have HK0 := Lib.hid hK0
  have HK1 := Lib.hid hK1
  have lg := hg.lt
  have a_0 := (hg.box).2 0 _ rfl; have a_1 := (hg.box).2 1 _ rfl; have a_2 := (hg.box).2 2 _ rfl; have a_3 := (hg.box).2 3 _ rfl; have a_4 := (hg.box).2 4 _ rfl; have a_5 := (hg.box).2 5 _ rfl; have a_6 := (hg.box).2 6 _ rfl; have a_7 := (hg.box).2 7 _ rfl; have a_8 := (hg.box).2 8 _ rfl; have a_9 := (hg.box).2 9 _ rfl
  clear hK0 hK1 hwe hlw hsW hy
  dsimp only [insEnd, cAfter, cSnd, cFst, Tryz.f46, Option.getD]
  rcases Nat.lt_or_ge lw tn with hlt | hge
  · have hkl : lw < D.wa.length := by rw [HTN.out]; exact hlt
    have hT1 := hT.1
    rw [HTN.out] at hT1
    obtain ⟨gt, eA, hgtB, hgtl⟩ := own_nz hT1 (by omega)
    subst eA
    obtain ⟨gg, fg⟩ := own_get hT1
    have c0 : W.cell? ⟨gt, lw * 2, none⟩ = some (.int .i64 (wth D.wa lw).di) := gg _ _ (by have := dcells_at dWait hT.2.1 hkl (r := 0) (by show 0 < 2; omega); rw [show lw * 2 = lw * dWait.k + 0 from rfl, this]; rfl)
    have he1 : ((lw : Int) == (tn : Int)) = false := by simp; omega
    have hlk : (lw : Int) < (tn : Int) := by omega
    clear hT1 gg fg
    cases y
    · have hdne : ((wth D.wa lw).di != d) = true := by
        simp only [bne_iff_ne, ne_eq]
        intro e
        have := (khasW_iff HSW.out).2 ⟨lw, hkl, e⟩
        rw [HY.out] at this; cases this
      go_wp2_with fail
      show K1 _ _
      apply HK1.out
      dsimp only [insEnd, cAfter, cSnd, cFst, Tryz.f46, Option.getD]
      have hw2 : insAt D.wa lw ⟨d, [D.id]⟩ = wa2 := by rw [← HWE.out]; unfold sealW; rw [if_neg (by rw [HY.out]; simp), HLW.out]
      go_upto_region 17 with fail
      rename_i K2 hK2
      exact ins_part P D d n2 b op2 he2 wa2 ps w W gw gs gb lw oA (some ⟨gt, 0, none⟩) eA rA bA on oc tn tc en ec rn rc bn bc HK0.out hK2 hbW hgw0 hgs0 hgwne hgbne hgww hw hbx hg hTx hbn hT hR hap hH hO hoc hom hbw hwl hre hris hns hw2 hlwt
    · have hdne : ((wth D.wa lw).di != d) = false := by
        have := (khasW_lt HLW.out HY.out).2
        simp [this]
      obtain rfl : wa2 = D.wa := by rw [← HWE.out]; unfold sealW; rw [if_pos HY.out]
      go_wp2_with fail
      show K1 _ _
      apply HK1.out
      dsimp only [insEnd, cAfter, cSnd, cFst, Tryz.f46, Option.getD]
      clear c0
      go_wp2_with fail
      show K0 _ _
      apply HK0.out
      dsimp only [insEnd, cAfter, cSnd, cFst, Tryz.f46, Option.getD]
      go_upto_region 19 with fail
      rename_i K0' hK0' K1' hK1'
      exact sealed_tail P D d n2 b op2 he2 D.wa ps w W gw gs gb oA _ eA rA bA on oc tn tc en ec rn rc bn bc hK0' hK1' hbW hw.lt hgs0 hgwne hgbne hw hbx hg (ownX_txs hTx hbn) (fun X hX => ownX_txs (own_tk (show World.ownsRow _ _ 41 4 _ _ _ from hTx) (TKeep.of_but hg hX) (by decide)) hbn) hbn hT hR hap hH hO hoc hom hbw (by omega) hris hns
  · have he1 : ((lw : Int) == (tn : Int)) = true := by simp; omega
    cases y
    · skip
      go_wp2_with fail
      show K1 _ _
      apply HK1.out
      dsimp only [insEnd, cAfter, cSnd, cFst, Tryz.f46, Option.getD]
      have hw2 : insAt D.wa lw ⟨d, [D.id]⟩ = wa2 := by rw [← HWE.out]; unfold sealW; rw [if_neg (by rw [HY.out]; simp), HLW.out]
      go_upto_region 17 with fail
      rename_i K2 hK2
      exact ins_part P D d n2 b op2 he2 wa2 ps w W gw gs gb lw oA tA eA rA bA on oc tn tc en ec rn rc bn bc HK0.out hK2 hbW hgw0 hgs0 hgwne hgbne hgww hw hbx hg hTx hbn hT hR hap hH hO hoc hom hbw hwl hre hris hns hw2 hlwt
    · have := (khasW_lt HLW.out HY.out).1
      have := HTN.out
      omega
end Go.Proofs.YtgfakefcmbpboaaGreat
