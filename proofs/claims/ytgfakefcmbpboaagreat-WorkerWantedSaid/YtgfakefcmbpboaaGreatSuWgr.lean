/- droverlaw13.step at 'do' 5. -/
import Derived.Test.YtgfakefcmbpboaaGreatSuWgq
namespace Go.Proofs.YtgfakefcmbpboaaGreat
set_option linter.all false
set_option maxRecDepth 100000
open Go.RowKit

/-- What a message of kind k makes of a worker, and what is sent, on both sides. -/
structure TakeC (D : WorkD) (k : Int) (tD : MsgD → WorkD) (tL : MsgD → List MsgD) : Prop where
  ref : ∀ (P : WorkP) (Pm : MsgP) (M : MsgD) (w : World), WorkR w P D → MsgR w Pm M → MilM M → M.ki = k → mayW D = true → msgB M D.nodes = true → M.tt = D.id →
    Calls Tryz.prog 49 #[P.val D, M18 Pm M] w fun e w' => ∃ gs P' A n c ps, e = .returned (.tuple #[.pointer (some ⟨gs, 0, none⟩), .int .i64 0]) ∧ Blk w' gs 70 [.int .i64 (tD M).id, .int .i64 (tD M).nodes, .int .i64 (tD M).next, .slice P'.op.A P'.op.n P'.op.c, .int .i64 (tD M).age, .int .i64 (tD M).clock, .slice P'.wa.A P'.wa.n P'.wa.c, .slice P'.he.A P'.he.n P'.he.c, .slice P'.re.A P'.re.n P'.re.c, .slice A n c] ∧ WorkO w' w.heap.size P' (tD M) ∧ OwnT dMsg w' w.heap.size (.slice A n c) ps (tL M) ∧ w.heap.size ≤ gs ∧ Below w.heap.size w w'
  prog : ∀ (P : WorkP) (Pm : MsgP) (M : MsgD) (B : Nat) (w : World), WorkO w B P D → B ≤ w.heap.size → MsgR w Pm M → MilM M → M.ki = k → mayW D = true → msgB M D.nodes = true → M.tt = D.id →
    Calls Tryz.prog 96 #[P.val D, M18 Pm M] w fun e w' => ∃ P' A n c, e = .returned (.tuple #[P'.val (tD M), .slice A n c]) ∧ WorkO w' B P' (tD M) ∧ OwnMs w' w.heap.size (.slice A n c) (tL M) ∧ Below w.heap.size w w'
  big : ∀ M, MilM M → M.ki = k → mayW D = true → msgB M D.nodes = true → BigD (tD M) ∧ ((tD M).op.length ≤ 1000000 ∧ (tD M).wa.length ≤ 1000000 ∧ (tD M).he.length ≤ 1000000 ∧ (tD M).re.length ≤ 1000000 ∧ (∀ x ∈ (tD M).wa, x.ak.length ≤ 1000000) ∧ (∀ x ∈ (tD M).he, x.b.tx.length ≤ 1000000)) ∧ (tL M).length ≤ 1000000 ∧ ∀ x ∈ tL M, MilM x
noncomputable def do5T : Code := cThn (cSnd (cEls (cSnd (cEls (cSnd (cBlk (cSnd (cFst (cAfter 7 (Tryz.f21.body.getD .skip))))))))))

set_option maxHeartbeats 8000000 in
theorem do5_31 {K31 K51 : Act → World → Prop} (w V : World) (gw ga gr gi gs gx : Nat) (Pw Pi : WorkP) (D : WorkD) (MP : MsgP) (SP : SlP) (a : JobD) (z : Bool) (tD : MsgD → WorkD) (tL : MsgD → List MsgD) {u0 u1 u5 u11 u12 u13 u14 u15 u16 u17 u18 u19 u20 u21 u22 u23 u24 u25 u26 u27 u28 u29 u30 u31 u32 u33 u34 u35 u36 u37 u38 u39 u40 u41 u42 u43 u44 u45 u46 u47 u48 u49 u50 u51 u52 u53 u54 u55 u56 u57 u58 u59 u60 u61 u62 u63 u64 u65 u66 u67 u68 u69 u70 u71 u72 u73 u74 u75 u76 u77 u78 u79 u80 u81 u82 u83 u84 u85 u86 u87 u88 u89 u90 u91 u92 u93 u94 u95 u96 u97 u98 u99 u100 u101 u102 u103 u104 u105 u106 u107 u108 u109 u110 u111 u112 u113 u114 u115 u116 u117 u118 u119 u120 u121 u122 u123 u124 u125 u126 u127 u128 u129 u130 u131 u132 u133 u134 u135 u136 u137 u138 u139 u140 u141 u142 u143 u144 u145 u146 u147 u148 u149 u150 u151 u152 u153 u154 u155 u156 u157 u158 u159 u160 u161 u162 u163 u164 u165 u166 u167 u168 u169 u170 u171 u172 u173 u174 u175 u176 u177 u178 u179 u180 u181 u182 u183 u184 u185 u186 u187 u188 u189 u190 u191 u192 u193 u194 u195 u196 u197 u198 u199 u200 u201 u202 u203 u204 u205 u206 u207 u208 u209 u210 u211 u212 u213 u214 u215 u216 u217 u218 u219 u220 u221 u222 u223 u224 u225 u226 u227 u228 u229 u230 u231 u232 u233 u234 u235 u236 u237 u238 u239 u240 u241 u242 u243 u244 u245 u246 u247 u248 u249 : Value}
    (hK31 : ∀ a' w', Code.wp Tryz.prog (cSnd do5T) (Exit.inBlock 0 (Exit.then K51 (bodyPost Tryz.prog Tryz.f21 (fun e w' => ∃ P' D2, e = .returned (.tuple #[P'.val D2, .bool true]) ∧ WorkR w' P' D2 ∧ Below w.heap.size w w')))) a' w' → K31 a' w') (hK51 : ∀ a' w', Code.wp Tryz.prog stepEnd8 (bodyPost Tryz.prog Tryz.f21 (fun e w' => ∃ P' D2, e = .returned (.tuple #[P'.val D2, .bool true]) ∧ WorkR w' P' D2 ∧ Below w.heap.size w w')) a' w' → K51 a' w')
    (hbV : Below w.heap.size w V) (hgw : w.heap.size ≤ gw) (hwa : gw < ga) (har : ga < gr) (hri : gr < gi) (hix : gi < gx)
    (hw : Blk V gw 27 [.int .i64 D.id, .int .i64 D.nodes, .int .i64 D.next, .slice Pw.op.A Pw.op.n Pw.op.c, .int .i64 D.age, .int .i64 D.clock, .slice Pw.wa.A Pw.wa.n Pw.wa.c, .slice Pw.he.A Pw.he.n Pw.he.c, .slice Pw.re.A Pw.re.n Pw.re.c]) (ha : Blk V ga 51 [.int .i64 a.doo, .int .i64 a.d, .int .i64 a.t.se, .int .i64 a.t.sq, .string a.t.k, .string a.t.v, .int .i64 a.m.ki, .int .i64 a.m.fr, .int .i64 a.m.tt, .int .i64 a.m.di, .int .i64 a.m.b.au, .int .i64 a.m.b.n, .slice MP.b.A MP.b.n MP.b.c, .int .i64 a.m.h.au, .int .i64 a.m.h.ro, .slice MP.h.b.A MP.h.b.n MP.h.b.c, .slice MP.h.p.A MP.h.p.n MP.h.p.c, .int .i64 a.m.c.h.au, .int .i64 a.m.c.h.ro, .slice MP.c.h.b.A MP.c.h.b.n MP.c.h.b.c, .slice MP.c.h.p.A MP.c.h.p.n MP.c.h.p.c, .int .i64 a.m.c.di, .slice MP.c.s.A MP.c.s.n MP.c.s.c, .slice MP.ds.A MP.ds.n MP.ds.c, .bool a.fit, .slice SP.A SP.n SP.c]) (hi : Blk V gi 27 [.int .i64 D.id, .int .i64 D.nodes, .int .i64 D.next, .slice Pi.op.A Pi.op.n Pi.op.c, .int .i64 D.age, .int .i64 D.clock, .slice Pi.wa.A Pi.wa.n Pi.wa.c, .slice Pi.he.A Pi.he.n Pi.he.c, .slice Pi.re.A Pi.re.n Pi.re.c]) (hr : Blk V gr 27 [.int .i64 0, .int .i64 0, .int .i64 0, .slice none 0 0, .int .i64 0, .int .i64 0, .slice none 0 0, .slice none 0 0, .slice none 0 0]) (hx : Blk V gx 27 [.int .i64 0, .int .i64 0, .int .i64 0, .slice none 0 0, .int .i64 0, .int .i64 0, .slice none 0 0, .slice none 0 0, .slice none 0 0])
    (hWR : WorkR w Pw D) {B0 : Nat} (hIO : WorkO V B0 Pi D) (hBD : BigD D) (hz : mayW D = z) (hMR : MsgR w MP a.m) (hML : MilM a.m) (hk : TakesK a.m.ki) (hT : TakeC D a.m.ki tD tL) (hwn : D.wa.length ≤ 1000000) (hhn : D.he.length ≤ 1000000) :
    Code.wp Tryz.prog (cFst do5T) (Exit.then K31 (Exit.inBlock 0 (Exit.then K51 (bodyPost Tryz.prog Tryz.f21 (fun e w' => ∃ P' D2, e = .returned (.tuple #[P'.val D2, .bool true]) ∧ WorkR w' P' D2 ∧ Below w.heap.size w w'))))) { tmps := #[u0, u1, .pointer (some ⟨gw, 0, none⟩), .pointer (some ⟨ga, 0, none⟩), .pointer (some ⟨gr, 0, none⟩), u5, .pointer (some ⟨gi, 0, none⟩), .bool z, .pointer (some ⟨gs, 0, none⟩), .int .i64 1, .pointer (some ⟨gx, 0, none⟩), u11, u12, u13, u14, u15, u16, u17, u18, u19, u20, u21, u22, u23, u24, u25, u26, u27, u28, u29, u30, u31, u32, u33, u34, u35, u36, u37, u38, u39, u40, u41, u42, u43, u44, u45, u46, u47, u48, u49, u50, u51, u52, u53, u54, u55, u56, u57, u58, u59, u60, u61, u62, u63, u64, u65, u66, u67, u68, u69, u70, u71, u72, u73, u74, u75, u76, u77, u78, u79, u80, u81, u82, u83, u84, u85, u86, u87, u88, u89, u90, u91, u92, u93, u94, u95, u96, u97, u98, u99, u100, u101, u102, u103, u104, u105, u106, u107, u108, u109, u110, u111, u112, u113, u114, u115, u116, u117, u118, u119, u120, u121, u122, u123, u124, u125, u126, u127, u128, u129, u130, u131, u132, u133, u134, u135, u136, u137, u138, u139, u140, u141, u142, u143, u144, u145, u146, u147, u148, u149, u150, u151, u152, u153, u154, u155, u156, u157, u158, u159, u160, u161, u162, u163, u164, u165, u166, u167, u168, u169, u170, u171, u172, u173, u174, u175, u176, u177, u178, u179, u180, u181, u182, u183, u184, u185, u186, u187, u188, u189, u190, u191, u192, u193, u194, u195, u196, u197, u198, u199, u200, u201, u202, u203, u204, u205, u206, u207, u208, u209, u210, u211, u212, u213, u214, u215, u216, u217, u218, u219, u220, u221, u222, u223, u224, u225, u226, u227, u228, u229, u230, u231, u232, u233, u234, u235, u236, u237, u238, u239, u240, u241, u242, u243, u244, u245, u246, u247, u248, u249], defers := [] } V := by
  have HK31 := ħ hK31
  have HK51 := ħ hK51
  have HW := ħ hw
  have HA := ħ ha
  have HI := ħ hi
  have HR := ħ hr
  have HX := ħ hx
  have HWR := ħ hWR
  have HIO := ħ hIO
  have HBD := ħ hBD
  have HZ := ħ hz
  have HMR := ħ hMR
  have HML := ħ hML
  have HK4 := ħ hk
  have HT := ħ hT
  have HN := ħ (And.intro hwn hhn)
  clear hK31 hK51 hw ha hi hr hx hWR hIO hBD hz hMR hML hk hT hwn hhn
  dsimp only [do5T, cAfter, cSnd, cFst, cThn, cEls, cBlk, Tryz.f21, Option.getD]
  refine wp_region_list ?_
  simp only [List.append_eq, List.append, List.cons_append, List.nil_append, List.toList_toArray]
  refine wpList_load_mid rfl 27 _ rfl gw 0 (by simp [Act.eval, Act.put]) [.int .i64 D.id, .int .i64 D.nodes, .int .i64 D.next, .slice Pw.op.A Pw.op.n Pw.op.c, .int .i64 D.age, .int .i64 D.clock, .slice Pw.wa.A Pw.wa.n Pw.wa.c, .slice Pw.he.A Pw.he.n Pw.he.c, .slice Pw.re.A Pw.re.n Pw.re.c] _ HW.out.rng Tryz.underlying27 (by rfl) (by kernel_rfl) ?_
  (try simp only [lz, List.toList_toArray])
  refine wpList_load_mid rfl 51 _ rfl ga 0 (by simp [Act.eval, Act.put]) [.int .i64 a.doo, .int .i64 a.d, .int .i64 a.t.se, .int .i64 a.t.sq, .string a.t.k, .string a.t.v, .int .i64 a.m.ki, .int .i64 a.m.fr, .int .i64 a.m.tt, .int .i64 a.m.di, .int .i64 a.m.b.au, .int .i64 a.m.b.n, .slice MP.b.A MP.b.n MP.b.c, .int .i64 a.m.h.au, .int .i64 a.m.h.ro, .slice MP.h.b.A MP.h.b.n MP.h.b.c, .slice MP.h.p.A MP.h.p.n MP.h.p.c, .int .i64 a.m.c.h.au, .int .i64 a.m.c.h.ro, .slice MP.c.h.b.A MP.c.h.b.n MP.c.h.b.c, .slice MP.c.h.p.A MP.c.h.p.n MP.c.h.p.c, .int .i64 a.m.c.di, .slice MP.c.s.A MP.c.s.n MP.c.s.c, .slice MP.ds.A MP.ds.n MP.ds.c, .bool a.fit, .slice SP.A SP.n SP.c] _ HA.out.rng Tryz.underlying51 (by rfl) (by kernel_rfl) ?_
  (try simp only [lz, List.toList_toArray])
  refine wpList_plain rfl (fun K hK => ?_)
  go_simp
  refine (law13_fit Pw D MP SP a _ (HWR.out.up hbV) (HMR.out.up hbV) HML.out HN.out.1 HN.out.2).mono ?_
  rintro e w1 ⟨Qm, M, he1, hki, hO1, hl1, hb1⟩
  simp only [M18] at he1
  subst he1
  dsimp only
  refine hK _ _ ?_
  clear hK K
  (try simp only [lz])
  have HOC := ħ hO1
  have HKI := ħ hki
  have HMM := ħ hl1
  clear hO1 hki hl1
  refine wpList_plain rfl (fun K hK => ?_)
  go_simp
  refine hK _ _ ?_
  clear hK K
  (try simp only [lz])
  refine wpList_store_mid rfl 49 _ _ rfl w1.heap.size 0 ([.int .i64 M.ki, .int .i64 M.fr, .int .i64 M.tt, .int .i64 M.di, .int .i64 M.b.au, .int .i64 M.b.n, .slice Qm.b.A Qm.b.n Qm.b.c, .int .i64 M.h.au, .int .i64 M.h.ro, .slice Qm.h.b.A Qm.h.b.n Qm.h.b.c, .slice Qm.h.p.A Qm.h.p.n Qm.h.p.c, .int .i64 M.c.h.au, .int .i64 M.c.h.ro, .slice Qm.c.h.b.A Qm.c.h.b.n Qm.c.h.b.c, .slice Qm.c.h.p.A Qm.c.h.p.n Qm.c.h.p.c, .int .i64 M.c.di, .slice Qm.c.s.A Qm.c.s.n Qm.c.s.c, .slice Qm.ds.A Qm.ds.n Qm.ds.c]).toArray (by simp [Act.eval, Act.put]) (by simp [Act.eval, Act.put]) (Blk.new w1 49 [.int .i64 0, .int .i64 0, .int .i64 0, .int .i64 0, .int .i64 0, .int .i64 0, .slice none 0 0, .int .i64 0, .int .i64 0, .slice none 0 0, .slice none 0 0, .int .i64 0, .int .i64 0, .slice none 0 0, .slice none 0 0, .int .i64 0, .slice none 0 0, .slice none 0 0]).thr (by kernel_rfl) (all_oneCell_toArray (by simp [Value.oneCell'])) ?_
  (try simp only [lz])
  try simp only [List.toList_toArray]
  refine wpList_nil ?_
  show K31 _ _
  apply HK31.out
  clear HK31
  dsimp only [do5T, cAfter, cSnd, cFst, cThn, cEls, cBlk, Tryz.f21, Option.getD]
  refine wp_world (fun Y hY => ?_)
  obtain ⟨gmm, hgm⟩ : ∃ g, g = w1.heap.size := ⟨_, rfl⟩
  rw [← hgm] at hY ⊢
  have hB1 : Blk (w1.alloc (.cells #[.int .i64 0, .int .i64 0, .int .i64 0, .int .i64 0, .int .i64 0, .int .i64 0, .slice none 0 0, .int .i64 0, .int .i64 0, .slice none 0 0, .slice none 0 0, .int .i64 0, .int .i64 0, .slice none 0 0, .slice none 0 0, .int .i64 0, .slice none 0 0, .slice none 0 0] 49)) gmm 49 [.int .i64 0, .int .i64 0, .int .i64 0, .int .i64 0, .int .i64 0, .int .i64 0, .slice none 0 0, .int .i64 0, .int .i64 0, .slice none 0 0, .slice none 0 0, .int .i64 0, .int .i64 0, .slice none 0 0, .slice none 0 0, .int .i64 0, .slice none 0 0, .slice none 0 0] := by rw [hgm]; exact Blk.new w1 49 [.int .i64 0, .int .i64 0, .int .i64 0, .int .i64 0, .int .i64 0, .int .i64 0, .slice none 0 0, .int .i64 0, .int .i64 0, .slice none 0 0, .slice none 0 0, .int .i64 0, .int .i64 0, .slice none 0 0, .slice none 0 0, .int .i64 0, .slice none 0 0, .slice none 0 0]
  have hal : Below w1.heap.size w1 (w1.alloc (.cells #[.int .i64 0, .int .i64 0, .int .i64 0, .int .i64 0, .int .i64 0, .int .i64 0, .slice none 0 0, .int .i64 0, .int .i64 0, .slice none 0 0, .slice none 0 0, .int .i64 0, .int .i64 0, .slice none 0 0, .slice none 0 0, .int .i64 0, .slice none 0 0, .slice none 0 0] 49)) := bel_alloc (Below.refl _ _)
  have HMB : Hid (Blk Y gmm 49 [.int .i64 M.ki, .int .i64 M.fr, .int .i64 M.tt, .int .i64 M.di, .int .i64 M.b.au, .int .i64 M.b.n, .slice Qm.b.A Qm.b.n Qm.b.c, .int .i64 M.h.au, .int .i64 M.h.ro, .slice Qm.h.b.A Qm.h.b.n Qm.h.b.c, .slice Qm.h.p.A Qm.h.p.n Qm.h.p.c, .int .i64 M.c.h.au, .int .i64 M.c.h.ro, .slice Qm.c.h.b.A Qm.c.h.b.n Qm.c.h.b.c, .slice Qm.c.h.p.A Qm.c.h.p.n Qm.c.h.p.c, .int .i64 M.c.di, .slice Qm.c.s.A Qm.c.s.n Qm.c.s.c, .slice Qm.ds.A Qm.ds.n Qm.ds.c]) := ħ (by rw [hY]; exact hB1.setsAll [.int .i64 M.ki, .int .i64 M.fr, .int .i64 M.tt, .int .i64 M.di, .int .i64 M.b.au, .int .i64 M.b.n, .slice Qm.b.A Qm.b.n Qm.b.c, .int .i64 M.h.au, .int .i64 M.h.ro, .slice Qm.h.b.A Qm.h.b.n Qm.h.b.c, .slice Qm.h.p.A Qm.h.p.n Qm.h.p.c, .int .i64 M.c.h.au, .int .i64 M.c.h.ro, .slice Qm.c.h.b.A Qm.c.h.b.n Qm.c.h.b.c, .slice Qm.c.h.p.A Qm.c.h.p.n Qm.c.h.p.c, .int .i64 M.c.di, .slice Qm.c.s.A Qm.c.s.n Qm.c.s.c, .slice Qm.ds.A Qm.ds.n Qm.ds.c] rfl)
  have hVY : Below V.heap.size V Y := by rw [hY]; exact bel_setCells (by rw [hgm]; exact hb1.size) _ _ _ (bel_trans hb1 hal)
  have HOM : Hid (OwnM Y w.heap.size Qm M) := ħ (by rw [hY]; exact ((HOC.out.mono hbV.size).up hal).tkT (TKeep.setsAll hB1 _ _))
  have hvm : V.heap.size ≤ gmm := by rw [hgm]; exact hb1.size
  have hgxV : gx < V.heap.size := HX.out.lt
  clear hY hgm hB1 hal hb1 HOC
  have HWy := ħ (HW.out.up hVY)
  have HAy := ħ (HA.out.up hVY)
  have HIy := ħ (HI.out.up hVY)
  have HRy := ħ (HR.out.up hVY)
  have HXy := ħ (HX.out.up hVY)
  have HIOy := ħ (HIO.out.up hVY)
  have hbY := bel_trans hbV hVY
  clear HW HA HI HR HX HIO
  refine wp_seq_k (fun K hK => ?_)
  have HKD := ħ hK
  clear hK
  refine wp_seq_k (fun Kc hKc => ?_)
  have HKC := ħ hKc
  clear hKc
  refine wp_region_list ?_
  simp only [List.append_eq, List.append, List.cons_append, List.nil_append, List.toList_toArray]
  refine wpList_plain rfl (fun K hK => ?_)
  go_simp
  refine hK _ _ ?_
  clear hK K
  (try simp only [lz])
  refine wpList_nil ?_
  show Kc _ _
  apply HKC.out
  clear HKC
  cases z
  · go_wp2_with fail
    show K _ _
    apply HKD.out
    have HWz := ħ (HWy.out)
    have HIz := ħ (HIy.out)
    have HRz := ħ (HRy.out)
    have HXz := ħ (HXy.out)
    have HMz := ħ (HMB.out)
    have HOMz := ħ (HOM.out)
    have HIOz := ħ (HIOy.out)
    refine wp_seq_k (fun K34 hK34 => ?_)
    exact do5_1 w Y gw gr gi _ gx gmm Pw Pi nilP D zeroWD [] [] Qm M none 0 0 hK34 HK51.out hbY (by omega) (by omega) (by omega) (by omega) (by omega) HWz.out HIz.out HRz.out HXz.out HMz.out HWR.out HIOz.out HBD.out HOMz.out HMM.out (fun Qc X hX hR => (worker_Take_no Pi D Qc M X (((HIOz.out.work HBD.out)).up hX) hR (by rw [HKI.out]; exact HK4.out) (fun g => by have e := g.1; rw [HZ.out] at e; cases e)).mono fun e w' h9 => ⟨nilP, none, 0, 0, h9.1, zeroW_O _ _, OwnMs.nil _ _, h9.2⟩) zeroW_big (by refine ⟨by decide, by decide, by decide, by decide, fun x hx => by simp [zeroWD] at hx, fun x hx => by simp [zeroWD] at hx⟩) (by decide) (fun x hx => by cases hx) rfl rfl
  · go_upto_region 33 with fail
    skip
    refine wp_region_list ?_
    simp only [List.append_eq, List.append, List.cons_append, List.nil_append, List.toList_toArray]
    refine wpList_load_mid rfl 27 _ rfl gw 0 (by simp [Act.eval, Act.put]) [.int .i64 D.id, .int .i64 D.nodes, .int .i64 D.next, .slice Pw.op.A Pw.op.n Pw.op.c, .int .i64 D.age, .int .i64 D.clock, .slice Pw.wa.A Pw.wa.n Pw.wa.c, .slice Pw.he.A Pw.he.n Pw.he.c, .slice Pw.re.A Pw.re.n Pw.re.c] _ HWy.out.rng Tryz.underlying27 (by rfl) (by kernel_rfl) ?_
    (try simp only [lz, List.toList_toArray])
    refine wpList_load_mid rfl 49 _ rfl gmm 0 (by simp [Act.eval, Act.put]) [.int .i64 M.ki, .int .i64 M.fr, .int .i64 M.tt, .int .i64 M.di, .int .i64 M.b.au, .int .i64 M.b.n, .slice Qm.b.A Qm.b.n Qm.b.c, .int .i64 M.h.au, .int .i64 M.h.ro, .slice Qm.h.b.A Qm.h.b.n Qm.h.b.c, .slice Qm.h.p.A Qm.h.p.n Qm.h.p.c, .int .i64 M.c.h.au, .int .i64 M.c.h.ro, .slice Qm.c.h.b.A Qm.c.h.b.n Qm.c.h.b.c, .slice Qm.c.h.p.A Qm.c.h.p.n Qm.c.h.p.c, .int .i64 M.c.di, .slice Qm.c.s.A Qm.c.s.n Qm.c.s.c, .slice Qm.ds.A Qm.ds.n Qm.ds.c] _ HMB.out.rng Tryz.underlying49 (by rfl) (by kernel_rfl) ?_
    (try simp only [lz, List.toList_toArray])
    by_cases hgd : msgB M D.nodes = true ∧ M.tt = D.id
    · have HGD := ħ hgd
      clear hgd
      refine wpList_plain rfl (fun K hK => ?_)
      go_simp
      have h9 := HT.out.ref Pw Qm M Y (HWR.out.up hbY) (HOM.out.msg HMM.out.big) HMM.out HKI.out HZ.out HGD.out.1 HGD.out.2
      refine h9.mono ?_
      clear h9
      rintro e w3 ⟨gq, Pq, uA, un, uc, us, rfl, hq3, hO3, hM3, hgq, hb3⟩
      dsimp only
      refine hK _ _ ?_
      clear hK K
      (try simp only [lz])
      have HQ3 := ħ hq3
      have HO3 := ħ hO3
      have HM3 := ħ hM3
      clear hq3 hO3 hM3
      iterate 5 ((refine wpList_plain rfl (fun K hK => ?_)); go_simp; refine hK _ _ ?_; clear hK K; (try simp only [lz]))
      refine wpList_nil ?_
      show K _ _
      apply HKD.out
      have HWz := ħ (HWy.out.up hb3)
      have HIz := ħ (HIy.out.up hb3)
      have HRz := ħ (HRy.out.up hb3)
      have HXz := ħ (HXy.out.up hb3)
      have HMz := ħ (HMB.out.up hb3)
      have HOMz := ħ (HOM.out.up hb3)
      have HIOz := ħ (HIOy.out.up hb3)
      have hYz := hbY.size
      have hVYs := hVY.size
      have hgqx : gq ≠ gx := by omega
      have hgqr : gq ≠ gr := by omega
      have hgq3 := HQ3.out.lt
      obtain ⟨b1, b2, b3, b4⟩ := HT.out.big M HMM.out HKI.out HZ.out HGD.out.1
      refine wp_seq_k (fun K34 hK34 => ?_)
      exact do5_0 w w3 gw gr gi gq gx gmm Pw Pi Pq D (tD M) (tL M) us Qm M uA un uc hK34 HK51.out (bel_trans hbY hb3) (by omega) (by omega) (by omega) (by omega) (by omega) HWz.out HIz.out HRz.out HXz.out HMz.out HWR.out HIOz.out HBD.out HOMz.out HMM.out (fun Qc X hX hR => (worker_Take_ok Pi D Qc M (tD M) (tL M) X ((HIOz.out.work HBD.out).up hX) HBD.out hR (by rw [HKI.out]; exact HK4.out) HZ.out HGD.out.1 HGD.out.2 (fun P1 u hu hO => HT.out.prog P1 Qc M X.heap.size u hO hu.size (hR.up hu) HMM.out HKI.out HZ.out HGD.out.1 HGD.out.2)).mono fun e w' h9 => h9) b1 b2 b3 b4 hgq3 hgqx hgqr HQ3.out (HO3.out.mono hYz) (HM3.out.mono hYz)
    · have HGD := ħ hgd
      clear hgd
      refine wpList_plain rfl (fun K hK => ?_)
      go_simp
      refine (ref13_Take_no Pw D Qm M _ (HWR.out.up hbY) HBD.out (HOM.out.msg HMM.out.big) (by rw [HKI.out]; exact HK4.out) HGD.out).mono ?_
      rintro e w3 ⟨gq, rfl, hb3⟩
      dsimp only
      refine hK _ _ ?_
      clear hK K
      (try simp only [lz])
      iterate 5 ((refine wpList_plain rfl (fun K hK => ?_)); go_simp; refine hK _ _ ?_; clear hK K; (try simp only [lz]))
      refine wpList_nil ?_
      show K _ _
      apply HKD.out
      have HWz := ħ (HWy.out.up hb3)
      have HIz := ħ (HIy.out.up hb3)
      have HRz := ħ (HRy.out.up hb3)
      have HXz := ħ (HXy.out.up hb3)
      have HMz := ħ (HMB.out.up hb3)
      have HOMz := ħ (HOM.out.up hb3)
      have HIOz := ħ (HIOy.out.up hb3)
      refine wp_seq_k (fun K34 hK34 => ?_)
      exact do5_1 w w3 gw gr gi _ gx gmm Pw Pi nilP D zeroWD [] [] Qm M none 0 0 hK34 HK51.out (bel_trans hbY hb3) (by omega) (by omega) (by omega) (by omega) (by omega) HWz.out HIz.out HRz.out HXz.out HMz.out HWR.out HIOz.out HBD.out HOMz.out HMM.out (fun Qc X hX hR => (worker_Take_no Pi D Qc M X (((HIOz.out.work HBD.out)).up hX) hR (by rw [HKI.out]; exact HK4.out) (fun g => HGD.out ⟨g.2.1, g.2.2⟩)).mono fun e w' h9 => ⟨nilP, none, 0, 0, h9.1, zeroW_O _ _, OwnMs.nil _ _, h9.2⟩) zeroW_big (by refine ⟨by decide, by decide, by decide, by decide, fun x hx => by simp [zeroWD] at hx, fun x hx => by simp [zeroWD] at hx⟩) (by decide) (fun x hx => by cases hx) rfl rfl
end Go.Proofs.YtgfakefcmbpboaaGreat
