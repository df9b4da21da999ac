/- The law WorkerWorld: the walk. -/
import Derived.Test.YtgfakefcmbpboaaSxWwf
import Derived.Test.YtgfakefcmbpboaaSxWqb
import Derived.Test.YtgfakefcmbpboaaSxWh
import Derived.Deep.RegionHeld3
namespace Go.Proofs.Ytgfakefcmbpboaa
open Go.RowKit
set_option linter.unusedSimpArgs false
set_option linter.unusedVariables false

theorem belw_sets9k {n : Nat} {w Y : World} {g o : Nat} (h : Below n w Y) (hp : n ≤ g) (a0 a1 a2 a3 a4 a5 a6 a7 a8 : Value) : Below n w (((((((((Y.setCell ⟨g, o, none⟩ a0).setCell ⟨g, o + 1, none⟩ a1).setCell ⟨g, o + 2, none⟩ a2).setCell ⟨g, o + 3, none⟩ a3).setCell ⟨g, o + 4, none⟩ a4).setCell ⟨g, o + 5, none⟩ a5).setCell ⟨g, o + 6, none⟩ a6).setCell ⟨g, o + 7, none⟩ a7).setCell ⟨g, o + 8, none⟩ a8) :=
  ((((((((h.setCell (p := ⟨g, o, none⟩) hp a0).setCell (p := ⟨g, o + 1, none⟩) hp a1).setCell (p := ⟨g, o + 2, none⟩) hp a2).setCell (p := ⟨g, o + 3, none⟩) hp a3).setCell (p := ⟨g, o + 4, none⟩) hp a4).setCell (p := ⟨g, o + 5, none⟩) hp a5).setCell (p := ⟨g, o + 6, none⟩) hp a6).setCell (p := ⟨g, o + 7, none⟩) hp a7).setCell (p := ⟨g, o + 8, none⟩) hp a8
theorem wp_world2 {F : World → Prop} {w W : World} {B n : Nat} {g : Nat} {t : TypeId} {cs : List Value} {P : WorkP} {D : WorkD} {v : Value} {us : List MsgP} {L : List MsgD} (h1 : Blk W g t cs) (h2 : WorkO W B P D) (h3 : OwnT dMsg W B v us L) (h4 : Below n w W) (h : ∀ V, Blk V g t cs → WorkO V B P D → OwnT dMsg V B v us L → Below n w V → F V) : F W := h W h1 h2 h3 h4
theorem wp_world3 {F : World → Prop} {u x y : World} {g : Nat} {t : TypeId} {cs : List Value} (hg : x.grownBy y (some g)) (hM : Blk y g t cs) (hb : Below u.heap.size u x ∧ u.heap.size ≤ g) (h : ∀ V, Blk V g t cs → Below u.heap.size u V → F V) : F y := h y hM (bel_grown hb.1 hg hb.2)
theorem addE_full {D : WorkD} {t : TxD} (hm : mayW D = true) (ht : txS t = true) (hl : ¬ D.op.length < 64) : addE D t = 8 := by unfold addE; rw [if_pos ⟨hm, ht⟩, if_neg hl]
theorem mk_yes {D : WorkD} (hm : mayW D = true) (hE : nxE D = 0) : mkE D = 0 ∧ mkB D = nxD D := by
  unfold mkE mkB nxB
  rw [if_pos hm, if_pos hm, if_pos hE]; exact ⟨hE, rfl⟩
theorem mk_no {D : WorkD} (hm : mayW D = true) (hE : ¬ nxE D = 0) : mkE D ≠ 0 := by
  unfold mkE; rw [if_pos hm]; exact hE
theorem mkB_lenW (D : WorkD) : (mkB D).tx.length ≤ 1000000 := by
  unfold mkB
  split
  · exact nxB_len D
  · decide
theorem askL_lenW (id d : Int) (b : BatchD) (nt : List Int) (n : Nat) (hn : n ≤ 16) : (askL id d b nt n).length ≤ 16 := Nat.le_trans (askL_len id d b nt n) hn
def cThnW : Code → Code
  | .cond _ c _ => c
  | c => c
def cElsW : Code → Code
  | .cond _ _ c => c
  | c => c
def cBlkW : Code → Code
  | .block _ c => c
  | c => c
def cLpW : Code → Code
  | .loop c => c
  | c => c
noncomputable def worldB : Code := cAfter 4 (cBlkW (cFst (cSnd (cLpW (cBlkW (cSnd (cFst (cAfter 7 (Try.f4.body.getD .skip)))))))))
noncomputable def worldMsg : Code := cElsW (cSnd (cFst worldB))
noncomputable def worldMake : Code := cSnd worldB
noncomputable def worldEnd : Code := cAfter 8 (Try.f4.body.getD .skip)
/-- What holds between two rounds of the world. -/
structure WorldE (w : World) (n gW gT wc : Nat) (tn0 : Int) (lA : Option Addr) (ln lc : Nat) (X : World) (Ps : List WorkP) (ws : List WorkD) (us : List MsgP) (way : List MsgD) (yA : Option Addr) (yn yc : Nat) (bs : List SlP) (book : List BatchD) (kA : Option Addr) (kn kc i : Nat) : Prop where
  W : Hid (OwnT dWrk X w.heap.size (.slice (some ⟨gW, 0, none⟩) n wc) Ps ws)
  Y : Hid (OwnT dMsg X w.heap.size (.slice yA yn yc) us way)
  K : Hid (OwnT dBat X w.heap.size (.slice kA kn kc) bs book)
  I : Hid (WorldI n ws way book)
  L : Hid (way.length = yn ∧ book.length = kn)
  T : Hid (Blk X gT 61 [.int .i64 tn0, .slice lA ln lc])
  k : kn ≤ i
  y : yn ≤ 100000
  b : Below w.heap.size w X
set_option maxRecDepth 100000 in
set_option maxHeartbeats 32000000 in
theorem world_msg {w W2 : World} {n gW gT gF wc ln lc i k dd yn yc kn kc : Nat} {tn0 fd fn fk : Int} {lA yA kA : Option Addr} {Ps : List WorkP} {ws : List WorkD} {us : List MsgP} {way : List MsgD} {bs : List SlP} {book : List BatchD} {QL : Exit → Act → World → Prop} {K16 K47 K32 : Act → World → Prop} {u0 u1 u2 u7 u8 u9 u14 u15 u16 u17 u18 u19 u20 u21 u22 u23 u24 u25 u26 u27 u28 u29 u30 u31 u32 u33 u34 u35 u36 u37 u38 u39 u40 u41 u42 u43 u44 u45 u46 u47 u48 u49 u50 u51 u52 u53 u54 u55 u56 u57 u58 u59 u60 u61 u62 u63 u64 u65 u66 u67 u68 u69 u70 u71 u72 u73 u74 u75 u76 u77 u78 u79 u80 u81 u82 u83 u84 u85 u86 u87 u88 u89 u90 u91 u92 u93 u94 u95 u96 u97 u98 u99 u100 u101 u102 u103 u104 u105 u106 u107 u108 u109 u110 u111 u112 u113 u114 u115 u116 u117 u118 u119 u120 u121 u122 u123 u124 u125 u126 u127 u128 u129 u130 u131 u132 u133 u134 u135 u136 u137 u138 u139 u140 u141 u142 u143 u144 u145 u146 u147 u148 u149 u150 u151 u152 u153 u154 u155 u156 u157 u158 u159 u160 u161 u162 u163 u164 u165 u166 u167 u168 u169 u170 u171 u172 u173 u174 u175 u176 u177 u178 u179 u180 u181 u182 u183 u184 u185 u186 u187 u188 u189 u190 u191 u192 u193 u194 u195 u196 u197 u198 u199 u200 u201 u202 u203 u204 u205 u206 u207 u208 u209 u210 u211 u212 u213 u214 u215 u216 u217 u218 u219 u220 u221 u222 u223 u224 u225 u226 u227 u228 u229 u230 u231 u232 u233 u234 u235 u236 u237 u238 u239 u240 u241 u242 u243 u244 u245 u246 u247 u248 u249 u250 u251 u252 u253 u254 u255 u256 u257 u258 u259 u260 u261 u262 u263 u264 u265 u266 u267 u268 u269 u270 u271 u272 u273 u274 u275 u276 u277 u278 u279 u280 u281 u282 u283 u284 u285 u286 u287 u288 u289 u290 u291 u292 u293 u294 u295 u296 u297 u298 u299 u300 u301 u302 u303 u304 u305 u306 u307 u308 u309 u310 u311 u312 u313 u314 u315 u316 u317 u318 u319 u320 u321 u322 u323 u324 u325 u326 u327 u328 u329 u330 u331 u332 u333 u334 u335 u336 u337 u338 u339 u340 u341 u342 : Value} (hn7 : n ≤ 7) (hn1 : 1 ≤ n) (HNS : Hid (isS ↑n = true)) (h300 : ¬ 300 < ln) (hgWB : w.heap.size ≤ gW) (HLL : Hid (way.length = yn ∧ book.length = kn)) (hki : kn ≤ i) (hyn : yn ≤ 100000) (hbk3 : book.length ≤ 300) (hlt : i < ln) (hy2 : yn < 2000) (hdd : (dd : Int) < 6) (hkn : k < n) (HW2 : Hid (OwnT dWrk W2 w.heap.size (.slice (some ⟨gW, 0, none⟩) n wc) Ps ws)) (HI : Hid (WorldI n ws way book)) (HY2 : Hid (OwnT dMsg W2 w.heap.size (.slice yA yn yc) us way)) (HK2 : Hid (OwnT dBat W2 w.heap.size (.slice kA kn kc) bs book)) (HT2 : Hid (Blk W2 gT 61 [.int .i64 tn0, .slice lA ln lc])) (HF2 : Hid (Blk W2 gF 66 [.int .i64 fd, .int .i64 fn, .int .i64 fk])) (hbW2 : Below w.heap.size w W2) (hz3 : ((dd : Int) == 3) = false) (hzy : ((yn : Int) == 0) = false)
    (hK47 : ∀ a' w', Code.wp Try.prog worldMake (Exit.inBlock 3 (Exit.then K16 QL)) a' w' → K47 a' w')
    (hK32 : ∀ a' w', Code.wp Try.prog (cSnd worldMsg) (Exit.then K47 (Exit.inBlock 3 (Exit.then K16 QL))) a' w' → K32 a' w')
    (hPn : ∀ c (a : Act) (t : Nat) v w', QL (.panic c) (a.put (some t) v) w' → QL (.panic c) a w')
    (hQ : ∀ (v2 v12 v19 v20 v21 v22 v23 v24 v25 v26 v27 v28 v149 v150 v151 v152 v153 v154 v155 v156 v157 v158 v159 v160 v161 v162 v163 v164 v165 v166 v167 v168 v169 v170 v171 v172 v173 v174 v175 v176 v177 v178 v179 v180 v181 v182 v183 v184 v185 v186 v187 v188 v189 v190 v191 v192 v193 v194 v195 v196 v197 v198 v199 v200 v201 v202 v203 v204 v205 v206 v207 v208 v209 v210 v211 v212 v213 v214 v215 v216 v217 v218 v219 v220 v221 v222 v223 v224 v225 v226 v227 v228 v229 v230 v231 v232 v233 v234 v235 v236 v237 v238 v239 v240 v241 v242 v243 v244 v245 v246 : Value) (Pt : List WorkP) (wt : List WorkD) (ut : List MsgP) (wat : List MsgD) (bt : List SlP) (bkt : List BatchD) (yB : Option Addr) (yp yd : Nat) (kB : Option Addr) (kp kd : Nat) (X : World), WorldE w n gW gT wc tn0 lA ln lc X Pt wt ut wat yB yp yd bt bkt kB kp kd (i + 1) → K16 { tmps := #[u0, u1, v2, .int .i64 n, (.slice (some ⟨gW, 0, none⟩) n wc : Value), .slice yB yp yd, .slice kB kp kd, u7, u8, u9, .int .i64 i, .pointer (some ⟨gF, 0, none⟩), v12, .int .i64 dd, u14, u15, u16, u17, u18, v19, v20, v21, v22, v23, v24, v25, v26, v27, v28, u29, u30, u31, u32, u33, u34, u35, u36, u37, u38, u39, u40, u41, u42, u43, u44, u45, u46, u47, u48, u49, u50, u51, u52, u53, u54, u55, u56, u57, u58, u59, u60, u61, u62, u63, u64, u65, u66, u67, u68, u69, u70, u71, u72, u73, u74, u75, u76, u77, u78, u79, u80, u81, u82, u83, u84, u85, u86, u87, u88, u89, u90, u91, u92, u93, u94, u95, u96, u97, u98, u99, u100, u101, u102, u103, u104, u105, u106, u107, u108, u109, u110, u111, u112, u113, u114, u115, u116, u117, u118, u119, u120, u121, u122, u123, u124, u125, u126, u127, u128, u129, u130, u131, u132, u133, u134, u135, u136, u137, u138, u139, u140, u141, u142, u143, u144, u145, u146, u147, u148, v149, v150, v151, v152, v153, v154, v155, v156, v157, v158, v159, v160, v161, v162, v163, v164, v165, v166, v167, v168, v169, v170, v171, v172, v173, v174, v175, v176, v177, v178, v179, v180, v181, v182, v183, v184, v185, v186, v187, v188, v189, v190, v191, v192, v193, v194, v195, v196, v197, v198, v199, v200, v201, v202, v203, v204, v205, v206, v207, v208, v209, v210, v211, v212, v213, v214, v215, v216, v217, v218, v219, v220, v221, v222, v223, v224, v225, v226, v227, v228, v229, v230, v231, v232, v233, v234, v235, v236, v237, v238, v239, v240, v241, v242, v243, v244, v245, v246, u247, u248, u249, u250, u251, u252, u253, u254, u255, u256, u257, u258, u259, u260, u261, u262, u263, u264, u265, u266, u267, u268, u269, u270, u271, u272, u273, u274, u275, u276, u277, u278, u279, u280, u281, u282, u283, u284, u285, u286, u287, u288, u289, u290, u291, u292, u293, u294, u295, u296, u297, u298, u299, u300, u301, u302, u303, u304, u305, u306, u307, u308, u309, u310, u311, u312, u313, u314, u315, u316, u317, u318, u319, u320, u321, u322, u323, u324, u325, u326, u327, u328, u329, u330, u331, u332, u333, u334, u335, u336, u337, u338, u339, u340, u341, u342], defers := [] } X) :
    Code.wp Try.prog (cFst worldMsg) (Exit.then K32 (Exit.then K47 (Exit.inBlock 3 (Exit.then K16 QL)))) { tmps := #[u0, u1, u2, .int .i64 n, (.slice (some ⟨gW, 0, none⟩) n wc : Value), .slice yA yn yc, .slice kA kn kc, u7, u8, u9, .int .i64 i, .pointer (some ⟨gF, 0, none⟩), .int .i64 k, .int .i64 dd, u14, u15, u16, u17, u18, u19, u20, u21, u22, u23, u24, u25, u26, u27, u28, u29, u30, u31, u32, u33, u34, u35, u36, u37, u38, u39, u40, u41, u42, u43, u44, u45, u46, u47, u48, u49, u50, u51, u52, u53, u54, u55, u56, u57, u58, u59, u60, u61, u62, u63, u64, u65, u66, u67, u68, u69, u70, u71, u72, u73, u74, u75, u76, u77, u78, u79, u80, u81, u82, u83, u84, u85, u86, u87, u88, u89, u90, u91, u92, u93, u94, u95, u96, u97, u98, u99, u100, u101, u102, u103, u104, u105, u106, u107, u108, u109, u110, u111, u112, u113, u114, u115, u116, u117, u118, u119, u120, u121, u122, u123, u124, u125, u126, u127, u128, u129, u130, u131, u132, u133, u134, u135, u136, u137, u138, u139, u140, u141, u142, u143, u144, u145, u146, u147, u148, u149, u150, u151, u152, u153, u154, u155, u156, u157, u158, u159, u160, u161, u162, u163, u164, u165, u166, u167, u168, u169, u170, u171, u172, u173, u174, u175, u176, u177, u178, u179, u180, u181, u182, u183, u184, u185, u186, u187, u188, u189, u190, u191, u192, u193, u194, u195, u196, u197, u198, u199, u200, u201, u202, u203, u204, u205, u206, u207, u208, u209, u210, u211, u212, u213, u214, u215, u216, u217, u218, u219, u220, u221, u222, u223, u224, u225, u226, u227, u228, u229, u230, u231, u232, u233, u234, u235, u236, u237, u238, u239, u240, u241, u242, u243, u244, u245, u246, u247, u248, u249, u250, u251, u252, u253, u254, u255, u256, u257, u258, u259, u260, u261, u262, u263, u264, u265, u266, u267, u268, u269, u270, u271, u272, u273, u274, u275, u276, u277, u278, u279, u280, u281, u282, u283, u284, u285, u286, u287, u288, u289, u290, u291, u292, u293, u294, u295, u296, u297, u298, u299, u300, u301, u302, u303, u304, u305, u306, u307, u308, u309, u310, u311, u312, u313, u314, u315, u316, u317, u318, u319, u320, u321, u322, u323, u324, u325, u326, u327, u328, u329, u330, u331, u332, u333, u334, u335, u336, u337, u338, u339, u340, u341, u342], defers := [] } W2 := by
  dsimp only [worldMsg, worldMake, worldB, cAfter, cSnd, cFst, cThnW, cElsW, cBlkW, cLpW, Try.f4, Option.getD] at hK47 hK32 ⊢
  obtain ⟨zn, hzn⟩ : ∃ b, ((dd : Int) != 0) = b := ⟨_, rfl⟩
  cases zn
  · skip
    go_upto_region 47 with fail
    have hyn9b : yn ≤ 8000 := by omega
    clear hz3 hzy hzn hyn
    skip
    clear HF2
    obtain ⟨⟨⟨oA, on, oc⟩, ⟨tA, tn, tc⟩, ⟨eA, en, ec⟩, ⟨rA, rn, rc⟩⟩, -, hOk, hgW, -, -, hcl⟩ := wrk_cells HW2.out HI.out.len hkn
    have hDW := HI.out.w k hkn
    obtain ⟨Dk, hDk⟩ : ∃ D, wk ws k = D := ⟨_, rfl⟩
    rw [hDk] at hOk hcl hDW
    have q0 : W2.cell? ⟨gW, k * 9, none⟩ = some (.int .i64 Dk.id) := hcl 0 _ rfl
    have q1 : W2.cell? ⟨gW, k * 9 + 1, none⟩ = some (.int .i64 Dk.nodes) := hcl 1 _ rfl
    have q2 : W2.cell? ⟨gW, k * 9 + 2, none⟩ = some (.int .i64 Dk.next) := hcl 2 _ rfl
    have q3 : W2.cell? ⟨gW, k * 9 + 3, none⟩ = some (.slice oA on oc) := hcl 3 _ rfl
    have q4 : W2.cell? ⟨gW, k * 9 + 4, none⟩ = some (.int .i64 Dk.age) := hcl 4 _ rfl
    have q5 : W2.cell? ⟨gW, k * 9 + 5, none⟩ = some (.int .i64 Dk.clock) := hcl 5 _ rfl
    have q6 : W2.cell? ⟨gW, k * 9 + 6, none⟩ = some (.slice tA tn tc) := hcl 6 _ rfl
    have q7 : W2.cell? ⟨gW, k * 9 + 7, none⟩ = some (.slice eA en ec) := hcl 7 _ rfl
    have q8 : W2.cell? ⟨gW, k * 9 + 8, none⟩ = some (.slice rA rn rc) := hcl 8 _ rfl
    have HOK := Lib.hid hOk
    have HDK := Lib.hid hDk
    have HDW := Lib.hid hDW
    have HBG := Lib.hid (hDW.big hbk3)
    have HWR := Lib.hid (hOk.work (hDW.big hbk3))
    have HMY := Lib.hid (wmay_iff.2 hDW.may)
    clear hOk hDk hcl hDW
    have hop8 : Dk.op.length ≤ 800000000 := HBG.out.op
    have HOP8 := Lib.hid hop8
    clear hop8
    by_cases hE : nxE Dk = 0
    · skip
      have HE := Lib.hid hE
      have HMK := Lib.hid (mk_yes HMY.out hE)
      have HBL : Hid ((nxD Dk).tx.length ≤ 8) := Lib.hid (List.length_take_le 8 Dk.op)
      clear hE
      go_upto_region 49 with (first | (go_at_call 9; refine (worker_Make ⟨⟨oA, on, oc⟩, ⟨tA, tn, tc⟩, ⟨eA, en, ec⟩, ⟨rA, rn, rc⟩⟩ Dk _ HWR.out HOP8.out).mono ?_; rintro e w3 ⟨v3, he3, hov, hb3⟩; rw [HMK.out.1, HMK.out.2] at he3; rw [HMK.out.2] at hov; obtain ⟨bA, bc, ev, -⟩ := OwnX.txs hov (by have := HBL.out; omega); obtain ⟨bn, hbn⟩ : ∃ x, (nxD Dk).tx.length = x := ⟨_, rfl⟩; rw [hbn] at ev; clear hbn; subst ev; obtain ⟨b9, hb9e⟩ : ∃ b, nxD Dk = b := ⟨_, rfl⟩; rw [hb9e] at he3 hov; subst he3) | (go_at_call 7; refine (law13_num _ _).mono ?_; rintro e w' ⟨rfl, rfl⟩))
      clear q0 q1 q2 q3 q4 q5 q6 q7 q8 hgW
      refine wp_world (fun WA hWA => ?_)
      obtain ⟨gb, hgb⟩ : ∃ g, g = w3.heap.size := ⟨_, rfl⟩
      have HBA : Hid (Blk WA gb 40 [.int .i64 b9.au, .int .i64 b9.n, .slice bA bn bc]) := Lib.hid (by rw [hWA, hgb]; exact Blk.new w3 40 [.int .i64 b9.au, .int .i64 b9.n, .slice bA bn bc])
      have hb3A : Below w3.heap.size w3 WA := by rw [hWA]; exact bel_alloc (Below.refl _ _)
      rw [← hgb]
      clear hWA hgb
      have hbsA := bel_trans hb3 hb3A
      have HWA := Lib.hid (HW2.out.up hbsA)
      have HYA := Lib.hid (HY2.out.up hbsA)
      have HKA := Lib.hid (HK2.out.up hbsA)
      have HTA := Lib.hid (HT2.out.up hbsA)
      have hbWA := bel_trans hbW2 hbsA
      have HOA : Hid (OwnX WA w.heap.size (.slice bA bn bc) b9.tx) := Lib.hid (OwnX.mono (OwnX.up hov hb3A) hbW2.size)
      clear hb3 hb3A hbsA hov HW2 HY2 HK2 HT2 hbW2 HWR
      have hbl := HBA.out.lt
      have b_0 := (HBA.out.box).2 0 _ rfl; have b_1 := (HBA.out.box).2 1 _ rfl; have b_2 := (HBA.out.box).2 2 _ rfl
      have HKL : Hid (book.length ≤ 800000000) := Lib.hid (by omega)
      have hszA := hbWA.size
      go_upto_region 50 with (at_builtin; refine wpList_appBook rfl (.tmp 222) (.tmp 224) rfl rfl w.heap.size (.slice kA kn kc) bs book rfl (HKA.out.up (bel_alloc (Below.refl _ _))) WA.heap.size b9 ⟨bA, bn, bc⟩ rfl (BoxR.new WA [.int .i64 b9.au, .int .i64 b9.n, .slice bA bn bc] 40) (OwnX.up HOA.out (bel_alloc (Below.refl _ _))) HKL.out (by simp; omega) ?_; intro v5 WB hownB htkB hbB)
      clear hbl b_0 b_1 b_2 hszA
      obtain ⟨kA9, kc9, ek9, -⟩ := hownB.read
      obtain ⟨kn9, hkn9⟩ : ∃ x, (book ++ [b9]).length = x := ⟨_, rfl⟩
      rw [hkn9] at ek9
      subst ek9
      have hd9 : ((book.length : Int) + 1) = (kn9 : Int) := by rw [← hkn9, List.length_append]; simp
      have hkk9 : kn9 ≤ i + 1 := by have := HLL.out.2; omega
      have hba : Below WA.heap.size WA (WA.alloc (.cells #[.int .i64 b9.au, .int .i64 b9.n, .slice bA bn bc] 40)) := bel_alloc (Below.refl _ _)
      have HWB := Lib.hid ((HWA.out.up hba).tkW htkB tA3 (by decide))
      have HYB := Lib.hid ((HYA.out.up hba).tkY htkB tA3 (by decide))
      have HTB := Lib.hid ((HTA.out.up hba).tk htkB (by decide))
      have HKB := Lib.hid hownB
      have hbWB : Below w.heap.size w WB := (bel_trans hbWA hba).trans hbB
      clear hownB htkB hbB hba HWA HYA HKA HTA hbWA HBA HOA HKL
      obtain ⟨hs1, hs2, hs3⟩ := HI.out.seal (by omega) hkn (by rw [HDK.out]; exact HE.out)
      rw [HDK.out] at hs1 hs3
      rw [hd9] at hs1 hs2 hs3
      have hLe : askL Dk.id (kn9 : Int) (nxD Dk) [] Dk.nodes.toNat = askL ((k : Int) + 1) (kn9 : Int) (nxD Dk) [] n := by rw [HDW.out.id, HDW.out.nodes]; rfl
      have hL16 := askL_lenW ((k : Int) + 1) (kn9 : Int) (nxD Dk) [] n (by omega)
      rw [← hLe] at hs3 hL16
      have HS1 := Lib.hid hs1
      have HS2 := Lib.hid hs2
      have HSL : Hid (Dk.re.length + Dk.wa.length ≤ 700000000) := Lib.hid (by have := HDW.out.lens.1; have := HDW.out.lens.2.1; omega)
      clear hs1 hs2 hLe hd9
      obtain ⟨⟨⟨oA, on, oc⟩, ⟨tA, tn, tc⟩, ⟨eA, en, ec⟩, ⟨rA, rn, rc⟩⟩, -, hOk, hgW, -, -, hcl⟩ := wrk_cells HWB.out HI.out.len hkn
      rw [HDK.out] at hOk hcl
      have q0 : WB.cell? ⟨gW, k * 9, none⟩ = some (.int .i64 Dk.id) := hcl 0 _ rfl
      have q1 : WB.cell? ⟨gW, k * 9 + 1, none⟩ = some (.int .i64 Dk.nodes) := hcl 1 _ rfl
      have q2 : WB.cell? ⟨gW, k * 9 + 2, none⟩ = some (.int .i64 Dk.next) := hcl 2 _ rfl
      have q3 : WB.cell? ⟨gW, k * 9 + 3, none⟩ = some (.slice oA on oc) := hcl 3 _ rfl
      have q4 : WB.cell? ⟨gW, k * 9 + 4, none⟩ = some (.int .i64 Dk.age) := hcl 4 _ rfl
      have q5 : WB.cell? ⟨gW, k * 9 + 5, none⟩ = some (.int .i64 Dk.clock) := hcl 5 _ rfl
      have q6 : WB.cell? ⟨gW, k * 9 + 6, none⟩ = some (.slice tA tn tc) := hcl 6 _ rfl
      have q7 : WB.cell? ⟨gW, k * 9 + 7, none⟩ = some (.slice eA en ec) := hcl 7 _ rfl
      have q8 : WB.cell? ⟨gW, k * 9 + 8, none⟩ = some (.slice rA rn rc) := hcl 8 _ rfl
      have HWR2 := Lib.hid (hOk.work HBG.out)
      clear hOk hcl
      go_upto_region 53 with (first | (go_at_call 10; refine (worker_Sealed_ok ⟨⟨oA, on, oc⟩, ⟨tA, tn, tc⟩, ⟨eA, en, ec⟩, ⟨rA, rn, rc⟩⟩ Dk (kn9 : Int) _ HWR2.out HBG.out HMY.out HE.out HS2.out HS1.out HSL.out).mono ?_; rintro e w6 ⟨⟨⟨oA6, on6, oc6⟩, ⟨tA6, tn6, tc6⟩, ⟨eA6, en6, ec6⟩, ⟨rA6, rn6, rc6⟩⟩, lA6, ln6, lc6, he6, hO6, hM6, hb6⟩; obtain ⟨D6, hD6⟩ : ∃ D, sealD Dk (kn9 : Int) = D := ⟨_, rfl⟩; rw [hD6] at he6 hO6 hs3; obtain ⟨L6, hL6e⟩ : ∃ l, askL Dk.id (kn9 : Int) (nxD Dk) [] Dk.nodes.toNat = l := ⟨_, rfl⟩; rw [hL6e] at hM6 hs3 hL16; obtain ⟨us6, hL6⟩ := hM6; have he7 : e = .returned (.tuple #[.agg #[.int .i64 D6.id, .int .i64 D6.nodes, .int .i64 D6.next, .slice oA6 on6 oc6, .int .i64 D6.age, .int .i64 D6.clock, .slice tA6 tn6 tc6, .slice eA6 en6 ec6, .slice rA6 rn6 rc6], .slice lA6 ln6 lc6, .int .i64 0]) := he6; clear he6; subst he7) | (go_at_call 7; refine (law13_num _ _).mono ?_; rintro e w' ⟨rfl, rfl⟩))
      clear q0 q1 q2 q3 q4 q5 q6 q7 q8 hgW
      have hln6 : L6.length = ln6 := by obtain ⟨A', c', e', _⟩ := hL6.read; injection e' with _ e2 _; exact e2.symm
      rw [hb9e] at hs3
      have HI6 := Lib.hid hs3
      clear hs3 hL6e hD6 hb9e
      refine wp_world (fun WC hWC => ?_)
      obtain ⟨gx, hgx⟩ : ∃ g, g = w6.heap.size := ⟨_, rfl⟩
      have HXC : Hid (Blk WC gx 27 [.int .i64 D6.id, .int .i64 D6.nodes, .int .i64 D6.next, .slice oA6 on6 oc6, .int .i64 D6.age, .int .i64 D6.clock, .slice tA6 tn6 tc6, .slice eA6 en6 ec6, .slice rA6 rn6 rc6]) := Lib.hid (by rw [hWC, hgx]; exact Blk.new w6 27 [.int .i64 D6.id, .int .i64 D6.nodes, .int .i64 D6.next, .slice oA6 on6 oc6, .int .i64 D6.age, .int .i64 D6.clock, .slice tA6 tn6 tc6, .slice eA6 en6 ec6, .slice rA6 rn6 rc6])
      have hb67 : Below w6.heap.size w6 WC := by rw [hWC]; exact bel_alloc (Below.refl _ _)
      rw [← hgx]
      clear hWC hgx
      have hb57 := bel_trans hb6 hb67
      have HWC := Lib.hid (HWB.out.up hb57)
      have HYC := Lib.hid (HYB.out.up hb57)
      have HKC := Lib.hid (HKB.out.up hb57)
      have HTC := Lib.hid (HTB.out.up hb57)
      have hbWC := bel_trans hbWB hb57
      have HOC := Lib.hid (WorkO.mono (B' := w.heap.size) (hO6.up hb67) hbWB.size)
      have HLC := Lib.hid (OwnT.mono (B' := w.heap.size) (hL6.up hb67) hbWB.size)
      clear hb6 hb67 hb57 hO6 hL6 HWB HYB HKB HTB hbWB HWR2
      obtain ⟨P2, -, -, hgW2, hgWB, hfz2, hcl2⟩ := wrk_cells HWC.out HI.out.len hkn
      have r0 : WC.cell? ⟨gW, k * 9, none⟩ = some (.int .i64 (wk ws k).id) := hcl2 0 _ rfl
      have r1 : WC.cell? ⟨gW, k * 9 + 1, none⟩ = some (.int .i64 (wk ws k).nodes) := hcl2 1 _ rfl
      have r2 : WC.cell? ⟨gW, k * 9 + 2, none⟩ = some (.int .i64 (wk ws k).next) := hcl2 2 _ rfl
      have r3 : WC.cell? ⟨gW, k * 9 + 3, none⟩ = some (.slice P2.op.A P2.op.n P2.op.c) := hcl2 3 _ rfl
      have r4 : WC.cell? ⟨gW, k * 9 + 4, none⟩ = some (.int .i64 (wk ws k).age) := hcl2 4 _ rfl
      have r5 : WC.cell? ⟨gW, k * 9 + 5, none⟩ = some (.int .i64 (wk ws k).clock) := hcl2 5 _ rfl
      have r6 : WC.cell? ⟨gW, k * 9 + 6, none⟩ = some (.slice P2.wa.A P2.wa.n P2.wa.c) := hcl2 6 _ rfl
      have r7 : WC.cell? ⟨gW, k * 9 + 7, none⟩ = some (.slice P2.he.A P2.he.n P2.he.c) := hcl2 7 _ rfl
      have r8 : WC.cell? ⟨gW, k * 9 + 8, none⟩ = some (.slice P2.re.A P2.re.n P2.re.c) := hcl2 8 _ rfl
      have hput := workers_put HWC.out HI.out.len hkn HOC.out
      have HPUT := Lib.hid hput
      clear hcl2 hput
      have hxl := HXC.out.lt
      have x_0 := (HXC.out.box).2 0 _ rfl; have x_1 := (HXC.out.box).2 1 _ rfl; have x_2 := (HXC.out.box).2 2 _ rfl; have x_3 := (HXC.out.box).2 3 _ rfl; have x_4 := (HXC.out.box).2 4 _ rfl; have x_5 := (HXC.out.box).2 5 _ rfl; have x_6 := (HXC.out.box).2 6 _ rfl; have x_7 := (HXC.out.box).2 7 _ rfl; have x_8 := (HXC.out.box).2 8 _ rfl
      go_upto_region 54 with fail
      clear r0 r1 r2 r3 r4 r5 r6 r7 r8 hfz2 x_0 x_1 x_2 x_3 x_4 x_5 x_6 x_7 x_8 hxl hgW2
      refine wp_world (fun WD hWD => ?_)
      have htkD : TKeep 27 WC WD := by rw [hWD]; exact HPUT.out.2
      have HWD : Hid (OwnT dWrk WD w.heap.size (.slice (some ⟨gW, 0, none⟩) n wc) (Ps.set k ⟨⟨oA6, on6, oc6⟩, ⟨tA6, tn6, tc6⟩, ⟨eA6, en6, ec6⟩, ⟨rA6, rn6, rc6⟩⟩) (ws.set k D6)) := Lib.hid (by rw [hWD]; exact HPUT.out.1)
      have HYD := Lib.hid (HYC.out.tkY htkD tA1 (by decide))
      have HKD := Lib.hid (HKC.out.tkB htkD tA1 (by decide))
      have HTD := Lib.hid (HTC.out.tk htkD (by decide))
      have hbWD : Below w.heap.size w WD := by rw [hWD]; exact belw_sets9k hbWC hgWB _ _ _ _ _ _ _ _ _
      have HLD := Lib.hid (HLC.out.tkY htkD tA1 (by decide))
      clear hWD htkD HPUT HXC HOC HWC HYC HKC HTC hbWC HLC
      have HLN : Hid (way.length + ln6 ≤ 900000000) := Lib.hid (by rw [HLL.out.1]; omega)
      go_upto_region 16 with (at_builtin; refine wpList_appWay rfl (.tmp 244) (.tmp 245) rfl rfl w.heap.size (.slice yA yn yc) us way rfl HYD.out lA6 ln6 lc6 us6 L6 rfl HLD.out hln6 HLN.out hbWD.size ?_; intro v9 WE hown9 htk9 hb9)
      obtain ⟨yA9, yc9, ey9, -⟩ := hown9.read
      obtain ⟨yn9, hyn9⟩ : ∃ x, (way ++ L6).length = x := ⟨_, rfl⟩
      rw [hyn9] at ey9
      subst ey9
      have hyn9b : yn9 ≤ 99000 := by rw [← hyn9, List.length_append, HLL.out.1, hln6]; omega
      have HYE := Lib.hid hown9
      have HWE := Lib.hid (HWD.out.tkW htk9 tA2 (by decide))
      have HKE := Lib.hid (HKD.out.tkB htk9 tA2 (by decide))
      have HTE := Lib.hid (HTD.out.tk htk9 (by decide))
      have hbWE : Below w.heap.size w WE := hbWD.trans hb9
      clear hown9 htk9 hb9 HLN
      have HLL2 : Hid ((way ++ L6).length = yn9 ∧ (book ++ [b9]).length = kn9) := Lib.hid ⟨hyn9, hkn9⟩
      clear hln6 hL16 HLD HWD HYD HKD HTD hbWD
      go_wp2_with fail
      exact hQ _ _ _ _ _ _ _ _ _ _ _ _ _ _ _ _ _ _ _ _ _ _ _ _ _ _ _ _ _ _ _ _ _ _ _ _ _ _ _ _ _ _ _ _ _ _ _ _ _ _ _ _ _ _ _ _ _ _ _ _ _ _ _ _ _ _ _ _ _ _ _ _ _ _ _ _ _ _ _ _ _ _ _ _ _ _ _ _ _ _ _ _ _ _ _ _ _ _ _ _ _ _ _ _ _ _ _ _ _ _ (Ps.set k ⟨⟨oA6, on6, oc6⟩, ⟨tA6, tn6, tc6⟩, ⟨eA6, en6, ec6⟩, ⟨rA6, rn6, rc6⟩⟩) (ws.set k D6) (us ++ us6) (way ++ L6) (bs ++ [⟨bA, bn, bc⟩]) (book ++ [b9]) (yA9) (yn9) (yc9) (kA9) (kn9) (kc9) _ ⟨HWE, HYE, HKE, HI6, HLL2, HTE, by omega, by omega, hbWE⟩
    · skip
      obtain ⟨e9, he9⟩ : ∃ x, mkE Dk = x := ⟨_, rfl⟩
      have hne := mk_no HMY.out hE
      rw [he9] at hne
      have hneb : (e9 == 0) = false := by simp [hne]
      have HE9 := Lib.hid he9
      clear he9 hE hne
      obtain ⟨u1, hu1⟩ : ∃ x, (mkB Dk).au = x := ⟨_, rfl⟩
      obtain ⟨u2, hu2⟩ : ∃ x, (mkB Dk).n = x := ⟨_, rfl⟩
      have HU := Lib.hid (And.intro hu1 hu2)
      have HBL := Lib.hid (mkB_lenW Dk)
      clear hu1 hu2
      go_upto_region 16 with (first | (go_at_call 9; refine (worker_Make ⟨⟨oA, on, oc⟩, ⟨tA, tn, tc⟩, ⟨eA, en, ec⟩, ⟨rA, rn, rc⟩⟩ Dk _ HWR.out HOP8.out).mono ?_; rintro e w3 ⟨v3, he3, hov, hb3⟩; rw [HE9.out, HU.out.1, HU.out.2] at he3; obtain ⟨bA, bc, ev, -⟩ := OwnX.txs hov (by have := HBL.out; omega); obtain ⟨bn, hbn⟩ : ∃ x, (mkB Dk).tx.length = x := ⟨_, rfl⟩; rw [hbn] at ev; clear hbn; subst ev; subst he3) | (go_at_call 7; refine (law13_num _ _).mono ?_; rintro e w' ⟨rfl, rfl⟩))
      clear q0 q1 q2 q3 q4 q5 q6 q7 q8 hgW
      refine wp_world (fun WA hWA => ?_)
      have hbsA : Below W2.heap.size W2 WA := by rw [hWA]; exact bel_alloc hb3
      clear hWA
      have HWA := Lib.hid (HW2.out.up hbsA)
      have HYA := Lib.hid (HY2.out.up hbsA)
      have HKA := Lib.hid (HK2.out.up hbsA)
      have HTA := Lib.hid (HT2.out.up hbsA)
      have hbWA := bel_trans hbW2 hbsA
      clear hbsA hb3 hov HW2 HY2 HK2 HT2 hbW2 HWR
      go_wp2_with fail
      exact hQ _ _ _ _ _ _ _ _ _ _ _ _ _ _ _ _ _ _ _ _ _ _ _ _ _ _ _ _ _ _ _ _ _ _ _ _ _ _ _ _ _ _ _ _ _ _ _ _ _ _ _ _ _ _ _ _ _ _ _ _ _ _ _ _ _ _ _ _ _ _ _ _ _ _ _ _ _ _ _ _ _ _ _ _ _ _ _ _ _ _ _ _ _ _ _ _ _ _ _ _ _ _ _ _ _ _ _ _ _ _ (Ps) (ws) (us) (way) (bs) (book) (yA) (yn) (yc) (kA) (kn) (kc) _ ⟨HWA, HYA, HKA, HI, HLL, HTA, by omega, by omega, hbWA⟩
  · skip
    have hyn0 : ¬ yn = 0 := fun e => by subst e; simp at hzy
    have hyi : ¬ (yn : Int) = 0 := by omega
    obtain ⟨gY, eY, -, -⟩ := own_nz (show World.ownsRow W2 w.heap.size 54 18 (.slice yA yn yc) yn (dcells dMsg way us) from by have h9 := HY2.out.1; rw [HLL.out.1] at h9; exact h9) (by omega)
    subst eY
    obtain ⟨at7, hat, u1, u2, u3, u4⟩ := uint_mod fk yn (by omega) (by omega)
    have hat7 : at7 < yn := by omega
    have f2 := HF2.out.box.2 2 _ rfl
    have hFl := HF2.out.lt
    obtain ⟨⟨⟨mbA, mbn, mbc⟩, ⟨⟨mxA, mxn, mxc⟩, ⟨myA, myn, myc⟩⟩, ⟨⟨⟨mcA, mcn, mcc⟩, ⟨mdA, mdn, mdc⟩⟩, ⟨msA, msn, msc⟩⟩, ⟨mzA, mzn, mzc⟩⟩, -, hOm, hgY, hcm⟩ := msg_cells HY2.out HLL.out.1 hat7
    have hok := HI.out.way _ (getD_mem (l := way) (j := at7) (by rw [HLL.out.1]; exact hat7))
    obtain ⟨Mm, hMm⟩ : ∃ m, way.getD at7 default = m := ⟨_, rfl⟩
    have HMM := Lib.hid hMm
    rw [hMm] at hOm hcm hok
    have hcm9 : W2.rangeAt gY (at7 * 18) [.int .i64 Mm.ki, .int .i64 Mm.fr, .int .i64 Mm.tt, .int .i64 Mm.di, .int .i64 Mm.b.au, .int .i64 Mm.b.n, .slice mbA mbn mbc, .int .i64 Mm.h.au, .int .i64 Mm.h.ro, .slice mxA mxn mxc, .slice myA myn myc, .int .i64 Mm.c.h.au, .int .i64 Mm.c.h.ro, .slice mcA mcn mcc, .slice mdA mdn mdc, .int .i64 Mm.c.di, .slice msA msn msc, .slice mzA mzn mzc] := hcm
    have HOKM := Lib.hid hok
    clear hcm hok hMm
    have HCM := Lib.hid hcm9
    clear hcm9
    go_upto_region 34 with fail
    clear u1 u2 u3 u4 f2 hFl hat hyi
    rename_i K34 hK34
    have HK34 := Lib.hid hK34
    clear hK34
    refine wp_region_list ?_
    simp only [List.append_eq, List.append, List.cons_append, List.nil_append, List.toList_toArray]
    iterate 3 ((refine wpList_plain rfl (fun K hK => ?_)); go_simp; refine hK _ _ ?_; clear hK K; (try simp only [Act.put, lzT, lzZ, lzS]))
    refine wpList_load_mid rfl 54 _ rfl gY (at7 * 18) (by simp [Act.eval, Act.put]) [.int .i64 Mm.ki, .int .i64 Mm.fr, .int .i64 Mm.tt, .int .i64 Mm.di, .int .i64 Mm.b.au, .int .i64 Mm.b.n, .slice mbA mbn mbc, .int .i64 Mm.h.au, .int .i64 Mm.h.ro, .slice mxA mxn mxc, .slice myA myn myc, .int .i64 Mm.c.h.au, .int .i64 Mm.c.h.ro, .slice mcA mcn mcc, .slice mdA mdn mdc, .int .i64 Mm.c.di, .slice msA msn msc, .slice mzA mzn mzc] _ HCM.out Try.underlying54 (by rfl) (by kernel_rfl) ?_
    (try simp only [Act.put, lzT, lzZ, lzS, List.toList_toArray])
    refine wpList_plain rfl (fun K hK => ?_)
    go_simp
    refine hK _ _ ?_
    clear hK K
    (try simp only [Act.put, lzT, lzZ, lzS])
    refine wpList_storeBlk rfl (.tmp 20) (.tmp 162) 54 rfl W2.heap.size 54 [.int .i64 0, .int .i64 0, .int .i64 0, .int .i64 0, .int .i64 0, .int .i64 0, .slice none 0 0, .int .i64 0, .int .i64 0, .slice none 0 0, .slice none 0 0, .int .i64 0, .int .i64 0, .slice none 0 0, .slice none 0 0, .int .i64 0, .slice none 0 0, .slice none 0 0] [.int .i64 Mm.ki, .int .i64 Mm.fr, .int .i64 Mm.tt, .int .i64 Mm.di, .int .i64 Mm.b.au, .int .i64 Mm.b.n, .slice mbA mbn mbc, .int .i64 Mm.h.au, .int .i64 Mm.h.ro, .slice mxA mxn mxc, .slice myA myn myc, .int .i64 Mm.c.h.au, .int .i64 Mm.c.h.ro, .slice mcA mcn mcc, .slice mdA mdn mdc, .int .i64 Mm.c.di, .slice msA msn msc, .slice mzA mzn mzc] (by kernel_rfl) (Blk.new W2 54 [.int .i64 0, .int .i64 0, .int .i64 0, .int .i64 0, .int .i64 0, .int .i64 0, .slice none 0 0, .int .i64 0, .int .i64 0, .slice none 0 0, .slice none 0 0, .int .i64 0, .int .i64 0, .slice none 0 0, .slice none 0 0, .int .i64 0, .slice none 0 0, .slice none 0 0]) (by simp [Act.eval, Act.put]) (by simp [Act.eval, Act.put]) rfl (by simp [Value.oneCell']) ?_
    intro w9 hM3 hg3 hs3
    (try simp only [Act.put, lzT, lzZ, lzS, List.toList_toArray])
    refine wpList_nil ?_
    have hgM0 : Below W2.heap.size W2 (W2.alloc (.cells #[.int .i64 0, .int .i64 0, .int .i64 0, .int .i64 0, .int .i64 0, .int .i64 0, .slice none 0 0, .int .i64 0, .int .i64 0, .slice none 0 0, .slice none 0 0, .int .i64 0, .int .i64 0, .slice none 0 0, .slice none 0 0, .int .i64 0, .slice none 0 0, .slice none 0 0] 54)) := bel_alloc (Below.refl _ _)
    refine wp_world3 hg3 hM3 ⟨hgM0, Nat.le_refl _⟩ ?_
    clear hg3 hM3 hs3 hgM0
    intro W3 hM3 hb23
    obtain ⟨gM, hgM⟩ : ∃ g, g = W2.heap.size := ⟨_, rfl⟩
    rw [← hgM] at hM3 ⊢
    have HM3 := Lib.hid hM3
    clear hM3 hgM w9
    apply HK34.out
    clear HK34 K34
    go_upto_region 35 with fail
    have HW3 := Lib.hid (HW2.out.up hb23)
    have HY3 := Lib.hid (HY2.out.up hb23)
    have HK3 := Lib.hid (HK2.out.up hb23)
    have HT3 := Lib.hid (HT2.out.up hb23)
    have hbW3 := bel_trans hbW2 hb23
    have hOm3 := hOm.up hb23
    clear hOm hb23 HW2 HY2 HK2 HT2 hbW2 HF2 hgY
    obtain ⟨z5, hz5⟩ : ∃ b, ((dd : Int) == 5) = b := ⟨_, rfl⟩
    cases z5
    · skip
      go_upto_region 37 with fail
      have hl7 : at7 ≤ yn := by omega
      have hyc7 : yn ≤ yc ∧ yc ≤ 9223372036854775807 := by obtain ⟨A', c', e', g1, g2, _⟩ := HY3.out.read; injection e' with _ e2 e3; rw [HLL.out.1] at g1; simp only [maxLen] at g2; omega
      have HRV : Hid (RowV W3 (some ⟨gY, 0, none⟩) yn 18 (dcells dMsg way us)) := Lib.hid (HY3.out.rowV HLL.out.1 (by omega))
      have hl8 : at7 ≤ yc := by omega
      have hl8i : (at7 : Int) ≤ (at7 : Int) + 1 := by omega
      have hl8n : at7 ≤ at7 + 1 := by omega
      have hl8y : (at7 : Int) + 1 ≤ (yn : Int) := by omega
      have hl8w : IntKind.i64.wrap ((at7 : Int) + 1) = (at7 : Int) + 1 := IntWalk.i64_in _ (by omega)
      have hl8t : ((at7 : Int) + 1).toNat = at7 + 1 := by omega
      have hl8z : (0 : Int) ≤ (at7 : Int) + 1 := by omega
      obtain ⟨o7, ho7⟩ : ∃ o : Option Addr, (if yc = at7 + 1 then some ⟨gY, 0, none⟩ else some ⟨gY, (at7 + 1) * 18, none⟩) = o := ⟨_, rfl⟩
      have HO7 := Lib.hid ho7
      refine wp_region_held_drew (S := fun _ => True) (by kernel_rfl) trivial (fun hHeld => ?_)
      have hbd : Below W3.heap.size W3 W3.drew := bel_drew (Below.refl _ _)
      generalize W3.drew = Z at *
      (refine wpAnyH_takeD (i := 1) (d := (some 170)) (v := ?_) rfl rfl (by kernel_rfl) (by kernel_rfl) (by kernel_rfl) (fun _ _ _ h => hPn _ _ _ _ _ h) (Or.inl ⟨by rfl, ?_⟩) (by assumption) ?_; rotate_left; (focus (intro wq hSw; clear hSw; go_simp; all_goals (with_reducible rfl))); simp only [Act.put, lzT, lzZ, lzS])
      (refine wpAnyH_takeD (i := 2) (d := (some 171)) (v := ?_) rfl rfl (by kernel_rfl) (by kernel_rfl) (by kernel_rfl) (fun _ _ _ h => hPn _ _ _ _ _ h) (Or.inl ⟨by rfl, ?_⟩) (by assumption) ?_; rotate_left; (focus (intro wq hSw; clear hSw; go_simp; all_goals (with_reducible rfl))); simp only [Act.put, lzT, lzZ, lzS])
      (refine wpAnyH_takeD (i := 3) (d := (some 172)) (v := ?_) rfl rfl (by kernel_rfl) (by kernel_rfl) (by kernel_rfl) (fun _ _ _ h => hPn _ _ _ _ _ h) (Or.inl ⟨by rfl, ?_⟩) (by assumption) ?_; rotate_left; (focus (intro wq hSw; clear hSw; go_simp; all_goals (with_reducible rfl))); simp only [Act.put, lzT, lzZ, lzS])
      (refine wpAnyH_takeD (i := 5) (d := (some 174)) (v := ?_) rfl rfl (by kernel_rfl) (by kernel_rfl) (by kernel_rfl) (fun _ _ _ h => hPn _ _ _ _ _ h) (Or.inl ⟨by rfl, ?_⟩) (by assumption) ?_; rotate_left; (focus (intro wq hSw; clear hSw; go_simp; all_goals (with_reducible rfl))); simp only [Act.put, lzT, lzZ, lzS])
      (refine wpAnyH_takeD (i := 6) (d := (some 175)) (v := ?_) rfl rfl (by kernel_rfl) (by kernel_rfl) (by kernel_rfl) (fun _ _ _ h => hPn _ _ _ _ _ h) (Or.inl ⟨by rfl, ?_⟩) (by assumption) ?_; rotate_left; (focus (intro wq hSw; clear hSw; go_simp; all_goals (with_reducible rfl))); simp only [Act.put, lzT, lzZ, lzS])
      (refine wpAnyH_takeD (i := 7) (d := (some 176)) (v := ?_) rfl rfl (by kernel_rfl) (by kernel_rfl) (by kernel_rfl) (fun _ _ _ h => hPn _ _ _ _ _ h) (Or.inl ⟨by rfl, ?_⟩) (by assumption) ?_; rotate_left; (focus (intro wq hSw; clear hSw; go_simp; all_goals (with_reducible rfl))); simp only [Act.put, lzT, lzZ, lzS])
      (refine wpAnyH_takeD (i := 8) (d := (some 177)) (v := ?_) rfl rfl (by kernel_rfl) (by kernel_rfl) (by kernel_rfl) (fun _ _ _ h => hPn _ _ _ _ _ h) (Or.inl ⟨by rfl, ?_⟩) (by assumption) ?_; rotate_left; (focus (intro wq hSw; clear hSw; go_simp; all_goals (with_reducible rfl))); simp only [Act.put, lzT, lzZ, lzS])
      refine wpAnyH_ready (rs := [0]) (by kernel_rfl) (by simp) ?_
      refine AllReadyH.cons (o := _) rfl (fun K hK => ?_) AllReadyH.nil
      go_simp
      obtain ⟨ge, hge⟩ : ∃ N, N = Z.heap.size := ⟨_, rfl⟩
      obtain ⟨ZB, hZB⟩ : ∃ Zq : World, Zq = Z.alloc (.cells #[] 54) := ⟨_, rfl⟩
      rw [← hge, ← hZB]
      have hoe : OwnT dMsg ZB w.heap.size (.slice (some ⟨ge, 0, none⟩) 0 0) [] [] := ⟨⟨rfl, .inr ⟨ge, 0, #[], rfl, by rw [hge]; exact Nat.le_trans hbW3.size hbd.size, (show Blk ZB ge 54 [] from by rw [hZB, hge]; exact Blk.new Z 54 []), Nat.le_refl _, by simp [maxLen], rfl, rfl⟩⟩, rfl, fun j hj => absurd hj (by simp)⟩
      have hbe : Below W3.heap.size W3 ZB := by rw [hZB]; exact bel_alloc hbd
      have hge3 : W3.heap.size ≤ ge := by rw [hge]; exact hbd.size
      clear hge hZB
      refine hK.out _ _ (trivial) (fun hHeld => ?_)
      clear hK K
      (try simp only [Act.put, lzT, lzZ, lzS])
      refine wpAnyH_ready (rs := [4]) (by kernel_rfl) (by simp) ?_
      refine AllReadyH.cons (o := _) rfl (fun K hK => ?_) AllReadyH.nil
      refine step_appWayR rfl (.tmp 169) (.tmp 172) rfl rfl w.heap.size (.slice (some ⟨ge, 0, none⟩) 0 0) [] [] (by simp [Act.eval, Act.put]) hoe (some ⟨gY, 0, none⟩) at7 yc (us.take at7) (way.take at7) (by simp [Act.eval, Act.put]) (by have h9 := ((HRV.out.takeK7 hl7).up hbe); have e9 : dcells dMsg (way.take at7) (us.take at7) = (dcells dMsg way us).take (at7 * 18) := (dcells_take dMsg HY3.out.2.1 (by rw [HLL.out.1]; exact hl7)).1; rw [← e9] at h9; exact h9) (by rw [List.length_take, HLL.out.1]; omega) (by rw [List.length_take, List.length_take, HY3.out.2.1]) (fun j hj => by (rw [List.length_take] at hj; have e1 : (us.take at7).getD j default = us.getD j default := (by simp only [List.getD_eq_getElem?_getD, List.getElem?_take]; rw [if_pos (by omega)]); have e2 : (way.take at7).getD j default = way.getD j default := (by simp only [List.getD_eq_getElem?_getD, List.getElem?_take]; rw [if_pos (by omega)]); rw [e1, e2]; exact OwnM.up (HY3.out.2.2 j (by omega)) hbe)) (by simp; omega) (Nat.le_trans hbW3.size hbe.size) ?_
      intro v8 W8 hown8 htk8 hg8 hb8 hat8
      refine hK.out _ _ (trivial) (fun hHeld => ?_)
      clear hK K
      (try simp only [Act.put, lzT, lzZ, lzS])
      refine wpAnyH_ready (rs := [9]) (by kernel_rfl) (by simp) ?_
      refine AllReadyH.cons (o := _) rfl (fun K hK => ?_) AllReadyH.nil
      have hv8 : ∀ q, v8.ownBlock = some q → W3.heap.size ≤ q := fun q e => by (rcases hat8 q e with h | h; (have e8 : ge = q := (by simpa [Value.ownBlock] using h); omega); (have := hbe.size; omega))
      have hb8w : Below W3.heap.size W3 W8 := ⟨hb8.os.trans hbe.os, hb8.tape.trans hbe.tape, hb8.output.trans hbe.output, Nat.le_trans hbe.size hb8.size, fun q hq => (hg8.block q (Nat.lt_of_lt_of_le hq hbe.size) (fun e9 => by have e8 : ge = q := (by simpa [Value.ownBlock] using e9.symm); have := hge3; omega)).trans (hbe.block q hq)⟩
      refine step_appWayR rfl (.tmp 173) (.tmp 177) rfl rfl w.heap.size v8 _ _ (by simp [Act.eval, Act.put]) hown8 o7 (yn - (at7 + 1)) (yc - (at7 + 1)) (us.drop (at7 + 1)) (way.drop (at7 + 1)) (by simp [Act.eval, Act.put]) (by rw [← HO7.out]; by_cases hf : yc = at7 + 1; (rw [if_pos hf, show yn - (at7 + 1) = 0 by omega, show way.drop (at7 + 1) = [] from List.drop_eq_nil_of_le (by rw [HLL.out.1]; omega)]; exact RowV.nilA _ _); (rw [if_neg hf]; have h9 := ((HRV.out.up hb8w).dropK (i := at7 + 1) (by omega)); have e9 : dcells dMsg (way.drop (at7 + 1)) (us.drop (at7 + 1)) = (dcells dMsg way us).drop ((at7 + 1) * 18) := (dcells_take dMsg HY3.out.2.1 (i := at7 + 1) (by rw [HLL.out.1]; omega)).2; rw [← e9] at h9; exact h9)) (by rw [List.length_drop, HLL.out.1]) (by rw [List.length_drop, List.length_drop, HY3.out.2.1]) (fun j hj => by (rw [List.length_drop] at hj; have e1 : (us.drop (at7 + 1)).getD j default = us.getD (at7 + 1 + j) default := (by simp only [List.getD_eq_getElem?_getD, List.getElem?_drop]); have e2 : (way.drop (at7 + 1)).getD j default = way.getD (at7 + 1 + j) default := (by simp only [List.getD_eq_getElem?_getD, List.getElem?_drop]); rw [e1, e2]; exact OwnM.up (HY3.out.2.2 (at7 + 1 + j) (by omega)) hb8w)) (by rw [List.nil_append, List.length_take, HLL.out.1]; omega) (Nat.le_trans hbW3.size hb8w.size) ?_
      intro v9 W9 hown9 htk9 hg9 hb9 hat9
      refine hK.out _ _ (trivial) (fun hHeld => ?_)
      clear hK K
      (try simp only [Act.put, lzT, lzZ, lzS])
      (refine wpAnyH_takeD (i := 10) (d := (some 5)) (v := ?_) rfl rfl (by kernel_rfl) (by kernel_rfl) (by kernel_rfl) (fun _ _ _ h => hPn _ _ _ _ _ h) (Or.inl ⟨by rfl, ?_⟩) (by assumption) ?_; rotate_left; (focus (intro wq hSw; clear hSw; go_simp; all_goals (with_reducible rfl))); simp only [Act.put, lzT, lzZ, lzS])
      refine wpAnyH_done (by kernel_rfl) ?_ _
      skip
      clear HO7 ho7
      rw [List.nil_append, List.nil_append] at hown9
      have hbw9 : Below W3.heap.size W3 W9 := ⟨hb9.os.trans hb8w.os, hb9.tape.trans hb8w.tape, hb9.output.trans hb8w.output, Nat.le_trans hb8w.size hb9.size, fun q hq => (hg9.block q (Nat.lt_of_lt_of_le hq hb8w.size) (fun e9 => by have h8 := hv8 q e9.symm; omega)).trans (hb8w.block q hq)⟩
      clear hHeld hoe hbe hge3 hown8 htk8 hg8 hb8 hat8 hv8 hb8w htk9 hg9 hb9 hat9 hbd HRV
      have HW9 := Lib.hid (HW3.out.up hbw9)
      have HK9 := Lib.hid (HK3.out.up hbw9)
      have HT9 := Lib.hid (HT3.out.up hbw9)
      have HM9 := Lib.hid (HM3.out.up hbw9)
      have hOm9 := hOm3.up hbw9
      have HOM9 := Lib.hid hOm9
      have hbW9 := bel_trans hbW3 hbw9
      clear hOm9 hOm3 hbw9 HW3 HY3 HK3 HT3 HM3 hbW3
      have hlw : (way.take at7 ++ way.drop (at7 + 1)).length ≤ yn := by rw [List.length_append, List.length_take, List.length_drop, HLL.out.1]; omega
      have HI9 := Lib.hid (HI.out.sub (way' := way.take at7 ++ way.drop (at7 + 1)) (fun m hm => mem_cut hm))
      obtain ⟨yA9, yc9, ey9, -⟩ := hown9.read
      obtain ⟨yn9, hyn9⟩ : ∃ x, (way.take at7 ++ way.drop (at7 + 1)).length = x := ⟨_, rfl⟩
      rw [hyn9] at ey9 hlw
      subst ey9
      have HLL9 : Hid ((way.take at7 ++ way.drop (at7 + 1)).length = yn9 ∧ book.length = kn) := Lib.hid ⟨hyn9, HLL.out.2⟩
      have HY9 := Lib.hid hown9
      clear hown9 hyn9
      obtain ⟨way, hway⟩ : ∃ x, way.take at7 ++ way.drop (at7 + 1) = x := ⟨_, rfl⟩
      obtain ⟨us, hus⟩ : ∃ x, us.take at7 ++ us.drop (at7 + 1) = x := ⟨_, rfl⟩
      rw [hway] at HI9 HLL9 HY9
      rw [hus] at HY9
      clear hway hus HI HLL
      have HI := HI9
      have HLL := HLL9
      clear HI9 HLL9
      have hyn9b : yn9 ≤ 2000 := by omega
      clear hlw hl7 hyc7 hat7 hyn hy2
      obtain ⟨yA, hyA⟩ : ∃ x, x = yA9 := ⟨_, rfl⟩
      obtain ⟨yn, hyn2⟩ : ∃ x, x = yn9 := ⟨_, rfl⟩
      obtain ⟨yc, hyc⟩ : ∃ x, x = yc9 := ⟨_, rfl⟩
      subst hyA
      subst hyn2
      subst hyc
      obtain ⟨z4, hz4⟩ : ∃ b, ((dd : Int) == 4) = b := ⟨_, rfl⟩
      cases z4
      · skip
        have hz9 := 0
        obtain ⟨hbig, -, htt1, htt2⟩ := HOKM.out.mil HI.out
        obtain ⟨k, hks⟩ : ∃ k : Nat, Mm.tt - 1 = (k : Int) := ⟨(Mm.tt - 1).toNat, by omega⟩
        have hkt : (k : Int) + 1 = Mm.tt := by omega
        have hkn : k < n := by omega
        have hk0 : decide ((k : Int) < 0) = false := by first | (simp; done) | (simp; omega)
        have hk1 : decide ((k : Int) ≥ (n : Int)) = false := by first | (simp; done) | (simp; omega)
        have hkw : IntKind.i64.wrap (k : Int) = (k : Int) := IntWalk.i64_in _ (by omega)
        have m2 := HM9.out.box.2 2 _ rfl
        have hml := HM9.out.lt
        have HKT := Lib.hid hkt
        clear hbig htt1 htt2 hkt hz9
        go_upto_region 42 with fail
        clear hks hk0 hk1 hkw m2
        have hkt := HKT.out
        obtain ⟨⟨⟨oA, on, oc⟩, ⟨tA, tn, tc⟩, ⟨eA, en, ec⟩, ⟨rA, rn, rc⟩⟩, -, hOk, hgW, -, -, hcl⟩ := wrk_cells HW9.out HI.out.len hkn
        have HOK := Lib.hid hOk
        clear hOk
        obtain ⟨S, hSd⟩ : ∃ S : World → Prop, S = fun Q => Q.rangeAt gW (k * 9) [.int .i64 (wk ws k).id, .int .i64 (wk ws k).nodes, .int .i64 (wk ws k).next, .slice oA on oc, .int .i64 (wk ws k).age, .int .i64 (wk ws k).clock, .slice tA tn tc, .slice eA en ec, .slice rA rn rc] ∧ Q.rangeAt gM 0 [.int .i64 Mm.ki, .int .i64 Mm.fr, .int .i64 Mm.tt, .int .i64 Mm.di, .int .i64 Mm.b.au, .int .i64 Mm.b.n, .slice mbA mbn mbc, .int .i64 Mm.h.au, .int .i64 Mm.h.ro, .slice mxA mxn mxc, .slice myA myn myc, .int .i64 Mm.c.h.au, .int .i64 Mm.c.h.ro, .slice mcA mcn mcc, .slice mdA mdn mdc, .int .i64 Mm.c.di, .slice msA msn msc, .slice mzA mzn mzc] := ⟨_, rfl⟩
        have hS1 : ∀ Q, S Q → Q.rangeAt gW (k * 9) [.int .i64 (wk ws k).id, .int .i64 (wk ws k).nodes, .int .i64 (wk ws k).next, .slice oA on oc, .int .i64 (wk ws k).age, .int .i64 (wk ws k).clock, .slice tA tn tc, .slice eA en ec, .slice rA rn rc] := fun Q h => by rw [hSd] at h; exact h.1
        have hS2 : ∀ Q, S Q → Q.rangeAt gM 0 [.int .i64 Mm.ki, .int .i64 Mm.fr, .int .i64 Mm.tt, .int .i64 Mm.di, .int .i64 Mm.b.au, .int .i64 Mm.b.n, .slice mbA mbn mbc, .int .i64 Mm.h.au, .int .i64 Mm.h.ro, .slice mxA mxn mxc, .slice myA myn myc, .int .i64 Mm.c.h.au, .int .i64 Mm.c.h.ro, .slice mcA mcn mcc, .slice mdA mdn mdc, .int .i64 Mm.c.di, .slice msA msn msc, .slice mzA mzn mzc] := fun Q h => by rw [hSd] at h; exact h.2
        have hS : ∀ Q, Below W9.heap.size W9 Q → S Q := fun Q hQ => by rw [hSd]; exact ⟨fun j u hu => (hQ.cell (p := ⟨gW, k * 9 + j, none⟩) hgW).trans (hcl j u hu), (HM9.out.up hQ).rng⟩
        clear hSd hcl
        refine wp_region_held_drew (S := S) (by kernel_rfl) (hS _ (bel_drew (Below.refl _ _))) (fun hHeld => ?_)
        have hbd : Below W9.heap.size W9 W9.drew := bel_drew (Below.refl _ _)
        generalize W9.drew = Z at *
        (refine wpAnyH_takeD (i := 0) (d := (some 192)) (v := ?_) rfl rfl (by kernel_rfl) (by kernel_rfl) (by kernel_rfl) (fun _ _ _ h => hPn _ _ _ _ _ h) (Or.inl ⟨by rfl, ?_⟩) (by assumption) ?_; rotate_left; (focus (intro wq hSw; clear hSw; go_simp; all_goals (with_reducible rfl))); simp only [Act.put, lzT, lzZ, lzS])
        (refine wpAnyH_takeD (i := 1) (d := (some 193)) (v := ?_) rfl rfl (by kernel_rfl) (by kernel_rfl) (by kernel_rfl) (fun _ _ _ h => hPn _ _ _ _ _ h) (Or.inl ⟨by rfl, ?_⟩) (by assumption) ?_; rotate_left; (focus (intro wq hSw; clear hSw; go_simp; all_goals (with_reducible rfl))); simp only [Act.put, lzT, lzZ, lzS])
        (refine wpAnyH_takeD (i := 2) (d := (some 194)) (v := ?_) rfl rfl (by kernel_rfl) (by kernel_rfl) (by kernel_rfl) (fun _ _ _ h => hPn _ _ _ _ _ h) (Or.inl ⟨by rfl, ?_⟩) (by assumption) ?_; rotate_left; (focus (intro wq hSw; clear hSw; go_simp; all_goals (with_reducible rfl))); simp only [Act.put, lzT, lzZ, lzS])
        refine wpAnyH_takeD (i := 3) (d := (some 195)) (v := .agg ([.int .i64 (wk ws k).id, .int .i64 (wk ws k).nodes, .int .i64 (wk ws k).next, .slice oA on oc, .int .i64 (wk ws k).age, .int .i64 (wk ws k).clock, .slice tA tn tc, .slice eA en ec, .slice rA rn rc]).toArray) rfl rfl (by kernel_rfl) (by kernel_rfl) (by kernel_rfl) (fun _ _ _ h => hPn _ _ _ _ _ h) (yieldsIf_load_mid (by rfl) 27 _ rfl gW (k * 9) (by simp [Act.eval, Act.put]) ([.int .i64 (wk ws k).id, .int .i64 (wk ws k).nodes, .int .i64 (wk ws k).next, .slice oA on oc, .int .i64 (wk ws k).age, .int .i64 (wk ws k).clock, .slice tA tn tc, .slice eA en ec, .slice rA rn rc]) _ (hS1) Try.underlying27 (by rfl) (by kernel_rfl)) (by assumption) ?_
        simp only [Act.put, lzT, lzZ, lzS]
        refine wpAnyH_takeD (i := 4) (d := (some 196)) (v := .agg ([.int .i64 Mm.ki, .int .i64 Mm.fr, .int .i64 Mm.tt, .int .i64 Mm.di, .int .i64 Mm.b.au, .int .i64 Mm.b.n, .slice mbA mbn mbc, .int .i64 Mm.h.au, .int .i64 Mm.h.ro, .slice mxA mxn mxc, .slice myA myn myc, .int .i64 Mm.c.h.au, .int .i64 Mm.c.h.ro, .slice mcA mcn mcc, .slice mdA mdn mdc, .int .i64 Mm.c.di, .slice msA msn msc, .slice mzA mzn mzc]).toArray) rfl rfl (by kernel_rfl) (by kernel_rfl) (by kernel_rfl) (fun _ _ _ h => hPn _ _ _ _ _ h) (yieldsIf_load_mid (by rfl) 54 _ rfl gM 0 (by simp [Act.eval, Act.put]) ([.int .i64 Mm.ki, .int .i64 Mm.fr, .int .i64 Mm.tt, .int .i64 Mm.di, .int .i64 Mm.b.au, .int .i64 Mm.b.n, .slice mbA mbn mbc, .int .i64 Mm.h.au, .int .i64 Mm.h.ro, .slice mxA mxn mxc, .slice myA myn myc, .int .i64 Mm.c.h.au, .int .i64 Mm.c.h.ro, .slice mcA mcn mcc, .slice mdA mdn mdc, .int .i64 Mm.c.di, .slice msA msn msc, .slice mzA mzn mzc]) _ (hS2) Try.underlying54 (by rfl) (by kernel_rfl)) (by assumption) ?_
        simp only [Act.put, lzT, lzZ, lzS]
        refine wpAnyH_ready (rs := [5, 10]) (by kernel_rfl) (by simp) ?_
        refine AllReadyH.cons (o := _) rfl (fun K hK => ?_) (AllReadyH.cons (o := _) rfl (fun K hK => ?_) AllReadyH.nil)
        · skip
          go_simp
          (go_at_call 13; refine (world_take HI.out hbk3 HOKM.out hkt ⟨⟨oA, on, oc⟩, ⟨tA, tn, tc⟩, ⟨eA, en, ec⟩, ⟨rA, rn, rc⟩⟩ ⟨⟨mbA, mbn, mbc⟩, ⟨⟨mxA, mxn, mxc⟩, ⟨myA, myn, myc⟩⟩, ⟨⟨⟨mcA, mcn, mcc⟩, ⟨mdA, mdn, mdc⟩⟩, ⟨msA, msn, msc⟩⟩, ⟨mzA, mzn, mzc⟩⟩ w.heap.size _ (HOK.out.up (hbd)) (HOM9.out.up (hbd))).mono ?_; rintro e w6 ⟨⟨⟨oA6, on6, oc6⟩, ⟨tA6, tn6, tc6⟩, ⟨eA6, en6, ec6⟩, ⟨rA6, rn6, rc6⟩⟩, D6, lA6, lc6, L6, us6, he6, hO6, hL6, hL1, hI6, hb6⟩; obtain ⟨ln6, hln6⟩ : ∃ x, L6.length = x := ⟨_, rfl⟩; rw [hln6] at he6 hL6 hL1; have he7 : e = .returned (.tuple #[.agg #[.int .i64 D6.id, .int .i64 D6.nodes, .int .i64 D6.next, .slice oA6 on6 oc6, .int .i64 D6.age, .int .i64 D6.clock, .slice tA6 tn6 tc6, .slice eA6 en6 ec6, .slice rA6 rn6 rc6], .slice lA6 ln6 lc6, .int .i64 0]) := he6; clear he6; subst he7)
          have hb69 := bel_trans (hbd) hb6
          have hO6w := WorkO.mono (B' := w.heap.size) hO6 (Nat.le_trans hbW9.size (hbd).size)
          have hL6w := OwnT.mono (B' := w.heap.size) hL6 (Nat.le_trans hbW9.size (hbd).size)
          refine hK.out _ _ (hS _ hb69) (fun hHeld => ?_)
          clear hK K
          (try simp only [Act.put, lzT, lzZ, lzS])
          (refine wpAnyH_takeD (i := 6) (d := (some 191)) (v := ?_) rfl rfl (by kernel_rfl) (by kernel_rfl) (by kernel_rfl) (fun _ _ _ h => hPn _ _ _ _ _ h) (Or.inl ⟨by rfl, ?_⟩) (by assumption) ?_; rotate_left; (focus (intro wq hSw; clear hSw; go_simp; all_goals (with_reducible rfl))); simp only [Act.put, lzT, lzZ, lzS])
          (refine wpAnyH_takeD (i := 7) (d := (some 198)) (v := ?_) rfl rfl (by kernel_rfl) (by kernel_rfl) (by kernel_rfl) (fun _ _ _ h => hPn _ _ _ _ _ h) (Or.inl ⟨by rfl, ?_⟩) (by assumption) ?_; rotate_left; (focus (intro wq hSw; clear hSw; go_simp; all_goals (with_reducible rfl))); simp only [Act.put, lzT, lzZ, lzS])
          (refine wpAnyH_takeD (i := 8) (d := (some 199)) (v := ?_) rfl rfl (by kernel_rfl) (by kernel_rfl) (by kernel_rfl) (fun _ _ _ h => hPn _ _ _ _ _ h) (Or.inl ⟨by rfl, ?_⟩) (by assumption) ?_; rotate_left; (focus (intro wq hSw; clear hSw; go_simp; all_goals (with_reducible rfl))); simp only [Act.put, lzT, lzZ, lzS])
          (refine wpAnyH_takeD (i := 9) (d := (some 200)) (v := ?_) rfl rfl (by kernel_rfl) (by kernel_rfl) (by kernel_rfl) (fun _ _ _ h => hPn _ _ _ _ _ h) (Or.inl ⟨by rfl, ?_⟩) (by assumption) ?_; rotate_left; (focus (intro wq hSw; clear hSw; go_simp; all_goals (with_reducible rfl))); simp only [Act.put, lzT, lzZ, lzS])
          refine wpAnyH_ready (rs := [10]) (by kernel_rfl) (by simp) ?_
          refine AllReadyH.cons (o := _) rfl (fun K hK => ?_) AllReadyH.nil
          go_simp
          obtain ⟨gx, hgx⟩ : ∃ g, g = w6.heap.size := ⟨_, rfl⟩
          obtain ⟨ZB, hZB⟩ : ∃ Zq : World, Zq = w6.alloc (.cells #[.int .i64 0, .int .i64 0, .int .i64 0, .slice none 0 0, .int .i64 0, .int .i64 0, .slice none 0 0, .slice none 0 0, .slice none 0 0] 27) := ⟨_, rfl⟩
          rw [← hgx, ← hZB]
          have hXa : Blk ZB gx 27 [.int .i64 0, .int .i64 0, .int .i64 0, .slice none 0 0, .int .i64 0, .int .i64 0, .slice none 0 0, .slice none 0 0, .slice none 0 0] := by rw [hZB, hgx]; exact Blk.new _ 27 [.int .i64 0, .int .i64 0, .int .i64 0, .slice none 0 0, .int .i64 0, .int .i64 0, .slice none 0 0, .slice none 0 0, .slice none 0 0]
          have hbz : Below w6.heap.size w6 ZB := by rw [hZB]; exact bel_alloc (Below.refl _ _)
          have hgx9 : W9.heap.size ≤ gx := by rw [hgx]; exact (hb69).size
          have hbz9 := bel_trans (hb69) hbz
          clear hgx hZB
          have hX6 := hXa
          have hO6w := hO6w.up hbz
          have hL6w := hL6w.up hbz
          refine hK.out _ _ (hS _ hbz9) (fun hHeld => ?_)
          clear hK K
          (try simp only [Act.put, lzT, lzZ, lzS])
          refine wpAnyH_ready (rs := [11]) (by kernel_rfl) (by simp) ?_
          refine AllReadyH.cons (o := _) rfl (fun K hK => ?_) AllReadyH.nil
          have hnf := hX6.frozen
          have hnl := hX6.lt
          have y_0 := (hX6.box).2 0 _ rfl; have y_1 := (hX6.box).2 1 _ rfl; have y_2 := (hX6.box).2 2 _ rfl; have y_3 := (hX6.box).2 3 _ rfl; have y_4 := (hX6.box).2 4 _ rfl; have y_5 := (hX6.box).2 5 _ rfl; have y_6 := (hX6.box).2 6 _ rfl; have y_7 := (hX6.box).2 7 _ rfl; have y_8 := (hX6.box).2 8 _ rfl
          go_simp
          clear hnf hnl y_0 y_1 y_2 y_3 y_4 y_5 y_6 y_7 y_8
          have hX10 := set9 hX6 rfl (.int .i64 D6.id) (.int .i64 D6.nodes) (.int .i64 D6.next) (.slice oA6 on6 oc6) (.int .i64 D6.age) (.int .i64 D6.clock) (.slice tA6 tn6 tc6) (.slice eA6 en6 ec6) (.slice rA6 rn6 rc6)
          have ht10 := TKeep.sets9 hX6 (.int .i64 D6.id) (.int .i64 D6.nodes) (.int .i64 D6.next) (.slice oA6 on6 oc6) (.int .i64 D6.age) (.int .i64 D6.clock) (.slice tA6 tn6 tc6) (.slice eA6 en6 ec6) (.slice rA6 rn6 rc6)
          have hb10 := belw_sets9 (hbz9) hgx9 (.int .i64 D6.id) (.int .i64 D6.nodes) (.int .i64 D6.next) (.slice oA6 on6 oc6) (.int .i64 D6.age) (.int .i64 D6.clock) (.slice tA6 tn6 tc6) (.slice eA6 en6 ec6) (.slice rA6 rn6 rc6)
          refine hK.out _ _ (hS _ hb10) (fun hHeld => ?_)
          clear hK K
          (try simp only [Act.put, lzT, lzZ, lzS])
          (refine wpAnyH_takeD (i := 12) (d := (some 22)) (v := ?_) rfl rfl (by kernel_rfl) (by kernel_rfl) (by kernel_rfl) (fun _ _ _ h => hPn _ _ _ _ _ h) (Or.inl ⟨by rfl, ?_⟩) (by assumption) ?_; rotate_left; (focus (intro wq hSw; clear hSw; go_simp; all_goals (with_reducible rfl))); simp only [Act.put, lzT, lzZ, lzS])
          (refine wpAnyH_takeD (i := 13) (d := (some 23)) (v := ?_) rfl rfl (by kernel_rfl) (by kernel_rfl) (by kernel_rfl) (fun _ _ _ h => hPn _ _ _ _ _ h) (Or.inl ⟨by rfl, ?_⟩) (by assumption) ?_; rotate_left; (focus (intro wq hSw; clear hSw; go_simp; all_goals (with_reducible rfl))); simp only [Act.put, lzT, lzZ, lzS])
          refine wpAnyH_done (by kernel_rfl) ?_ _
          have hO10 := hO6w.tk ht10 twWork
          have hL10 := hL6w.tkY ht10 tA1 (by decide)
          clear hS hS1 hS2 hHeld hbd
          obtain ⟨WC, hWC⟩ : ∃ x, x = W9 := ⟨_, rfl⟩
          clear hWC WC
          refine wp_world2 hX10 hO10 hL10 hb10 ?_
          clear hX10 hO10 hL10 hb10 ht10
          intro WD hX10 hO10 hL10 hb10
          have HXD := Lib.hid hX10
          have HOD := Lib.hid hO10
          have HLD := Lib.hid hL10
          have HWD := Lib.hid (HW9.out.up hb10)
          have HYD := Lib.hid (HY9.out.up hb10)
          have HKD := Lib.hid (HK9.out.up hb10)
          have HTD := Lib.hid (HT9.out.up hb10)
          have hbWD := bel_trans hbW9 hb10
          have HI6 := Lib.hid hI6
          clear hX10 hO10 hL10 hb10 HW9 HY9 HK9 HT9 hbW9 HM9 hI6
          skip
          skip
          go_upto_region 45 with (go_at_call 7; refine (law13_num _ _).mono ?_; rintro e w' ⟨rfl, rfl⟩)
          obtain ⟨P2, -, -, hgW2, hgWB, hfz2, hcl2⟩ := wrk_cells HWD.out HI.out.len hkn
          have r0 : WD.cell? ⟨gW, k * 9, none⟩ = some (.int .i64 (wk ws k).id) := hcl2 0 _ rfl
          have r1 : WD.cell? ⟨gW, k * 9 + 1, none⟩ = some (.int .i64 (wk ws k).nodes) := hcl2 1 _ rfl
          have r2 : WD.cell? ⟨gW, k * 9 + 2, none⟩ = some (.int .i64 (wk ws k).next) := hcl2 2 _ rfl
          have r3 : WD.cell? ⟨gW, k * 9 + 3, none⟩ = some (.slice P2.op.A P2.op.n P2.op.c) := hcl2 3 _ rfl
          have r4 : WD.cell? ⟨gW, k * 9 + 4, none⟩ = some (.int .i64 (wk ws k).age) := hcl2 4 _ rfl
          have r5 : WD.cell? ⟨gW, k * 9 + 5, none⟩ = some (.int .i64 (wk ws k).clock) := hcl2 5 _ rfl
          have r6 : WD.cell? ⟨gW, k * 9 + 6, none⟩ = some (.slice P2.wa.A P2.wa.n P2.wa.c) := hcl2 6 _ rfl
          have r7 : WD.cell? ⟨gW, k * 9 + 7, none⟩ = some (.slice P2.he.A P2.he.n P2.he.c) := hcl2 7 _ rfl
          have r8 : WD.cell? ⟨gW, k * 9 + 8, none⟩ = some (.slice P2.re.A P2.re.n P2.re.c) := hcl2 8 _ rfl
          have hput := workers_put HWD.out HI.out.len hkn HOD.out
          have HPUT := Lib.hid hput
          clear hcl2 hput
          have hxl := HXD.out.lt
          have x_0 := (HXD.out.box).2 0 _ rfl; have x_1 := (HXD.out.box).2 1 _ rfl; have x_2 := (HXD.out.box).2 2 _ rfl; have x_3 := (HXD.out.box).2 3 _ rfl; have x_4 := (HXD.out.box).2 4 _ rfl; have x_5 := (HXD.out.box).2 5 _ rfl; have x_6 := (HXD.out.box).2 6 _ rfl; have x_7 := (HXD.out.box).2 7 _ rfl; have x_8 := (HXD.out.box).2 8 _ rfl
          go_upto_region 46 with fail
          clear r0 r1 r2 r3 r4 r5 r6 r7 r8 hfz2 x_0 x_1 x_2 x_3 x_4 x_5 x_6 x_7 x_8 hxl hgW2
          refine wp_world (fun WE hWE => ?_)
          have htkE : TKeep 27 WD WE := by rw [hWE]; exact HPUT.out.2
          have HWE : Hid (OwnT dWrk WE w.heap.size (.slice (some ⟨gW, 0, none⟩) n wc) (Ps.set k ⟨⟨oA6, on6, oc6⟩, ⟨tA6, tn6, tc6⟩, ⟨eA6, en6, ec6⟩, ⟨rA6, rn6, rc6⟩⟩) (ws.set k D6)) := Lib.hid (by rw [hWE]; exact HPUT.out.1)
          have HYE := Lib.hid (HYD.out.tkY htkE tA1 (by decide))
          have HKE := Lib.hid (HKD.out.tkB htkE tA1 (by decide))
          have HTE := Lib.hid (HTD.out.tk htkE (by decide))
          have hbWE : Below w.heap.size w WE := by rw [hWE]; exact belw_sets9k hbWD hgWB _ _ _ _ _ _ _ _ _
          have HLE := Lib.hid (HLD.out.tkY htkE tA1 (by decide))
          clear hWE htkE HPUT HXD HOD HWD HYD HKD HTD hbWD HLD
          have hl5 : ln6 ≤ 5000 := by omega
          have HLN : Hid (way.length + ln6 ≤ 900000000) := Lib.hid (by rw [HLL.out.1]; omega)
          go_upto_region 47 with (at_builtin; refine wpList_appWay rfl (.tmp 208) (.tmp 209) rfl rfl w.heap.size (.slice yA yn yc) us way rfl HYE.out lA6 ln6 lc6 us6 L6 rfl HLE.out hln6 HLN.out hbWE.size ?_; intro v9 WF hown9 htk9 hb9)
          obtain ⟨yA9, yc9, ey9, -⟩ := hown9.read
          obtain ⟨yn9, hyn9⟩ : ∃ x, (way ++ L6).length = x := ⟨_, rfl⟩
          rw [hyn9] at ey9
          subst ey9
          have hyn9b : yn9 ≤ 8000 := by rw [← hyn9, List.length_append, HLL.out.1, hln6]; omega
          have HYF := Lib.hid hown9
          have HWF := Lib.hid (HWE.out.tkW htk9 tA2 (by decide))
          have HKF := Lib.hid (HKE.out.tkB htk9 tA2 (by decide))
          have HTF := Lib.hid (HTE.out.tk htk9 (by decide))
          have hbWF : Below w.heap.size w WF := hbWE.trans hb9
          clear hown9 htk9 hb9 HLN
          have HLL2 : Hid ((way ++ L6).length = yn9 ∧ book.length = kn) := Lib.hid ⟨hyn9, HLL.out.2⟩
          obtain ⟨way, hway⟩ : ∃ x, way ++ L6 = x := ⟨_, rfl⟩
          obtain ⟨us, hus⟩ : ∃ x, us ++ us6 = x := ⟨_, rfl⟩
          rw [hway] at HI6 HLL2 HYF
          rw [hus] at HYF
          clear hway hus hyn9 hln6 HLL
          obtain ⟨Ps, hPs⟩ : ∃ x, Ps.set k ⟨⟨oA6, on6, oc6⟩, ⟨tA6, tn6, tc6⟩, ⟨eA6, en6, ec6⟩, ⟨rA6, rn6, rc6⟩⟩ = x := ⟨_, rfl⟩
          obtain ⟨ws, hws⟩ : ∃ x, ws.set k D6 = x := ⟨_, rfl⟩
          rw [hPs, hws] at HWF
          rw [hws] at HI6
          clear hPs hws HLE HWE HYE HKE HTE hbWE HI HOK HOKM HOM9
          have HI := HI6
          have HLL := HLL2
          clear HI6 HLL2
          obtain ⟨yA, hyA⟩ : ∃ x, x = yA9 := ⟨_, rfl⟩
          obtain ⟨yn, hyn2⟩ : ∃ x, x = yn9 := ⟨_, rfl⟩
          obtain ⟨yc, hyc⟩ : ∃ x, x = yc9 := ⟨_, rfl⟩
          subst hyA
          subst hyn2
          subst hyc
          skip
          skip
          obtain ⟨⟨⟨oA, on, oc⟩, ⟨tA, tn, tc⟩, ⟨eA, en, ec⟩, ⟨rA, rn, rc⟩⟩, -, hOk, hgW, -, -, hcl⟩ := wrk_cells HWF.out HI.out.len hkn
          have hDW := HI.out.w k hkn
          obtain ⟨Dk, hDk⟩ : ∃ D, wk ws k = D := ⟨_, rfl⟩
          rw [hDk] at hOk hcl hDW
          have q0 : WF.cell? ⟨gW, k * 9, none⟩ = some (.int .i64 Dk.id) := hcl 0 _ rfl
          have q1 : WF.cell? ⟨gW, k * 9 + 1, none⟩ = some (.int .i64 Dk.nodes) := hcl 1 _ rfl
          have q2 : WF.cell? ⟨gW, k * 9 + 2, none⟩ = some (.int .i64 Dk.next) := hcl 2 _ rfl
          have q3 : WF.cell? ⟨gW, k * 9 + 3, none⟩ = some (.slice oA on oc) := hcl 3 _ rfl
          have q4 : WF.cell? ⟨gW, k * 9 + 4, none⟩ = some (.int .i64 Dk.age) := hcl 4 _ rfl
          have q5 : WF.cell? ⟨gW, k * 9 + 5, none⟩ = some (.int .i64 Dk.clock) := hcl 5 _ rfl
          have q6 : WF.cell? ⟨gW, k * 9 + 6, none⟩ = some (.slice tA tn tc) := hcl 6 _ rfl
          have q7 : WF.cell? ⟨gW, k * 9 + 7, none⟩ = some (.slice eA en ec) := hcl 7 _ rfl
          have q8 : WF.cell? ⟨gW, k * 9 + 8, none⟩ = some (.slice rA rn rc) := hcl 8 _ rfl
          have HOK := Lib.hid hOk
          have HDK := Lib.hid hDk
          have HDW := Lib.hid hDW
          have HBG := Lib.hid (hDW.big hbk3)
          have HWR := Lib.hid (hOk.work (hDW.big hbk3))
          have HMY := Lib.hid (wmay_iff.2 hDW.may)
          clear hOk hDk hcl hDW
          have hop8 : Dk.op.length ≤ 800000000 := HBG.out.op
          have HOP8 := Lib.hid hop8
          clear hop8
          by_cases hE : nxE Dk = 0
          · skip
            have HE := Lib.hid hE
            have HMK := Lib.hid (mk_yes HMY.out hE)
            have HBL : Hid ((nxD Dk).tx.length ≤ 8) := Lib.hid (List.length_take_le 8 Dk.op)
            clear hE
            go_upto_region 49 with (first | (go_at_call 9; refine (worker_Make ⟨⟨oA, on, oc⟩, ⟨tA, tn, tc⟩, ⟨eA, en, ec⟩, ⟨rA, rn, rc⟩⟩ Dk _ HWR.out HOP8.out).mono ?_; rintro e w3 ⟨v3, he3, hov, hb3⟩; rw [HMK.out.1, HMK.out.2] at he3; rw [HMK.out.2] at hov; obtain ⟨bA, bc, ev, -⟩ := OwnX.txs hov (by have := HBL.out; omega); obtain ⟨bn, hbn⟩ : ∃ x, (nxD Dk).tx.length = x := ⟨_, rfl⟩; rw [hbn] at ev; clear hbn; subst ev; obtain ⟨b9, hb9e⟩ : ∃ b, nxD Dk = b := ⟨_, rfl⟩; rw [hb9e] at he3 hov; subst he3) | (go_at_call 7; refine (law13_num _ _).mono ?_; rintro e w' ⟨rfl, rfl⟩))
            clear q0 q1 q2 q3 q4 q5 q6 q7 q8 hgW
            refine wp_world (fun WA hWA => ?_)
            obtain ⟨gb, hgb⟩ : ∃ g, g = w3.heap.size := ⟨_, rfl⟩
            have HBA : Hid (Blk WA gb 40 [.int .i64 b9.au, .int .i64 b9.n, .slice bA bn bc]) := Lib.hid (by rw [hWA, hgb]; exact Blk.new w3 40 [.int .i64 b9.au, .int .i64 b9.n, .slice bA bn bc])
            have hb3A : Below w3.heap.size w3 WA := by rw [hWA]; exact bel_alloc (Below.refl _ _)
            rw [← hgb]
            clear hWA hgb
            have hbsA := bel_trans hb3 hb3A
            have HWA := Lib.hid (HWF.out.up hbsA)
            have HYA := Lib.hid (HYF.out.up hbsA)
            have HKA := Lib.hid (HKF.out.up hbsA)
            have HTA := Lib.hid (HTF.out.up hbsA)
            have hbWA := bel_trans hbWF hbsA
            have HOA : Hid (OwnX WA w.heap.size (.slice bA bn bc) b9.tx) := Lib.hid (OwnX.mono (OwnX.up hov hb3A) hbWF.size)
            clear hb3 hb3A hbsA hov HWF HYF HKF HTF hbWF HWR
            have hbl := HBA.out.lt
            have b_0 := (HBA.out.box).2 0 _ rfl; have b_1 := (HBA.out.box).2 1 _ rfl; have b_2 := (HBA.out.box).2 2 _ rfl
            have HKL : Hid (book.length ≤ 800000000) := Lib.hid (by omega)
            have hszA := hbWA.size
            go_upto_region 50 with (at_builtin; refine wpList_appBook rfl (.tmp 222) (.tmp 224) rfl rfl w.heap.size (.slice kA kn kc) bs book rfl (HKA.out.up (bel_alloc (Below.refl _ _))) WA.heap.size b9 ⟨bA, bn, bc⟩ rfl (BoxR.new WA [.int .i64 b9.au, .int .i64 b9.n, .slice bA bn bc] 40) (OwnX.up HOA.out (bel_alloc (Below.refl _ _))) HKL.out (by simp; omega) ?_; intro v5 WB hownB htkB hbB)
            clear hbl b_0 b_1 b_2 hszA
            obtain ⟨kA9, kc9, ek9, -⟩ := hownB.read
            obtain ⟨kn9, hkn9⟩ : ∃ x, (book ++ [b9]).length = x := ⟨_, rfl⟩
            rw [hkn9] at ek9
            subst ek9
            have hd9 : ((book.length : Int) + 1) = (kn9 : Int) := by rw [← hkn9, List.length_append]; simp
            have hkk9 : kn9 ≤ i + 1 := by have := HLL.out.2; omega
            have hba : Below WA.heap.size WA (WA.alloc (.cells #[.int .i64 b9.au, .int .i64 b9.n, .slice bA bn bc] 40)) := bel_alloc (Below.refl _ _)
            have HWB := Lib.hid ((HWA.out.up hba).tkW htkB tA3 (by decide))
            have HYB := Lib.hid ((HYA.out.up hba).tkY htkB tA3 (by decide))
            have HTB := Lib.hid ((HTA.out.up hba).tk htkB (by decide))
            have HKB := Lib.hid hownB
            have hbWB : Below w.heap.size w WB := (bel_trans hbWA hba).trans hbB
            clear hownB htkB hbB hba HWA HYA HKA HTA hbWA HBA HOA HKL
            obtain ⟨hs1, hs2, hs3⟩ := HI.out.seal (by omega) hkn (by rw [HDK.out]; exact HE.out)
            rw [HDK.out] at hs1 hs3
            rw [hd9] at hs1 hs2 hs3
            have hLe : askL Dk.id (kn9 : Int) (nxD Dk) [] Dk.nodes.toNat = askL ((k : Int) + 1) (kn9 : Int) (nxD Dk) [] n := by rw [HDW.out.id, HDW.out.nodes]; rfl
            have hL16 := askL_lenW ((k : Int) + 1) (kn9 : Int) (nxD Dk) [] n (by omega)
            rw [← hLe] at hs3 hL16
            have HS1 := Lib.hid hs1
            have HS2 := Lib.hid hs2
            have HSL : Hid (Dk.re.length + Dk.wa.length ≤ 700000000) := Lib.hid (by have := HDW.out.lens.1; have := HDW.out.lens.2.1; omega)
            clear hs1 hs2 hLe hd9
            obtain ⟨⟨⟨oA, on, oc⟩, ⟨tA, tn, tc⟩, ⟨eA, en, ec⟩, ⟨rA, rn, rc⟩⟩, -, hOk, hgW, -, -, hcl⟩ := wrk_cells HWB.out HI.out.len hkn
            rw [HDK.out] at hOk hcl
            have q0 : WB.cell? ⟨gW, k * 9, none⟩ = some (.int .i64 Dk.id) := hcl 0 _ rfl
            have q1 : WB.cell? ⟨gW, k * 9 + 1, none⟩ = some (.int .i64 Dk.nodes) := hcl 1 _ rfl
            have q2 : WB.cell? ⟨gW, k * 9 + 2, none⟩ = some (.int .i64 Dk.next) := hcl 2 _ rfl
            have q3 : WB.cell? ⟨gW, k * 9 + 3, none⟩ = some (.slice oA on oc) := hcl 3 _ rfl
            have q4 : WB.cell? ⟨gW, k * 9 + 4, none⟩ = some (.int .i64 Dk.age) := hcl 4 _ rfl
            have q5 : WB.cell? ⟨gW, k * 9 + 5, none⟩ = some (.int .i64 Dk.clock) := hcl 5 _ rfl
            have q6 : WB.cell? ⟨gW, k * 9 + 6, none⟩ = some (.slice tA tn tc) := hcl 6 _ rfl
            have q7 : WB.cell? ⟨gW, k * 9 + 7, none⟩ = some (.slice eA en ec) := hcl 7 _ rfl
            have q8 : WB.cell? ⟨gW, k * 9 + 8, none⟩ = some (.slice rA rn rc) := hcl 8 _ rfl
            have HWR2 := Lib.hid (hOk.work HBG.out)
            clear hOk hcl
            go_upto_region 53 with (first | (go_at_call 10; refine (worker_Sealed_ok ⟨⟨oA, on, oc⟩, ⟨tA, tn, tc⟩, ⟨eA, en, ec⟩, ⟨rA, rn, rc⟩⟩ Dk (kn9 : Int) _ HWR2.out HBG.out HMY.out HE.out HS2.out HS1.out HSL.out).mono ?_; rintro e w6 ⟨⟨⟨oA6, on6, oc6⟩, ⟨tA6, tn6, tc6⟩, ⟨eA6, en6, ec6⟩, ⟨rA6, rn6, rc6⟩⟩, lA6, ln6, lc6, he6, hO6, hM6, hb6⟩; obtain ⟨D6, hD6⟩ : ∃ D, sealD Dk (kn9 : Int) = D := ⟨_, rfl⟩; rw [hD6] at he6 hO6 hs3; obtain ⟨L6, hL6e⟩ : ∃ l, askL Dk.id (kn9 : Int) (nxD Dk) [] Dk.nodes.toNat = l := ⟨_, rfl⟩; rw [hL6e] at hM6 hs3 hL16; obtain ⟨us6, hL6⟩ := hM6; have he7 : e = .returned (.tuple #[.agg #[.int .i64 D6.id, .int .i64 D6.nodes, .int .i64 D6.next, .slice oA6 on6 oc6, .int .i64 D6.age, .int .i64 D6.clock, .slice tA6 tn6 tc6, .slice eA6 en6 ec6, .slice rA6 rn6 rc6], .slice lA6 ln6 lc6, .int .i64 0]) := he6; clear he6; subst he7) | (go_at_call 7; refine (law13_num _ _).mono ?_; rintro e w' ⟨rfl, rfl⟩))
            clear q0 q1 q2 q3 q4 q5 q6 q7 q8 hgW
            have hln6 : L6.length = ln6 := by obtain ⟨A', c', e', _⟩ := hL6.read; injection e' with _ e2 _; exact e2.symm
            rw [hb9e] at hs3
            have HI6 := Lib.hid hs3
            clear hs3 hL6e hD6 hb9e
            refine wp_world (fun WC hWC => ?_)
            obtain ⟨gx, hgx⟩ : ∃ g, g = w6.heap.size := ⟨_, rfl⟩
            have HXC : Hid (Blk WC gx 27 [.int .i64 D6.id, .int .i64 D6.nodes, .int .i64 D6.next, .slice oA6 on6 oc6, .int .i64 D6.age, .int .i64 D6.clock, .slice tA6 tn6 tc6, .slice eA6 en6 ec6, .slice rA6 rn6 rc6]) := Lib.hid (by rw [hWC, hgx]; exact Blk.new w6 27 [.int .i64 D6.id, .int .i64 D6.nodes, .int .i64 D6.next, .slice oA6 on6 oc6, .int .i64 D6.age, .int .i64 D6.clock, .slice tA6 tn6 tc6, .slice eA6 en6 ec6, .slice rA6 rn6 rc6])
            have hb67 : Below w6.heap.size w6 WC := by rw [hWC]; exact bel_alloc (Below.refl _ _)
            rw [← hgx]
            clear hWC hgx
            have hb57 := bel_trans hb6 hb67
            have HWC := Lib.hid (HWB.out.up hb57)
            have HYC := Lib.hid (HYB.out.up hb57)
            have HKC := Lib.hid (HKB.out.up hb57)
            have HTC := Lib.hid (HTB.out.up hb57)
            have hbWC := bel_trans hbWB hb57
            have HOC := Lib.hid (WorkO.mono (B' := w.heap.size) (hO6.up hb67) hbWB.size)
            have HLC := Lib.hid (OwnT.mono (B' := w.heap.size) (hL6.up hb67) hbWB.size)
            clear hb6 hb67 hb57 hO6 hL6 HWB HYB HKB HTB hbWB HWR2
            obtain ⟨P2, -, -, hgW2, hgWB, hfz2, hcl2⟩ := wrk_cells HWC.out HI.out.len hkn
            have r0 : WC.cell? ⟨gW, k * 9, none⟩ = some (.int .i64 (wk ws k).id) := hcl2 0 _ rfl
            have r1 : WC.cell? ⟨gW, k * 9 + 1, none⟩ = some (.int .i64 (wk ws k).nodes) := hcl2 1 _ rfl
            have r2 : WC.cell? ⟨gW, k * 9 + 2, none⟩ = some (.int .i64 (wk ws k).next) := hcl2 2 _ rfl
            have r3 : WC.cell? ⟨gW, k * 9 + 3, none⟩ = some (.slice P2.op.A P2.op.n P2.op.c) := hcl2 3 _ rfl
            have r4 : WC.cell? ⟨gW, k * 9 + 4, none⟩ = some (.int .i64 (wk ws k).age) := hcl2 4 _ rfl
            have r5 : WC.cell? ⟨gW, k * 9 + 5, none⟩ = some (.int .i64 (wk ws k).clock) := hcl2 5 _ rfl
            have r6 : WC.cell? ⟨gW, k * 9 + 6, none⟩ = some (.slice P2.wa.A P2.wa.n P2.wa.c) := hcl2 6 _ rfl
            have r7 : WC.cell? ⟨gW, k * 9 + 7, none⟩ = some (.slice P2.he.A P2.he.n P2.he.c) := hcl2 7 _ rfl
            have r8 : WC.cell? ⟨gW, k * 9 + 8, none⟩ = some (.slice P2.re.A P2.re.n P2.re.c) := hcl2 8 _ rfl
            have hput := workers_put HWC.out HI.out.len hkn HOC.out
            have HPUT := Lib.hid hput
            clear hcl2 hput
            have hxl := HXC.out.lt
            have x_0 := (HXC.out.box).2 0 _ rfl; have x_1 := (HXC.out.box).2 1 _ rfl; have x_2 := (HXC.out.box).2 2 _ rfl; have x_3 := (HXC.out.box).2 3 _ rfl; have x_4 := (HXC.out.box).2 4 _ rfl; have x_5 := (HXC.out.box).2 5 _ rfl; have x_6 := (HXC.out.box).2 6 _ rfl; have x_7 := (HXC.out.box).2 7 _ rfl; have x_8 := (HXC.out.box).2 8 _ rfl
            go_upto_region 54 with fail
            clear r0 r1 r2 r3 r4 r5 r6 r7 r8 hfz2 x_0 x_1 x_2 x_3 x_4 x_5 x_6 x_7 x_8 hxl hgW2
            refine wp_world (fun WD hWD => ?_)
            have htkD : TKeep 27 WC WD := by rw [hWD]; exact HPUT.out.2
            have HWD : Hid (OwnT dWrk WD w.heap.size (.slice (some ⟨gW, 0, none⟩) n wc) (Ps.set k ⟨⟨oA6, on6, oc6⟩, ⟨tA6, tn6, tc6⟩, ⟨eA6, en6, ec6⟩, ⟨rA6, rn6, rc6⟩⟩) (ws.set k D6)) := Lib.hid (by rw [hWD]; exact HPUT.out.1)
            have HYD := Lib.hid (HYC.out.tkY htkD tA1 (by decide))
            have HKD := Lib.hid (HKC.out.tkB htkD tA1 (by decide))
            have HTD := Lib.hid (HTC.out.tk htkD (by decide))
            have hbWD : Below w.heap.size w WD := by rw [hWD]; exact belw_sets9k hbWC hgWB _ _ _ _ _ _ _ _ _
            have HLD := Lib.hid (HLC.out.tkY htkD tA1 (by decide))
            clear hWD htkD HPUT HXC HOC HWC HYC HKC HTC hbWC HLC
            have HLN : Hid (way.length + ln6 ≤ 900000000) := Lib.hid (by rw [HLL.out.1]; omega)
            go_upto_region 16 with (at_builtin; refine wpList_appWay rfl (.tmp 244) (.tmp 245) rfl rfl w.heap.size (.slice yA yn yc) us way rfl HYD.out lA6 ln6 lc6 us6 L6 rfl HLD.out hln6 HLN.out hbWD.size ?_; intro v9 WE hown9 htk9 hb9)
            obtain ⟨yA9, yc9, ey9, -⟩ := hown9.read
            obtain ⟨yn9, hyn9⟩ : ∃ x, (way ++ L6).length = x := ⟨_, rfl⟩
            rw [hyn9] at ey9
            subst ey9
            have hyn9b : yn9 ≤ 99000 := by rw [← hyn9, List.length_append, HLL.out.1, hln6]; omega
            have HYE := Lib.hid hown9
            have HWE := Lib.hid (HWD.out.tkW htk9 tA2 (by decide))
            have HKE := Lib.hid (HKD.out.tkB htk9 tA2 (by decide))
            have HTE := Lib.hid (HTD.out.tk htk9 (by decide))
            have hbWE : Below w.heap.size w WE := hbWD.trans hb9
            clear hown9 htk9 hb9 HLN
            have HLL2 : Hid ((way ++ L6).length = yn9 ∧ (book ++ [b9]).length = kn9) := Lib.hid ⟨hyn9, hkn9⟩
            clear hln6 hL16 HLD HWD HYD HKD HTD hbWD
            go_wp2_with fail
            exact hQ _ _ _ _ _ _ _ _ _ _ _ _ _ _ _ _ _ _ _ _ _ _ _ _ _ _ _ _ _ _ _ _ _ _ _ _ _ _ _ _ _ _ _ _ _ _ _ _ _ _ _ _ _ _ _ _ _ _ _ _ _ _ _ _ _ _ _ _ _ _ _ _ _ _ _ _ _ _ _ _ _ _ _ _ _ _ _ _ _ _ _ _ _ _ _ _ _ _ _ _ _ _ _ _ _ _ _ _ _ _ (Ps.set k ⟨⟨oA6, on6, oc6⟩, ⟨tA6, tn6, tc6⟩, ⟨eA6, en6, ec6⟩, ⟨rA6, rn6, rc6⟩⟩) (ws.set k D6) (us ++ us6) (way ++ L6) (bs ++ [⟨bA, bn, bc⟩]) (book ++ [b9]) (yA9) (yn9) (yc9) (kA9) (kn9) (kc9) _ ⟨HWE, HYE, HKE, HI6, HLL2, HTE, by omega, by omega, hbWE⟩
          · skip
            obtain ⟨e9, he9⟩ : ∃ x, mkE Dk = x := ⟨_, rfl⟩
            have hne := mk_no HMY.out hE
            rw [he9] at hne
            have hneb : (e9 == 0) = false := by simp [hne]
            have HE9 := Lib.hid he9
            clear he9 hE hne
            obtain ⟨u1, hu1⟩ : ∃ x, (mkB Dk).au = x := ⟨_, rfl⟩
            obtain ⟨u2, hu2⟩ : ∃ x, (mkB Dk).n = x := ⟨_, rfl⟩
            have HU := Lib.hid (And.intro hu1 hu2)
            have HBL := Lib.hid (mkB_lenW Dk)
            clear hu1 hu2
            go_upto_region 16 with (first | (go_at_call 9; refine (worker_Make ⟨⟨oA, on, oc⟩, ⟨tA, tn, tc⟩, ⟨eA, en, ec⟩, ⟨rA, rn, rc⟩⟩ Dk _ HWR.out HOP8.out).mono ?_; rintro e w3 ⟨v3, he3, hov, hb3⟩; rw [HE9.out, HU.out.1, HU.out.2] at he3; obtain ⟨bA, bc, ev, -⟩ := OwnX.txs hov (by have := HBL.out; omega); obtain ⟨bn, hbn⟩ : ∃ x, (mkB Dk).tx.length = x := ⟨_, rfl⟩; rw [hbn] at ev; clear hbn; subst ev; subst he3) | (go_at_call 7; refine (law13_num _ _).mono ?_; rintro e w' ⟨rfl, rfl⟩))
            clear q0 q1 q2 q3 q4 q5 q6 q7 q8 hgW
            refine wp_world (fun WA hWA => ?_)
            have hbsA : Below WF.heap.size WF WA := by rw [hWA]; exact bel_alloc hb3
            clear hWA
            have HWA := Lib.hid (HWF.out.up hbsA)
            have HYA := Lib.hid (HYF.out.up hbsA)
            have HKA := Lib.hid (HKF.out.up hbsA)
            have HTA := Lib.hid (HTF.out.up hbsA)
            have hbWA := bel_trans hbWF hbsA
            clear hbsA hb3 hov HWF HYF HKF HTF hbWF HWR
            go_wp2_with fail
            exact hQ _ _ _ _ _ _ _ _ _ _ _ _ _ _ _ _ _ _ _ _ _ _ _ _ _ _ _ _ _ _ _ _ _ _ _ _ _ _ _ _ _ _ _ _ _ _ _ _ _ _ _ _ _ _ _ _ _ _ _ _ _ _ _ _ _ _ _ _ _ _ _ _ _ _ _ _ _ _ _ _ _ _ _ _ _ _ _ _ _ _ _ _ _ _ _ _ _ _ _ _ _ _ _ _ _ _ _ _ _ _ (Ps) (ws) (us) (way) (bs) (book) (yA) (yn) (yc) (kA) (kn) (kc) _ ⟨HWA, HYA, HKA, HI, HLL, HTA, by omega, by omega, hbWA⟩
        · skip
          go_simp
          obtain ⟨gx, hgx⟩ : ∃ g, g = Z.heap.size := ⟨_, rfl⟩
          obtain ⟨ZB, hZB⟩ : ∃ Zq : World, Zq = Z.alloc (.cells #[.int .i64 0, .int .i64 0, .int .i64 0, .slice none 0 0, .int .i64 0, .int .i64 0, .slice none 0 0, .slice none 0 0, .slice none 0 0] 27) := ⟨_, rfl⟩
          rw [← hgx, ← hZB]
          have hXa : Blk ZB gx 27 [.int .i64 0, .int .i64 0, .int .i64 0, .slice none 0 0, .int .i64 0, .int .i64 0, .slice none 0 0, .slice none 0 0, .slice none 0 0] := by rw [hZB, hgx]; exact Blk.new _ 27 [.int .i64 0, .int .i64 0, .int .i64 0, .slice none 0 0, .int .i64 0, .int .i64 0, .slice none 0 0, .slice none 0 0, .slice none 0 0]
          have hbz : Below Z.heap.size Z ZB := by rw [hZB]; exact bel_alloc (Below.refl _ _)
          have hgx9 : W9.heap.size ≤ gx := by rw [hgx]; exact (hbd).size
          have hbz9 := bel_trans (hbd) hbz
          clear hgx hZB
          refine hK.out _ _ (hS _ hbz9) (fun hHeld => ?_)
          clear hK K
          (try simp only [Act.put, lzT, lzZ, lzS])
          refine wpAnyH_ready (rs := [5]) (by kernel_rfl) (by simp) ?_
          refine AllReadyH.cons (o := _) rfl (fun K hK => ?_) AllReadyH.nil
          go_simp
          (go_at_call 13; refine (world_take HI.out hbk3 HOKM.out hkt ⟨⟨oA, on, oc⟩, ⟨tA, tn, tc⟩, ⟨eA, en, ec⟩, ⟨rA, rn, rc⟩⟩ ⟨⟨mbA, mbn, mbc⟩, ⟨⟨mxA, mxn, mxc⟩, ⟨myA, myn, myc⟩⟩, ⟨⟨⟨mcA, mcn, mcc⟩, ⟨mdA, mdn, mdc⟩⟩, ⟨msA, msn, msc⟩⟩, ⟨mzA, mzn, mzc⟩⟩ w.heap.size _ (HOK.out.up (hbz9)) (HOM9.out.up (hbz9))).mono ?_; rintro e w6 ⟨⟨⟨oA6, on6, oc6⟩, ⟨tA6, tn6, tc6⟩, ⟨eA6, en6, ec6⟩, ⟨rA6, rn6, rc6⟩⟩, D6, lA6, lc6, L6, us6, he6, hO6, hL6, hL1, hI6, hb6⟩; obtain ⟨ln6, hln6⟩ : ∃ x, L6.length = x := ⟨_, rfl⟩; rw [hln6] at he6 hL6 hL1; have he7 : e = .returned (.tuple #[.agg #[.int .i64 D6.id, .int .i64 D6.nodes, .int .i64 D6.next, .slice oA6 on6 oc6, .int .i64 D6.age, .int .i64 D6.clock, .slice tA6 tn6 tc6, .slice eA6 en6 ec6, .slice rA6 rn6 rc6], .slice lA6 ln6 lc6, .int .i64 0]) := he6; clear he6; subst he7)
          have hb69 := bel_trans (hbz9) hb6
          have hO6w := WorkO.mono (B' := w.heap.size) hO6 (Nat.le_trans hbW9.size (hbz9).size)
          have hL6w := OwnT.mono (B' := w.heap.size) hL6 (Nat.le_trans hbW9.size (hbz9).size)
          have hX6 := hXa.up hb6
          refine hK.out _ _ (hS _ hb69) (fun hHeld => ?_)
          clear hK K
          (try simp only [Act.put, lzT, lzZ, lzS])
          (refine wpAnyH_takeD (i := 6) (d := (some 191)) (v := ?_) rfl rfl (by kernel_rfl) (by kernel_rfl) (by kernel_rfl) (fun _ _ _ h => hPn _ _ _ _ _ h) (Or.inl ⟨by rfl, ?_⟩) (by assumption) ?_; rotate_left; (focus (intro wq hSw; clear hSw; go_simp; all_goals (with_reducible rfl))); simp only [Act.put, lzT, lzZ, lzS])
          (refine wpAnyH_takeD (i := 7) (d := (some 198)) (v := ?_) rfl rfl (by kernel_rfl) (by kernel_rfl) (by kernel_rfl) (fun _ _ _ h => hPn _ _ _ _ _ h) (Or.inl ⟨by rfl, ?_⟩) (by assumption) ?_; rotate_left; (focus (intro wq hSw; clear hSw; go_simp; all_goals (with_reducible rfl))); simp only [Act.put, lzT, lzZ, lzS])
          (refine wpAnyH_takeD (i := 8) (d := (some 199)) (v := ?_) rfl rfl (by kernel_rfl) (by kernel_rfl) (by kernel_rfl) (fun _ _ _ h => hPn _ _ _ _ _ h) (Or.inl ⟨by rfl, ?_⟩) (by assumption) ?_; rotate_left; (focus (intro wq hSw; clear hSw; go_simp; all_goals (with_reducible rfl))); simp only [Act.put, lzT, lzZ, lzS])
          (refine wpAnyH_takeD (i := 9) (d := (some 200)) (v := ?_) rfl rfl (by kernel_rfl) (by kernel_rfl) (by kernel_rfl) (fun _ _ _ h => hPn _ _ _ _ _ h) (Or.inl ⟨by rfl, ?_⟩) (by assumption) ?_; rotate_left; (focus (intro wq hSw; clear hSw; go_simp; all_goals (with_reducible rfl))); simp only [Act.put, lzT, lzZ, lzS])
          refine wpAnyH_ready (rs := [11]) (by kernel_rfl) (by simp) ?_
          refine AllReadyH.cons (o := _) rfl (fun K hK => ?_) AllReadyH.nil
          have hnf := hX6.frozen
          have hnl := hX6.lt
          have y_0 := (hX6.box).2 0 _ rfl; have y_1 := (hX6.box).2 1 _ rfl; have y_2 := (hX6.box).2 2 _ rfl; have y_3 := (hX6.box).2 3 _ rfl; have y_4 := (hX6.box).2 4 _ rfl; have y_5 := (hX6.box).2 5 _ rfl; have y_6 := (hX6.box).2 6 _ rfl; have y_7 := (hX6.box).2 7 _ rfl; have y_8 := (hX6.box).2 8 _ rfl
          go_simp
          clear hnf hnl y_0 y_1 y_2 y_3 y_4 y_5 y_6 y_7 y_8
          have hX10 := set9 hX6 rfl (.int .i64 D6.id) (.int .i64 D6.nodes) (.int .i64 D6.next) (.slice oA6 on6 oc6) (.int .i64 D6.age) (.int .i64 D6.clock) (.slice tA6 tn6 tc6) (.slice eA6 en6 ec6) (.slice rA6 rn6 rc6)
          have ht10 := TKeep.sets9 hX6 (.int .i64 D6.id) (.int .i64 D6.nodes) (.int .i64 D6.next) (.slice oA6 on6 oc6) (.int .i64 D6.age) (.int .i64 D6.clock) (.slice tA6 tn6 tc6) (.slice eA6 en6 ec6) (.slice rA6 rn6 rc6)
          have hb10 := belw_sets9 (hb69) hgx9 (.int .i64 D6.id) (.int .i64 D6.nodes) (.int .i64 D6.next) (.slice oA6 on6 oc6) (.int .i64 D6.age) (.int .i64 D6.clock) (.slice tA6 tn6 tc6) (.slice eA6 en6 ec6) (.slice rA6 rn6 rc6)
          refine hK.out _ _ (hS _ hb10) (fun hHeld => ?_)
          clear hK K
          (try simp only [Act.put, lzT, lzZ, lzS])
          (refine wpAnyH_takeD (i := 12) (d := (some 22)) (v := ?_) rfl rfl (by kernel_rfl) (by kernel_rfl) (by kernel_rfl) (fun _ _ _ h => hPn _ _ _ _ _ h) (Or.inl ⟨by rfl, ?_⟩) (by assumption) ?_; rotate_left; (focus (intro wq hSw; clear hSw; go_simp; all_goals (with_reducible rfl))); simp only [Act.put, lzT, lzZ, lzS])
          (refine wpAnyH_takeD (i := 13) (d := (some 23)) (v := ?_) rfl rfl (by kernel_rfl) (by kernel_rfl) (by kernel_rfl) (fun _ _ _ h => hPn _ _ _ _ _ h) (Or.inl ⟨by rfl, ?_⟩) (by assumption) ?_; rotate_left; (focus (intro wq hSw; clear hSw; go_simp; all_goals (with_reducible rfl))); simp only [Act.put, lzT, lzZ, lzS])
          refine wpAnyH_done (by kernel_rfl) ?_ _
          have hO10 := hO6w.tk ht10 twWork
          have hL10 := hL6w.tkY ht10 tA1 (by decide)
          clear hS hS1 hS2 hHeld hbd
          obtain ⟨WC, hWC⟩ : ∃ x, x = W9 := ⟨_, rfl⟩
          clear hWC WC
          refine wp_world2 hX10 hO10 hL10 hb10 ?_
          clear hX10 hO10 hL10 hb10 ht10
          intro WD hX10 hO10 hL10 hb10
          have HXD := Lib.hid hX10
          have HOD := Lib.hid hO10
          have HLD := Lib.hid hL10
          have HWD := Lib.hid (HW9.out.up hb10)
          have HYD := Lib.hid (HY9.out.up hb10)
          have HKD := Lib.hid (HK9.out.up hb10)
          have HTD := Lib.hid (HT9.out.up hb10)
          have hbWD := bel_trans hbW9 hb10
          have HI6 := Lib.hid hI6
          clear hX10 hO10 hL10 hb10 HW9 HY9 HK9 HT9 hbW9 HM9 hI6
          skip
          skip
          go_upto_region 45 with (go_at_call 7; refine (law13_num _ _).mono ?_; rintro e w' ⟨rfl, rfl⟩)
          obtain ⟨P2, -, -, hgW2, hgWB, hfz2, hcl2⟩ := wrk_cells HWD.out HI.out.len hkn
          have r0 : WD.cell? ⟨gW, k * 9, none⟩ = some (.int .i64 (wk ws k).id) := hcl2 0 _ rfl
          have r1 : WD.cell? ⟨gW, k * 9 + 1, none⟩ = some (.int .i64 (wk ws k).nodes) := hcl2 1 _ rfl
          have r2 : WD.cell? ⟨gW, k * 9 + 2, none⟩ = some (.int .i64 (wk ws k).next) := hcl2 2 _ rfl
          have r3 : WD.cell? ⟨gW, k * 9 + 3, none⟩ = some (.slice P2.op.A P2.op.n P2.op.c) := hcl2 3 _ rfl
          have r4 : WD.cell? ⟨gW, k * 9 + 4, none⟩ = some (.int .i64 (wk ws k).age) := hcl2 4 _ rfl
          have r5 : WD.cell? ⟨gW, k * 9 + 5, none⟩ = some (.int .i64 (wk ws k).clock) := hcl2 5 _ rfl
          have r6 : WD.cell? ⟨gW, k * 9 + 6, none⟩ = some (.slice P2.wa.A P2.wa.n P2.wa.c) := hcl2 6 _ rfl
          have r7 : WD.cell? ⟨gW, k * 9 + 7, none⟩ = some (.slice P2.he.A P2.he.n P2.he.c) := hcl2 7 _ rfl
          have r8 : WD.cell? ⟨gW, k * 9 + 8, none⟩ = some (.slice P2.re.A P2.re.n P2.re.c) := hcl2 8 _ rfl
          have hput := workers_put HWD.out HI.out.len hkn HOD.out
          have HPUT := Lib.hid hput
          clear hcl2 hput
          have hxl := HXD.out.lt
          have x_0 := (HXD.out.box).2 0 _ rfl; have x_1 := (HXD.out.box).2 1 _ rfl; have x_2 := (HXD.out.box).2 2 _ rfl; have x_3 := (HXD.out.box).2 3 _ rfl; have x_4 := (HXD.out.box).2 4 _ rfl; have x_5 := (HXD.out.box).2 5 _ rfl; have x_6 := (HXD.out.box).2 6 _ rfl; have x_7 := (HXD.out.box).2 7 _ rfl; have x_8 := (HXD.out.box).2 8 _ rfl
          go_upto_region 46 with fail
          clear r0 r1 r2 r3 r4 r5 r6 r7 r8 hfz2 x_0 x_1 x_2 x_3 x_4 x_5 x_6 x_7 x_8 hxl hgW2
          refine wp_world (fun WE hWE => ?_)
          have htkE : TKeep 27 WD WE := by rw [hWE]; exact HPUT.out.2
          have HWE : Hid (OwnT dWrk WE w.heap.size (.slice (some ⟨gW, 0, none⟩) n wc) (Ps.set k ⟨⟨oA6, on6, oc6⟩, ⟨tA6, tn6, tc6⟩, ⟨eA6, en6, ec6⟩, ⟨rA6, rn6, rc6⟩⟩) (ws.set k D6)) := Lib.hid (by rw [hWE]; exact HPUT.out.1)
          have HYE := Lib.hid (HYD.out.tkY htkE tA1 (by decide))
          have HKE := Lib.hid (HKD.out.tkB htkE tA1 (by decide))
          have HTE := Lib.hid (HTD.out.tk htkE (by decide))
          have hbWE : Below w.heap.size w WE := by rw [hWE]; exact belw_sets9k hbWD hgWB _ _ _ _ _ _ _ _ _
          have HLE := Lib.hid (HLD.out.tkY htkE tA1 (by decide))
          clear hWE htkE HPUT HXD HOD HWD HYD HKD HTD hbWD HLD
          have hl5 : ln6 ≤ 5000 := by omega
          have HLN : Hid (way.length + ln6 ≤ 900000000) := Lib.hid (by rw [HLL.out.1]; omega)
          go_upto_region 47 with (at_builtin; refine wpList_appWay rfl (.tmp 208) (.tmp 209) rfl rfl w.heap.size (.slice yA yn yc) us way rfl HYE.out lA6 ln6 lc6 us6 L6 rfl HLE.out hln6 HLN.out hbWE.size ?_; intro v9 WF hown9 htk9 hb9)
          obtain ⟨yA9, yc9, ey9, -⟩ := hown9.read
          obtain ⟨yn9, hyn9⟩ : ∃ x, (way ++ L6).length = x := ⟨_, rfl⟩
          rw [hyn9] at ey9
          subst ey9
          have hyn9b : yn9 ≤ 8000 := by rw [← hyn9, List.length_append, HLL.out.1, hln6]; omega
          have HYF := Lib.hid hown9
          have HWF := Lib.hid (HWE.out.tkW htk9 tA2 (by decide))
          have HKF := Lib.hid (HKE.out.tkB htk9 tA2 (by decide))
          have HTF := Lib.hid (HTE.out.tk htk9 (by decide))
          have hbWF : Below w.heap.size w WF := hbWE.trans hb9
          clear hown9 htk9 hb9 HLN
          have HLL2 : Hid ((way ++ L6).length = yn9 ∧ book.length = kn) := Lib.hid ⟨hyn9, HLL.out.2⟩
          obtain ⟨way, hway⟩ : ∃ x, way ++ L6 = x := ⟨_, rfl⟩
          obtain ⟨us, hus⟩ : ∃ x, us ++ us6 = x := ⟨_, rfl⟩
          rw [hway] at HI6 HLL2 HYF
          rw [hus] at HYF
          clear hway hus hyn9 hln6 HLL
          obtain ⟨Ps, hPs⟩ : ∃ x, Ps.set k ⟨⟨oA6, on6, oc6⟩, ⟨tA6, tn6, tc6⟩, ⟨eA6, en6, ec6⟩, ⟨rA6, rn6, rc6⟩⟩ = x := ⟨_, rfl⟩
          obtain ⟨ws, hws⟩ : ∃ x, ws.set k D6 = x := ⟨_, rfl⟩
          rw [hPs, hws] at HWF
          rw [hws] at HI6
          clear hPs hws HLE HWE HYE HKE HTE hbWE HI HOK HOKM HOM9
          have HI := HI6
          have HLL := HLL2
          clear HI6 HLL2
          obtain ⟨yA, hyA⟩ : ∃ x, x = yA9 := ⟨_, rfl⟩
          obtain ⟨yn, hyn2⟩ : ∃ x, x = yn9 := ⟨_, rfl⟩
          obtain ⟨yc, hyc⟩ : ∃ x, x = yc9 := ⟨_, rfl⟩
          subst hyA
          subst hyn2
          subst hyc
          skip
          skip
          obtain ⟨⟨⟨oA, on, oc⟩, ⟨tA, tn, tc⟩, ⟨eA, en, ec⟩, ⟨rA, rn, rc⟩⟩, -, hOk, hgW, -, -, hcl⟩ := wrk_cells HWF.out HI.out.len hkn
          have hDW := HI.out.w k hkn
          obtain ⟨Dk, hDk⟩ : ∃ D, wk ws k = D := ⟨_, rfl⟩
          rw [hDk] at hOk hcl hDW
          have q0 : WF.cell? ⟨gW, k * 9, none⟩ = some (.int .i64 Dk.id) := hcl 0 _ rfl
          have q1 : WF.cell? ⟨gW, k * 9 + 1, none⟩ = some (.int .i64 Dk.nodes) := hcl 1 _ rfl
          have q2 : WF.cell? ⟨gW, k * 9 + 2, none⟩ = some (.int .i64 Dk.next) := hcl 2 _ rfl
          have q3 : WF.cell? ⟨gW, k * 9 + 3, none⟩ = some (.slice oA on oc) := hcl 3 _ rfl
          have q4 : WF.cell? ⟨gW, k * 9 + 4, none⟩ = some (.int .i64 Dk.age) := hcl 4 _ rfl
          have q5 : WF.cell? ⟨gW, k * 9 + 5, none⟩ = some (.int .i64 Dk.clock) := hcl 5 _ rfl
          have q6 : WF.cell? ⟨gW, k * 9 + 6, none⟩ = some (.slice tA tn tc) := hcl 6 _ rfl
          have q7 : WF.cell? ⟨gW, k * 9 + 7, none⟩ = some (.slice eA en ec) := hcl 7 _ rfl
          have q8 : WF.cell? ⟨gW, k * 9 + 8, none⟩ = some (.slice rA rn rc) := hcl 8 _ rfl
          have HOK := Lib.hid hOk
          have HDK := Lib.hid hDk
          have HDW := Lib.hid hDW
          have HBG := Lib.hid (hDW.big hbk3)
          have HWR := Lib.hid (hOk.work (hDW.big hbk3))
          have HMY := Lib.hid (wmay_iff.2 hDW.may)
          clear hOk hDk hcl hDW
          have hop8 : Dk.op.length ≤ 800000000 := HBG.out.op
          have HOP8 := Lib.hid hop8
          clear hop8
          by_cases hE : nxE Dk = 0
          · skip
            have HE := Lib.hid hE
            have HMK := Lib.hid (mk_yes HMY.out hE)
            have HBL : Hid ((nxD Dk).tx.length ≤ 8) := Lib.hid (List.length_take_le 8 Dk.op)
            clear hE
            go_upto_region 49 with (first | (go_at_call 9; refine (worker_Make ⟨⟨oA, on, oc⟩, ⟨tA, tn, tc⟩, ⟨eA, en, ec⟩, ⟨rA, rn, rc⟩⟩ Dk _ HWR.out HOP8.out).mono ?_; rintro e w3 ⟨v3, he3, hov, hb3⟩; rw [HMK.out.1, HMK.out.2] at he3; rw [HMK.out.2] at hov; obtain ⟨bA, bc, ev, -⟩ := OwnX.txs hov (by have := HBL.out; omega); obtain ⟨bn, hbn⟩ : ∃ x, (nxD Dk).tx.length = x := ⟨_, rfl⟩; rw [hbn] at ev; clear hbn; subst ev; obtain ⟨b9, hb9e⟩ : ∃ b, nxD Dk = b := ⟨_, rfl⟩; rw [hb9e] at he3 hov; subst he3) | (go_at_call 7; refine (law13_num _ _).mono ?_; rintro e w' ⟨rfl, rfl⟩))
            clear q0 q1 q2 q3 q4 q5 q6 q7 q8 hgW
            refine wp_world (fun WA hWA => ?_)
            obtain ⟨gb, hgb⟩ : ∃ g, g = w3.heap.size := ⟨_, rfl⟩
            have HBA : Hid (Blk WA gb 40 [.int .i64 b9.au, .int .i64 b9.n, .slice bA bn bc]) := Lib.hid (by rw [hWA, hgb]; exact Blk.new w3 40 [.int .i64 b9.au, .int .i64 b9.n, .slice bA bn bc])
            have hb3A : Below w3.heap.size w3 WA := by rw [hWA]; exact bel_alloc (Below.refl _ _)
            rw [← hgb]
            clear hWA hgb
            have hbsA := bel_trans hb3 hb3A
            have HWA := Lib.hid (HWF.out.up hbsA)
            have HYA := Lib.hid (HYF.out.up hbsA)
            have HKA := Lib.hid (HKF.out.up hbsA)
            have HTA := Lib.hid (HTF.out.up hbsA)
            have hbWA := bel_trans hbWF hbsA
            have HOA : Hid (OwnX WA w.heap.size (.slice bA bn bc) b9.tx) := Lib.hid (OwnX.mono (OwnX.up hov hb3A) hbWF.size)
            clear hb3 hb3A hbsA hov HWF HYF HKF HTF hbWF HWR
            have hbl := HBA.out.lt
            have b_0 := (HBA.out.box).2 0 _ rfl; have b_1 := (HBA.out.box).2 1 _ rfl; have b_2 := (HBA.out.box).2 2 _ rfl
            have HKL : Hid (book.length ≤ 800000000) := Lib.hid (by omega)
            have hszA := hbWA.size
            go_upto_region 50 with (at_builtin; refine wpList_appBook rfl (.tmp 222) (.tmp 224) rfl rfl w.heap.size (.slice kA kn kc) bs book rfl (HKA.out.up (bel_alloc (Below.refl _ _))) WA.heap.size b9 ⟨bA, bn, bc⟩ rfl (BoxR.new WA [.int .i64 b9.au, .int .i64 b9.n, .slice bA bn bc] 40) (OwnX.up HOA.out (bel_alloc (Below.refl _ _))) HKL.out (by simp; omega) ?_; intro v5 WB hownB htkB hbB)
            clear hbl b_0 b_1 b_2 hszA
            obtain ⟨kA9, kc9, ek9, -⟩ := hownB.read
            obtain ⟨kn9, hkn9⟩ : ∃ x, (book ++ [b9]).length = x := ⟨_, rfl⟩
            rw [hkn9] at ek9
            subst ek9
            have hd9 : ((book.length : Int) + 1) = (kn9 : Int) := by rw [← hkn9, List.length_append]; simp
            have hkk9 : kn9 ≤ i + 1 := by have := HLL.out.2; omega
            have hba : Below WA.heap.size WA (WA.alloc (.cells #[.int .i64 b9.au, .int .i64 b9.n, .slice bA bn bc] 40)) := bel_alloc (Below.refl _ _)
            have HWB := Lib.hid ((HWA.out.up hba).tkW htkB tA3 (by decide))
            have HYB := Lib.hid ((HYA.out.up hba).tkY htkB tA3 (by decide))
            have HTB := Lib.hid ((HTA.out.up hba).tk htkB (by decide))
            have HKB := Lib.hid hownB
            have hbWB : Below w.heap.size w WB := (bel_trans hbWA hba).trans hbB
            clear hownB htkB hbB hba HWA HYA HKA HTA hbWA HBA HOA HKL
            obtain ⟨hs1, hs2, hs3⟩ := HI.out.seal (by omega) hkn (by rw [HDK.out]; exact HE.out)
            rw [HDK.out] at hs1 hs3
            rw [hd9] at hs1 hs2 hs3
            have hLe : askL Dk.id (kn9 : Int) (nxD Dk) [] Dk.nodes.toNat = askL ((k : Int) + 1) (kn9 : Int) (nxD Dk) [] n := by rw [HDW.out.id, HDW.out.nodes]; rfl
            have hL16 := askL_lenW ((k : Int) + 1) (kn9 : Int) (nxD Dk) [] n (by omega)
            rw [← hLe] at hs3 hL16
            have HS1 := Lib.hid hs1
            have HS2 := Lib.hid hs2
            have HSL : Hid (Dk.re.length + Dk.wa.length ≤ 700000000) := Lib.hid (by have := HDW.out.lens.1; have := HDW.out.lens.2.1; omega)
            clear hs1 hs2 hLe hd9
            obtain ⟨⟨⟨oA, on, oc⟩, ⟨tA, tn, tc⟩, ⟨eA, en, ec⟩, ⟨rA, rn, rc⟩⟩, -, hOk, hgW, -, -, hcl⟩ := wrk_cells HWB.out HI.out.len hkn
            rw [HDK.out] at hOk hcl
            have q0 : WB.cell? ⟨gW, k * 9, none⟩ = some (.int .i64 Dk.id) := hcl 0 _ rfl
            have q1 : WB.cell? ⟨gW, k * 9 + 1, none⟩ = some (.int .i64 Dk.nodes) := hcl 1 _ rfl
            have q2 : WB.cell? ⟨gW, k * 9 + 2, none⟩ = some (.int .i64 Dk.next) := hcl 2 _ rfl
            have q3 : WB.cell? ⟨gW, k * 9 + 3, none⟩ = some (.slice oA on oc) := hcl 3 _ rfl
            have q4 : WB.cell? ⟨gW, k * 9 + 4, none⟩ = some (.int .i64 Dk.age) := hcl 4 _ rfl
            have q5 : WB.cell? ⟨gW, k * 9 + 5, none⟩ = some (.int .i64 Dk.clock) := hcl 5 _ rfl
            have q6 : WB.cell? ⟨gW, k * 9 + 6, none⟩ = some (.slice tA tn tc) := hcl 6 _ rfl
            have q7 : WB.cell? ⟨gW, k * 9 + 7, none⟩ = some (.slice eA en ec) := hcl 7 _ rfl
            have q8 : WB.cell? ⟨gW, k * 9 + 8, none⟩ = some (.slice rA rn rc) := hcl 8 _ rfl
            have HWR2 := Lib.hid (hOk.work HBG.out)
            clear hOk hcl
            go_upto_region 53 with (first | (go_at_call 10; refine (worker_Sealed_ok ⟨⟨oA, on, oc⟩, ⟨tA, tn, tc⟩, ⟨eA, en, ec⟩, ⟨rA, rn, rc⟩⟩ Dk (kn9 : Int) _ HWR2.out HBG.out HMY.out HE.out HS2.out HS1.out HSL.out).mono ?_; rintro e w6 ⟨⟨⟨oA6, on6, oc6⟩, ⟨tA6, tn6, tc6⟩, ⟨eA6, en6, ec6⟩, ⟨rA6, rn6, rc6⟩⟩, lA6, ln6, lc6, he6, hO6, hM6, hb6⟩; obtain ⟨D6, hD6⟩ : ∃ D, sealD Dk (kn9 : Int) = D := ⟨_, rfl⟩; rw [hD6] at he6 hO6 hs3; obtain ⟨L6, hL6e⟩ : ∃ l, askL Dk.id (kn9 : Int) (nxD Dk) [] Dk.nodes.toNat = l := ⟨_, rfl⟩; rw [hL6e] at hM6 hs3 hL16; obtain ⟨us6, hL6⟩ := hM6; have he7 : e = .returned (.tuple #[.agg #[.int .i64 D6.id, .int .i64 D6.nodes, .int .i64 D6.next, .slice oA6 on6 oc6, .int .i64 D6.age, .int .i64 D6.clock, .slice tA6 tn6 tc6, .slice eA6 en6 ec6, .slice rA6 rn6 rc6], .slice lA6 ln6 lc6, .int .i64 0]) := he6; clear he6; subst he7) | (go_at_call 7; refine (law13_num _ _).mono ?_; rintro e w' ⟨rfl, rfl⟩))
            clear q0 q1 q2 q3 q4 q5 q6 q7 q8 hgW
            have hln6 : L6.length = ln6 := by obtain ⟨A', c', e', _⟩ := hL6.read; injection e' with _ e2 _; exact e2.symm
            rw [hb9e] at hs3
            have HI6 := Lib.hid hs3
            clear hs3 hL6e hD6 hb9e
            refine wp_world (fun WC hWC => ?_)
            obtain ⟨gx, hgx⟩ : ∃ g, g = w6.heap.size := ⟨_, rfl⟩
            have HXC : Hid (Blk WC gx 27 [.int .i64 D6.id, .int .i64 D6.nodes, .int .i64 D6.next, .slice oA6 on6 oc6, .int .i64 D6.age, .int .i64 D6.clock, .slice tA6 tn6 tc6, .slice eA6 en6 ec6, .slice rA6 rn6 rc6]) := Lib.hid (by rw [hWC, hgx]; exact Blk.new w6 27 [.int .i64 D6.id, .int .i64 D6.nodes, .int .i64 D6.next, .slice oA6 on6 oc6, .int .i64 D6.age, .int .i64 D6.clock, .slice tA6 tn6 tc6, .slice eA6 en6 ec6, .slice rA6 rn6 rc6])
            have hb67 : Below w6.heap.size w6 WC := by rw [hWC]; exact bel_alloc (Below.refl _ _)
            rw [← hgx]
            clear hWC hgx
            have hb57 := bel_trans hb6 hb67
            have HWC := Lib.hid (HWB.out.up hb57)
            have HYC := Lib.hid (HYB.out.up hb57)
            have HKC := Lib.hid (HKB.out.up hb57)
            have HTC := Lib.hid (HTB.out.up hb57)
            have hbWC := bel_trans hbWB hb57
            have HOC := Lib.hid (WorkO.mono (B' := w.heap.size) (hO6.up hb67) hbWB.size)
            have HLC := Lib.hid (OwnT.mono (B' := w.heap.size) (hL6.up hb67) hbWB.size)
            clear hb6 hb67 hb57 hO6 hL6 HWB HYB HKB HTB hbWB HWR2
            obtain ⟨P2, -, -, hgW2, hgWB, hfz2, hcl2⟩ := wrk_cells HWC.out HI.out.len hkn
            have r0 : WC.cell? ⟨gW, k * 9, none⟩ = some (.int .i64 (wk ws k).id) := hcl2 0 _ rfl
            have r1 : WC.cell? ⟨gW, k * 9 + 1, none⟩ = some (.int .i64 (wk ws k).nodes) := hcl2 1 _ rfl
            have r2 : WC.cell? ⟨gW, k * 9 + 2, none⟩ = some (.int .i64 (wk ws k).next) := hcl2 2 _ rfl
            have r3 : WC.cell? ⟨gW, k * 9 + 3, none⟩ = some (.slice P2.op.A P2.op.n P2.op.c) := hcl2 3 _ rfl
            have r4 : WC.cell? ⟨gW, k * 9 + 4, none⟩ = some (.int .i64 (wk ws k).age) := hcl2 4 _ rfl
            have r5 : WC.cell? ⟨gW, k * 9 + 5, none⟩ = some (.int .i64 (wk ws k).clock) := hcl2 5 _ rfl
            have r6 : WC.cell? ⟨gW, k * 9 + 6, none⟩ = some (.slice P2.wa.A P2.wa.n P2.wa.c) := hcl2 6 _ rfl
            have r7 : WC.cell? ⟨gW, k * 9 + 7, none⟩ = some (.slice P2.he.A P2.he.n P2.he.c) := hcl2 7 _ rfl
            have r8 : WC.cell? ⟨gW, k * 9 + 8, none⟩ = some (.slice P2.re.A P2.re.n P2.re.c) := hcl2 8 _ rfl
            have hput := workers_put HWC.out HI.out.len hkn HOC.out
            have HPUT := Lib.hid hput
            clear hcl2 hput
            have hxl := HXC.out.lt
            have x_0 := (HXC.out.box).2 0 _ rfl; have x_1 := (HXC.out.box).2 1 _ rfl; have x_2 := (HXC.out.box).2 2 _ rfl; have x_3 := (HXC.out.box).2 3 _ rfl; have x_4 := (HXC.out.box).2 4 _ rfl; have x_5 := (HXC.out.box).2 5 _ rfl; have x_6 := (HXC.out.box).2 6 _ rfl; have x_7 := (HXC.out.box).2 7 _ rfl; have x_8 := (HXC.out.box).2 8 _ rfl
            go_upto_region 54 with fail
            clear r0 r1 r2 r3 r4 r5 r6 r7 r8 hfz2 x_0 x_1 x_2 x_3 x_4 x_5 x_6 x_7 x_8 hxl hgW2
            refine wp_world (fun WD hWD => ?_)
            have htkD : TKeep 27 WC WD := by rw [hWD]; exact HPUT.out.2
            have HWD : Hid (OwnT dWrk WD w.heap.size (.slice (some ⟨gW, 0, none⟩) n wc) (Ps.set k ⟨⟨oA6, on6, oc6⟩, ⟨tA6, tn6, tc6⟩, ⟨eA6, en6, ec6⟩, ⟨rA6, rn6, rc6⟩⟩) (ws.set k D6)) := Lib.hid (by rw [hWD]; exact HPUT.out.1)
            have HYD := Lib.hid (HYC.out.tkY htkD tA1 (by decide))
            have HKD := Lib.hid (HKC.out.tkB htkD tA1 (by decide))
            have HTD := Lib.hid (HTC.out.tk htkD (by decide))
            have hbWD : Below w.heap.size w WD := by rw [hWD]; exact belw_sets9k hbWC hgWB _ _ _ _ _ _ _ _ _
            have HLD := Lib.hid (HLC.out.tkY htkD tA1 (by decide))
            clear hWD htkD HPUT HXC HOC HWC HYC HKC HTC hbWC HLC
            have HLN : Hid (way.length + ln6 ≤ 900000000) := Lib.hid (by rw [HLL.out.1]; omega)
            go_upto_region 16 with (at_builtin; refine wpList_appWay rfl (.tmp 244) (.tmp 245) rfl rfl w.heap.size (.slice yA yn yc) us way rfl HYD.out lA6 ln6 lc6 us6 L6 rfl HLD.out hln6 HLN.out hbWD.size ?_; intro v9 WE hown9 htk9 hb9)
            obtain ⟨yA9, yc9, ey9, -⟩ := hown9.read
            obtain ⟨yn9, hyn9⟩ : ∃ x, (way ++ L6).length = x := ⟨_, rfl⟩
            rw [hyn9] at ey9
            subst ey9
            have hyn9b : yn9 ≤ 99000 := by rw [← hyn9, List.length_append, HLL.out.1, hln6]; omega
            have HYE := Lib.hid hown9
            have HWE := Lib.hid (HWD.out.tkW htk9 tA2 (by decide))
            have HKE := Lib.hid (HKD.out.tkB htk9 tA2 (by decide))
            have HTE := Lib.hid (HTD.out.tk htk9 (by decide))
            have hbWE : Below w.heap.size w WE := hbWD.trans hb9
            clear hown9 htk9 hb9 HLN
            have HLL2 : Hid ((way ++ L6).length = yn9 ∧ (book ++ [b9]).length = kn9) := Lib.hid ⟨hyn9, hkn9⟩
            clear hln6 hL16 HLD HWD HYD HKD HTD hbWD
            go_wp2_with fail
            exact hQ _ _ _ _ _ _ _ _ _ _ _ _ _ _ _ _ _ _ _ _ _ _ _ _ _ _ _ _ _ _ _ _ _ _ _ _ _ _ _ _ _ _ _ _ _ _ _ _ _ _ _ _ _ _ _ _ _ _ _ _ _ _ _ _ _ _ _ _ _ _ _ _ _ _ _ _ _ _ _ _ _ _ _ _ _ _ _ _ _ _ _ _ _ _ _ _ _ _ _ _ _ _ _ _ _ _ _ _ _ _ (Ps.set k ⟨⟨oA6, on6, oc6⟩, ⟨tA6, tn6, tc6⟩, ⟨eA6, en6, ec6⟩, ⟨rA6, rn6, rc6⟩⟩) (ws.set k D6) (us ++ us6) (way ++ L6) (bs ++ [⟨bA, bn, bc⟩]) (book ++ [b9]) (yA9) (yn9) (yc9) (kA9) (kn9) (kc9) _ ⟨HWE, HYE, HKE, HI6, HLL2, HTE, by omega, by omega, hbWE⟩
          · skip
            obtain ⟨e9, he9⟩ : ∃ x, mkE Dk = x := ⟨_, rfl⟩
            have hne := mk_no HMY.out hE
            rw [he9] at hne
            have hneb : (e9 == 0) = false := by simp [hne]
            have HE9 := Lib.hid he9
            clear he9 hE hne
            obtain ⟨u1, hu1⟩ : ∃ x, (mkB Dk).au = x := ⟨_, rfl⟩
            obtain ⟨u2, hu2⟩ : ∃ x, (mkB Dk).n = x := ⟨_, rfl⟩
            have HU := Lib.hid (And.intro hu1 hu2)
            have HBL := Lib.hid (mkB_lenW Dk)
            clear hu1 hu2
            go_upto_region 16 with (first | (go_at_call 9; refine (worker_Make ⟨⟨oA, on, oc⟩, ⟨tA, tn, tc⟩, ⟨eA, en, ec⟩, ⟨rA, rn, rc⟩⟩ Dk _ HWR.out HOP8.out).mono ?_; rintro e w3 ⟨v3, he3, hov, hb3⟩; rw [HE9.out, HU.out.1, HU.out.2] at he3; obtain ⟨bA, bc, ev, -⟩ := OwnX.txs hov (by have := HBL.out; omega); obtain ⟨bn, hbn⟩ : ∃ x, (mkB Dk).tx.length = x := ⟨_, rfl⟩; rw [hbn] at ev; clear hbn; subst ev; subst he3) | (go_at_call 7; refine (law13_num _ _).mono ?_; rintro e w' ⟨rfl, rfl⟩))
            clear q0 q1 q2 q3 q4 q5 q6 q7 q8 hgW
            refine wp_world (fun WA hWA => ?_)
            have hbsA : Below WF.heap.size WF WA := by rw [hWA]; exact bel_alloc hb3
            clear hWA
            have HWA := Lib.hid (HWF.out.up hbsA)
            have HYA := Lib.hid (HYF.out.up hbsA)
            have HKA := Lib.hid (HKF.out.up hbsA)
            have HTA := Lib.hid (HTF.out.up hbsA)
            have hbWA := bel_trans hbWF hbsA
            clear hbsA hb3 hov HWF HYF HKF HTF hbWF HWR
            go_wp2_with fail
            exact hQ _ _ _ _ _ _ _ _ _ _ _ _ _ _ _ _ _ _ _ _ _ _ _ _ _ _ _ _ _ _ _ _ _ _ _ _ _ _ _ _ _ _ _ _ _ _ _ _ _ _ _ _ _ _ _ _ _ _ _ _ _ _ _ _ _ _ _ _ _ _ _ _ _ _ _ _ _ _ _ _ _ _ _ _ _ _ _ _ _ _ _ _ _ _ _ _ _ _ _ _ _ _ _ _ _ _ _ _ _ _ (Ps) (ws) (us) (way) (bs) (book) (yA) (yn) (yc) (kA) (kn) (kc) _ ⟨HWA, HYA, HKA, HI, HLL, HTA, by omega, by omega, hbWA⟩
      · skip
        go_wp2_with fail
        exact hQ _ _ _ _ _ _ _ _ _ _ _ _ _ _ _ _ _ _ _ _ _ _ _ _ _ _ _ _ _ _ _ _ _ _ _ _ _ _ _ _ _ _ _ _ _ _ _ _ _ _ _ _ _ _ _ _ _ _ _ _ _ _ _ _ _ _ _ _ _ _ _ _ _ _ _ _ _ _ _ _ _ _ _ _ _ _ _ _ _ _ _ _ _ _ _ _ _ _ _ _ _ _ _ _ _ _ _ _ _ _ (Ps) (ws) (us) (way) (bs) (book) (yA) (yn) (yc) (kA) (kn) (kc) _ ⟨HW9, HY9, HK9, HI, HLL, HT9, by omega, by omega, hbW9⟩
    · skip
      skip
      have hml := HM3.out.lt
      have HWL2 : Hid (way.length ≤ 800000000) := Lib.hid (by rw [HLL.out.1]; omega)
      have hsz3 := hbW3.size
      go_upto_region 36 with fail
      rename_i K36 hK36
      have HK36 := Lib.hid hK36
      clear hK36
      refine wp_region_list ?_
      simp only [List.append_eq, List.append, List.cons_append, List.nil_append, List.toList_toArray]
      refine wpList_plain rfl (fun K hK => ?_)
      go_simp
      refine hK _ _ ?_
      clear hK K
      (try simp only [Act.put, lzT, lzZ, lzS])
      refine wpList_load_mid rfl 54 _ rfl gM 0 (by simp [Act.eval, Act.put]) [.int .i64 Mm.ki, .int .i64 Mm.fr, .int .i64 Mm.tt, .int .i64 Mm.di, .int .i64 Mm.b.au, .int .i64 Mm.b.n, .slice mbA mbn mbc, .int .i64 Mm.h.au, .int .i64 Mm.h.ro, .slice mxA mxn mxc, .slice myA myn myc, .int .i64 Mm.c.h.au, .int .i64 Mm.c.h.ro, .slice mcA mcn mcc, .slice mdA mdn mdc, .int .i64 Mm.c.di, .slice msA msn msc, .slice mzA mzn mzc] _ HM3.out.rng Try.underlying54 (by rfl) (by kernel_rfl) ?_
      (try simp only [Act.put, lzT, lzZ, lzS, List.toList_toArray])
      refine wpList_plain rfl (fun K hK => ?_)
      go_simp
      refine hK _ _ ?_
      clear hK K
      (try simp only [Act.put, lzT, lzZ, lzS])
      (refine wpList_appM rfl (.tmp 165) (.tmp 167) rfl rfl w.heap.size (.slice (some ⟨gY, 0, none⟩) yn yc) us way rfl (HY3.out.up (bel_alloc (Below.refl _ _))) W3.heap.size Mm ⟨⟨mbA, mbn, mbc⟩, ⟨⟨mxA, mxn, mxc⟩, ⟨myA, myn, myc⟩⟩, ⟨⟨⟨mcA, mcn, mcc⟩, ⟨mdA, mdn, mdc⟩⟩, ⟨msA, msn, msc⟩⟩, ⟨mzA, mzn, mzc⟩⟩ rfl (BoxR.new W3 _ 54) (hOm3.up (bel_alloc (Below.refl _ _))) HWL2.out (by simp; omega) ?_; intro v9 W9 hown9 hg9 hb9)
      have hba : Below W3.heap.size W3 (W3.alloc (.cells #[.int .i64 Mm.ki, .int .i64 Mm.fr, .int .i64 Mm.tt, .int .i64 Mm.di, .int .i64 Mm.b.au, .int .i64 Mm.b.n, .slice mbA mbn mbc, .int .i64 Mm.h.au, .int .i64 Mm.h.ro, .slice mxA mxn mxc, .slice myA myn myc, .int .i64 Mm.c.h.au, .int .i64 Mm.c.h.ro, .slice mcA mcn mcc, .slice mdA mdn mdc, .int .i64 Mm.c.di, .slice msA msn msc, .slice mzA mzn mzc] 54)) := bel_alloc (Below.refl _ _)
      have htk9 := tk_grown (HY3.out.up hba).1 hg9
      have HW9 := Lib.hid ((HW3.out.up hba).tkW htk9 tA2 (by decide))
      have HK9 := Lib.hid ((HK3.out.up hba).tkB htk9 tA2 (by decide))
      have HT9 := Lib.hid ((HT3.out.up hba).tk htk9 (by decide))
      have hbW9 : Below w.heap.size w W9 := (bel_trans hbW3 hba).trans hb9
      obtain ⟨yA9, yc9, ey9, -⟩ := hown9.read
      obtain ⟨yn9, hyn9⟩ : ∃ x, (way ++ [Mm]).length = x := ⟨_, rfl⟩
      rw [hyn9] at ey9
      subst ey9
      have hyn9b : yn9 ≤ 99000 := by rw [← hyn9, List.length_append, HLL.out.1]; simp; omega
      have HLL9 : Hid ((way ++ [Mm]).length = yn9 ∧ book.length = kn) := Lib.hid ⟨hyn9, HLL.out.2⟩
      have HI9 := Lib.hid (HI.out.sub (way' := way ++ [Mm]) (fun m hm => by rcases List.mem_append.1 hm with h | h; (exact h); (have e : m = Mm := List.mem_singleton.1 h; rw [e, ← HMM.out]; exact getD_mem (by rw [HLL.out.1]; exact hat7))))
      have HY9 := Lib.hid hown9
      clear hown9 hg9 hb9 hba htk9
      (try simp only [Act.put, lzT, lzZ, lzS])
      refine wpList_plain rfl (fun K hK => ?_)
      go_simp
      refine hK _ _ ?_
      clear hK K
      (try simp only [Act.put, lzT, lzZ, lzS])
      refine wpList_nil ?_
      apply HK36.out
      clear HK36 K36
      go_wp2_with fail
      exact hQ _ _ _ _ _ _ _ _ _ _ _ _ _ _ _ _ _ _ _ _ _ _ _ _ _ _ _ _ _ _ _ _ _ _ _ _ _ _ _ _ _ _ _ _ _ _ _ _ _ _ _ _ _ _ _ _ _ _ _ _ _ _ _ _ _ _ _ _ _ _ _ _ _ _ _ _ _ _ _ _ _ _ _ _ _ _ _ _ _ _ _ _ _ _ _ _ _ _ _ _ _ _ _ _ _ _ _ _ _ _ (Ps) (ws) (us ++ [⟨⟨mbA, mbn, mbc⟩, ⟨⟨mxA, mxn, mxc⟩, ⟨myA, myn, myc⟩⟩, ⟨⟨⟨mcA, mcn, mcc⟩, ⟨mdA, mdn, mdc⟩⟩, ⟨msA, msn, msc⟩⟩, ⟨mzA, mzn, mzc⟩⟩]) (way ++ [Mm]) (bs) (book) (yA9) (yn9) (yc9) (kA) (kn) (kc) _ ⟨HW9, HY9, HK9, HI9, HLL9, HT9, by omega, by omega, hbW9⟩
end Go.Proofs.Ytgfakefcmbpboaa
