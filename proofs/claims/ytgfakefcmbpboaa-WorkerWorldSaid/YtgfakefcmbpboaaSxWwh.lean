/- The law WorkerWorld: the walk. -/
import Derived.Test.YtgfakefcmbpboaaSxWwg
import Derived.Test.YtgfakefcmbpboaaSxWwf
import Derived.Test.YtgfakefcmbpboaaSxWqb
import Derived.Test.YtgfakefcmbpboaaSxWh
import Derived.Deep.RegionHeld3
namespace Go.Proofs.Ytgfakefcmbpboaa
open Go.RowKit
set_option linter.unusedSimpArgs false
set_option linter.unusedVariables false

set_option maxRecDepth 100000 in
set_option maxHeartbeats 32000000 in
theorem world_end {w W : World} {n gW wc kn kc yn : Nat} {kA : Option Addr} {Ps : List WorkP} {ws : List WorkD} {way : List MsgD} {bs : List SlP} {book : List BatchD} {K80 K55 : Act → World → Prop} {u0 u1 u2 u5 u7 u8 u9 u10 u11 u12 u13 u14 u15 u16 u17 u18 u19 u20 u21 u22 u23 u24 u25 u26 u27 u28 u29 u30 u31 u32 u33 u34 u35 u36 u37 u38 u39 u40 u41 u42 u43 u44 u45 u46 u47 u48 u49 u50 u51 u52 u53 u54 u55 u56 u57 u58 u59 u60 u61 u62 u63 u64 u65 u66 u67 u68 u69 u70 u71 u72 u73 u74 u75 u76 u77 u78 u79 u80 u81 u82 u83 u84 u85 u86 u87 u88 u89 u90 u91 u92 u93 u94 u95 u96 u97 u98 u99 u100 u101 u102 u103 u104 u105 u106 u107 u108 u109 u110 u111 u112 u113 u114 u115 u116 u117 u118 u119 u120 u121 u122 u123 u124 u125 u126 u127 u128 u129 u130 u131 u132 u133 u134 u135 u136 u137 u138 u139 u140 u141 u142 u143 u144 u145 u146 u147 u148 u149 u150 u151 u152 u153 u154 u155 u156 u157 u158 u159 u160 u161 u162 u163 u164 u165 u166 u167 u168 u169 u170 u171 u172 u173 u174 u175 u176 u177 u178 u179 u180 u181 u182 u183 u184 u185 u186 u187 u188 u189 u190 u191 u192 u193 u194 u195 u196 u197 u198 u199 u200 u201 u202 u203 u204 u205 u206 u207 u208 u209 u210 u211 u212 u213 u214 u215 u216 u217 u218 u219 u220 u221 u222 u223 u224 u225 u226 u227 u228 u229 u230 u231 u232 u233 u234 u235 u236 u237 u238 u239 u240 u241 u242 u243 u244 u245 u246 u247 u248 u249 u250 u251 u252 u253 u254 u255 u256 u257 u258 u259 u260 u261 u262 u263 u264 u265 u266 u267 u268 u269 u270 u271 u272 u273 u274 u275 u276 u277 u278 u279 u280 u281 u282 u283 u284 u285 u286 u287 u288 u289 u290 u291 u292 u293 u294 u295 u296 u297 u298 u299 u300 u301 u302 u303 u304 u305 u306 u307 u308 u309 u310 u311 u312 u313 u314 u315 u316 u317 u318 u319 u320 u321 u322 u323 u324 u325 u326 u327 u328 u329 u330 u331 u332 u333 u334 u335 u336 u337 u338 u339 u340 u341 u342 : Value} (hn7 : n ≤ 7) (hn1 : 1 ≤ n) (HNS : Hid (isS ↑n = true)) (hgWB : w.heap.size ≤ gW) (HLL : Hid (way.length = yn ∧ book.length = kn)) (hkb : kn ≤ 300) (hbk3 : book.length ≤ 300) (HW : Hid (OwnT dWrk W w.heap.size (.slice (some ⟨gW, 0, none⟩) n wc) Ps ws)) (HI : Hid (WorldI n ws way book)) (HK : Hid (OwnT dBat W w.heap.size (.slice kA kn kc) bs book)) (hbW : Below w.heap.size w W)
    (hK80 : ∀ a' w', Code.wp Try.prog (cSnd worldEnd) (bodyPost Try.prog Try.f4 (fun e w' => e = .returned (.bool true) ∧ Below w.heap.size w w')) a' w' → K80 a' w')
    (hK55 : ∀ a' w', Code.wp Try.prog (cSnd (cFst worldEnd)) (Exit.then K80 (bodyPost Try.prog Try.f4 (fun e w' => e = .returned (.bool true) ∧ Below w.heap.size w w'))) a' w' → K55 a' w') :
    Code.wp Try.prog (cFst (cFst worldEnd)) (Exit.then K55 (Exit.then K80 (bodyPost Try.prog Try.f4 (fun e w' => e = .returned (.bool true) ∧ Below w.heap.size w w')))) { tmps := #[u0, u1, u2, .int .i64 n, (.slice (some ⟨gW, 0, none⟩) n wc : Value), u5, .slice kA kn kc, u7, u8, u9, u10, u11, u12, u13, u14, u15, u16, u17, u18, u19, u20, u21, u22, u23, u24, u25, u26, u27, u28, u29, u30, u31, u32, u33, u34, u35, u36, u37, u38, u39, u40, u41, u42, u43, u44, u45, u46, u47, u48, u49, u50, u51, u52, u53, u54, u55, u56, u57, u58, u59, u60, u61, u62, u63, u64, u65, u66, u67, u68, u69, u70, u71, u72, u73, u74, u75, u76, u77, u78, u79, u80, u81, u82, u83, u84, u85, u86, u87, u88, u89, u90, u91, u92, u93, u94, u95, u96, u97, u98, u99, u100, u101, u102, u103, u104, u105, u106, u107, u108, u109, u110, u111, u112, u113, u114, u115, u116, u117, u118, u119, u120, u121, u122, u123, u124, u125, u126, u127, u128, u129, u130, u131, u132, u133, u134, u135, u136, u137, u138, u139, u140, u141, u142, u143, u144, u145, u146, u147, u148, u149, u150, u151, u152, u153, u154, u155, u156, u157, u158, u159, u160, u161, u162, u163, u164, u165, u166, u167, u168, u169, u170, u171, u172, u173, u174, u175, u176, u177, u178, u179, u180, u181, u182, u183, u184, u185, u186, u187, u188, u189, u190, u191, u192, u193, u194, u195, u196, u197, u198, u199, u200, u201, u202, u203, u204, u205, u206, u207, u208, u209, u210, u211, u212, u213, u214, u215, u216, u217, u218, u219, u220, u221, u222, u223, u224, u225, u226, u227, u228, u229, u230, u231, u232, u233, u234, u235, u236, u237, u238, u239, u240, u241, u242, u243, u244, u245, u246, u247, u248, u249, u250, u251, u252, u253, u254, u255, u256, u257, u258, u259, u260, u261, u262, u263, u264, u265, u266, u267, u268, u269, u270, u271, u272, u273, u274, u275, u276, u277, u278, u279, u280, u281, u282, u283, u284, u285, u286, u287, u288, u289, u290, u291, u292, u293, u294, u295, u296, u297, u298, u299, u300, u301, u302, u303, u304, u305, u306, u307, u308, u309, u310, u311, u312, u313, u314, u315, u316, u317, u318, u319, u320, u321, u322, u323, u324, u325, u326, u327, u328, u329, u330, u331, u332, u333, u334, u335, u336, u337, u338, u339, u340, u341, u342], defers := [] } W := by
  dsimp only [worldEnd, cAfter, cSnd, cFst, Try.f4, Option.getD] at hK80 hK55 ⊢
  go_wp2_with fail
  go_loopw [29] (fun iv wr => ∃ k : Nat, k ≤ n ∧ iv = .int .i64 k ∧ Below W.heap.size W wr) (fun iv _ => n - (intOf iv).toNat)
  case atStart => exact ⟨0, Nat.zero_le _, rfl, Below.refl _ _⟩
  case round =>
    obtain ⟨k, hk, rfl, hb4⟩ := hrel
    (obtain ⟨W4, hW4⟩ : ∃ x, x = wr := ⟨_, rfl⟩); subst hW4
    by_cases hkn : k < n
    · skip
      as_aux_lemma =>
        obtain ⟨⟨⟨oA, on, oc⟩, ⟨tA, tn, tc⟩, ⟨eA, en, ec⟩, ⟨rA, rn, rc⟩⟩, -, hOk, hgW, -, -, hcl⟩ := wrk_cells HW.out HI.out.len hkn
        have hDW := HI.out.w k hkn
        obtain ⟨Dk, hDk⟩ : ∃ D, wk ws k = D := ⟨_, rfl⟩
        rw [hDk] at hOk hcl hDW
        have q0 : W.cell? ⟨gW, k * 9, none⟩ = some (.int .i64 Dk.id) := hcl 0 _ rfl
        have q1 : W.cell? ⟨gW, k * 9 + 1, none⟩ = some (.int .i64 Dk.nodes) := hcl 1 _ rfl
        have q2 : W.cell? ⟨gW, k * 9 + 2, none⟩ = some (.int .i64 Dk.next) := hcl 2 _ rfl
        have q3 : W.cell? ⟨gW, k * 9 + 3, none⟩ = some (.slice oA on oc) := hcl 3 _ rfl
        have q4 : W.cell? ⟨gW, k * 9 + 4, none⟩ = some (.int .i64 Dk.age) := hcl 4 _ rfl
        have q5 : W.cell? ⟨gW, k * 9 + 5, none⟩ = some (.int .i64 Dk.clock) := hcl 5 _ rfl
        have q6 : W.cell? ⟨gW, k * 9 + 6, none⟩ = some (.slice tA tn tc) := hcl 6 _ rfl
        have q7 : W.cell? ⟨gW, k * 9 + 7, none⟩ = some (.slice eA en ec) := hcl 7 _ rfl
        have q8 : W.cell? ⟨gW, k * 9 + 8, none⟩ = some (.slice rA rn rc) := hcl 8 _ rfl
        have HOK := Lib.hid hOk
        have HDK := Lib.hid hDk
        have HDW := Lib.hid hDW
        have HBG := Lib.hid (hDW.big hbk3)
        have HWR := Lib.hid (hOk.work (hDW.big hbk3))
        have HMY := Lib.hid (wmay_iff.2 hDW.may)
        clear hOk hDk hcl hDW
        have HKWa := HI.out.w k hkn
        rw [HDK.out] at HKWa
        have HKW := Lib.hid HKWa
        have hen : en ≤ 1024 := by have h8 := HKWa.may.hel; have h9 : Dk.he.length = en := HWR.out.he.1; omega
        have hrn : rn ≤ 300 := by have h8 := HKWa.lens.2.1; have h9 : Dk.re.length = rn := HWR.out.re.1; omega
        clear HKWa
        have x_0 := (hb4.cell (p := ⟨gW, k * 9, none⟩) hgW).trans q0
        have x_1 := (hb4.cell (p := ⟨gW, k * 9 + 1, none⟩) hgW).trans q1
        have x_2 := (hb4.cell (p := ⟨gW, k * 9 + 2, none⟩) hgW).trans q2
        have x_3 := (hb4.cell (p := ⟨gW, k * 9 + 3, none⟩) hgW).trans q3
        have x_4 := (hb4.cell (p := ⟨gW, k * 9 + 4, none⟩) hgW).trans q4
        have x_5 := (hb4.cell (p := ⟨gW, k * 9 + 5, none⟩) hgW).trans q5
        have x_6 := (hb4.cell (p := ⟨gW, k * 9 + 6, none⟩) hgW).trans q6
        have x_7 := (hb4.cell (p := ⟨gW, k * 9 + 7, none⟩) hgW).trans q7
        have x_8 := (hb4.cell (p := ⟨gW, k * 9 + 8, none⟩) hgW).trans q8
        have hgl := Nat.lt_of_lt_of_le hgW hb4.size
        have HWR4 := Lib.hid (HWR.out.up hb4)
        go_upto_region 60 with (go_at_call 18; refine (ref13_May ⟨⟨oA, on, oc⟩, ⟨tA, tn, tc⟩, ⟨eA, en, ec⟩, ⟨rA, rn, rc⟩⟩ Dk true _ HWR4.out HMY.out).mono ?_; rintro e w5 ⟨rfl, hb5⟩)
        clear x_0 x_1 x_2 x_3 x_4 x_5 x_6 x_7 x_8 hgl HWR4
        have hb45 := bel_trans hb4 hb5
        clear hb5 hb4 W4
        go_wp2_with fail
        go_loopw [30] (fun jv wr => ∃ j : Nat, j ≤ en ∧ jv = .int .i64 j ∧ Below W.heap.size W wr) (fun jv _ => en - (intOf jv).toNat)
        case atStart => exact ⟨0, Nat.zero_le _, rfl, hb45⟩
        case round =>
          clear hb45
          obtain ⟨j, hj, rfl, hb6⟩ := hrel
          (obtain ⟨W6, hW6⟩ : ∃ x, x = wr := ⟨_, rfl⟩); subst hW6
          have c7 := (hb6.cell (p := ⟨gW, k * 9 + 7, none⟩) hgW).trans q7
          have hgl := Nat.lt_of_lt_of_le hgW hb6.size
          by_cases hje : j < en
          · skip
            as_aux_lemma =>
              obtain ⟨b2, o2, eE, hb2, hcH⟩ := HWR.out.he.2.2 (by show 0 < en; omega)
              subst eE
              have hjl : j < Dk.he.length := by have h9 : Dk.he.length = en := HWR.out.he.1; omega
              obtain ⟨hA, hm, hd, ⟨g0, g1, g2, g3⟩, hTx⟩ := hcH j hje
              have hbk := HKW.out.he _ (getD_mem (l := Dk.he) hjl)
              obtain ⟨⟨di, ⟨au, bn, tx⟩⟩, hHd⟩ : ∃ H, hth Dk.he j = H := ⟨_, rfl⟩
              rw [show Dk.he.getD j default = _ from hHd] at hbk
              rw [hHd] at g0 g1 g2 hTx
              dsimp only at g0 g1 g2 g3 hTx hbk
              have h0 := (hb6.cell (p := ⟨b2, o2 + j * 4, none⟩) hb2).trans g0
              have h1 := (hb6.cell (p := ⟨b2, o2 + j * 4 + 1, none⟩) hb2).trans g1
              have h2 := (hb6.cell (p := ⟨b2, o2 + j * 4 + 2, none⟩) hb2).trans g2
              have h3 := (hb6.cell (p := ⟨b2, o2 + j * 4 + 3, none⟩) hb2).trans g3
              have hb2l := Nat.lt_of_lt_of_le hb2 hb6.size
              obtain ⟨q, hqs⟩ : ∃ q : Nat, di - 1 = (q : Int) := ⟨(di - 1).toNat, by have := hbk.1; omega⟩
              obtain ⟨hql, hqb⟩ := book_at hbk hqs
              have hqn : q < kn := by have := HLL.out.2; omega
              have hdk : di ≤ (kn : Int) := by have := hbk.2.1; have := HLL.out.2; omega
              have hbt := HI.out.book _ (getD_mem (l := book) hql)
              rw [hqb] at hbt
              have htl : tx.length ≤ 8 := (bmT_iff.1 hbt.1).2.2.2.2.2.1
              obtain ⟨gK, eK, -, -⟩ := own_nz (show World.ownsRow W w.heap.size 40 3 (.slice kA kn kc) kn (dcells dBat book bs) from by have h9 := HK.out.1; rw [HLL.out.2] at h9; exact h9) (by omega)
              subst eK
              obtain ⟨⟨pA, pn, pc⟩, -, hpo, hgK, hcb⟩ := bat_cells HK.out HLL.out.2 hqn
              rw [hqb] at hpo hcb
              obtain ⟨A9, c9, e9, hpt, -⟩ := hpo.txs (by show tx.length ≤ _; omega)
              injection e9 with e1 e2 e3
              subst e1
              subst e3
              have e2 : pn = tx.length := e2
              subst e2
              obtain ⟨pn, hpn⟩ : ∃ x, tx.length = x := ⟨_, rfl⟩
              dsimp only at hpt hcb
              rw [hpn] at hpt hcb
              have HPT := Lib.hid hpt
              have HTX0 := Lib.hid hTx
              have HCB := Lib.hid hcb
              clear g0 g1 g2 g3 hTx hcH hHd hpo hcb hpt hpn hbt htl hbk hql hqb
              go_upto_region 64 with fail
              clear h0 h1 h2 h3 hb2l c7 hgl
              refine wp_world (fun W7 hW7 => ?_)
              obtain ⟨gH, hgH⟩ : ∃ g, g = W6.heap.size := ⟨_, rfl⟩
              have HB7 : Hid (Blk W7 gH 70 [.int .i64 di, .int .i64 au, .int .i64 bn, .slice hA hm hd]) := Lib.hid (by rw [hW7, hgH]; exact Blk.new W6 70 [.int .i64 di, .int .i64 au, .int .i64 bn, .slice hA hm hd])
              have hb67 : Below W6.heap.size W6 W7 := by rw [hW7]; exact bel_alloc (Below.refl _ _)
              rw [← hgH]
              clear hW7 hgH
              have hb67 := bel_trans hb6 hb67
              have HPX : Hid (TxsR W7 pA pn tx) := Lib.hid (HPT.out.up hb67)
              have HTX : Hid (TxsR W7 hA hm tx) := Lib.hid (HTX0.out.up hb67)
              have hdg : decide (di > (kn : Int)) = false := by simp; omega
              have hq0 : (0 : Int) ≤ (q : Int) := by omega
              have hq1 : (q : Int) < (kn : Int) := by omega
              have hqk : q < kn := hqn
              have hqw : IntKind.i64.wrap (q : Int) = (q : Int) := IntWalk.i64_in _ (by omega)
              have hbw3 : q ≤ kn := by omega
              obtain ⟨S, hSd⟩ : ∃ S : World → Prop, S = fun Q => Q.cell? ⟨gH, 0, none⟩ = some (.int .i64 di) ∧ Q.rangeAt gK (q * 3) [.int .i64 au, .int .i64 bn, .slice pA pn pc] ∧ Q.rangeAt gH 1 [.int .i64 au, .int .i64 bn, .slice hA hm hd] := ⟨_, rfl⟩
              have hS1 : ∀ Q, S Q → Q.cell? ⟨gH, 0, none⟩ = some (.int .i64 di) := fun Q h => by rw [hSd] at h; exact h.1
              have hS2 : ∀ Q, S Q → Q.rangeAt gK (q * 3) [.int .i64 au, .int .i64 bn, .slice pA pn pc] := fun Q h => by rw [hSd] at h; exact h.2.1
              have hS3 : ∀ Q, S Q → Q.rangeAt gH 1 [.int .i64 au, .int .i64 bn, .slice hA hm hd] := fun Q h => by rw [hSd] at h; exact h.2.2
              have hS : ∀ Q, Below W7.heap.size W7 Q → S Q := fun Q hQ => by
                rw [hSd]
                refine ⟨(HB7.out.up hQ).box.2 0 _ rfl, fun r u hu => ?_, fun r u hu => ?_⟩
                · exact ((bel_trans hb67 hQ).cell (p := ⟨gK, q * 3 + r, none⟩) hgK).trans (HCB.out r u hu)
                · have h9 := (HB7.out.up hQ).box.2 (1 + r) u (by rw [Nat.add_comm]; exact hu)
                  exact h9
              clear hSd
              refine wp_region_held_drew (S := S) (by kernel_rfl) (hS _ (bel_drew (Below.refl _ _))) (fun hHeld => ?_)
              have hbd : Below W7.heap.size W7 W7.drew := bel_drew (Below.refl _ _)
              generalize W7.drew = Z at *
              (refine wpAnyH_tk 0 (some 276) (v := ?_) rfl rfl ?_ ?_; rotate_left; (focus (intro wq hSw; clear hSw; go_simp; all_goals (with_reducible rfl))); simp only [Act.put, lzT, lzZ, lzS])
              (refine wpAnyH_tk 1 (some 277) (v := ?_) rfl rfl ?_ ?_; rotate_left; (focus (intro wq hSw; have q1 := hS1 wq hSw; clear hSw; go_simp; all_goals (with_reducible rfl))); simp only [Act.put, lzT, lzZ, lzS])
              (refine wpAnyH_tk 2 (some 278) (v := ?_) rfl rfl ?_ ?_; rotate_left; (focus (intro wq hSw; clear hSw; go_simp; all_goals (with_reducible rfl))); simp only [Act.put, lzT, lzZ, lzS])
              (refine wpAnyH_tk 3 (some 279) (v := ?_) rfl rfl ?_ ?_; rotate_left; (focus (intro wq hSw; clear hSw; go_simp; all_goals (with_reducible rfl))); simp only [Act.put, lzT, lzZ, lzS])
              (refine wpAnyH_tk 4 (some 280) (v := ?_) rfl rfl ?_ ?_; rotate_left; (focus (intro wq hSw; clear hSw; go_simp; all_goals (with_reducible rfl))); simp only [Act.put, lzT, lzZ, lzS])
              (refine wpAnyH_tk 5 (some 281) (v := ?_) rfl rfl ?_ ?_; rotate_left; (focus (intro wq hSw; clear hSw; go_simp; all_goals (with_reducible rfl))); simp only [Act.put, lzT, lzZ, lzS])
              (refine wpAnyH_tk 6 (some 282) (v := ?_) rfl rfl ?_ ?_; rotate_left; (focus (intro wq hSw; clear hSw; go_simp; all_goals (with_reducible rfl))); simp only [Act.put, lzT, lzZ, lzS])
              (refine wpAnyH_tk 7 (some 283) (v := ?_) rfl rfl ?_ ?_; rotate_left; (focus (intro wq hSw; clear hSw; go_simp; all_goals (with_reducible rfl))); simp only [Act.put, lzT, lzZ, lzS])
              (refine wpAnyH_tk 8 (some 284) (v := ?_) rfl rfl ?_ ?_; rotate_left; (focus (intro wq hSw; have q1 := hS1 wq hSw; clear hSw; go_simp; all_goals (with_reducible rfl))); simp only [Act.put, lzT, lzZ, lzS])
              (refine wpAnyH_tk 9 (some 285) (v := ?_) rfl rfl ?_ ?_; rotate_left; (focus (intro wq hSw; clear hSw; go_simp; all_goals (with_reducible rfl))); simp only [Act.put, lzT, lzZ, lzS])
              (refine wpAnyH_tk 10 (some 286) (v := ?_) rfl rfl ?_ ?_; rotate_left; (focus (intro wq hSw; clear hSw; go_simp; all_goals (with_reducible rfl))); simp only [Act.put, lzT, lzZ, lzS])
              refine wpAnyH_takeD (i := 11) (d := (some 287)) (v := .agg ([.int .i64 au, .int .i64 bn, .slice pA pn pc]).toArray) rfl rfl (by kernel_rfl) (by kernel_rfl) (by kernel_rfl) (fun _ _ _ h => h) (yieldsIf_load_mid (by rfl) 40 _ rfl gK (q * 3) (by simp [Act.eval, Act.put]) ([.int .i64 au, .int .i64 bn, .slice pA pn pc]) _ (hS2) Try.underlying40 (by rfl) (by kernel_rfl)) (by assumption) ?_
              simp only [Act.put, lzT, lzZ, lzS]
              (refine wpAnyH_tk 12 (some 288) (v := ?_) rfl rfl ?_ ?_; rotate_left; (focus (intro wq hSw; clear hSw; go_simp; all_goals (with_reducible rfl))); simp only [Act.put, lzT, lzZ, lzS])
              refine wpAnyH_takeD (i := 13) (d := (some 289)) (v := .agg ([.int .i64 au, .int .i64 bn, .slice hA hm hd]).toArray) rfl rfl (by kernel_rfl) (by kernel_rfl) (by kernel_rfl) (fun _ _ _ h => h) (yieldsIf_load_mid (by rfl) 40 _ rfl gH 1 (by simp [Act.eval, Act.put]) ([.int .i64 au, .int .i64 bn, .slice hA hm hd]) _ (hS3) Try.underlying40 (by rfl) (by kernel_rfl)) (by assumption) ?_
              simp only [Act.put, lzT, lzZ, lzS]
              refine wpAnyH_ready (rs := [14]) (by kernel_rfl) (by simp) ?_
              refine AllReadyH.cons (o := _) rfl (fun K hK => ?_) AllReadyH.nil
              go_simp
              (go_at_call 19; refine (ref0_EqBatch (BatchD.mk au bn tx) pA pn pc hA hm hd _ (HPX.out.up hbd) (HTX.out.up hbd)).mono ?_; rintro e w8 ⟨rfl, hb8⟩)
              have hb78 := bel_trans hbd hb8
              refine hK.out _ _ (hS _ hb78) (fun hHeld => ?_)
              clear hK K
              (try simp only [Act.put, lzT, lzZ, lzS])
              (refine wpAnyH_tk 15 (some 291) (v := ?_) rfl rfl ?_ ?_; rotate_left; (focus (intro wq hSw; clear hSw; go_simp; all_goals (with_reducible rfl))); simp only [Act.put, lzT, lzZ, lzS])
              (refine wpAnyH_tk 16 (some 292) (v := ?_) rfl rfl ?_ ?_; rotate_left; (focus (intro wq hSw; clear hSw; go_simp; all_goals (with_reducible rfl))); simp only [Act.put, lzT, lzZ, lzS])
              refine wpAnyH_done (by kernel_rfl) ?_ _
              clear hS hS1 hS2 hS3 hHeld hbd hb8
              have hb68 := bel_trans hb67 hb78
              clear hb67 hb78 hdg hq0 hq1 hqk hqw hbw3
              go_wp2_with fail
              (first | (go_round; (case rel => exact ⟨j + 1, by omega, by go_num, hb68⟩); (case measure => (simp [intOf] <;> omega))) | (go_roundw; (case rel => exact ⟨j + 1, by omega, by go_num, hb68⟩); (case measure => (simp [intOf] <;> omega))) | (refine ⟨?_, by simp [intOf] <;> omega⟩; (repeat apply Exists.intro); refine ⟨?rel, ?fr⟩; (case fr => ((repeat' apply And.intro) <;> rfl)); (case rel => exact ⟨j + 1, by omega, by go_num, hb68⟩)))
          · skip
            obtain rfl : en = j := by omega
            go_wp2_with fail
            clear c7 hgl
            go_loopw [32] (fun jv wr => ∃ j : Nat, j ≤ rn ∧ jv = .int .i64 j ∧ Below W.heap.size W wr) (fun jv _ => rn - (intOf jv).toNat)
            case atStart => exact ⟨0, Nat.zero_le _, rfl, hb6⟩
            case round =>
              clear hb6 W6
              obtain ⟨j, hj, rfl, hb8⟩ := hrel
              (obtain ⟨W8, hW8⟩ : ∃ x, x = wr := ⟨_, rfl⟩); subst hW8
              have c8 := (hb8.cell (p := ⟨gW, k * 9 + 8, none⟩) hgW).trans q8
              have hgl := Nat.lt_of_lt_of_le hgW hb8.size
              by_cases hjr : j < rn
              · skip
                obtain ⟨b3, o3, eR, hb3, hcR⟩ := HWR.out.re.2.2 (by show 0 < rn; omega)
                subst eR
                have hjl : j < Dk.re.length := by have h9 : Dk.re.length = rn := HWR.out.re.1; omega
                have g0 := hcR j hjr
                have hok := HKW.out.re _ (nth_memW hjl)
                obtain ⟨d, hdd⟩ : ∃ d, nth Dk.re j = d := ⟨_, rfl⟩
                rw [hdd] at g0 hok
                have HRD := Lib.hid hok
                clear hcR hjl hok hdd
                go_wp2_with fail
                clear c8 hgl
                go_loopw [33, 34] (fun cv jv wr => ∃ (i c : Nat), i ≤ n ∧ jv = .int .i64 i ∧ cv = .int .i64 c ∧ Hid (allH ws d i = c) ∧ Below W.heap.size W wr) (fun _ jv _ => n - (intOf jv).toNat)
                case atStart => exact ⟨0, 0, Nat.zero_le _, rfl, rfl, Lib.hid rfl, hb8⟩
                case round =>
                  clear hb8 W8
                  obtain ⟨i, c, hi, rfl, rfl, HC, hb10⟩ := hrel
                  (obtain ⟨W10, hW10⟩ : ∃ x, x = wr := ⟨_, rfl⟩); subst hW10
                  have hcb : c ≤ 9000 := by have h9 := allH_le (d := d) (fun k hk => (HI.out.w k hk).may) i hi; rw [HC.out] at h9; omega
                  by_cases hin : i < n
                  · skip
                    obtain ⟨⟨⟨oA1, on1, oc1⟩, ⟨tA1, tn1, tc1⟩, ⟨eA1, en1, ec1⟩, ⟨rA1, rn1, rc1⟩⟩, -, hO1, -, -, -, hcl1⟩ := wrk_cells HW.out HI.out.len hin
                    obtain ⟨Di, hDi⟩ : ∃ D, wk ws i = D := ⟨_, rfl⟩
                    have hw1 := HI.out.w i hin
                    rw [hDi] at hO1 hcl1 hw1
                    have p7 : W.cell? ⟨gW, i * 9 + 7, none⟩ = some (.slice eA1 en1 ec1) := hcl1 7 _ rfl
                    have HHE1 := Lib.hid (hO1.work (hw1.big hbk3)).he
                    have hel1 : en1 ≤ 1024 := by have h1 := hw1.may.hel; have h2 := HHE1.out.1; have h2 : Di.he.length = en1 := h2; omega
                    have HDI := Lib.hid hDi
                    clear hO1 hcl1 hw1 hDi
                    go_wp2_with fail
                    go_loopw [33, 35] (fun cv mv wr => ∃ (m e : Nat), m ≤ en1 ∧ mv = .int .i64 m ∧ cv = .int .i64 e ∧ Hid (e = c + hitsH Di.he d m) ∧ Below W.heap.size W wr) (fun _ mv _ => en1 - (intOf mv).toNat)
                    case atStart => exact ⟨0, c, Nat.zero_le _, rfl, rfl, Lib.hid rfl, hb10⟩
                    case round =>
                      clear hb10 W10
                      obtain ⟨m, e, hm, rfl, rfl, HE, hb12⟩ := hrel
                      (obtain ⟨W12, hW12⟩ : ∃ x, x = wr := ⟨_, rfl⟩); subst hW12
                      have heb : e ≤ 12000 := by have h9 := hitsH_le Di.he d m; have h8 := HE.out; omega
                      have r7 := (hb12.cell (p := ⟨gW, i * 9 + 7, none⟩) hgW).trans p7
                      have hgl := Nat.lt_of_lt_of_le hgW hb12.size
                      by_cases hme : m < en1
                      · skip
                        as_aux_lemma =>
                          obtain ⟨b4, o4, eE, hb4, hcE⟩ := HHE1.out.2.2 (by show 0 < en1; omega)
                          subst eE
                          obtain ⟨B4, m4, d4, ⟨f0, -, -, -⟩, -⟩ := hcE m hme
                          clear hcE
                          obtain ⟨di, hdi⟩ : ∃ x, (hth Di.he m).di = x := ⟨_, rfl⟩
                          rw [hdi] at f0
                          by_cases hz : di = d
                          · skip
                            have hzd : (di == d) = true := by simp [hz]
                            have hzp : decide (di = d) = true := by simp [hz]
                            have HE2 : Hid (e + 1 = c + hitsH Di.he d (m + 1)) := Lib.hid (by rw [hitsH_yes (hdi.trans hz), HE.out]; omega)
                            clear hdi hz
                            go_upto_region 76 with fail
                            obtain ⟨S, hSd⟩ : ∃ S : World → Prop, S = fun Q => Q.cell? ⟨gW, i * 9 + 7, none⟩ = some (.slice (some ⟨b4, o4, none⟩) en1 ec1) ∧ Q.cell? ⟨b4, o4 + m * 4, none⟩ = some (.int .i64 di) ∧ Q.cell? ⟨gW, k * 9 + 8, none⟩ = some (.slice (some ⟨b3, o3, none⟩) rn rc) ∧ Q.cell? ⟨b3, o3 + j, none⟩ = some (.int .i64 d) := ⟨_, rfl⟩
                            have hS1 : ∀ Q, S Q → Q.cell? ⟨gW, i * 9 + 7, none⟩ = some (.slice (some ⟨b4, o4, none⟩) en1 ec1) := fun Q h => by rw [hSd] at h; exact h.1
                            have hS2 : ∀ Q, S Q → Q.cell? ⟨b4, o4 + m * 4, none⟩ = some (.int .i64 di) := fun Q h => by rw [hSd] at h; exact h.2.1
                            have hS3 : ∀ Q, S Q → Q.cell? ⟨gW, k * 9 + 8, none⟩ = some (.slice (some ⟨b3, o3, none⟩) rn rc) := fun Q h => by rw [hSd] at h; exact h.2.2.1
                            have hS4 : ∀ Q, S Q → Q.cell? ⟨b3, o3 + j, none⟩ = some (.int .i64 d) := fun Q h => by rw [hSd] at h; exact h.2.2.2
                            have hbd : Below W12.heap.size W12 W12.drew := bel_drew (Below.refl _ _)
                            have hbd2 := bel_trans hb12 hbd
                            have hS0 : S W12.drew := by rw [hSd]; exact ⟨(hbd2.cell (p := ⟨gW, i * 9 + 7, none⟩) hgW).trans p7, (hbd2.cell (p := ⟨b4, o4 + m * 4, none⟩) hb4).trans f0, (hbd2.cell (p := ⟨gW, k * 9 + 8, none⟩) hgW).trans q8, (hbd2.cell (p := ⟨b3, o3 + j, none⟩) hb3).trans g0⟩
                            clear hSd r7 hgl
                            refine wp_region_held_drew (S := S) (by kernel_rfl) hS0 (fun hHeld => ?_)
                            clear hS0 hbd
                            generalize W12.drew = Z at *
                            (refine wpAnyH_tk 0 (some 318) (v := ?_) rfl rfl ?_ ?_; rotate_left; (focus (intro wq hSw; clear hSw; go_simp; all_goals (with_reducible rfl))); simp only [Act.put, lzT, lzZ, lzS])
                            (refine wpAnyH_tk 1 (some 319) (v := ?_) rfl rfl ?_ ?_; rotate_left; (focus (intro wq hSw; clear hSw; go_simp; all_goals (with_reducible rfl))); simp only [Act.put, lzT, lzZ, lzS])
                            (refine wpAnyH_tk 2 (some 320) (v := ?_) rfl rfl ?_ ?_; rotate_left; (focus (intro wq hSw; clear hSw; go_simp; all_goals (with_reducible rfl))); simp only [Act.put, lzT, lzZ, lzS])
                            (refine wpAnyH_tk 3 (some 321) (v := ?_) rfl rfl ?_ ?_; rotate_left; (focus (intro wq hSw; clear hSw; go_simp; all_goals (with_reducible rfl))); simp only [Act.put, lzT, lzZ, lzS])
                            (refine wpAnyH_tk 4 (some 322) (v := ?_) rfl rfl ?_ ?_; rotate_left; (focus (intro wq hSw; have q1 := hS1 wq hSw; clear hSw; go_simp; all_goals (with_reducible rfl))); simp only [Act.put, lzT, lzZ, lzS])
                            (refine wpAnyH_tk 5 (some 323) (v := ?_) rfl rfl ?_ ?_; rotate_left; (focus (intro wq hSw; clear hSw; go_simp; all_goals (with_reducible rfl))); simp only [Act.put, lzT, lzZ, lzS])
                            (refine wpAnyH_tk 6 (some 324) (v := ?_) rfl rfl ?_ ?_; rotate_left; (focus (intro wq hSw; clear hSw; go_simp; all_goals (with_reducible rfl))); simp only [Act.put, lzT, lzZ, lzS])
                            (refine wpAnyH_tk 7 (some 325) (v := ?_) rfl rfl ?_ ?_; rotate_left; (focus (intro wq hSw; clear hSw; go_simp; all_goals (with_reducible rfl))); simp only [Act.put, lzT, lzZ, lzS])
                            (refine wpAnyH_tk 8 (some 326) (v := ?_) rfl rfl ?_ ?_; rotate_left; (focus (intro wq hSw; have q1 := hS2 wq hSw; clear hSw; go_simp; all_goals (with_reducible rfl))); simp only [Act.put, lzT, lzZ, lzS])
                            (refine wpAnyH_tk 9 (some 327) (v := ?_) rfl rfl ?_ ?_; rotate_left; (focus (intro wq hSw; clear hSw; go_simp; all_goals (with_reducible rfl))); simp only [Act.put, lzT, lzZ, lzS])
                            (refine wpAnyH_tk 10 (some 328) (v := ?_) rfl rfl ?_ ?_; rotate_left; (focus (intro wq hSw; clear hSw; go_simp; all_goals (with_reducible rfl))); simp only [Act.put, lzT, lzZ, lzS])
                            (refine wpAnyH_tk 11 (some 329) (v := ?_) rfl rfl ?_ ?_; rotate_left; (focus (intro wq hSw; clear hSw; go_simp; all_goals (with_reducible rfl))); simp only [Act.put, lzT, lzZ, lzS])
                            (refine wpAnyH_tk 12 (some 330) (v := ?_) rfl rfl ?_ ?_; rotate_left; (focus (intro wq hSw; clear hSw; go_simp; all_goals (with_reducible rfl))); simp only [Act.put, lzT, lzZ, lzS])
                            (refine wpAnyH_tk 13 (some 331) (v := ?_) rfl rfl ?_ ?_; rotate_left; (focus (intro wq hSw; have q1 := hS3 wq hSw; clear hSw; go_simp; all_goals (with_reducible rfl))); simp only [Act.put, lzT, lzZ, lzS])
                            (refine wpAnyH_tk 14 (some 332) (v := ?_) rfl rfl ?_ ?_; rotate_left; (focus (intro wq hSw; clear hSw; go_simp; all_goals (with_reducible rfl))); simp only [Act.put, lzT, lzZ, lzS])
                            (refine wpAnyH_tk 15 (some 333) (v := ?_) rfl rfl ?_ ?_; rotate_left; (focus (intro wq hSw; clear hSw; go_simp; all_goals (with_reducible rfl))); simp only [Act.put, lzT, lzZ, lzS])
                            (refine wpAnyH_tk 16 (some 334) (v := ?_) rfl rfl ?_ ?_; rotate_left; (focus (intro wq hSw; have q1 := hS4 wq hSw; clear hSw; go_simp; all_goals (with_reducible rfl))); simp only [Act.put, lzT, lzZ, lzS])
                            (refine wpAnyH_tk 17 (some 335) (v := ?_) rfl rfl ?_ ?_; rotate_left; (focus (intro wq hSw; clear hSw; go_simp; all_goals (with_reducible rfl))); simp only [Act.put, lzT, lzZ, lzS])
                            refine wpAnyH_done (by kernel_rfl) ?_ _
                            clear hS1 hS2 hS3 hS4 hHeld
                            go_wp2_with fail
                            (first | (go_round; (case rel => exact ⟨m + 1, e + 1, by omega, by go_num, by go_num, HE2, hbd2⟩); (case measure => (simp [intOf] <;> omega))) | (go_roundw; (case rel => exact ⟨m + 1, e + 1, by omega, by go_num, by go_num, HE2, hbd2⟩); (case measure => (simp [intOf] <;> omega))) | (refine ⟨?_, by simp [intOf] <;> omega⟩; (repeat apply Exists.intro); refine ⟨?rel, ?fr⟩; (case fr => ((repeat' apply And.intro) <;> rfl)); (case rel => exact ⟨m + 1, e + 1, by omega, by go_num, by go_num, HE2, hbd2⟩)))
                          · skip
                            have hzd : (di == d) = false := by simp [hz]
                            have hzp : decide (di = d) = false := by simp [hz]
                            have HE2 : Hid (e = c + hitsH Di.he d (m + 1)) := Lib.hid (by rw [hitsH_no (fun h => hz (hdi.symm.trans h))]; exact HE.out)
                            clear hdi hz
                            go_upto_region 76 with fail
                            obtain ⟨S, hSd⟩ : ∃ S : World → Prop, S = fun Q => Q.cell? ⟨gW, i * 9 + 7, none⟩ = some (.slice (some ⟨b4, o4, none⟩) en1 ec1) ∧ Q.cell? ⟨b4, o4 + m * 4, none⟩ = some (.int .i64 di) ∧ Q.cell? ⟨gW, k * 9 + 8, none⟩ = some (.slice (some ⟨b3, o3, none⟩) rn rc) ∧ Q.cell? ⟨b3, o3 + j, none⟩ = some (.int .i64 d) := ⟨_, rfl⟩
                            have hS1 : ∀ Q, S Q → Q.cell? ⟨gW, i * 9 + 7, none⟩ = some (.slice (some ⟨b4, o4, none⟩) en1 ec1) := fun Q h => by rw [hSd] at h; exact h.1
                            have hS2 : ∀ Q, S Q → Q.cell? ⟨b4, o4 + m * 4, none⟩ = some (.int .i64 di) := fun Q h => by rw [hSd] at h; exact h.2.1
                            have hS3 : ∀ Q, S Q → Q.cell? ⟨gW, k * 9 + 8, none⟩ = some (.slice (some ⟨b3, o3, none⟩) rn rc) := fun Q h => by rw [hSd] at h; exact h.2.2.1
                            have hS4 : ∀ Q, S Q → Q.cell? ⟨b3, o3 + j, none⟩ = some (.int .i64 d) := fun Q h => by rw [hSd] at h; exact h.2.2.2
                            have hbd : Below W12.heap.size W12 W12.drew := bel_drew (Below.refl _ _)
                            have hbd2 := bel_trans hb12 hbd
                            have hS0 : S W12.drew := by rw [hSd]; exact ⟨(hbd2.cell (p := ⟨gW, i * 9 + 7, none⟩) hgW).trans p7, (hbd2.cell (p := ⟨b4, o4 + m * 4, none⟩) hb4).trans f0, (hbd2.cell (p := ⟨gW, k * 9 + 8, none⟩) hgW).trans q8, (hbd2.cell (p := ⟨b3, o3 + j, none⟩) hb3).trans g0⟩
                            clear hSd r7 hgl
                            refine wp_region_held_drew (S := S) (by kernel_rfl) hS0 (fun hHeld => ?_)
                            clear hS0 hbd
                            generalize W12.drew = Z at *
                            (refine wpAnyH_tk 0 (some 318) (v := ?_) rfl rfl ?_ ?_; rotate_left; (focus (intro wq hSw; clear hSw; go_simp; all_goals (with_reducible rfl))); simp only [Act.put, lzT, lzZ, lzS])
                            (refine wpAnyH_tk 1 (some 319) (v := ?_) rfl rfl ?_ ?_; rotate_left; (focus (intro wq hSw; clear hSw; go_simp; all_goals (with_reducible rfl))); simp only [Act.put, lzT, lzZ, lzS])
                            (refine wpAnyH_tk 2 (some 320) (v := ?_) rfl rfl ?_ ?_; rotate_left; (focus (intro wq hSw; clear hSw; go_simp; all_goals (with_reducible rfl))); simp only [Act.put, lzT, lzZ, lzS])
                            (refine wpAnyH_tk 3 (some 321) (v := ?_) rfl rfl ?_ ?_; rotate_left; (focus (intro wq hSw; clear hSw; go_simp; all_goals (with_reducible rfl))); simp only [Act.put, lzT, lzZ, lzS])
                            (refine wpAnyH_tk 4 (some 322) (v := ?_) rfl rfl ?_ ?_; rotate_left; (focus (intro wq hSw; have q1 := hS1 wq hSw; clear hSw; go_simp; all_goals (with_reducible rfl))); simp only [Act.put, lzT, lzZ, lzS])
                            (refine wpAnyH_tk 5 (some 323) (v := ?_) rfl rfl ?_ ?_; rotate_left; (focus (intro wq hSw; clear hSw; go_simp; all_goals (with_reducible rfl))); simp only [Act.put, lzT, lzZ, lzS])
                            (refine wpAnyH_tk 6 (some 324) (v := ?_) rfl rfl ?_ ?_; rotate_left; (focus (intro wq hSw; clear hSw; go_simp; all_goals (with_reducible rfl))); simp only [Act.put, lzT, lzZ, lzS])
                            (refine wpAnyH_tk 7 (some 325) (v := ?_) rfl rfl ?_ ?_; rotate_left; (focus (intro wq hSw; clear hSw; go_simp; all_goals (with_reducible rfl))); simp only [Act.put, lzT, lzZ, lzS])
                            (refine wpAnyH_tk 8 (some 326) (v := ?_) rfl rfl ?_ ?_; rotate_left; (focus (intro wq hSw; have q1 := hS2 wq hSw; clear hSw; go_simp; all_goals (with_reducible rfl))); simp only [Act.put, lzT, lzZ, lzS])
                            (refine wpAnyH_tk 9 (some 327) (v := ?_) rfl rfl ?_ ?_; rotate_left; (focus (intro wq hSw; clear hSw; go_simp; all_goals (with_reducible rfl))); simp only [Act.put, lzT, lzZ, lzS])
                            (refine wpAnyH_tk 10 (some 328) (v := ?_) rfl rfl ?_ ?_; rotate_left; (focus (intro wq hSw; clear hSw; go_simp; all_goals (with_reducible rfl))); simp only [Act.put, lzT, lzZ, lzS])
                            (refine wpAnyH_tk 11 (some 329) (v := ?_) rfl rfl ?_ ?_; rotate_left; (focus (intro wq hSw; clear hSw; go_simp; all_goals (with_reducible rfl))); simp only [Act.put, lzT, lzZ, lzS])
                            (refine wpAnyH_tk 12 (some 330) (v := ?_) rfl rfl ?_ ?_; rotate_left; (focus (intro wq hSw; clear hSw; go_simp; all_goals (with_reducible rfl))); simp only [Act.put, lzT, lzZ, lzS])
                            (refine wpAnyH_tk 13 (some 331) (v := ?_) rfl rfl ?_ ?_; rotate_left; (focus (intro wq hSw; have q1 := hS3 wq hSw; clear hSw; go_simp; all_goals (with_reducible rfl))); simp only [Act.put, lzT, lzZ, lzS])
                            (refine wpAnyH_tk 14 (some 332) (v := ?_) rfl rfl ?_ ?_; rotate_left; (focus (intro wq hSw; clear hSw; go_simp; all_goals (with_reducible rfl))); simp only [Act.put, lzT, lzZ, lzS])
                            (refine wpAnyH_tk 15 (some 333) (v := ?_) rfl rfl ?_ ?_; rotate_left; (focus (intro wq hSw; clear hSw; go_simp; all_goals (with_reducible rfl))); simp only [Act.put, lzT, lzZ, lzS])
                            (refine wpAnyH_tk 16 (some 334) (v := ?_) rfl rfl ?_ ?_; rotate_left; (focus (intro wq hSw; have q1 := hS4 wq hSw; clear hSw; go_simp; all_goals (with_reducible rfl))); simp only [Act.put, lzT, lzZ, lzS])
                            (refine wpAnyH_tk 17 (some 335) (v := ?_) rfl rfl ?_ ?_; rotate_left; (focus (intro wq hSw; clear hSw; go_simp; all_goals (with_reducible rfl))); simp only [Act.put, lzT, lzZ, lzS])
                            refine wpAnyH_done (by kernel_rfl) ?_ _
                            clear hS1 hS2 hS3 hS4 hHeld
                            go_wp2_with fail
                            (first | (go_round; (case rel => exact ⟨m + 1, e, by omega, by go_num, by rfl, HE2, hbd2⟩); (case measure => (simp [intOf] <;> omega))) | (go_roundw; (case rel => exact ⟨m + 1, e, by omega, by go_num, by rfl, HE2, hbd2⟩); (case measure => (simp [intOf] <;> omega))) | (refine ⟨?_, by simp [intOf] <;> omega⟩; (repeat apply Exists.intro); refine ⟨?rel, ?fr⟩; (case fr => ((repeat' apply And.intro) <;> rfl)); (case rel => exact ⟨m + 1, e, by omega, by go_num, by rfl, HE2, hbd2⟩)))
                      · skip
                        obtain rfl : en1 = m := by omega
                        have HC2 : Hid (allH ws d (i + 1) = e) := Lib.hid (allH_succ HDI.out HC.out HHE1.out.1 HE.out)
                        go_wp2_with fail
                        (first | (go_round; (case rel => exact ⟨i + 1, e, by omega, by go_num, rfl, HC2, hb12⟩); (case measure => (simp [intOf] <;> omega))) | (go_roundw; (case rel => exact ⟨i + 1, e, by omega, by go_num, rfl, HC2, hb12⟩); (case measure => (simp [intOf] <;> omega))) | (refine ⟨?_, by simp [intOf] <;> omega⟩; (repeat apply Exists.intro); refine ⟨?rel, ?fr⟩; (case fr => ((repeat' apply And.intro) <;> rfl)); (case rel => exact ⟨i + 1, e, by omega, by go_num, rfl, HC2, hb12⟩)))
                  · skip
                    as_aux_lemma =>
                      obtain rfl : n = i := by omega
                      have hq : 2 * (((n : Int) - 1) / 3) + 1 ≤ (c : Int) := by have h1 := HRD.out.2.2; have h2 := cntH_allH (d := d) (fun k hk => (HI.out.w k hk).may) n (Nat.le_refl _); rw [HC.out] at h2; omega
                      obtain ⟨z, hz⟩ : ∃ z, 2 * (((n : Int) - 1) / 3) + 1 = z := ⟨_, rfl⟩
                      rw [hz] at hq
                      have HZ := Lib.hid hz
                      have hqd : decide ((c : Int) < z) = false := by simp; omega
                      have HNN := Lib.hid HI.out.nn
                      clear hz
                      go_wp2_with (go_at_call 11; refine (quo_w n _ HNN.out).mono ?_; rintro e w' ⟨he, rfl⟩; rw [HZ.out] at he; subst he)
                      (first | (go_round; (case rel => exact ⟨j + 1, by omega, by go_num, hb10⟩); (case measure => (simp [intOf] <;> omega))) | (go_roundw; (case rel => exact ⟨j + 1, by omega, by go_num, hb10⟩); (case measure => (simp [intOf] <;> omega))) | (refine ⟨?_, by simp [intOf] <;> omega⟩; (repeat apply Exists.intro); refine ⟨?rel, ?fr⟩; (case fr => ((repeat' apply And.intro) <;> rfl)); (case rel => exact ⟨j + 1, by omega, by go_num, hb10⟩)))
              · skip
                obtain rfl : rn = j := by omega
                go_wp2_with fail
                (first | (go_round; (case rel => exact ⟨k + 1, by omega, by go_num, hb8⟩); (case measure => (simp [intOf] <;> omega))) | (go_roundw; (case rel => exact ⟨k + 1, by omega, by go_num, hb8⟩); (case measure => (simp [intOf] <;> omega))) | (refine ⟨?_, by simp [intOf] <;> omega⟩; (repeat apply Exists.intro); refine ⟨?rel, ?fr⟩; (case fr => ((repeat' apply And.intro) <;> rfl)); (case rel => exact ⟨k + 1, by omega, by go_num, hb8⟩)))
    · skip
      obtain rfl : n = k := by omega
      go_wp2_with (go_at_call 16; refine (law13_wakes _).mono ?_; rintro e w9 ⟨rfl, hb9⟩)
      go_ret
      exact ⟨rfl, bel_trans hbW (bel_trans hb4 hb9)⟩
end Go.Proofs.Ytgfakefcmbpboaa
