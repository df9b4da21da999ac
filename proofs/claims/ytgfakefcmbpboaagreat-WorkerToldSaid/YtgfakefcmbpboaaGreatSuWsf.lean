/- A transaction more that is refused, at the program: Add. -/
import Derived.Test.YtgfakefcmbpboaaGreatSuWsc
import Derived.Test.YtgfakefcmbpboaaGreatSuWsd
import Derived.Test.YtgfakefcmbpboaaGreatSuWh
import Derived.Test.YtgfakefcmbpboaaGreatSuWx2
namespace Go.Proofs.YtgfakefcmbpboaaGreat
set_option linter.all false
set_option maxRecDepth 100000
open Go.RowKit

def zeroW : Value := .agg #[.int .i64 0, .int .i64 0, .int .i64 0, .slice none 0 0, .int .i64 0, .int .i64 0, .slice none 0 0, .slice none 0 0, .slice none 0 0]
open Go.RowKit

def J26 (MP : MsgP) (SP : SlP) (a : JobD) : Value := .agg #[.int .i64 a.doo, .int .i64 a.d, .int .i64 a.t.se, .int .i64 a.t.sq, .string a.t.k, .string a.t.v, .int .i64 a.m.ki, .int .i64 a.m.fr, .int .i64 a.m.tt, .int .i64 a.m.di, .int .i64 a.m.b.au, .int .i64 a.m.b.n, .slice MP.b.A MP.b.n MP.b.c, .int .i64 a.m.h.au, .int .i64 a.m.h.ro, .slice MP.h.b.A MP.h.b.n MP.h.b.c, .slice MP.h.p.A MP.h.p.n MP.h.p.c, .int .i64 a.m.c.h.au, .int .i64 a.m.c.h.ro, .slice MP.c.h.b.A MP.c.h.b.n MP.c.h.b.c, .slice MP.c.h.p.A MP.c.h.p.n MP.c.h.p.c, .int .i64 a.m.c.di, .slice MP.c.s.A MP.c.s.n MP.c.s.c, .slice MP.ds.A MP.ds.n MP.ds.c, .bool a.fit, .slice SP.A SP.n SP.c]
def wiI (x n : Int) : Int := x % 18446744073709551616 % n
set_option maxHeartbeats 1000000 in
theorem law0_Within (x n y : Int) (w : World) (h1 : 1 ≤ n) (h2 : n ≤ 1000) (hy : wiI x n = y) : Calls Tryz.prog 40 #[.int .i64 x, .int .i64 n] w fun e w' => e = .returned (.int .i64 y) ∧ w = w' := by
  have e1 : IntKind.u64.wrap x = x % 18446744073709551616 := by rw [IntKind.wrap_u64]
  have e2 : IntKind.u64.wrap n = n := by rw [IntKind.wrap_u64]; omega
  have e3 : ((x % 18446744073709551616).tmod n) = y := by rw [Int.tmod_eq_emod_of_nonneg (by omega)]; exact hy
  have hb : 0 ≤ y ∧ y < n := by rw [← hy]; exact ⟨Int.emod_nonneg _ (by omega), Int.emod_lt_of_pos _ (by omega)⟩
  have e4 : IntKind.i64.wrap y = y := IntWalk.i64_in _ (by omega)
  have e5 : (n == 0) = false := by simp; omega
  have e6 : ¬ n = 0 := by omega
  clear hy
  go_enter Tryz.func40, Tryz.ntmps40
  go_wp2
  go_ret
  exact ⟨by simp [*], rfl⟩
def cSnd : Code → Code
  | .seq _ c => c
  | c => c
def cFst : Code → Code
  | .seq c _ => c
  | c => c
def cAfter : Nat → Code → Code
  | 0, c => c
  | n + 1, c => cAfter n (cSnd c)
noncomputable def stepEnd : Code := cAfter 9 (Tryz.f21.body.getD .skip)
theorem box_app {w : World} {g : Nat} {l m : List Value} (h : BoxR w g (l ++ m)) {j : Nat} {u : Value} (hu : l[j]? = some u) : w.cell? ⟨g, j, none⟩ = some u := h.2 j u ((List.getElem?_append_left ((List.getElem?_eq_some_iff.1 hu).1)).trans hu)
theorem belw_sets9 {n : Nat} {w Y : World} {g : Nat} (h : Below n w Y) (hp : n ≤ g) (a0 a1 a2 a3 a4 a5 a6 a7 a8 : Value) : Below n w (((((((((Y.setCell ⟨g, 0, none⟩ a0).setCell ⟨g, 1, none⟩ a1).setCell ⟨g, 2, none⟩ a2).setCell ⟨g, 3, none⟩ a3).setCell ⟨g, 4, none⟩ a4).setCell ⟨g, 5, none⟩ a5).setCell ⟨g, 6, none⟩ a6).setCell ⟨g, 7, none⟩ a7).setCell ⟨g, 8, none⟩ a8) :=
  ((((((((h.setCell (p := ⟨g, 0, none⟩) hp a0).setCell (p := ⟨g, 1, none⟩) hp a1).setCell (p := ⟨g, 2, none⟩) hp a2).setCell (p := ⟨g, 3, none⟩) hp a3).setCell (p := ⟨g, 4, none⟩) hp a4).setCell (p := ⟨g, 5, none⟩) hp a5).setCell (p := ⟨g, 6, none⟩) hp a6).setCell (p := ⟨g, 7, none⟩) hp a7).setCell (p := ⟨g, 8, none⟩) hp a8
set_option maxHeartbeats 16000000 in
theorem step_tail {K : Act → World → Prop} (w W : World) (B gw gr gi gs gx : Nat) (Pw Pi Pq Px : WorkP) (D D' : WorkD) (bad : Int) (uA lA : Option Addr) (un uc ln lc : Nat) {u0 u1 u3 u5 u7 u13 u14 u15 u16 u17 u18 u19 u20 u21 u22 u23 u24 u25 u26 u27 u28 u29 u30 u31 u32 u33 u34 u35 u36 u37 u38 u39 u40 u41 u42 u43 u44 u45 u46 u47 u48 u49 u50 u51 u52 u53 u54 u55 u56 u57 u58 u59 u60 u61 u62 u63 u64 u65 u66 u67 u68 u69 u70 u71 u72 u73 u74 u75 u76 u77 u78 u79 u80 u81 u82 u83 u84 u85 u86 u87 u88 u89 u90 u91 u92 u93 u94 u95 u96 u97 u98 u99 u100 u101 u102 u103 u104 u105 u106 u107 u108 u109 u110 u111 u112 u113 u114 u115 u116 u117 u118 u119 u120 u121 u122 u123 u124 u125 u126 u127 u128 u129 u130 u131 u132 u133 u134 u135 u136 u137 u138 u139 u140 u141 u142 u143 u144 u145 u146 u147 u148 u149 u150 u151 u152 u153 u154 u155 u156 u157 u158 u159 u160 u161 u162 u163 u164 u165 u166 u167 u168 u169 u170 u171 u172 u173 u174 u175 u176 u177 u178 u179 u180 u181 u182 u183 u184 u185 u186 u187 u188 u189 u190 u191 u192 u193 u194 u195 u196 u197 u198 u199 u200 u201 u202 u203 u204 u205 u206 u207 u208 u209 u210 u211 u212 u213 u214 u215 u216 u217 u218 u219 u220 u221 u222 u223 u224 u225 u226 u227 u228 u229 u230 u231 u232 u233 u234 u235 u236 u237 u238 u239 u240 u241 u242 u243 u244 u245 u246 u247 u248 u249 : Value}
    (hK : ∀ a' w', Code.wp Tryz.prog (cSnd stepEnd) (bodyPost Tryz.prog Tryz.f21 (fun e w' => ∃ P' D2, e = .returned (.tuple #[P'.val D2, .bool true]) ∧ WorkR w' P' D2 ∧ Below w.heap.size w w')) a' w' → K a' w')
    (hbW : Below w.heap.size w W) (hwB : w.heap.size ≤ B) (hBW : B ≤ W.heap.size)
    (hrw : w.heap.size ≤ gr) (hrB : gr < B) (hwr : gw ≠ gr) (hir : gi ≠ gr) (hsr : gs ≠ gr)
    (hA : ∀ Y, Below B W Y → WorkR Y Pw D ∧ WorkR Y Pi D ∧ Blk Y gw 27 [.int .i64 D.id, .int .i64 D.nodes, .int .i64 D.next, .slice Pw.op.A Pw.op.n Pw.op.c, .int .i64 D.age, .int .i64 D.clock, .slice Pw.wa.A Pw.wa.n Pw.wa.c, .slice Pw.he.A Pw.he.n Pw.he.c, .slice Pw.re.A Pw.re.n Pw.re.c] ∧ Blk Y gi 27 [.int .i64 D.id, .int .i64 D.nodes, .int .i64 D.next, .slice Pi.op.A Pi.op.n Pi.op.c, .int .i64 D.age, .int .i64 D.clock, .slice Pi.wa.A Pi.wa.n Pi.wa.c, .slice Pi.he.A Pi.he.n Pi.he.c, .slice Pi.re.A Pi.re.n Pi.re.c] ∧ Blk Y gr 27 [.int .i64 0, .int .i64 0, .int .i64 0, .slice none 0 0, .int .i64 0, .int .i64 0, .slice none 0 0, .slice none 0 0, .slice none 0 0])
    (hQ1 : ∀ Y, Below W.heap.size W Y → WorkR Y Pq D' ∧ Blk Y gs 70 [.int .i64 D'.id, .int .i64 D'.nodes, .int .i64 D'.next, .slice Pq.op.A Pq.op.n Pq.op.c, .int .i64 D'.age, .int .i64 D'.clock, .slice Pq.wa.A Pq.wa.n Pq.wa.c, .slice Pq.he.A Pq.he.n Pq.he.c, .slice Pq.re.A Pq.re.n Pq.re.c, .slice uA un uc]) (hQ2 : bad = 0 → ∀ Y, Below B W Y → Blk Y gs 70 [.int .i64 D'.id, .int .i64 D'.nodes, .int .i64 D'.next, .slice Pq.op.A Pq.op.n Pq.op.c, .int .i64 D'.age, .int .i64 D'.clock, .slice Pq.wa.A Pq.wa.n Pq.wa.c, .slice Pq.he.A Pq.he.n Pq.he.c, .slice Pq.re.A Pq.re.n Pq.re.c, .slice uA un uc])
    (hRES : ∀ Y, Below B W Y → ∀ (a0 a1 a2 a3 a4 a5 a6 a7 a8 : Value), if bad = 0 then WorkR (((((((((Y.setCell ⟨gr, 0, none⟩ a0).setCell ⟨gr, 1, none⟩ a1).setCell ⟨gr, 2, none⟩ a2).setCell ⟨gr, 3, none⟩ a3).setCell ⟨gr, 4, none⟩ a4).setCell ⟨gr, 5, none⟩ a5).setCell ⟨gr, 6, none⟩ a6).setCell ⟨gr, 7, none⟩ a7).setCell ⟨gr, 8, none⟩ a8) Pq D' else WorkR (((((((((Y.setCell ⟨gr, 0, none⟩ a0).setCell ⟨gr, 1, none⟩ a1).setCell ⟨gr, 2, none⟩ a2).setCell ⟨gr, 3, none⟩ a3).setCell ⟨gr, 4, none⟩ a4).setCell ⟨gr, 5, none⟩ a5).setCell ⟨gr, 6, none⟩ a6).setCell ⟨gr, 7, none⟩ a7).setCell ⟨gr, 8, none⟩ a8) Pw D)
    (hx : Blk W gx 27 [.int .i64 D'.id, .int .i64 D'.nodes, .int .i64 D'.next, .slice Px.op.A Px.op.n Px.op.c, .int .i64 D'.age, .int .i64 D'.clock, .slice Px.wa.A Px.wa.n Px.wa.c, .slice Px.he.A Px.he.n Px.he.c, .slice Px.re.A Px.re.n Px.re.c]) (hxo : WorkO W B Px D') (hbg : BigD D')
    (h1 : Px.op.n ≤ 1000000) (h2 : Px.wa.n ≤ 1000000) (h3 : Px.he.n ≤ 1000000) (h4 : Px.re.n ≤ 1000000) (g1 : ∀ x ∈ D'.wa, x.ak.length ≤ 1000000) (g2 : ∀ x ∈ D'.he, x.b.tx.length ≤ 1000000)
    (heq : ∀ Y, Below W.heap.size W Y → Calls Tryz.prog 62 #[.slice lA ln lc, .slice uA un uc] Y fun e w' => e = .returned (.bool true) ∧ Below Y.heap.size Y w')
    (hsp : ∀ Y, Below B W Y → KeepS SWork W Y → Calls Tryz.prog 53 #[.slice lA ln lc] Y fun e w' => e = .returned (.tuple #[]) ∧ Below B Y w') :
    Code.wp Tryz.prog (cFst stepEnd) (Exit.then K (bodyPost Tryz.prog Tryz.f21 (fun e w' => ∃ P' D2, e = .returned (.tuple #[P'.val D2, .bool true]) ∧ WorkR w' P' D2 ∧ Below w.heap.size w w'))) { tmps := #[u0, u1, .pointer (some ⟨gw, 0, none⟩), u3, .pointer (some ⟨gr, 0, none⟩), u5, .pointer (some ⟨gi, 0, none⟩), u7, .pointer (some ⟨gs, 0, none⟩), .int .i64 bad, .pointer (some ⟨gx, 0, none⟩), .slice lA ln lc, .int .i64 bad, u13, u14, u15, u16, u17, u18, u19, u20, u21, u22, u23, u24, u25, u26, u27, u28, u29, u30, u31, u32, u33, u34, u35, u36, u37, u38, u39, u40, u41, u42, u43, u44, u45, u46, u47, u48, u49, u50, u51, u52, u53, u54, u55, u56, u57, u58, u59, u60, u61, u62, u63, u64, u65, u66, u67, u68, u69, u70, u71, u72, u73, u74, u75, u76, u77, u78, u79, u80, u81, u82, u83, u84, u85, u86, u87, u88, u89, u90, u91, u92, u93, u94, u95, u96, u97, u98, u99, u100, u101, u102, u103, u104, u105, u106, u107, u108, u109, u110, u111, u112, u113, u114, u115, u116, u117, u118, u119, u120, u121, u122, u123, u124, u125, u126, u127, u128, u129, u130, u131, u132, u133, u134, u135, u136, u137, u138, u139, u140, u141, u142, u143, u144, u145, u146, u147, u148, u149, u150, u151, u152, u153, u154, u155, u156, u157, u158, u159, u160, u161, u162, u163, u164, u165, u166, u167, u168, u169, u170, u171, u172, u173, u174, u175, u176, u177, u178, u179, u180, u181, u182, u183, u184, u185, u186, u187, u188, u189, u190, u191, u192, u193, u194, u195, u196, u197, u198, u199, u200, u201, u202, u203, u204, u205, u206, u207, u208, u209, u210, u211, u212, u213, u214, u215, u216, u217, u218, u219, u220, u221, u222, u223, u224, u225, u226, u227, u228, u229, u230, u231, u232, u233, u234, u235, u236, u237, u238, u239, u240, u241, u242, u243, u244, u245, u246, u247, u248, u249], defers := [] } W := by
  have HX := ħ hx
  have HXO := ħ hxo
  have HXW := ħ (hxo.work hbg)
  have HEQ := ħ heq
  have HSP := ħ hsp
  have HG1 := ħ g1
  have HG2 := ħ g2
  clear hx hxo heq hsp g1 g2
  dsimp only [stepEnd, cAfter, cSnd, cFst, Tryz.f21, Option.getD]
  obtain ⟨S, hSd⟩ : ∃ S : World → Prop, S = fun Y => (Blk Y gw 27 [.int .i64 D.id, .int .i64 D.nodes, .int .i64 D.next, .slice Pw.op.A Pw.op.n Pw.op.c, .int .i64 D.age, .int .i64 D.clock, .slice Pw.wa.A Pw.wa.n Pw.wa.c, .slice Pw.he.A Pw.he.n Pw.he.c, .slice Pw.re.A Pw.re.n Pw.re.c] ∧ Blk Y gi 27 [.int .i64 D.id, .int .i64 D.nodes, .int .i64 D.next, .slice Pi.op.A Pi.op.n Pi.op.c, .int .i64 D.age, .int .i64 D.clock, .slice Pi.wa.A Pi.wa.n Pi.wa.c, .slice Pi.he.A Pi.he.n Pi.he.c, .slice Pi.re.A Pi.re.n Pi.re.c] ∧ Blk Y gs 70 [.int .i64 D'.id, .int .i64 D'.nodes, .int .i64 D'.next, .slice Pq.op.A Pq.op.n Pq.op.c, .int .i64 D'.age, .int .i64 D'.clock, .slice Pq.wa.A Pq.wa.n Pq.wa.c, .slice Pq.he.A Pq.he.n Pq.he.c, .slice Pq.re.A Pq.re.n Pq.re.c, .slice uA un uc]) ∧ Blk Y gx 27 [.int .i64 D'.id, .int .i64 D'.nodes, .int .i64 D'.next, .slice Px.op.A Px.op.n Px.op.c, .int .i64 D'.age, .int .i64 D'.clock, .slice Px.wa.A Px.wa.n Px.wa.c, .slice Px.he.A Px.he.n Px.he.c, .slice Px.re.A Px.re.n Px.re.c] := ⟨_, rfl⟩
  have hS : ∀ Y, Below W.heap.size W Y → S Y := fun Y hY => by rw [hSd]; exact ⟨⟨(hA Y (hY.mono hBW)).2.2.1, (hA Y (hY.mono hBW)).2.2.2.1, (hQ1 Y hY).2⟩, HX.out.up hY⟩
  have hS1 : ∀ Y, S Y → Y.rangeAt gx 0 [.int .i64 D'.id, .int .i64 D'.nodes, .int .i64 D'.next, .slice Px.op.A Px.op.n Px.op.c, .int .i64 D'.age, .int .i64 D'.clock, .slice Px.wa.A Px.wa.n Px.wa.c, .slice Px.he.A Px.he.n Px.he.c, .slice Px.re.A Px.re.n Px.re.c] := fun Y h => by rw [hSd] at h; exact fun j u hu => by (rw [Nat.zero_add]); exact (h.2).box.2 j u hu
  have hS2 : ∀ Y, S Y → Y.rangeAt gs 0 [.int .i64 D'.id, .int .i64 D'.nodes, .int .i64 D'.next, .slice Pq.op.A Pq.op.n Pq.op.c, .int .i64 D'.age, .int .i64 D'.clock, .slice Pq.wa.A Pq.wa.n Pq.wa.c, .slice Pq.he.A Pq.he.n Pq.he.c, .slice Pq.re.A Pq.re.n Pq.re.c] := fun Y h => by
    rw [hSd] at h
    intro j u hu
    rw [Nat.zero_add]
    exact box_app (l := [.int .i64 D'.id, .int .i64 D'.nodes, .int .i64 D'.next, .slice Pq.op.A Pq.op.n Pq.op.c, .int .i64 D'.age, .int .i64 D'.clock, .slice Pq.wa.A Pq.wa.n Pq.wa.c, .slice Pq.he.A Pq.he.n Pq.he.c, .slice Pq.re.A Pq.re.n Pq.re.c]) (m := [.slice uA un uc]) h.1.2.2.box hu
  have hS3 : ∀ Y, S Y → Y.rangeAt gi 0 [.int .i64 D.id, .int .i64 D.nodes, .int .i64 D.next, .slice Pi.op.A Pi.op.n Pi.op.c, .int .i64 D.age, .int .i64 D.clock, .slice Pi.wa.A Pi.wa.n Pi.wa.c, .slice Pi.he.A Pi.he.n Pi.he.c, .slice Pi.re.A Pi.re.n Pi.re.c] := fun Y h => by rw [hSd] at h; exact fun j u hu => by (rw [Nat.zero_add]); exact (h.1.2.1).box.2 j u hu
  have hS4 : ∀ Y, S Y → Y.rangeAt gw 0 [.int .i64 D.id, .int .i64 D.nodes, .int .i64 D.next, .slice Pw.op.A Pw.op.n Pw.op.c, .int .i64 D.age, .int .i64 D.clock, .slice Pw.wa.A Pw.wa.n Pw.wa.c, .slice Pw.he.A Pw.he.n Pw.he.c, .slice Pw.re.A Pw.re.n Pw.re.c] := fun Y h => by rw [hSd] at h; exact fun j u hu => by (rw [Nat.zero_add]); exact (h.1.1).box.2 j u hu
  have hS5 : ∀ Y, S Y → Y.cell? ⟨gs, 9, none⟩ = some (.slice uA un uc) := fun Y h => by rw [hSd] at h; exact h.1.2.2.box.2 9 _ rfl
  clear hSd
  refine wp_region_held_drew (S := S) (by kernel_rfl) (hS _ (bel_drew (Below.refl _ _))) (fun hHeld => ?_)
  have hbd : Below W.heap.size W W.drew := bel_drew (Below.refl _ _)
  have hZ := hHeld
  generalize W.drew = Z at *
  (refine wpAnyH_tk 0 (some 202) (v := ?_) rfl rfl ?_ ?_; rotate_left; (focus (intro wq hSw; clear hSw; go_simp; all_goals (with_reducible rfl))); simp only [lz])
  (refine wpAnyH_tk 2 (some 204) (v := ?_) rfl rfl ?_ ?_; rotate_left; (focus (intro wq hSw; clear hSw; go_simp; all_goals (with_reducible rfl))); simp only [lz])
  refine rd1 1 rfl fun K hK => ?_
  go_simp
  (go_at_call 19; refine (law13_num _ _).mono ?_; rintro e w' ⟨rfl, rfl⟩)
  refine hK.out _ _ (hS _ (hbd)) (fun hHeld => ?_)
  clear hK K
  (try simp only [lz])
  (refine wpAnyH_tk 3 (some 205) (v := ?_) rfl rfl ?_ ?_; rotate_left; (focus (intro wq hSw; clear hSw; go_simp; all_goals (with_reducible rfl))); simp only [lz])
  (refine wpAnyH_tk 4 (some 206) (v := ?_) rfl rfl ?_ ?_; rotate_left; (focus (intro wq hSw; clear hSw; go_simp; all_goals (with_reducible rfl))); simp only [lz])
  refine wpAnyH_takeD (i := 5) (d := (some 207)) (v := .agg ([.int .i64 D'.id, .int .i64 D'.nodes, .int .i64 D'.next, .slice Px.op.A Px.op.n Px.op.c, .int .i64 D'.age, .int .i64 D'.clock, .slice Px.wa.A Px.wa.n Px.wa.c, .slice Px.he.A Px.he.n Px.he.c, .slice Px.re.A Px.re.n Px.re.c]).toArray) rfl rfl (by kernel_rfl) (by kernel_rfl) (by kernel_rfl) (fun _ _ _ h => h) (yieldsIf_load_mid (by rfl) 27 _ rfl gx 0 (by simp [Act.eval, Act.put]) ([.int .i64 D'.id, .int .i64 D'.nodes, .int .i64 D'.next, .slice Px.op.A Px.op.n Px.op.c, .int .i64 D'.age, .int .i64 D'.clock, .slice Px.wa.A Px.wa.n Px.wa.c, .slice Px.he.A Px.he.n Px.he.c, .slice Px.re.A Px.re.n Px.re.c]) _ (hS1) Tryz.underlying27 (by rfl) (by kernel_rfl)) (by assumption) ?_
  simp only [lz]
  (refine wpAnyH_tk 6 (some 208) (v := ?_) rfl rfl ?_ ?_; rotate_left; (focus (intro wq hSw; clear hSw; go_simp; all_goals (with_reducible rfl))); simp only [lz])
  (refine wpAnyH_tk 7 (some 209) (v := ?_) rfl rfl ?_ ?_; rotate_left; (focus (intro wq hSw; clear hSw; go_simp; all_goals (with_reducible rfl))); simp only [lz])
  (refine wpAnyH_tk 8 (some 210) (v := ?_) rfl rfl ?_ ?_; rotate_left; (focus (intro wq hSw; clear hSw; go_simp; all_goals (with_reducible rfl))); simp only [lz])
  refine wpAnyH_takeD (i := 9) (d := (some 211)) (v := .agg ([.int .i64 D'.id, .int .i64 D'.nodes, .int .i64 D'.next, .slice Pq.op.A Pq.op.n Pq.op.c, .int .i64 D'.age, .int .i64 D'.clock, .slice Pq.wa.A Pq.wa.n Pq.wa.c, .slice Pq.he.A Pq.he.n Pq.he.c, .slice Pq.re.A Pq.re.n Pq.re.c]).toArray) rfl rfl (by kernel_rfl) (by kernel_rfl) (by kernel_rfl) (fun _ _ _ h => h) (yieldsIf_load_mid (by rfl) 27 _ rfl gs 0 (by simp [Act.eval, Act.put]) ([.int .i64 D'.id, .int .i64 D'.nodes, .int .i64 D'.next, .slice Pq.op.A Pq.op.n Pq.op.c, .int .i64 D'.age, .int .i64 D'.clock, .slice Pq.wa.A Pq.wa.n Pq.wa.c, .slice Pq.he.A Pq.he.n Pq.he.c, .slice Pq.re.A Pq.re.n Pq.re.c]) _ (hS2) Tryz.underlying27 (by rfl) (by kernel_rfl)) (by assumption) ?_
  simp only [lz]
  refine rd1 10 rfl fun K hK => ?_
  go_simp
  (go_at_call 44; refine (ref0_EqWorker Px Pq D' _ ((HXW.out).up (hbd)) (hQ1 _ ((hbd))).1).mono ?_; rintro e wa ⟨rfl, hwa⟩)
  have hbwa := bel_trans (hbd) hwa
  refine hK.out _ _ (hS _ hbwa) (fun hHeld => ?_)
  clear hK K
  (try simp only [lz])
  (refine wpAnyH_tk 11 (some 213) (v := ?_) rfl rfl ?_ ?_; rotate_left; (focus (intro wq hSw; clear hSw; go_simp; all_goals (with_reducible rfl))); simp only [lz])
  (refine wpAnyH_tk 12 (some 214) (v := ?_) rfl rfl ?_ ?_; rotate_left; (focus (intro wq hSw; clear hSw; go_simp; all_goals (with_reducible rfl))); simp only [lz])
  (refine wpAnyH_tk 13 (some 215) (v := ?_) rfl rfl ?_ ?_; rotate_left; (focus (intro wq hSw; clear hSw; go_simp; all_goals (with_reducible rfl))); simp only [lz])
  (refine wpAnyH_tk 14 (some 216) (v := ?_) rfl rfl ?_ ?_; rotate_left; (focus (intro wq hSw; clear hSw; go_simp; all_goals (with_reducible rfl))); simp only [lz])
  (refine wpAnyH_tk 15 (some 217) (v := ?_) rfl rfl ?_ ?_; rotate_left; (focus (intro wq hSw; clear hSw; go_simp; all_goals (with_reducible rfl))); simp only [lz])
  (refine wpAnyH_tk 16 (some 218) (v := ?_) rfl rfl ?_ ?_; rotate_left; (focus (intro wq hSw; clear hSw; go_simp; all_goals (with_reducible rfl))); simp only [lz])
  (refine wpAnyH_tk 17 (some 219) (v := ?_) rfl rfl ?_ ?_; rotate_left; (focus (intro wq hSw; have q9 := hS5 wq hSw; clear hSw; go_simp; all_goals (with_reducible rfl))); simp only [lz])
  refine rd1 18 rfl fun K hK => ?_
  go_simp
  (go_at_call 62; refine (HEQ.out _ (hbwa)).mono ?_; rintro e wb ⟨rfl, hwb⟩)
  have hbwb := bel_trans (hbwa) hwb
  refine hK.out _ _ (hS _ hbwb) (fun hHeld => ?_)
  clear hK K
  (try simp only [lz])
  (refine wpAnyH_tk 19 (some 221) (v := ?_) rfl rfl ?_ ?_; rotate_left; (focus (intro wq hSw; clear hSw; go_simp; all_goals (with_reducible rfl))); simp only [lz])
  (refine wpAnyH_tk 20 (some 222) (v := ?_) rfl rfl ?_ ?_; rotate_left; (focus (intro wq hSw; clear hSw; go_simp; all_goals (with_reducible rfl))); simp only [lz])
  refine wpAnyH_takeD (i := 21) (d := (some 223)) (v := .agg ([.int .i64 D.id, .int .i64 D.nodes, .int .i64 D.next, .slice Pi.op.A Pi.op.n Pi.op.c, .int .i64 D.age, .int .i64 D.clock, .slice Pi.wa.A Pi.wa.n Pi.wa.c, .slice Pi.he.A Pi.he.n Pi.he.c, .slice Pi.re.A Pi.re.n Pi.re.c]).toArray) rfl rfl (by kernel_rfl) (by kernel_rfl) (by kernel_rfl) (fun _ _ _ h => h) (yieldsIf_load_mid (by rfl) 27 _ rfl gi 0 (by simp [Act.eval, Act.put]) ([.int .i64 D.id, .int .i64 D.nodes, .int .i64 D.next, .slice Pi.op.A Pi.op.n Pi.op.c, .int .i64 D.age, .int .i64 D.clock, .slice Pi.wa.A Pi.wa.n Pi.wa.c, .slice Pi.he.A Pi.he.n Pi.he.c, .slice Pi.re.A Pi.re.n Pi.re.c]) _ (hS3) Tryz.underlying27 (by rfl) (by kernel_rfl)) (by assumption) ?_
  simp only [lz]
  refine wpAnyH_takeD (i := 22) (d := (some 224)) (v := .agg ([.int .i64 D.id, .int .i64 D.nodes, .int .i64 D.next, .slice Pw.op.A Pw.op.n Pw.op.c, .int .i64 D.age, .int .i64 D.clock, .slice Pw.wa.A Pw.wa.n Pw.wa.c, .slice Pw.he.A Pw.he.n Pw.he.c, .slice Pw.re.A Pw.re.n Pw.re.c]).toArray) rfl rfl (by kernel_rfl) (by kernel_rfl) (by kernel_rfl) (fun _ _ _ h => h) (yieldsIf_load_mid (by rfl) 27 _ rfl gw 0 (by simp [Act.eval, Act.put]) ([.int .i64 D.id, .int .i64 D.nodes, .int .i64 D.next, .slice Pw.op.A Pw.op.n Pw.op.c, .int .i64 D.age, .int .i64 D.clock, .slice Pw.wa.A Pw.wa.n Pw.wa.c, .slice Pw.he.A Pw.he.n Pw.he.c, .slice Pw.re.A Pw.re.n Pw.re.c]) _ (hS4) Tryz.underlying27 (by rfl) (by kernel_rfl)) (by assumption) ?_
  simp only [lz]
  refine rd1 23 rfl fun K hK => ?_
  go_simp
  (go_at_call 44; refine (ref0_EqWorker Pi Pw D _ (hA _ (((hbwb)).mono hBW)).2.1 (hA _ (((hbwb)).mono hBW)).1).mono ?_; rintro e wc ⟨rfl, hwc⟩)
  have hbwc := bel_trans (hbwb) hwc
  refine hK.out _ _ (hS _ hbwc) (fun hHeld => ?_)
  clear hK K
  (try simp only [lz])
  (refine wpAnyH_tk 24 (some 226) (v := ?_) rfl rfl ?_ ?_; rotate_left; (focus (intro wq hSw; clear hSw; go_simp; all_goals (with_reducible rfl))); simp only [lz])
  (refine wpAnyH_tk 25 (some 19) (v := ?_) rfl rfl ?_ ?_; rotate_left; (focus (intro wq hSw; clear hSw; go_simp; all_goals (with_reducible rfl))); simp only [lz])
  refine wpAnyH_done (by kernel_rfl) ?_ _
  show K _ _
  apply hK
  dsimp only [stepEnd, cAfter, cSnd, Tryz.f21, Option.getD]
  have hXc := HX.out.up hbwc
  have lXc := hXc.lt
  have x_0 := (hXc.box).2 0 _ rfl; have x_1 := (hXc.box).2 1 _ rfl; have x_2 := (hXc.box).2 2 _ rfl; have x_3 := (hXc.box).2 3 _ rfl; have x_4 := (hXc.box).2 4 _ rfl; have x_5 := (hXc.box).2 5 _ rfl; have x_6 := (hXc.box).2 6 _ rfl; have x_7 := (hXc.box).2 7 _ rfl; have x_8 := (hXc.box).2 8 _ rfl
  clear hXc
  by_cases hbad : bad = 0
  · have hbd0 : (bad != 0) = false := by simp [hbad]
    go_wp2_with (first
      | (go_at_call 63; refine (law0_WorkerS Px D' B _ (HXO.out.up hbwc) h1 h2 h3 h4 HG1.out HG2.out (Nat.le_trans hBW hbwc.size)).mono ?_; rintro e ws ⟨rfl, hbs, hks⟩)
      | (go_at_call 53; refine (HSP.out ws ((hbwc.mono hBW).trans hbs) ((KeepS.of_below hbwc).trans hks)).mono ?_; rintro e wm ⟨rfl, hbm⟩))
    have hbM : Below B W wm := ((hbwc.mono hBW).trans hbs).trans hbm
    obtain ⟨S', hSd⟩ : ∃ S : World → Prop, S = fun Y => Blk Y gw 27 [.int .i64 D.id, .int .i64 D.nodes, .int .i64 D.next, .slice Pw.op.A Pw.op.n Pw.op.c, .int .i64 D.age, .int .i64 D.clock, .slice Pw.wa.A Pw.wa.n Pw.wa.c, .slice Pw.he.A Pw.he.n Pw.he.c, .slice Pw.re.A Pw.re.n Pw.re.c] ∧ Blk Y gi 27 [.int .i64 D.id, .int .i64 D.nodes, .int .i64 D.next, .slice Pi.op.A Pi.op.n Pi.op.c, .int .i64 D.age, .int .i64 D.clock, .slice Pi.wa.A Pi.wa.n Pi.wa.c, .slice Pi.he.A Pi.he.n Pi.he.c, .slice Pi.re.A Pi.re.n Pi.re.c] ∧ Blk Y gs 70 [.int .i64 D'.id, .int .i64 D'.nodes, .int .i64 D'.next, .slice Pq.op.A Pq.op.n Pq.op.c, .int .i64 D'.age, .int .i64 D'.clock, .slice Pq.wa.A Pq.wa.n Pq.wa.c, .slice Pq.he.A Pq.he.n Pq.he.c, .slice Pq.re.A Pq.re.n Pq.re.c, .slice uA un uc] := ⟨_, rfl⟩
    have hSb : ∀ Y, Below B W Y → S' Y := fun Y hY => by rw [hSd]; exact ⟨(hA Y hY).2.2.1, (hA Y hY).2.2.2.1, hQ2 hbad Y hY⟩
    have hSr : ∀ Y, S' Y → ∀ (a0 a1 a2 a3 a4 a5 a6 a7 a8 : Value), S' (((((((((Y.setCell ⟨gr, 0, none⟩ a0).setCell ⟨gr, 1, none⟩ a1).setCell ⟨gr, 2, none⟩ a2).setCell ⟨gr, 3, none⟩ a3).setCell ⟨gr, 4, none⟩ a4).setCell ⟨gr, 5, none⟩ a5).setCell ⟨gr, 6, none⟩ a6).setCell ⟨gr, 7, none⟩ a7).setCell ⟨gr, 8, none⟩ a8) := fun Y h a0 a1 a2 a3 a4 a5 a6 a7 a8 => by rw [hSd] at h ⊢; exact ⟨h.1.sets9 hwr a0 a1 a2 a3 a4 a5 a6 a7 a8, h.2.1.sets9 hir a0 a1 a2 a3 a4 a5 a6 a7 a8, h.2.2.sets9 hsr a0 a1 a2 a3 a4 a5 a6 a7 a8⟩
    have hS2 : ∀ Y, S' Y → Y.rangeAt gs 0 [.int .i64 D'.id, .int .i64 D'.nodes, .int .i64 D'.next, .slice Pq.op.A Pq.op.n Pq.op.c, .int .i64 D'.age, .int .i64 D'.clock, .slice Pq.wa.A Pq.wa.n Pq.wa.c, .slice Pq.he.A Pq.he.n Pq.he.c, .slice Pq.re.A Pq.re.n Pq.re.c] := fun Y h => by
      rw [hSd] at h
      intro j u hu
      rw [Nat.zero_add]
      exact box_app (l := [.int .i64 D'.id, .int .i64 D'.nodes, .int .i64 D'.next, .slice Pq.op.A Pq.op.n Pq.op.c, .int .i64 D'.age, .int .i64 D'.clock, .slice Pq.wa.A Pq.wa.n Pq.wa.c, .slice Pq.he.A Pq.he.n Pq.he.c, .slice Pq.re.A Pq.re.n Pq.re.c]) (m := [.slice uA un uc]) h.2.2.box hu
    have hS3 : ∀ Y, S' Y → Y.rangeAt gi 0 [.int .i64 D.id, .int .i64 D.nodes, .int .i64 D.next, .slice Pi.op.A Pi.op.n Pi.op.c, .int .i64 D.age, .int .i64 D.clock, .slice Pi.wa.A Pi.wa.n Pi.wa.c, .slice Pi.he.A Pi.he.n Pi.he.c, .slice Pi.re.A Pi.re.n Pi.re.c] := fun Y h => by rw [hSd] at h; exact fun j u hu => by (rw [Nat.zero_add]); exact (h.2.1).box.2 j u hu
    have hS4 : ∀ Y, S' Y → Y.rangeAt gw 0 [.int .i64 D.id, .int .i64 D.nodes, .int .i64 D.next, .slice Pw.op.A Pw.op.n Pw.op.c, .int .i64 D.age, .int .i64 D.clock, .slice Pw.wa.A Pw.wa.n Pw.wa.c, .slice Pw.he.A Pw.he.n Pw.he.c, .slice Pw.re.A Pw.re.n Pw.re.c] := fun Y h => by rw [hSd] at h; exact fun j u hu => by (rw [Nat.zero_add]); exact (h.1).box.2 j u hu
    clear hSd
    refine wp_region_held_drew (S := S') (by kernel_rfl) (hSb _ (hbM.trans ((bel_drew (Below.refl _ _)).mono (Nat.le_trans hBW hbM.size)))) (fun hHeld => ?_)
    have hbZ : Below B W wm.drew := hbM.trans ((bel_drew (Below.refl _ _)).mono (Nat.le_trans hBW hbM.size))
    have hZ := hHeld
    generalize wm.drew = Z' at *
    (refine wpAnyH_tk 0 (some 240) (v := ?_) rfl rfl ?_ ?_; rotate_left; (focus (intro wq hSw; clear hSw; go_simp; all_goals (with_reducible rfl))); simp only [lz])
    (refine wpAnyH_tk 1 (some 241) (v := ?_) rfl rfl ?_ ?_; rotate_left; (focus (intro wq hSw; clear hSw; go_simp; all_goals (with_reducible rfl))); simp only [lz])
    (refine wpAnyH_tk 2 (some 242) (v := ?_) rfl rfl ?_ ?_; rotate_left; (focus (intro wq hSw; clear hSw; go_simp; all_goals (with_reducible rfl))); simp only [lz])
    refine wpAnyH_takeD (i := 3) (d := (some 243)) (v := .agg ([.int .i64 D'.id, .int .i64 D'.nodes, .int .i64 D'.next, .slice Pq.op.A Pq.op.n Pq.op.c, .int .i64 D'.age, .int .i64 D'.clock, .slice Pq.wa.A Pq.wa.n Pq.wa.c, .slice Pq.he.A Pq.he.n Pq.he.c, .slice Pq.re.A Pq.re.n Pq.re.c]).toArray) rfl rfl (by kernel_rfl) (by kernel_rfl) (by kernel_rfl) (fun _ _ _ h => h) (yieldsIf_load_mid (by rfl) 27 _ rfl gs 0 (by simp [Act.eval, Act.put]) ([.int .i64 D'.id, .int .i64 D'.nodes, .int .i64 D'.next, .slice Pq.op.A Pq.op.n Pq.op.c, .int .i64 D'.age, .int .i64 D'.clock, .slice Pq.wa.A Pq.wa.n Pq.wa.c, .slice Pq.he.A Pq.he.n Pq.he.c, .slice Pq.re.A Pq.re.n Pq.re.c]) _ (hS2) Tryz.underlying27 (by rfl) (by kernel_rfl)) (by assumption) ?_
    simp only [lz]
    (refine wpAnyH_tk 4 (some 244) (v := ?_) rfl rfl ?_ ?_; rotate_left; (focus (intro wq hSw; clear hSw; go_simp; all_goals (with_reducible rfl))); simp only [lz])
    (refine wpAnyH_tk 5 (some 245) (v := ?_) rfl rfl ?_ ?_; rotate_left; (focus (intro wq hSw; clear hSw; go_simp; all_goals (with_reducible rfl))); simp only [lz])
    refine wpAnyH_takeD (i := 6) (d := (some 246)) (v := .agg ([.int .i64 D.id, .int .i64 D.nodes, .int .i64 D.next, .slice Pi.op.A Pi.op.n Pi.op.c, .int .i64 D.age, .int .i64 D.clock, .slice Pi.wa.A Pi.wa.n Pi.wa.c, .slice Pi.he.A Pi.he.n Pi.he.c, .slice Pi.re.A Pi.re.n Pi.re.c]).toArray) rfl rfl (by kernel_rfl) (by kernel_rfl) (by kernel_rfl) (fun _ _ _ h => h) (yieldsIf_load_mid (by rfl) 27 _ rfl gi 0 (by simp [Act.eval, Act.put]) ([.int .i64 D.id, .int .i64 D.nodes, .int .i64 D.next, .slice Pi.op.A Pi.op.n Pi.op.c, .int .i64 D.age, .int .i64 D.clock, .slice Pi.wa.A Pi.wa.n Pi.wa.c, .slice Pi.he.A Pi.he.n Pi.he.c, .slice Pi.re.A Pi.re.n Pi.re.c]) _ (hS3) Tryz.underlying27 (by rfl) (by kernel_rfl)) (by assumption) ?_
    simp only [lz]
    refine wpAnyH_takeD (i := 7) (d := (some 247)) (v := .agg ([.int .i64 D.id, .int .i64 D.nodes, .int .i64 D.next, .slice Pw.op.A Pw.op.n Pw.op.c, .int .i64 D.age, .int .i64 D.clock, .slice Pw.wa.A Pw.wa.n Pw.wa.c, .slice Pw.he.A Pw.he.n Pw.he.c, .slice Pw.re.A Pw.re.n Pw.re.c]).toArray) rfl rfl (by kernel_rfl) (by kernel_rfl) (by kernel_rfl) (fun _ _ _ h => h) (yieldsIf_load_mid (by rfl) 27 _ rfl gw 0 (by simp [Act.eval, Act.put]) ([.int .i64 D.id, .int .i64 D.nodes, .int .i64 D.next, .slice Pw.op.A Pw.op.n Pw.op.c, .int .i64 D.age, .int .i64 D.clock, .slice Pw.wa.A Pw.wa.n Pw.wa.c, .slice Pw.he.A Pw.he.n Pw.he.c, .slice Pw.re.A Pw.re.n Pw.re.c]) _ (hS4) Tryz.underlying27 (by rfl) (by kernel_rfl)) (by assumption) ?_
    simp only [lz]
    refine rd1 8 rfl fun K hK => ?_
    go_simp
    (go_at_call 44; refine (ref0_EqWorker Pi Pw D _ (hA _ hbZ).2.1 (hA _ hbZ).1).mono ?_; rintro e we ⟨rfl, hwe⟩)
    have hbe : Below B W we := hbZ.trans (hwe.mono (Nat.le_trans hBW hbZ.size))
    refine hK.out _ _ (hSb _ hbe) (fun hHeld => ?_)
    clear hK K
    (try simp only [lz])
    (refine wpAnyH_tk 9 (some 249) (v := ?_) rfl rfl ?_ ?_; rotate_left; (focus (intro wq hSw; clear hSw; go_simp; all_goals (with_reducible rfl))); simp only [lz])
    refine rd1 10 rfl fun K hK => ?_
    have hR := (hA _ hbe).2.2.2.2
    have qf := hR.frozen
    have ql := hR.lt
    have h9 := hR.box
    have q0 := h9.2 0 _ rfl
    have q1 := h9.2 1 _ rfl
    have q2 := h9.2 2 _ rfl
    have q3 := h9.2 3 _ rfl
    have q4 := h9.2 4 _ rfl
    have q5 := h9.2 5 _ rfl
    have q6 := h9.2 6 _ rfl
    have q7 := h9.2 7 _ rfl
    have q8 := h9.2 8 _ rfl
    clear h9
    go_simp
    clear qf ql q0 q1 q2 q3 q4 q5 q6 q7 q8
    have hR9 := set9 hR rfl (.int .i64 D'.id) (.int .i64 D'.nodes) (.int .i64 D'.next) (.slice Pq.op.A Pq.op.n Pq.op.c) (.int .i64 D'.age) (.int .i64 D'.clock) (.slice Pq.wa.A Pq.wa.n Pq.wa.c) (.slice Pq.he.A Pq.he.n Pq.he.c) (.slice Pq.re.A Pq.re.n Pq.re.c)
    have hse := hSb _ hbe
    refine hK.out _ _ (hSr _ hse (.int .i64 D'.id) (.int .i64 D'.nodes) (.int .i64 D'.next) (.slice Pq.op.A Pq.op.n Pq.op.c) (.int .i64 D'.age) (.int .i64 D'.clock) (.slice Pq.wa.A Pq.wa.n Pq.wa.c) (.slice Pq.he.A Pq.he.n Pq.he.c) (.slice Pq.re.A Pq.re.n Pq.re.c)) (fun hHeld => ?_)
    clear hK K
    (try simp only [lz])
    (refine wpAnyH_tk 11 (some 5) (v := ?_) rfl rfl ?_ ?_; rotate_left; (focus (intro wq hSw; clear hSw; go_simp; all_goals (with_reducible rfl))); simp only [lz])
    refine wpAnyH_done (by kernel_rfl) ?_ _
    have r_0 := (hR9.box).2 0 _ rfl; have r_1 := (hR9.box).2 1 _ rfl; have r_2 := (hR9.box).2 2 _ rfl; have r_3 := (hR9.box).2 3 _ rfl; have r_4 := (hR9.box).2 4 _ rfl; have r_5 := (hR9.box).2 5 _ rfl; have r_6 := (hR9.box).2 6 _ rfl; have r_7 := (hR9.box).2 7 _ rfl; have r_8 := (hR9.box).2 8 _ rfl
    have hwr := hRES _ hbe (.int .i64 D'.id) (.int .i64 D'.nodes) (.int .i64 D'.next) (.slice Pq.op.A Pq.op.n Pq.op.c) (.int .i64 D'.age) (.int .i64 D'.clock) (.slice Pq.wa.A Pq.wa.n Pq.wa.c) (.slice Pq.he.A Pq.he.n Pq.he.c) (.slice Pq.re.A Pq.re.n Pq.re.c)
    rw [if_pos hbad] at hwr
    have HWR := ħ hwr
    have hbw := belw_sets9 (hbW.trans (hbe.mono hwB)) hrw (.int .i64 D'.id) (.int .i64 D'.nodes) (.int .i64 D'.next) (.slice Pq.op.A Pq.op.n Pq.op.c) (.int .i64 D'.age) (.int .i64 D'.clock) (.slice Pq.wa.A Pq.wa.n Pq.wa.c) (.slice Pq.he.A Pq.he.n Pq.he.c) (.slice Pq.re.A Pq.re.n Pq.re.c)
    have HBW := ħ hbw
    clear hwr hbw hR9
    go_wp2_with fail
    exact bodyPost_ret (v := .tuple #[.agg #[.int .i64 D'.id, .int .i64 D'.nodes, .int .i64 D'.next, .slice Pq.op.A Pq.op.n Pq.op.c, .int .i64 D'.age, .int .i64 D'.clock, .slice Pq.wa.A Pq.wa.n Pq.wa.c, .slice Pq.he.A Pq.he.n Pq.he.c, .slice Pq.re.A Pq.re.n Pq.re.c], .bool true]) (by simp [results, Tryz.results21, go_sem, r_0, r_1, r_2, r_3, r_4, r_5, r_6, r_7, r_8]) rfl ⟨Pq, D', rfl, HWR.out, HBW.out⟩
  · have hbd0 : (bad != 0) = true := by simp [hbad]
    go_wp2_with (first
      | (go_at_call 63; refine (law0_WorkerS Px D' B _ (HXO.out.up hbwc) h1 h2 h3 h4 HG1.out HG2.out (Nat.le_trans hBW hbwc.size)).mono ?_; rintro e ws ⟨rfl, hbs, hks⟩)
      | (go_at_call 53; refine (HSP.out ws ((hbwc.mono hBW).trans hbs) ((KeepS.of_below hbwc).trans hks)).mono ?_; rintro e wm ⟨rfl, hbm⟩))
    have hbM : Below B W wm := ((hbwc.mono hBW).trans hbs).trans hbm
    obtain ⟨S', hSd⟩ : ∃ S : World → Prop, S = fun Y => Blk Y gw 27 [.int .i64 D.id, .int .i64 D.nodes, .int .i64 D.next, .slice Pw.op.A Pw.op.n Pw.op.c, .int .i64 D.age, .int .i64 D.clock, .slice Pw.wa.A Pw.wa.n Pw.wa.c, .slice Pw.he.A Pw.he.n Pw.he.c, .slice Pw.re.A Pw.re.n Pw.re.c] ∧ Blk Y gi 27 [.int .i64 D.id, .int .i64 D.nodes, .int .i64 D.next, .slice Pi.op.A Pi.op.n Pi.op.c, .int .i64 D.age, .int .i64 D.clock, .slice Pi.wa.A Pi.wa.n Pi.wa.c, .slice Pi.he.A Pi.he.n Pi.he.c, .slice Pi.re.A Pi.re.n Pi.re.c] := ⟨_, rfl⟩
    have hSb : ∀ Y, Below B W Y → S' Y := fun Y hY => by rw [hSd]; exact ⟨(hA Y hY).2.2.1, (hA Y hY).2.2.2.1⟩
    have hSr : ∀ Y, S' Y → ∀ (a0 a1 a2 a3 a4 a5 a6 a7 a8 : Value), S' (((((((((Y.setCell ⟨gr, 0, none⟩ a0).setCell ⟨gr, 1, none⟩ a1).setCell ⟨gr, 2, none⟩ a2).setCell ⟨gr, 3, none⟩ a3).setCell ⟨gr, 4, none⟩ a4).setCell ⟨gr, 5, none⟩ a5).setCell ⟨gr, 6, none⟩ a6).setCell ⟨gr, 7, none⟩ a7).setCell ⟨gr, 8, none⟩ a8) := fun Y h a0 a1 a2 a3 a4 a5 a6 a7 a8 => by rw [hSd] at h ⊢; exact ⟨h.1.sets9 hwr a0 a1 a2 a3 a4 a5 a6 a7 a8, h.2.sets9 hir a0 a1 a2 a3 a4 a5 a6 a7 a8⟩
    have hS3 : ∀ Y, S' Y → Y.rangeAt gi 0 [.int .i64 D.id, .int .i64 D.nodes, .int .i64 D.next, .slice Pi.op.A Pi.op.n Pi.op.c, .int .i64 D.age, .int .i64 D.clock, .slice Pi.wa.A Pi.wa.n Pi.wa.c, .slice Pi.he.A Pi.he.n Pi.he.c, .slice Pi.re.A Pi.re.n Pi.re.c] := fun Y h => by rw [hSd] at h; exact fun j u hu => by (rw [Nat.zero_add]); exact (h.2).box.2 j u hu
    have hS4 : ∀ Y, S' Y → Y.rangeAt gw 0 [.int .i64 D.id, .int .i64 D.nodes, .int .i64 D.next, .slice Pw.op.A Pw.op.n Pw.op.c, .int .i64 D.age, .int .i64 D.clock, .slice Pw.wa.A Pw.wa.n Pw.wa.c, .slice Pw.he.A Pw.he.n Pw.he.c, .slice Pw.re.A Pw.re.n Pw.re.c] := fun Y h => by rw [hSd] at h; exact fun j u hu => by (rw [Nat.zero_add]); exact (h.1).box.2 j u hu
    clear hSd
    refine wp_region_held_drew (S := S') (by kernel_rfl) (hSb _ (hbM.trans ((bel_drew (Below.refl _ _)).mono (Nat.le_trans hBW hbM.size)))) (fun hHeld => ?_)
    have hbZ : Below B W wm.drew := hbM.trans ((bel_drew (Below.refl _ _)).mono (Nat.le_trans hBW hbM.size))
    have hZ := hHeld
    generalize wm.drew = Z' at *
    refine wpAnyH_takeD (i := 0) (d := (some 233)) (v := .agg ([.int .i64 D.id, .int .i64 D.nodes, .int .i64 D.next, .slice Pw.op.A Pw.op.n Pw.op.c, .int .i64 D.age, .int .i64 D.clock, .slice Pw.wa.A Pw.wa.n Pw.wa.c, .slice Pw.he.A Pw.he.n Pw.he.c, .slice Pw.re.A Pw.re.n Pw.re.c]).toArray) rfl rfl (by kernel_rfl) (by kernel_rfl) (by kernel_rfl) (fun _ _ _ h => h) (yieldsIf_load_mid (by rfl) 27 _ rfl gw 0 (by simp [Act.eval, Act.put]) ([.int .i64 D.id, .int .i64 D.nodes, .int .i64 D.next, .slice Pw.op.A Pw.op.n Pw.op.c, .int .i64 D.age, .int .i64 D.clock, .slice Pw.wa.A Pw.wa.n Pw.wa.c, .slice Pw.he.A Pw.he.n Pw.he.c, .slice Pw.re.A Pw.re.n Pw.re.c]) _ (hS4) Tryz.underlying27 (by rfl) (by kernel_rfl)) (by assumption) ?_
    simp only [lz]
    (refine wpAnyH_tk 1 (some 234) (v := ?_) rfl rfl ?_ ?_; rotate_left; (focus (intro wq hSw; clear hSw; go_simp; all_goals (with_reducible rfl))); simp only [lz])
    (refine wpAnyH_tk 2 (some 235) (v := ?_) rfl rfl ?_ ?_; rotate_left; (focus (intro wq hSw; clear hSw; go_simp; all_goals (with_reducible rfl))); simp only [lz])
    refine wpAnyH_takeD (i := 3) (d := (some 236)) (v := .agg ([.int .i64 D.id, .int .i64 D.nodes, .int .i64 D.next, .slice Pi.op.A Pi.op.n Pi.op.c, .int .i64 D.age, .int .i64 D.clock, .slice Pi.wa.A Pi.wa.n Pi.wa.c, .slice Pi.he.A Pi.he.n Pi.he.c, .slice Pi.re.A Pi.re.n Pi.re.c]).toArray) rfl rfl (by kernel_rfl) (by kernel_rfl) (by kernel_rfl) (fun _ _ _ h => h) (yieldsIf_load_mid (by rfl) 27 _ rfl gi 0 (by simp [Act.eval, Act.put]) ([.int .i64 D.id, .int .i64 D.nodes, .int .i64 D.next, .slice Pi.op.A Pi.op.n Pi.op.c, .int .i64 D.age, .int .i64 D.clock, .slice Pi.wa.A Pi.wa.n Pi.wa.c, .slice Pi.he.A Pi.he.n Pi.he.c, .slice Pi.re.A Pi.re.n Pi.re.c]) _ (hS3) Tryz.underlying27 (by rfl) (by kernel_rfl)) (by assumption) ?_
    simp only [lz]
    refine wpAnyH_takeD (i := 4) (d := (some 237)) (v := .agg ([.int .i64 D.id, .int .i64 D.nodes, .int .i64 D.next, .slice Pw.op.A Pw.op.n Pw.op.c, .int .i64 D.age, .int .i64 D.clock, .slice Pw.wa.A Pw.wa.n Pw.wa.c, .slice Pw.he.A Pw.he.n Pw.he.c, .slice Pw.re.A Pw.re.n Pw.re.c]).toArray) rfl rfl (by kernel_rfl) (by kernel_rfl) (by kernel_rfl) (fun _ _ _ h => h) (yieldsIf_load_mid (by rfl) 27 _ rfl gw 0 (by simp [Act.eval, Act.put]) ([.int .i64 D.id, .int .i64 D.nodes, .int .i64 D.next, .slice Pw.op.A Pw.op.n Pw.op.c, .int .i64 D.age, .int .i64 D.clock, .slice Pw.wa.A Pw.wa.n Pw.wa.c, .slice Pw.he.A Pw.he.n Pw.he.c, .slice Pw.re.A Pw.re.n Pw.re.c]) _ (hS4) Tryz.underlying27 (by rfl) (by kernel_rfl)) (by assumption) ?_
    simp only [lz]
    refine rd1 5 rfl fun K hK => ?_
    go_simp
    (go_at_call 44; refine (ref0_EqWorker Pi Pw D _ (hA _ hbZ).2.1 (hA _ hbZ).1).mono ?_; rintro e we ⟨rfl, hwe⟩)
    have hbe : Below B W we := hbZ.trans (hwe.mono (Nat.le_trans hBW hbZ.size))
    refine hK.out _ _ (hSb _ hbe) (fun hHeld => ?_)
    clear hK K
    (try simp only [lz])
    (refine wpAnyH_tk 6 (some 239) (v := ?_) rfl rfl ?_ ?_; rotate_left; (focus (intro wq hSw; clear hSw; go_simp; all_goals (with_reducible rfl))); simp only [lz])
    refine rd1 7 rfl fun K hK => ?_
    have hR := (hA _ hbe).2.2.2.2
    have qf := hR.frozen
    have ql := hR.lt
    have h9 := hR.box
    have q0 := h9.2 0 _ rfl
    have q1 := h9.2 1 _ rfl
    have q2 := h9.2 2 _ rfl
    have q3 := h9.2 3 _ rfl
    have q4 := h9.2 4 _ rfl
    have q5 := h9.2 5 _ rfl
    have q6 := h9.2 6 _ rfl
    have q7 := h9.2 7 _ rfl
    have q8 := h9.2 8 _ rfl
    clear h9
    go_simp
    clear qf ql q0 q1 q2 q3 q4 q5 q6 q7 q8
    have hR9 := set9 hR rfl (.int .i64 D.id) (.int .i64 D.nodes) (.int .i64 D.next) (.slice Pw.op.A Pw.op.n Pw.op.c) (.int .i64 D.age) (.int .i64 D.clock) (.slice Pw.wa.A Pw.wa.n Pw.wa.c) (.slice Pw.he.A Pw.he.n Pw.he.c) (.slice Pw.re.A Pw.re.n Pw.re.c)
    have hse := hSb _ hbe
    refine hK.out _ _ (hSr _ hse (.int .i64 D.id) (.int .i64 D.nodes) (.int .i64 D.next) (.slice Pw.op.A Pw.op.n Pw.op.c) (.int .i64 D.age) (.int .i64 D.clock) (.slice Pw.wa.A Pw.wa.n Pw.wa.c) (.slice Pw.he.A Pw.he.n Pw.he.c) (.slice Pw.re.A Pw.re.n Pw.re.c)) (fun hHeld => ?_)
    clear hK K
    (try simp only [lz])
    (refine wpAnyH_tk 8 (some 5) (v := ?_) rfl rfl ?_ ?_; rotate_left; (focus (intro wq hSw; clear hSw; go_simp; all_goals (with_reducible rfl))); simp only [lz])
    refine wpAnyH_done (by kernel_rfl) ?_ _
    have r_0 := (hR9.box).2 0 _ rfl; have r_1 := (hR9.box).2 1 _ rfl; have r_2 := (hR9.box).2 2 _ rfl; have r_3 := (hR9.box).2 3 _ rfl; have r_4 := (hR9.box).2 4 _ rfl; have r_5 := (hR9.box).2 5 _ rfl; have r_6 := (hR9.box).2 6 _ rfl; have r_7 := (hR9.box).2 7 _ rfl; have r_8 := (hR9.box).2 8 _ rfl
    have hwr := hRES _ hbe (.int .i64 D.id) (.int .i64 D.nodes) (.int .i64 D.next) (.slice Pw.op.A Pw.op.n Pw.op.c) (.int .i64 D.age) (.int .i64 D.clock) (.slice Pw.wa.A Pw.wa.n Pw.wa.c) (.slice Pw.he.A Pw.he.n Pw.he.c) (.slice Pw.re.A Pw.re.n Pw.re.c)
    rw [if_neg hbad] at hwr
    have HWR := ħ hwr
    have hbw := belw_sets9 (hbW.trans (hbe.mono hwB)) hrw (.int .i64 D.id) (.int .i64 D.nodes) (.int .i64 D.next) (.slice Pw.op.A Pw.op.n Pw.op.c) (.int .i64 D.age) (.int .i64 D.clock) (.slice Pw.wa.A Pw.wa.n Pw.wa.c) (.slice Pw.he.A Pw.he.n Pw.he.c) (.slice Pw.re.A Pw.re.n Pw.re.c)
    have HBW := ħ hbw
    clear hwr hbw hR9
    go_wp2_with fail
    exact bodyPost_ret (v := .tuple #[.agg #[.int .i64 D.id, .int .i64 D.nodes, .int .i64 D.next, .slice Pw.op.A Pw.op.n Pw.op.c, .int .i64 D.age, .int .i64 D.clock, .slice Pw.wa.A Pw.wa.n Pw.wa.c, .slice Pw.he.A Pw.he.n Pw.he.c, .slice Pw.re.A Pw.re.n Pw.re.c], .bool true]) (by simp [results, Tryz.results21, go_sem, r_0, r_1, r_2, r_3, r_4, r_5, r_6, r_7, r_8]) rfl ⟨Pw, D, rfl, HWR.out, HBW.out⟩
end Go.Proofs.YtgfakefcmbpboaaGreat
